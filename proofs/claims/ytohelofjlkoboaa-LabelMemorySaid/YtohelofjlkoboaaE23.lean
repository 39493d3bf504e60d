/- The law LabelMemory. -/
import Derived.Test.YtohelofjlkoboaaT
import Derived.Test.YtohelofjlkoboaaA10
import Derived.Test.YtohelofjlkoboaaB4
import Derived.Test.YtohelofjlkoboaaE22
namespace Go.Proofs.Ytohelofjlkoboaa
open Go.RowKit Go.Proofs
set_option linter.unusedSimpArgs false
set_option linter.unusedVariables false
set_option maxRecDepth 100000
set_option maxHeartbeats 4000000

theorem arr4 {n : Nat} {x : AV} (h : OfE Try.prog (OfT Try.prog n) 22 x) : ∃ a b c d : Int, x = .agg [num a, num b, num c, num d] ∧ I64 a ∧ I64 b ∧ I64 c ∧ I64 d := by
  obtain ⟨k, ys, rfl, q⟩ := OfE_array (m := 4) (e := 3) Try.underlying22 h
  have ha : isAgg Try.prog 3 = false := by kernel_rfl
  have q : OfR (OfT Try.prog k) [3, 3, 3, 3] ys := q
  obtain ⟨y0, z0, rfl, g0, q0⟩ := OfR_one ha q
  obtain ⟨y1, z1, rfl, g1, q1⟩ := OfR_one ha q0
  obtain ⟨y2, z2, rfl, g2, q2⟩ := OfR_one ha q1
  obtain ⟨y3, z3, rfl, g3, q3⟩ := OfR_one ha q2
  obtain ⟨a, rfl, k0⟩ := OfE_i64 Try.underlying3 g0
  obtain ⟨b, rfl, k1⟩ := OfE_i64 Try.underlying3 g1
  obtain ⟨c, rfl, k2⟩ := OfE_i64 Try.underlying3 g2
  obtain ⟨d, rfl, k3⟩ := OfE_i64 Try.underlying3 g3
  have hz3 : z3 = [] := by cases q3; rfl
  subst hz3
  exact ⟨a, b, c, d, rfl, k0, k1, k2, k3⟩
def jl (l : List Int) (i : Nat) : List Int := List.replicate i 99 ++ l.drop i
theorem jl_len {l : List Int} {i : Nat} (h : i ≤ l.length) : (jl l i).length = l.length := by simp [jl]; omega
theorem jl_at {l : List Int} {i : Nat} (h : i < l.length) : ∃ x : Int, (nums (jl l i)).getD i .any = .raw (.int .i64 x) := by
  have hl := jl_len (l := l) (i := i) (by omega)
  refine ⟨(jl l i)[i]'(by omega), ?_⟩
  simp [nums, num, List.getD_eq_getElem?_getD, hl, h]
theorem jl_set {l : List Int} {i : Nat} (h : i < l.length) : (nums (jl l i)).set i (.raw (.int .i64 99)) = nums (jl l (i + 1)) := by
  have e : AV.raw (.int .i64 99) = num 99 := rfl
  rw [e, nums, ← List.map_set]
  unfold nums
  congr 1
  unfold jl
  rw [List.set_append_right _ _ (by simp), List.length_replicate, Nat.sub_self, List.drop_eq_getElem_cons h, List.set_cons_zero, List.replicate_succ', List.append_assoc]
  rfl
theorem cwpX_wkset {P : Program} {T : Tab} (A : Ann) (hT : TabOk P T) (hm : P.follows .mixedOrders = true) {c : Code} {d : CC} (s : Nat) (y : AV) {σ : List AV} {Q : Exit → List AV → Prop} (hd : comp A c = some d) (hk : cok A c = true) (hw : Wk σ (σ.set s y)) (h : cwp P T d Q (σ.set s y)) : cwpX P T (.ext c) Q σ := by
  intro dfs w0 S0 c0 a w hst
  exact cwp_sound hT hm c d hd hk Q _ a w (hw.stt hst) h
theorem lawA12 (xs : List AV) (h : OfA Try.prog [22, 22] xs) : ACalls Try.prog 12 xs (fun r => r = tru true) := by
  obtain ⟨_, y0, _, rfl, h0, g0⟩ := OfA_cons h
  obtain ⟨_, y1, _, rfl, h1, g1⟩ := OfA_cons g0
  obtain rfl := OfA_nil g1
  obtain ⟨x0_0, x0_1, x0_2, x0_3, rfl, h0_0, h0_1, h0_2, h0_3⟩ := arr4 h0
  obtain ⟨x1_0, x1_1, x1_2, x1_3, rfl, h1_0, h1_1, h1_2, h1_3⟩ := arr4 h1
  simp only [num]
  refine calls_shortX [] [4, 11, 16, 18] ttok hmix Try.func12 (by decide) (by decide +kernel) (by simp only [Try.f12, Option.bind_some, compX, esc, inE, mkB, mkX1, mkX2, Bool.or_false, Bool.false_or, Bool.or_true, Bool.true_or, Bool.or_self, cond_true, cond_false, comp, isLend, lendOf, lendX, lendC, lendH, Nat.reduceLeDiff, Nat.reduceSub, ne_eq, not_false_eq_true, and_self, cops, cguard, gslot, List.getElem?_toArray, List.getElem?_cons_succ, List.getElem?_cons_zero, vlook, tlook, cutAt_nil, cutAt, firstReg, isCut, mkSeq, Nat.reduceAdd, Nat.reduceEqDiff, reduceIte]; rfl) Try.ntmps12 Try.results12 ⟨_, rfl⟩ rfl ?_
  simp only [List.length_cons, List.length_nil, Nat.reduceAdd, Nat.reduceSub, List.replicate_succ, List.replicate_zero, List.cons_append, List.nil_append, num, str, tru]
  simp (decide := true) only [mkd_eq [] [] [] [[], [37], [37], [37], [37], [37], [37], [43], [43], [43], [43], [43], [43], []], List.zip_cons_cons, List.zip_nil_left, List.zip_nil_right]
  simp (decide := true) only [mkd_eq [7, 6] [] [] [[], [79], [6, 79], [79], [79], [79], [79], [85], [7, 85], [85], [85], [85], [85], [91], [91], [91, 6], [7, 91], [91], [91], [91], []], List.zip_cons_cons, List.zip_nil_left, List.zip_nil_right]
  repeat' first|refine Spl.on (fun _=>?_) (fun _=>?_)|with_reducible refine gd ?_|simp only [go_sem, decide_true, decide_false, Int.reduceEq, Int.cast_ofNat_Int, Bool.false_eq_true, Bool.not_true, Bool.not_false, List.length_map, Nat.reduceMod, if_false, if_true, reduceIte, nums_length]
  refine sane13.mono ?_
  rintro r rfl
  simp only [tru]
  obtain ⟨A, hm0, okA⟩ : ∃ L, makeL x0_0 x0_1 x0_2 x0_3 = L ∧ okL L = true := ⟨_, rfl, ok_make ..⟩
  obtain ⟨B, hm1, okB⟩ : ∃ L, makeL x1_0 x1_1 x1_2 x1_3 = L ∧ okL L = true := ⟨_, rfl, ok_make ..⟩
  have hlA := len_ok okA
  have hlB := len_ok okB
  repeat' first|refine Spl.on (fun _=>?_) (fun _=>?_)|with_reducible refine gd ?_|simp only [go_sem, decide_true, decide_false, Int.reduceEq, Int.cast_ofNat_Int, Bool.false_eq_true, Bool.not_true, Bool.not_false, List.length_map, Nat.reduceMod, if_false, if_true, reduceIte, nums_length]
  refine (make14 x0_0 x0_1 x0_2 x0_3 h0_0 h0_2 h0_3).mono ?_
  rintro r rfl
  rw [hm0]
  simp only [labO, num]
  repeat' first|refine Spl.on (fun _=>?_) (fun _=>?_)|with_reducible refine gd ?_|simp only [go_sem, decide_true, decide_false, Int.reduceEq, Int.cast_ofNat_Int, Bool.false_eq_true, Bool.not_true, Bool.not_false, List.length_map, Nat.reduceMod, if_false, if_true, reduceIte, nums_length]
  refine (make14 x1_0 x1_1 x1_2 x1_3 h1_0 h1_2 h1_3).mono ?_
  rintro r rfl
  rw [hm1]
  simp only [labO, num]
  repeat' first|refine Spl.on (fun _=>?_) (fun _=>?_)|with_reducible refine gd ?_|simp only [go_sem, decide_true, decide_false, Int.reduceEq, Int.cast_ofNat_Int, Bool.false_eq_true, Bool.not_true, Bool.not_false, List.length_map, Nat.reduceMod, if_false, if_true, reduceIte, nums_length]
  have h64 : A.a.length ≤ 64 := asc_len (okL_a okA)
  refine cwpX_mk200 (u := A.u) (m := A.n) (d := A.d) (l := A.a) rfl rfl (by omega) ?_
  simp only [lbx, num]
  obtain ⟨Z, hZ⟩ : ∃ Z, zer (200 - A.a.length) = Z := ⟨_, rfl⟩
  rw [hZ]
  obtain ⟨J, hJ⟩ : ∃ J, joinL A B = J := ⟨_, rfl⟩
  have hjm := join22m A B hlA hlB
  have hjo := join22' A B hlA hlB
  rw [hJ] at hjm hjo
  repeat' first|refine Spl.on (fun _=>?_) (fun _=>?_)|with_reducible refine gd ?_|simp only [go_sem, decide_true, decide_false, Int.reduceEq, Int.cast_ofNat_Int, Bool.false_eq_true, Bool.not_true, Bool.not_false, List.length_map, Nat.reduceMod, if_false, if_true, reduceIte, nums_length]
  refine ((hjm).wk ?_).mono ?_
  · try simp only [lab, num, tru]
    repeat first | exact Wk.nil | exact Wk.refl _ | refine wk_agg ?_ ?_ | refine wk_ownsl ?_ | refine wk_slx ?_ | refine wk_nilsl ?_ | refine Wk.same ?_
  rintro r rfl
  try simp only [labO, labM, tru, num]
  repeat' first|refine Spl.on (fun _=>?_) (fun _=>?_)|with_reducible refine gd ?_|simp only [go_sem, decide_true, decide_false, Int.reduceEq, Int.cast_ofNat_Int, Bool.false_eq_true, Bool.not_true, Bool.not_false, List.length_map, Nat.reduceMod, if_false, if_true, reduceIte, nums_length]
  refine ((hjo).wk ?_).mono ?_
  · try simp only [lab, num, tru]
    repeat first | exact Wk.nil | exact Wk.refl _ | refine wk_agg ?_ ?_ | refine wk_ownsl ?_ | refine wk_slx ?_ | refine wk_nilsl ?_ | refine Wk.same ?_
  rintro r rfl
  try simp only [labO, labM, tru, num]
  repeat' first|refine Spl.on (fun _=>?_) (fun _=>?_)|with_reducible refine gd ?_|simp only [go_sem, decide_true, decide_false, Int.reduceEq, Int.cast_ofNat_Int, Bool.false_eq_true, Bool.not_true, Bool.not_false, List.length_map, Nat.reduceMod, if_false, if_true, reduceIte, nums_length]
  refine ((leq20 A B hlA hlB).wk ?_).mono ?_
  · try simp only [lab, num, tru]
    repeat first | exact Wk.nil | exact Wk.refl _ | refine wk_agg ?_ ?_ | refine wk_ownsl ?_ | refine wk_slx ?_ | refine wk_nilsl ?_ | refine Wk.same ?_
  rintro r rfl
  try simp only [labO, labM, tru, num]
  repeat' first|refine Spl.on (fun _=>?_) (fun _=>?_)|with_reducible refine gd ?_|simp only [go_sem, decide_true, decide_false, Int.reduceEq, Int.cast_ofNat_Int, Bool.false_eq_true, Bool.not_true, Bool.not_false, List.length_map, Nat.reduceMod, if_false, if_true, reduceIte, nums_length]
  refine ((allows24 A 0 0 B.a 0 hlA hlB).wk ?_).mono ?_
  · try simp only [lab, num, tru]
    repeat first | exact Wk.nil | exact Wk.refl _ | refine wk_agg ?_ ?_ | refine wk_ownsl ?_ | refine wk_slx ?_ | refine wk_nilsl ?_ | refine Wk.same ?_
  rintro r rfl
  try simp only [labO, labM, tru, num]
  repeat' first|refine Spl.on (fun _=>?_) (fun _=>?_)|with_reducible refine gd ?_|simp only [go_sem, decide_true, decide_false, Int.reduceEq, Int.cast_ofNat_Int, Bool.false_eq_true, Bool.not_true, Bool.not_false, List.length_map, Nat.reduceMod, if_false, if_true, reduceIte, nums_length]
  have hsA : ACalls Try.prog 18 [lab A, lab A] (fun r => r = tru true) := by have := same18 A A hlA; rwa [sameL_rfl] at this
  have hsB : ACalls Try.prog 18 [lab B, lab B] (fun r => r = tru true) := by have := same18 B B hlB; rwa [sameL_rfl] at this
  have hlJ : J.a.length ≤ 1000000 := by rw [← hJ]; exact len_ok (ok_join okA okB)
  have hsJ : ACalls Try.prog 18 [lab J, lab J] (fun r => r = tru true) := by have := same18 J J hlJ; rwa [sameL_rfl] at this
  refine (make14 x0_0 x0_1 x0_2 x0_3 h0_0 h0_2 h0_3).mono ?_
  rintro r rfl
  rw [hm0]
  simp only [labO, num]
  repeat' first|refine Spl.on (fun _=>?_) (fun _=>?_)|with_reducible refine gd ?_|simp only [go_sem, decide_true, decide_false, Int.reduceEq, Int.cast_ofNat_Int, Bool.false_eq_true, Bool.not_true, Bool.not_false, List.length_map, Nat.reduceMod, if_false, if_true, reduceIte, nums_length]
  refine ((hsA).wk ?_).mono ?_
  · try simp only [lab, num, tru]
    repeat first | exact Wk.nil | exact Wk.refl _ | refine wk_agg ?_ ?_ | refine wk_ownsl ?_ | refine wk_slx ?_ | refine wk_nilsl ?_ | refine Wk.same ?_
  rintro r rfl
  try simp only [labO, labM, tru, num]
  repeat' first|refine Spl.on (fun _=>?_) (fun _=>?_)|with_reducible refine gd ?_|simp only [go_sem, decide_true, decide_false, Int.reduceEq, Int.cast_ofNat_Int, Bool.false_eq_true, Bool.not_true, Bool.not_false, List.length_map, Nat.reduceMod, if_false, if_true, reduceIte, nums_length]
  refine (make14 x1_0 x1_1 x1_2 x1_3 h1_0 h1_2 h1_3).mono ?_
  rintro r rfl
  rw [hm1]
  simp only [labO, num]
  repeat' first|refine Spl.on (fun _=>?_) (fun _=>?_)|with_reducible refine gd ?_|simp only [go_sem, decide_true, decide_false, Int.reduceEq, Int.cast_ofNat_Int, Bool.false_eq_true, Bool.not_true, Bool.not_false, List.length_map, Nat.reduceMod, if_false, if_true, reduceIte, nums_length]
  refine ((hsB).wk ?_).mono ?_
  · try simp only [lab, num, tru]
    repeat first | exact Wk.nil | exact Wk.refl _ | refine wk_agg ?_ ?_ | refine wk_ownsl ?_ | refine wk_slx ?_ | refine wk_nilsl ?_ | refine Wk.same ?_
  rintro r rfl
  try simp only [labO, labM, tru, num]
  repeat' first|refine Spl.on (fun _=>?_) (fun _=>?_)|with_reducible refine gd ?_|simp only [go_sem, decide_true, decide_false, Int.reduceEq, Int.cast_ofNat_Int, Bool.false_eq_true, Bool.not_true, Bool.not_false, List.length_map, Nat.reduceMod, if_false, if_true, reduceIte, nums_length]
  have hZl : (nums A.a ++ Z).length = 200 := by rw [← hZ]; simp [nums, zer, rawsA]; omega
  refine ⟨by rw [hZl]; rfl, ?_⟩
  refine cwpX_wkset [] ttok hmix 6 (.box 26 [num A.u, .sl 1 (nums A.a), num A.n, num A.d]) (by simp only [comp, isLend, lendOf, cops, cguard, gslot, List.getElem?_toArray, List.getElem?_cons_succ, List.getElem?_cons_zero, vlook, tlook, Bool.false_eq_true, if_false, if_true, reduceIte]; rfl) (by decide +kernel) ?_ ?_
  · simp only [num, List.set_cons_zero, List.set_cons_succ]
    repeat first | exact Wk.nil | exact Wk.refl _ | refine Wk.box (W1.box ?_) ?_ | refine wk_slx ?_ | refine Wk.same ?_
  repeat' first|refine Spl.on (fun _=>?_) (fun _=>?_)|with_reducible refine gd ?_|simp only [go_sem, decide_true, decide_false, Int.reduceEq, Int.cast_ofNat_Int, Bool.false_eq_true, Bool.not_true, Bool.not_false, List.length_map, Nat.reduceMod, if_false, if_true, reduceIte, nums_length]
  refine cwp_loop [false, false, false, false, false, true, false, false, false, false, false, true, false, false, false, false, false, false, false, false, false, false, false, false, false, false, false, false, false, false, false, false, false, false, false, false, false, false, false, false, false, false, false, false, false, false, false, false, false, false, false, false, false, false, false, true, true, true, true, true, true, true, true, true, true, true, true, false, false, false, false, false, false, false, false, false, false, false, false, false, false, false, false, false, false, false, false, false, false, false, false, false, false, false, false, false, false, false] [5, 11] (fun n xs => ∃ i : Nat, A.a.length ≤ i ∧ i + n = 200 ∧ xs = [.raw (.bool true), num i]) ⟨200 - A.a.length, _, ⟨A.a.length, by omega, by omega, rfl⟩, ?_⟩ ?_
  · simp only [hvm_t, hvm_f, hvm_nil, puts_cons, puts_nil, List.set_cons_zero, List.set_cons_succ, num]
    repeat first | exact Wk.nil | refine wk_ownsl ?_ | refine wk_slx ?_ | refine wk_nilown ?_ | refine Wk.same ?_ | refine wk_any ?_
  · rintro n1 xs ⟨i, hi1, hi2, rfl⟩
    simp only [hvm_t, hvm_f, hvm_nil, puts_cons, puts_nil, List.set_cons_zero, List.set_cons_succ, num]
    rcases Nat.lt_or_ge i 200 with hlt | hge
    · have ej := eq_true (show (i : Int) < 200 by omega)
      have hw : IntKind.i64.wrap ((i : Int) + 1) = ((i + 1 : Nat) : Int) := wrap_succ (by omega)
      have hgx : (nums A.a ++ Z).getD i .any = .raw (.int .i64 0) := by
        have h1 : i - A.a.length < 200 - A.a.length := by omega
        have h2 : (nums A.a).length = A.a.length := by simp [nums]
        rw [← hZ, List.getD_eq_getElem?_getD, List.getElem?_append_right (by omega), h2]
        unfold zer rawsA
        rw [List.getElem?_map, List.getElem?_replicate, if_pos h1]
        rfl
      repeat' first|refine Spl.on (fun _=>?_) (fun _=>?_)|with_reducible refine gd ?_|simp only [go_sem, decide_true, decide_false, Int.reduceEq, Int.cast_ofNat_Int, Bool.false_eq_true, Bool.not_true, Bool.not_false, List.length_map, Nat.reduceMod, if_false, if_true, reduceIte, nums_length, ej, hw, hgx, hZl, Int.toNat_natCast]
      refine lend_mk (n1 - 1) [.raw (.bool true), num ((i + 1 : Nat) : Int)] (by omega) ⟨i + 1, by omega, by omega, rfl⟩ ?_
      simp only [hvm_t, hvm_f, hvm_nil, puts_cons, puts_nil, List.set_cons_zero, List.set_cons_succ, num]
      repeat first | exact Wk.nil | refine wk_ownsl ?_ | refine wk_slx ?_ | refine wk_nilown ?_ | refine Wk.same ?_ | refine wk_any ?_
    · have ej := eq_false (show ¬ (i : Int) < 200 by omega)
      repeat' first|refine Spl.on (fun _=>?_) (fun _=>?_)|with_reducible refine gd ?_|simp only [go_sem, decide_true, decide_false, Int.reduceEq, Int.cast_ofNat_Int, Bool.false_eq_true, Bool.not_true, Bool.not_false, List.length_map, Nat.reduceMod, if_false, if_true, reduceIte, nums_length, ej]
      refine cwpX_loop [false, false, false, false, false, false, false, false, true, false, false, false, true, false, false, false, false, false, false, false, false, false, false, false, false, false, false, false, false, false, false, false, false, false, false, false, false, false, false, false, false, false, false, false, false, false, false, false, false, false, false, false, false, false, false, false, false, false, false, false, false, false, false, false, false, false, false, true, true, true, true, true, true, true, true, true, true, true, false, false, false, false, false, false, false, false, false, false, false, false, false, false, false, false, false, false, false, false] [8, 12] (fun n xs => ∃ i : Nat, i ≤ J.a.length ∧ i + n = J.a.length ∧ xs = [.box 26 [num J.u, .mine 3 1 (nums (jl J.a i)), num J.n, num J.d], num i]) ⟨J.a.length, _, ⟨0, by omega, by omega, rfl⟩, ?_⟩ ?_
      · rw [show jl J.a 0 = J.a from rfl]
        simp only [hvm_t, hvm_f, hvm_nil, puts_cons, puts_nil, List.set_cons_zero, List.set_cons_succ, num]
        repeat first | exact Wk.nil | refine wk_ownsl ?_ | refine wk_slx ?_ | refine wk_nilown ?_ | refine Wk.same ?_ | refine wk_any ?_
      · rintro n2 xs ⟨k, hk1, hk2, rfl⟩
        simp only [hvm_t, hvm_f, hvm_nil, puts_cons, puts_nil, List.set_cons_zero, List.set_cons_succ, num]
        have hjl := jl_len (l := J.a) (i := k) hk1
        rcases Nat.lt_or_ge k J.a.length with klt | kge
        · have ek := eq_true (show (k : Int) < (J.a.length : Int) by omega)
          obtain ⟨x, hgk⟩ := jl_at klt
          have hpk := jl_set klt
          have hwk : IntKind.i64.wrap ((k : Int) + 1) = ((k + 1 : Nat) : Int) := wrap_succ (by omega)
          refine cwpX_lendsM [100069] ttok rfl rfl rfl rfl rfl (by simp only [cops, cguard, gslot, List.getElem?_toArray, List.getElem?_cons_succ, List.getElem?_cons_zero]; rfl) rfl rfl rfl rfl rfl rfl rfl rfl (by decide) rfl rfl rfl ?_
          repeat' first|refine Spl.on (fun _=>?_) (fun _=>?_)|with_reducible refine gd ?_|simp only [go_sem, decide_true, decide_false, Int.reduceEq, Int.cast_ofNat_Int, Bool.false_eq_true, Bool.not_true, Bool.not_false, List.length_map, Nat.reduceMod, if_false, if_true, reduceIte, nums_length, ek, hjl]
          refine cwpX_lendsF [100075] ttok rfl (by simp only [cops, cguard, gslot, List.getElem?_toArray, List.getElem?_cons_succ, List.getElem?_cons_zero]; rfl) rfl rfl rfl rfl rfl rfl rfl rfl (by decide) rfl rfl rfl ?_
          repeat' first|refine Spl.on (fun _=>?_) (fun _=>?_)|with_reducible refine gd ?_|simp only [go_sem, decide_true, decide_false, Int.reduceEq, Int.cast_ofNat_Int, Bool.false_eq_true, Bool.not_true, Bool.not_false, List.length_map, Nat.reduceMod, if_false, if_true, reduceIte, nums_length, ek, hjl, hgk, hpk, hwk, Int.toNat_natCast]
          refine lend_mk (n2 - 1) [.box 26 [num J.u, .mine 3 1 (nums (jl J.a (k + 1))), num J.n, num J.d], num ((k + 1 : Nat) : Int)] (by omega) ⟨k + 1, by omega, by omega, rfl⟩ ?_
          simp only [hvm_t, hvm_f, hvm_nil, puts_cons, puts_nil, List.set_cons_zero, List.set_cons_succ, num]
          repeat first | exact Wk.nil | refine wk_ownsl ?_ | refine wk_slx ?_ | refine wk_nilown ?_ | refine Wk.same ?_ | refine wk_any ?_
        · have ek := eq_false (show ¬ (k : Int) < (J.a.length : Int) by omega)
          refine cwpX_lendsM [100069] ttok rfl rfl rfl rfl rfl (by simp only [cops, cguard, gslot, List.getElem?_toArray, List.getElem?_cons_succ, List.getElem?_cons_zero]; rfl) rfl rfl rfl rfl rfl rfl rfl rfl (by decide) rfl rfl rfl ?_
          repeat' first|refine Spl.on (fun _=>?_) (fun _=>?_)|with_reducible refine gd ?_|simp only [go_sem, decide_true, decide_false, Int.reduceEq, Int.cast_ofNat_Int, Bool.false_eq_true, Bool.not_true, Bool.not_false, List.length_map, Nat.reduceMod, if_false, if_true, reduceIte, nums_length, ek, hjl]
          refine (make14 x0_0 x0_1 x0_2 x0_3 h0_0 h0_2 h0_3).mono ?_
          rintro r rfl
          rw [hm0]
          simp only [labO, num]
          repeat' first|refine Spl.on (fun _=>?_) (fun _=>?_)|with_reducible refine gd ?_|simp only [go_sem, decide_true, decide_false, Int.reduceEq, Int.cast_ofNat_Int, Bool.false_eq_true, Bool.not_true, Bool.not_false, List.length_map, Nat.reduceMod, if_false, if_true, reduceIte, nums_length]
          refine ((hsA).wk ?_).mono ?_
          · try simp only [lab, num, tru]
            repeat first | exact Wk.nil | exact Wk.refl _ | refine wk_agg ?_ ?_ | refine wk_ownsl ?_ | refine wk_slx ?_ | refine wk_nilsl ?_ | refine Wk.same ?_
          rintro r rfl
          try simp only [labO, labM, tru, num]
          repeat' first|refine Spl.on (fun _=>?_) (fun _=>?_)|with_reducible refine gd ?_|simp only [go_sem, decide_true, decide_false, Int.reduceEq, Int.cast_ofNat_Int, Bool.false_eq_true, Bool.not_true, Bool.not_false, List.length_map, Nat.reduceMod, if_false, if_true, reduceIte, nums_length]
          refine (make14 x1_0 x1_1 x1_2 x1_3 h1_0 h1_2 h1_3).mono ?_
          rintro r rfl
          rw [hm1]
          simp only [labO, num]
          repeat' first|refine Spl.on (fun _=>?_) (fun _=>?_)|with_reducible refine gd ?_|simp only [go_sem, decide_true, decide_false, Int.reduceEq, Int.cast_ofNat_Int, Bool.false_eq_true, Bool.not_true, Bool.not_false, List.length_map, Nat.reduceMod, if_false, if_true, reduceIte, nums_length]
          refine ((hsB).wk ?_).mono ?_
          · try simp only [lab, num, tru]
            repeat first | exact Wk.nil | exact Wk.refl _ | refine wk_agg ?_ ?_ | refine wk_ownsl ?_ | refine wk_slx ?_ | refine wk_nilsl ?_ | refine Wk.same ?_
          rintro r rfl
          try simp only [labO, labM, tru, num]
          repeat' first|refine Spl.on (fun _=>?_) (fun _=>?_)|with_reducible refine gd ?_|simp only [go_sem, decide_true, decide_false, Int.reduceEq, Int.cast_ofNat_Int, Bool.false_eq_true, Bool.not_true, Bool.not_false, List.length_map, Nat.reduceMod, if_false, if_true, reduceIte, nums_length]
          refine ((hjo).wk ?_).mono ?_
          · try simp only [lab, num, tru]
            repeat first | exact Wk.nil | exact Wk.refl _ | refine wk_agg ?_ ?_ | refine wk_ownsl ?_ | refine wk_slx ?_ | refine wk_nilsl ?_ | refine Wk.same ?_
          rintro r rfl
          try simp only [labO, labM, tru, num]
          repeat' first|refine Spl.on (fun _=>?_) (fun _=>?_)|with_reducible refine gd ?_|simp only [go_sem, decide_true, decide_false, Int.reduceEq, Int.cast_ofNat_Int, Bool.false_eq_true, Bool.not_true, Bool.not_false, List.length_map, Nat.reduceMod, if_false, if_true, reduceIte, nums_length]
          refine ((hsJ).wk ?_).mono ?_
          · try simp only [lab, num, tru]
            repeat first | exact Wk.nil | exact Wk.refl _ | refine wk_agg ?_ ?_ | refine wk_ownsl ?_ | refine wk_slx ?_ | refine wk_nilsl ?_ | refine Wk.same ?_
          rintro r rfl
          try simp only [labO, labM, tru, num]
          repeat' first|refine Spl.on (fun _=>?_) (fun _=>?_)|with_reducible refine gd ?_|simp only [go_sem, decide_true, decide_false, Int.reduceEq, Int.cast_ofNat_Int, Bool.false_eq_true, Bool.not_true, Bool.not_false, List.length_map, Nat.reduceMod, if_false, if_true, reduceIte, nums_length]
          done
end Go.Proofs.Ytohelofjlkoboaa
