/- The laws on Format and Parse. -/
import Derived.Test.YtkafbgdokgfjmaaGreatDoorT
import Derived.Test.YtkafbgdokgfjmaaGreatDoorA10
import Derived.Test.YtkafbgdokgfjmaaGreatDoorA11
import Derived.Test.YtkafbgdokgfjmaaGreatDoorM7
import Derived.Test.YtkafbgdokgfjmaaGreatDoorB4
namespace Go.Proofs.YtkafbgdokgfjmaaGreatDoor
open Go.RowKit Go.Proofs
set_option linter.unusedSimpArgs false
set_option linter.unusedVariables false
set_option maxRecDepth 100000
set_option maxHeartbeats 4000000

theorem shortL_len (a : Adr) : (shortL a).name.length ≤ 40 ∧ (shortL a).lang.length ≤ 40 := by
  simp only [shortL, List.length_take]; omega
theorem law4 (s : Str) (hs : s.length ≤ 9223372036854775807) : ACalls Tryz.prog 4 [str s] (fun r => r = tru true) := by
  have hcut := take_min s 100
  simp only [Int.cast_ofNat_Int] at hcut
  have hu : (s.take 100).length ≤ 100 := by rw [List.length_take]; omega
  obtain ⟨u, hu'⟩ : ∃ u, s.take 100 = u := ⟨_, rfl⟩
  rw [hu'] at hu hcut
  refine calls_short [] ttok hmix Tryz.func4 (by decide) (by decide +kernel) (by simp only [Tryz.f4, Option.bind_some, comp, isLend, lendOf, lendX, lendC, lendH, Nat.reduceLeDiff, Nat.reduceSub, ne_eq, not_false_eq_true, and_self, cops, cguard, gslot, List.getElem?_toArray, List.getElem?_cons_succ, List.getElem?_cons_zero, vlook, tlook, cutAt_nil, cutAt, firstReg, isCut, mkSeq, Nat.reduceAdd, Nat.reduceEqDiff, reduceIte]; rfl) Tryz.ntmps4 Tryz.results4 ⟨_, rfl⟩ rfl ?_
  simp only [List.length_cons, List.length_nil, Nat.reduceAdd, Nat.reduceSub, List.replicate_succ, List.replicate_zero, List.cons_append, List.nil_append, num, str, tru]
  repeat' first|refine Spl.on (fun _=>?_) (fun _=>?_)|with_reducible refine gd ?_|simp only [go_sem, Int.reduceEq, Int.cast_ofNat_Int, Bool.false_eq_true, xblkG_exit3, List.length_map, beq_self_eq_true, if_true, if_false]
  refine ((sane12).wk ?_).mono ?_
  · try simp only [num, str]
    repeat first | exact Wk.nil | exact Wk.refl _ | refine wk_agg ?_ ?_ | refine wk_ownsl ?_ | refine wk_nilsl ?_ | refine Wk.same ?_
  rintro r rfl
  try simp only [tru, num, str]
  repeat' first|refine Spl.on (fun _=>?_) (fun _=>?_)|with_reducible refine gd ?_|simp only [go_sem, Int.reduceEq, Int.cast_ofNat_Int, Bool.false_eq_true, xblkG_exit3, List.length_map, beq_self_eq_true, if_true, if_false, hcut]
  cases hp : parseL u
  · refine ((parse20 u (by omega)).wk ?_).mono ?_
    · try simp only [adrA, num, str]
      repeat first | exact Wk.nil | exact Wk.refl _ | refine wk_agg ?_ ?_ | refine wk_ownsl ?_ | refine wk_nilsl ?_ | refine Wk.same ?_
    rintro r rfl
    simp only [hp, parseA, adrA, adr0, num, str]
    repeat' first|refine Spl.on (fun _=>?_) (fun _=>?_)|with_reducible refine gd ?_|simp only [go_sem, Int.reduceEq, Int.cast_ofNat_Int, Bool.false_eq_true, xblkG_exit3, List.length_map, beq_self_eq_true, if_true, if_false, hp]
    refine ((rparse21 u (by omega)).wk ?_).mono ?_
    · try simp only [adrA, num, str]
      repeat first | exact Wk.nil | exact Wk.refl _ | refine wk_agg ?_ ?_ | refine wk_ownsl ?_ | refine wk_nilsl ?_ | refine Wk.same ?_
    rintro r rfl
    simp only [hp, parseA, adrA, adr0, num, str]
    repeat' first|refine Spl.on (fun _=>?_) (fun _=>?_)|with_reducible refine gd ?_|simp only [go_sem, Int.reduceEq, Int.cast_ofNat_Int, Bool.false_eq_true, xblkG_exit3, List.length_map, beq_self_eq_true, if_true, if_false, hp]
    all_goals first | rfl | (simp [tru]; done) | (simp_all [tru]; done)
  · refine ((parse20 u (by omega)).wk ?_).mono ?_
    · try simp only [adrA, num, str]
      repeat first | exact Wk.nil | exact Wk.refl _ | refine wk_agg ?_ ?_ | refine wk_ownsl ?_ | refine wk_nilsl ?_ | refine Wk.same ?_
    rintro r rfl
    simp only [hp, parseA, adrA, adr0, num, str]
    repeat' first|refine Spl.on (fun _=>?_) (fun _=>?_)|with_reducible refine gd ?_|simp only [go_sem, Int.reduceEq, Int.cast_ofNat_Int, Bool.false_eq_true, xblkG_exit3, List.length_map, beq_self_eq_true, if_true, if_false, hp]
    refine ((rparse21 u (by omega)).wk ?_).mono ?_
    · try simp only [adrA, num, str]
      repeat first | exact Wk.nil | exact Wk.refl _ | refine wk_agg ?_ ?_ | refine wk_ownsl ?_ | refine wk_nilsl ?_ | refine Wk.same ?_
    rintro r rfl
    simp only [hp, parseA, adrA, adr0, num, str]
    repeat' first|refine Spl.on (fun _=>?_) (fun _=>?_)|with_reducible refine gd ?_|simp only [go_sem, Int.reduceEq, Int.cast_ofNat_Int, Bool.false_eq_true, xblkG_exit3, List.length_map, beq_self_eq_true, if_true, if_false, hp]
    all_goals first | rfl | (simp [tru]; done) | (simp_all [tru]; done)
theorem law3 (a : Adr) (ha : a.name.length ≤ 9223372036854775807) (hb : a.lang.length ≤ 9223372036854775807) : ACalls Tryz.prog 3 [adrA a] (fun r => r = tru true) := by
  have hsl := shortL_len a
  have hsh := short13 a ha hb
  obtain ⟨b, hb'⟩ : ∃ b, shortL a = b := ⟨_, rfl⟩
  rw [hb'] at hsl hsh
  have hb1 : b.name.length ≤ 1000000000 := by omega
  have hb2 : b.lang.length ≤ 1000000000 := by omega
  simp only [adrA] at hsh ⊢
  refine calls_short [] ttok hmix Tryz.func3 (by decide) (by decide +kernel) (by simp only [Tryz.f3, Option.bind_some, comp, isLend, lendOf, lendX, lendC, lendH, Nat.reduceLeDiff, Nat.reduceSub, ne_eq, not_false_eq_true, and_self, cops, cguard, gslot, List.getElem?_toArray, List.getElem?_cons_succ, List.getElem?_cons_zero, vlook, tlook, cutAt_nil, cutAt, firstReg, isCut, mkSeq, Nat.reduceAdd, Nat.reduceEqDiff, reduceIte]; rfl) Tryz.ntmps3 Tryz.results3 ⟨_, rfl⟩ rfl ?_
  simp only [List.length_cons, List.length_nil, Nat.reduceAdd, Nat.reduceSub, List.replicate_succ, List.replicate_zero, List.cons_append, List.nil_append, num, str, tru]
  simp (decide := true) only [mkd_eq [1] [] [] [[], [22], [22], [22], [22], [22], [27], [27], [27], [27], [27], [32], [1, 32], [32], [1, 32], [32], [32], [32], [39], [39, 1], [39], [39, 1], [39], [39], [39], []], List.zip_cons_cons, List.zip_nil_left, List.zip_nil_right]
  repeat' first|refine Spl.on (fun _=>?_) (fun _=>?_)|with_reducible refine gd ?_|simp only [go_sem, Int.reduceEq, Int.cast_ofNat_Int, Bool.false_eq_true, xblkG_exit3, List.length_map, beq_self_eq_true, if_true, if_false]
  refine ((sane12).wk ?_).mono ?_
  · try simp only [num, str]
    repeat first | exact Wk.nil | exact Wk.refl _ | refine wk_agg ?_ ?_ | refine wk_ownsl ?_ | refine wk_nilsl ?_ | refine Wk.same ?_
  rintro r rfl
  try simp only [tru, num, str]
  repeat' first|refine Spl.on (fun _=>?_) (fun _=>?_)|with_reducible refine gd ?_|simp only [go_sem, Int.reduceEq, Int.cast_ofNat_Int, Bool.false_eq_true, xblkG_exit3, List.length_map, beq_self_eq_true, if_true, if_false]
  refine ((hsh).wk ?_).mono ?_
  · try simp only [num, str]
    repeat first | exact Wk.nil | exact Wk.refl _ | refine wk_agg ?_ ?_ | refine wk_ownsl ?_ | refine wk_nilsl ?_ | refine Wk.same ?_
  rintro r rfl
  simp only [num, str]
  repeat' first|refine Spl.on (fun _=>?_) (fun _=>?_)|with_reducible refine gd ?_|simp only [go_sem, Int.reduceEq, Int.cast_ofNat_Int, Bool.false_eq_true, xblkG_exit3, List.length_map, beq_self_eq_true, if_true, if_false]
  cases hv : validL b
  · refine ((format14 b).wk ?_).mono ?_
    · try simp only [adrA, num, str]
      repeat first | exact Wk.nil | exact Wk.refl _ | refine wk_agg ?_ ?_ | refine wk_ownsl ?_ | refine wk_nilsl ?_ | refine Wk.same ?_
    rintro r rfl
    simp only [fmtA, hv, Bool.false_eq_true, if_false, num, str]
    repeat' first|refine Spl.on (fun _=>?_) (fun _=>?_)|with_reducible refine gd ?_|simp only [go_sem, Int.reduceEq, Int.cast_ofNat_Int, Bool.false_eq_true, xblkG_exit3, List.length_map, beq_self_eq_true, if_true, if_false, hv]
    refine ((rformat15 b hb1 hb2).wk ?_).mono ?_
    · try simp only [adrA, num, str]
      repeat first | exact Wk.nil | exact Wk.refl _ | refine wk_agg ?_ ?_ | refine wk_ownsl ?_ | refine wk_nilsl ?_ | refine Wk.same ?_
    rintro r rfl
    simp only [fmtA, hv, Bool.false_eq_true, if_false, num, str]
    repeat' first|refine Spl.on (fun _=>?_) (fun _=>?_)|with_reducible refine gd ?_|simp only [go_sem, Int.reduceEq, Int.cast_ofNat_Int, Bool.false_eq_true, xblkG_exit3, List.length_map, beq_self_eq_true, if_true, if_false, hv]
    refine ((valid16 b).wk ?_).mono ?_
    · try simp only [adrA, num, str]
      repeat first | exact Wk.nil | exact Wk.refl _ | refine wk_agg ?_ ?_ | refine wk_ownsl ?_ | refine wk_nilsl ?_ | refine Wk.same ?_
    rintro r rfl
    simp only [hv, tru]
    repeat' first|refine Spl.on (fun _=>?_) (fun _=>?_)|with_reducible refine gd ?_|simp only [go_sem, Int.reduceEq, Int.cast_ofNat_Int, Bool.false_eq_true, xblkG_exit3, List.length_map, beq_self_eq_true, if_true, if_false, hv]
    refine ((rvalid17 b hb1 hb2).wk ?_).mono ?_
    · try simp only [adrA, num, str]
      repeat first | exact Wk.nil | exact Wk.refl _ | refine wk_agg ?_ ?_ | refine wk_ownsl ?_ | refine wk_nilsl ?_ | refine Wk.same ?_
    rintro r rfl
    simp only [hv, tru]
    repeat' first|refine Spl.on (fun _=>?_) (fun _=>?_)|with_reducible refine gd ?_|simp only [go_sem, Int.reduceEq, Int.cast_ofNat_Int, Bool.false_eq_true, xblkG_exit3, List.length_map, beq_self_eq_true, if_true, if_false, hv]
    refine ((urgency18 b).wk ?_).mono ?_
    · try simp only [adrA, num, str]
      repeat first | exact Wk.nil | exact Wk.refl _ | refine wk_agg ?_ ?_ | refine wk_ownsl ?_ | refine wk_nilsl ?_ | refine Wk.same ?_
    rintro r rfl
    simp only [hv, num, if_true, if_false, Bool.false_eq_true]
    repeat' first|refine Spl.on (fun _=>?_) (fun _=>?_)|with_reducible refine gd ?_|simp only [go_sem, Int.reduceEq, Int.cast_ofNat_Int, Bool.false_eq_true, xblkG_exit3, List.length_map, beq_self_eq_true, if_true, if_false, hv]
    refine ((rurgency19 b hb1 hb2).wk ?_).mono ?_
    · try simp only [adrA, num, str]
      repeat first | exact Wk.nil | exact Wk.refl _ | refine wk_agg ?_ ?_ | refine wk_ownsl ?_ | refine wk_nilsl ?_ | refine Wk.same ?_
    rintro r rfl
    simp only [hv, num, if_true, if_false, Bool.false_eq_true]
    repeat' first|refine Spl.on (fun _=>?_) (fun _=>?_)|with_reducible refine gd ?_|simp only [go_sem, Int.reduceEq, Int.cast_ofNat_Int, Bool.false_eq_true, xblkG_exit3, List.length_map, beq_self_eq_true, if_true, if_false, hv]
    all_goals first | rfl | (simp [tru]; done) | (simp_all [tru]; done)
  · refine ((format14 b).wk ?_).mono ?_
    · try simp only [adrA, num, str]
      repeat first | exact Wk.nil | exact Wk.refl _ | refine wk_agg ?_ ?_ | refine wk_ownsl ?_ | refine wk_nilsl ?_ | refine Wk.same ?_
    rintro r rfl
    simp only [fmtA, hv, if_true, num, str]
    repeat' first|refine Spl.on (fun _=>?_) (fun _=>?_)|with_reducible refine gd ?_|simp only [go_sem, Int.reduceEq, Int.cast_ofNat_Int, Bool.false_eq_true, xblkG_exit3, List.length_map, beq_self_eq_true, if_true, if_false, hv]
    refine ((rformat15 b hb1 hb2).wk ?_).mono ?_
    · try simp only [adrA, num, str]
      repeat first | exact Wk.nil | exact Wk.refl _ | refine wk_agg ?_ ?_ | refine wk_ownsl ?_ | refine wk_nilsl ?_ | refine Wk.same ?_
    rintro r rfl
    simp only [fmtA, hv, if_true, num, str]
    repeat' first|refine Spl.on (fun _=>?_) (fun _=>?_)|with_reducible refine gd ?_|simp only [go_sem, Int.reduceEq, Int.cast_ofNat_Int, Bool.false_eq_true, xblkG_exit3, List.length_map, beq_self_eq_true, if_true, if_false, hv]
    refine ((valid16 b).wk ?_).mono ?_
    · try simp only [adrA, num, str]
      repeat first | exact Wk.nil | exact Wk.refl _ | refine wk_agg ?_ ?_ | refine wk_ownsl ?_ | refine wk_nilsl ?_ | refine Wk.same ?_
    rintro r rfl
    simp only [hv, tru]
    repeat' first|refine Spl.on (fun _=>?_) (fun _=>?_)|with_reducible refine gd ?_|simp only [go_sem, Int.reduceEq, Int.cast_ofNat_Int, Bool.false_eq_true, xblkG_exit3, List.length_map, beq_self_eq_true, if_true, if_false, hv]
    refine ((rvalid17 b hb1 hb2).wk ?_).mono ?_
    · try simp only [adrA, num, str]
      repeat first | exact Wk.nil | exact Wk.refl _ | refine wk_agg ?_ ?_ | refine wk_ownsl ?_ | refine wk_nilsl ?_ | refine Wk.same ?_
    rintro r rfl
    simp only [hv, tru]
    repeat' first|refine Spl.on (fun _=>?_) (fun _=>?_)|with_reducible refine gd ?_|simp only [go_sem, Int.reduceEq, Int.cast_ofNat_Int, Bool.false_eq_true, xblkG_exit3, List.length_map, beq_self_eq_true, if_true, if_false, hv]
    refine ((urgency18 b).wk ?_).mono ?_
    · try simp only [adrA, num, str]
      repeat first | exact Wk.nil | exact Wk.refl _ | refine wk_agg ?_ ?_ | refine wk_ownsl ?_ | refine wk_nilsl ?_ | refine Wk.same ?_
    rintro r rfl
    simp only [hv, num, if_true, if_false, Bool.false_eq_true]
    repeat' first|refine Spl.on (fun _=>?_) (fun _=>?_)|with_reducible refine gd ?_|simp only [go_sem, Int.reduceEq, Int.cast_ofNat_Int, Bool.false_eq_true, xblkG_exit3, List.length_map, beq_self_eq_true, if_true, if_false, hv]
    refine ((rurgency19 b hb1 hb2).wk ?_).mono ?_
    · try simp only [adrA, num, str]
      repeat first | exact Wk.nil | exact Wk.refl _ | refine wk_agg ?_ ?_ | refine wk_ownsl ?_ | refine wk_nilsl ?_ | refine Wk.same ?_
    rintro r rfl
    simp only [hv, num, if_true, if_false, Bool.false_eq_true]
    repeat' first|refine Spl.on (fun _=>?_) (fun _=>?_)|with_reducible refine gd ?_|simp only [go_sem, Int.reduceEq, Int.cast_ofNat_Int, Bool.false_eq_true, xblkG_exit3, List.length_map, beq_self_eq_true, if_true, if_false, hv]
    all_goals first | rfl | (simp [tru]; done) | (simp_all [tru]; done)
theorem law7 (s : Str) (hs : s.length ≤ 9223372036854775807) : ACalls Tryz.prog 7 [str s] (fun r => r = tru true) := by
  have hcut := take_min s 100
  simp only [Int.cast_ofNat_Int] at hcut
  have hu : (s.take 100).length ≤ 100 := by rw [List.length_take]; omega
  obtain ⟨u, hu'⟩ : ∃ u, s.take 100 = u := ⟨_, rfl⟩
  rw [hu'] at hu hcut
  refine calls_short [] ttok hmix Tryz.func7 (by decide) (by decide +kernel) (by simp only [Tryz.f7, Option.bind_some, comp, isLend, lendOf, lendX, lendC, lendH, Nat.reduceLeDiff, Nat.reduceSub, ne_eq, not_false_eq_true, and_self, cops, cguard, gslot, List.getElem?_toArray, List.getElem?_cons_succ, List.getElem?_cons_zero, vlook, tlook, cutAt_nil, cutAt, firstReg, isCut, mkSeq, Nat.reduceAdd, Nat.reduceEqDiff, reduceIte]; rfl) Tryz.ntmps7 Tryz.results7 ⟨_, rfl⟩ rfl ?_
  simp only [List.length_cons, List.length_nil, Nat.reduceAdd, Nat.reduceSub, List.replicate_succ, List.replicate_zero, List.cons_append, List.nil_append, num, str, tru]
  repeat' first|refine Spl.on (fun _=>?_) (fun _=>?_)|with_reducible refine gd ?_|simp only [go_sem, Int.reduceEq, Int.cast_ofNat_Int, Bool.false_eq_true, xblkG_exit3, List.length_map, beq_self_eq_true, if_true, if_false]
  refine ((sane12).wk ?_).mono ?_
  · try simp only [num, str]
    repeat first | exact Wk.nil | exact Wk.refl _ | refine wk_agg ?_ ?_ | refine wk_ownsl ?_ | refine wk_nilsl ?_ | refine Wk.same ?_
  rintro r rfl
  try simp only [tru, num, str]
  repeat' first|refine Spl.on (fun _=>?_) (fun _=>?_)|with_reducible refine gd ?_|simp only [go_sem, Int.reduceEq, Int.cast_ofNat_Int, Bool.false_eq_true, xblkG_exit3, List.length_map, beq_self_eq_true, if_true, if_false, hcut]
  cases hp : parseL u with
  | none =>
    refine ((parse20 u (by omega)).wk ?_).mono ?_
    · try simp only [adrA, num, str]
      repeat first | exact Wk.nil | exact Wk.refl _ | refine wk_agg ?_ ?_ | refine wk_ownsl ?_ | refine wk_nilsl ?_ | refine Wk.same ?_
    rintro r rfl
    simp only [hp, parseA, adrA, adr0, num, str]
    repeat' first|refine Spl.on (fun _=>?_) (fun _=>?_)|with_reducible refine gd ?_|simp only [go_sem, Int.reduceEq, Int.cast_ofNat_Int, Bool.false_eq_true, xblkG_exit3, List.length_map, beq_self_eq_true, if_true, if_false, hp]
    all_goals first | rfl | (simp [tru]; done) | (simp_all [tru]; done)
  | some a =>
    obtain ⟨hv, hf⟩ := parse_some hp
    refine ((parse20 u (by omega)).wk ?_).mono ?_
    · try simp only [adrA, num, str]
      repeat first | exact Wk.nil | exact Wk.refl _ | refine wk_agg ?_ ?_ | refine wk_ownsl ?_ | refine wk_nilsl ?_ | refine Wk.same ?_
    rintro r rfl
    simp only [hp, parseA, adrA, adr0, num, str]
    repeat' first|refine Spl.on (fun _=>?_) (fun _=>?_)|with_reducible refine gd ?_|simp only [go_sem, Int.reduceEq, Int.cast_ofNat_Int, Bool.false_eq_true, xblkG_exit3, List.length_map, beq_self_eq_true, if_true, if_false, hp]
    refine ((format14 a).wk ?_).mono ?_
    · try simp only [adrA, num, str]
      repeat first | exact Wk.nil | exact Wk.refl _ | refine wk_agg ?_ ?_ | refine wk_ownsl ?_ | refine wk_nilsl ?_ | refine Wk.same ?_
    rintro r rfl
    simp only [fmtA, hv, hf, if_true, num, str]
    repeat' first|refine Spl.on (fun _=>?_) (fun _=>?_)|with_reducible refine gd ?_|simp only [go_sem, Int.reduceEq, Int.cast_ofNat_Int, Bool.false_eq_true, xblkG_exit3, List.length_map, beq_self_eq_true, if_true, if_false, hp, hv, hf]
    refine ((valid16 a).wk ?_).mono ?_
    · try simp only [adrA, num, str]
      repeat first | exact Wk.nil | exact Wk.refl _ | refine wk_agg ?_ ?_ | refine wk_ownsl ?_ | refine wk_nilsl ?_ | refine Wk.same ?_
    rintro r rfl
    simp only [hv, tru]
    repeat' first|refine Spl.on (fun _=>?_) (fun _=>?_)|with_reducible refine gd ?_|simp only [go_sem, Int.reduceEq, Int.cast_ofNat_Int, Bool.false_eq_true, xblkG_exit3, List.length_map, beq_self_eq_true, if_true, if_false, hv]
    all_goals first | rfl | (simp [tru]; done) | (simp_all [tru]; done)
theorem OfE_adr {n : Nat} {x : AV} (h : OfE Tryz.prog (OfT Tryz.prog n) 23 x) : ∃ a : Adr, x = adrA a ∧ a.name.length ≤ maxLen ∧ a.lang.length ≤ maxLen := by
  obtain ⟨m, ys0, rfl, g0⟩ := OfE_struct Tryz.underlying23 h
  obtain ⟨y1, ys1, rfl, h1, g1⟩ := OfR_one (by kernel_rfl) g0
  obtain ⟨y2, ys2, rfl, h2, g2⟩ := OfR_one (by kernel_rfl) g1
  obtain ⟨y3, ys3, rfl, h3, g3⟩ := OfR_one (by kernel_rfl) g2
  obtain ⟨y4, ys4, rfl, h4, g4⟩ := OfR_one (by kernel_rfl) g3
  obtain rfl := OfR_nil g4
  obtain ⟨k, rfl, _⟩ := OfE_i64 Tryz.underlying3 h1
  obtain ⟨s, rfl, hs⟩ := OfE_str Tryz.underlying9 h2
  obtain ⟨q, rfl, _⟩ := OfE_i64 Tryz.underlying3 h3
  obtain ⟨t, rfl, ht⟩ := OfE_str Tryz.underlying9 h4
  exact ⟨⟨k, s, q, t⟩, rfl, hs, ht⟩
theorem lawA4 (xs : List AV) (h : OfA Tryz.prog [9] xs) : ACalls Tryz.prog 4 xs (fun r => r = tru true) := by
  obtain ⟨_, y, _, rfl, h1, h⟩ := OfA_cons h
  obtain rfl := OfA_nil h
  obtain ⟨s, rfl, hs⟩ := OfE_str Tryz.underlying9 h1
  exact law4 s (by unfold maxLen at hs; omega)
theorem lawA7 (xs : List AV) (h : OfA Tryz.prog [9] xs) : ACalls Tryz.prog 7 xs (fun r => r = tru true) := by
  obtain ⟨_, y, _, rfl, h1, h⟩ := OfA_cons h
  obtain rfl := OfA_nil h
  obtain ⟨s, rfl, hs⟩ := OfE_str Tryz.underlying9 h1
  exact law7 s (by unfold maxLen at hs; omega)
theorem lawA3 (xs : List AV) (h : OfA Tryz.prog [23] xs) : ACalls Tryz.prog 3 xs (fun r => r = tru true) := by
  obtain ⟨_, y, _, rfl, h1, h⟩ := OfA_cons h
  obtain rfl := OfA_nil h
  obtain ⟨a, rfl, h2, h3⟩ := OfE_adr h1
  unfold maxLen at h2 h3
  exact law3 a (by omega) (by omega)
end Go.Proofs.YtkafbgdokgfjmaaGreatDoor
