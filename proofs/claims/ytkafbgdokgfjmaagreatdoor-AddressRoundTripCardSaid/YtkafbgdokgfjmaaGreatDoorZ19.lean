/- The law AddressRoundTrip. -/
import Derived.Test.YtkafbgdokgfjmaaGreatDoorT
import Derived.Test.YtkafbgdokgfjmaaGreatDoorA10
import Derived.Test.YtkafbgdokgfjmaaGreatDoorA11
import Derived.Test.YtkafbgdokgfjmaaGreatDoorZ15
namespace Go.Proofs.YtkafbgdokgfjmaaGreatDoor
open Go.RowKit Go.Proofs
set_option linter.unusedSimpArgs false
set_option linter.unusedVariables false
set_option maxRecDepth 100000
set_option maxHeartbeats 4000000

theorem adr_eqf {a b : Adr} (h : ¬ a = b) : (decide (a.kind = b.kind) && (a.name == b.name && (decide (a.n = b.n) && a.lang == b.lang))) = false := by
  cases h1 : (decide (a.kind = b.kind) && (a.name == b.name && (decide (a.n = b.n) && a.lang == b.lang))) with
  | false => rfl
  | true =>
    simp only [Bool.and_eq_true, decide_eq_true_eq, beq_iff_eq] at h1
    exact absurd (Adr.ext' h1.1 h1.2.1 h1.2.2.1 h1.2.2.2) h
theorem adr_eqt {a b : Adr} (h : a = b) : (decide (a.kind = b.kind) && (a.name == b.name && (decide (a.n = b.n) && a.lang == b.lang))) = true := by
  subst h; simp
theorem law6 (a0 b0 : Adr) (ha : a0.name.length ≤ 9223372036854775807) (hb : a0.lang.length ≤ 9223372036854775807) (hc : b0.name.length ≤ 9223372036854775807) (hd : b0.lang.length ≤ 9223372036854775807) : ACalls Tryz.prog 6 [adrA a0, adrA b0] (fun r => r = tru true) := by
  have hsl := shortL_len a0
  have hsh := short13 a0 ha hb
  have hsl2 := shortL_len b0
  have hsh2 := short13 b0 hc hd
  obtain ⟨a, ha'⟩ : ∃ a, shortL a0 = a := ⟨_, rfl⟩
  obtain ⟨b, hb'⟩ : ∃ b, shortL b0 = b := ⟨_, rfl⟩
  rw [ha'] at hsl hsh
  rw [hb'] at hsl2 hsh2
  simp only [adrA] at hsh hsh2 ⊢
  refine calls_short [] ttok hmix Tryz.func6 (by decide) (by decide +kernel) (by simp only [Tryz.f6, Option.bind_some, comp, isLend, lendOf, lendX, lendC, lendH, Nat.reduceLeDiff, Nat.reduceSub, ne_eq, not_false_eq_true, and_self, cops, cguard, gslot, List.getElem?_toArray, List.getElem?_cons_succ, List.getElem?_cons_zero, vlook, tlook, cutAt_nil, cutAt, firstReg, isCut, mkSeq, Nat.reduceAdd, Nat.reduceEqDiff, reduceIte]; rfl) Tryz.ntmps6 Tryz.results6 ⟨_, rfl⟩ rfl ?_
  simp only [List.length_cons, List.length_nil, Nat.reduceAdd, Nat.reduceSub, List.replicate_succ, List.replicate_zero, List.cons_append, List.nil_append, num, str, tru]
  simp (decide := true) only [mkd_eq [] [] [] [[], [], [], [], [], []], List.zip_cons_cons, List.zip_nil_left, List.zip_nil_right]
  repeat' first|refine Spl.on (fun _=>?_) (fun _=>?_)|with_reducible refine gd ?_|simp only [go_sem, Int.reduceEq, Int.cast_ofNat_Int, Bool.false_eq_true, xblkG_exit3, List.length_map, beq_self_eq_true, if_true, if_false, bne_self_eq_false, Bool.bne_true, Bool.true_bne, Bool.bne_false, Bool.false_bne]
  refine ((sane12).wk ?_).mono ?_
  · try simp only [num, str]
    repeat first | exact Wk.nil | exact Wk.refl _ | refine wk_agg ?_ ?_ | refine wk_ownsl ?_ | refine wk_nilsl ?_ | refine Wk.same ?_
  rintro r rfl
  try simp only [tru, num, str]
  repeat' first|refine Spl.on (fun _=>?_) (fun _=>?_)|with_reducible refine gd ?_|simp only [go_sem, Int.reduceEq, Int.cast_ofNat_Int, Bool.false_eq_true, xblkG_exit3, List.length_map, beq_self_eq_true, if_true, if_false]
  refine ((hsh).wk ?_).mono ?_
  · try simp only [num, str]
    repeat first | exact Wk.nil | exact Wk.refl _ | refine wk_agg ?_ ?_ | refine wk_ownsl ?_ | refine wk_nilsl ?_ | refine Wk.same ?_
  rintro r rfl
  simp only [num, str]
  repeat' first|refine Spl.on (fun _=>?_) (fun _=>?_)|with_reducible refine gd ?_|simp only [go_sem, Int.reduceEq, Int.cast_ofNat_Int, Bool.false_eq_true, xblkG_exit3, List.length_map, beq_self_eq_true, if_true, if_false, bne_self_eq_false, Bool.bne_true, Bool.true_bne, Bool.bne_false, Bool.false_bne]
  refine ((hsh2).wk ?_).mono ?_
  · try simp only [num, str]
    repeat first | exact Wk.nil | exact Wk.refl _ | refine wk_agg ?_ ?_ | refine wk_ownsl ?_ | refine wk_nilsl ?_ | refine Wk.same ?_
  rintro r rfl
  simp only [num, str]
  repeat' first|refine Spl.on (fun _=>?_) (fun _=>?_)|with_reducible refine gd ?_|simp only [go_sem, Int.reduceEq, Int.cast_ofNat_Int, Bool.false_eq_true, xblkG_exit3, List.length_map, beq_self_eq_true, if_true, if_false, bne_self_eq_false, Bool.bne_true, Bool.true_bne, Bool.bne_false, Bool.false_bne]
  cases hva : validL a
  · cases hvb : validL b
    · refine ((format14 a).wk ?_).mono ?_
      · try simp only [adrA, num, str]
        repeat first | exact Wk.nil | exact Wk.refl _ | refine wk_agg ?_ ?_ | refine wk_ownsl ?_ | refine wk_nilsl ?_ | refine Wk.same ?_
      rintro r rfl
      simp only [fmtA, hva, Bool.false_eq_true, if_false, num, str]
      repeat' first|refine Spl.on (fun _=>?_) (fun _=>?_)|with_reducible refine gd ?_|simp only [go_sem, Int.reduceEq, Int.cast_ofNat_Int, Bool.false_eq_true, xblkG_exit3, List.length_map, beq_self_eq_true, if_true, if_false, bne_self_eq_false, Bool.bne_true, Bool.true_bne, Bool.bne_false, Bool.false_bne, hva, hvb]
      refine ((format14 b).wk ?_).mono ?_
      · try simp only [adrA, num, str]
        repeat first | exact Wk.nil | exact Wk.refl _ | refine wk_agg ?_ ?_ | refine wk_ownsl ?_ | refine wk_nilsl ?_ | refine Wk.same ?_
      rintro r rfl
      simp only [fmtA, hvb, Bool.false_eq_true, if_false, num, str]
      repeat' first|refine Spl.on (fun _=>?_) (fun _=>?_)|with_reducible refine gd ?_|simp only [go_sem, Int.reduceEq, Int.cast_ofNat_Int, Bool.false_eq_true, xblkG_exit3, List.length_map, beq_self_eq_true, if_true, if_false, bne_self_eq_false, Bool.bne_true, Bool.true_bne, Bool.bne_false, Bool.false_bne, hva, hvb]
      refine ((valid16 a).wk ?_).mono ?_
      · try simp only [adrA, num, str]
        repeat first | exact Wk.nil | exact Wk.refl _ | refine wk_agg ?_ ?_ | refine wk_ownsl ?_ | refine wk_nilsl ?_ | refine Wk.same ?_
      rintro r rfl
      simp only [hva, tru]
      repeat' first|refine Spl.on (fun _=>?_) (fun _=>?_)|with_reducible refine gd ?_|simp only [go_sem, Int.reduceEq, Int.cast_ofNat_Int, Bool.false_eq_true, xblkG_exit3, List.length_map, beq_self_eq_true, if_true, if_false, bne_self_eq_false, Bool.bne_true, Bool.true_bne, Bool.bne_false, Bool.false_bne, hva, hvb]
      refine ((urgency18 a).wk ?_).mono ?_
      · try simp only [adrA, num, str]
        repeat first | exact Wk.nil | exact Wk.refl _ | refine wk_agg ?_ ?_ | refine wk_ownsl ?_ | refine wk_nilsl ?_ | refine Wk.same ?_
      rintro r rfl
      simp only [hva, num, if_true, if_false, Bool.false_eq_true]
      repeat' first|refine Spl.on (fun _=>?_) (fun _=>?_)|with_reducible refine gd ?_|simp only [go_sem, Int.reduceEq, Int.cast_ofNat_Int, Bool.false_eq_true, xblkG_exit3, List.length_map, beq_self_eq_true, if_true, if_false, bne_self_eq_false, Bool.bne_true, Bool.true_bne, Bool.bne_false, Bool.false_bne, hva, hvb]
      all_goals first | rfl | (simp [tru]; done) | (simp_all [tru]; done)
    · refine ((format14 a).wk ?_).mono ?_
      · try simp only [adrA, num, str]
        repeat first | exact Wk.nil | exact Wk.refl _ | refine wk_agg ?_ ?_ | refine wk_ownsl ?_ | refine wk_nilsl ?_ | refine Wk.same ?_
      rintro r rfl
      simp only [fmtA, hva, Bool.false_eq_true, if_false, num, str]
      repeat' first|refine Spl.on (fun _=>?_) (fun _=>?_)|with_reducible refine gd ?_|simp only [go_sem, Int.reduceEq, Int.cast_ofNat_Int, Bool.false_eq_true, xblkG_exit3, List.length_map, beq_self_eq_true, if_true, if_false, bne_self_eq_false, Bool.bne_true, Bool.true_bne, Bool.bne_false, Bool.false_bne, hva, hvb]
      refine ((format14 b).wk ?_).mono ?_
      · try simp only [adrA, num, str]
        repeat first | exact Wk.nil | exact Wk.refl _ | refine wk_agg ?_ ?_ | refine wk_ownsl ?_ | refine wk_nilsl ?_ | refine Wk.same ?_
      rintro r rfl
      simp only [fmtA, hvb, if_true, num, str]
      repeat' first|refine Spl.on (fun _=>?_) (fun _=>?_)|with_reducible refine gd ?_|simp only [go_sem, Int.reduceEq, Int.cast_ofNat_Int, Bool.false_eq_true, xblkG_exit3, List.length_map, beq_self_eq_true, if_true, if_false, bne_self_eq_false, Bool.bne_true, Bool.true_bne, Bool.bne_false, Bool.false_bne, hva, hvb]
      refine ((valid16 a).wk ?_).mono ?_
      · try simp only [adrA, num, str]
        repeat first | exact Wk.nil | exact Wk.refl _ | refine wk_agg ?_ ?_ | refine wk_ownsl ?_ | refine wk_nilsl ?_ | refine Wk.same ?_
      rintro r rfl
      simp only [hva, tru]
      repeat' first|refine Spl.on (fun _=>?_) (fun _=>?_)|with_reducible refine gd ?_|simp only [go_sem, Int.reduceEq, Int.cast_ofNat_Int, Bool.false_eq_true, xblkG_exit3, List.length_map, beq_self_eq_true, if_true, if_false, bne_self_eq_false, Bool.bne_true, Bool.true_bne, Bool.bne_false, Bool.false_bne, hva, hvb]
      refine ((urgency18 a).wk ?_).mono ?_
      · try simp only [adrA, num, str]
        repeat first | exact Wk.nil | exact Wk.refl _ | refine wk_agg ?_ ?_ | refine wk_ownsl ?_ | refine wk_nilsl ?_ | refine Wk.same ?_
      rintro r rfl
      simp only [hva, num, if_true, if_false, Bool.false_eq_true]
      repeat' first|refine Spl.on (fun _=>?_) (fun _=>?_)|with_reducible refine gd ?_|simp only [go_sem, Int.reduceEq, Int.cast_ofNat_Int, Bool.false_eq_true, xblkG_exit3, List.length_map, beq_self_eq_true, if_true, if_false, bne_self_eq_false, Bool.bne_true, Bool.true_bne, Bool.bne_false, Bool.false_bne, hva, hvb]
      all_goals first | rfl | (simp [tru]; done) | (simp_all [tru]; done)
  · cases hvb : validL b
    · refine ((format14 a).wk ?_).mono ?_
      · try simp only [adrA, num, str]
        repeat first | exact Wk.nil | exact Wk.refl _ | refine wk_agg ?_ ?_ | refine wk_ownsl ?_ | refine wk_nilsl ?_ | refine Wk.same ?_
      rintro r rfl
      simp only [fmtA, hva, if_true, num, str]
      repeat' first|refine Spl.on (fun _=>?_) (fun _=>?_)|with_reducible refine gd ?_|simp only [go_sem, Int.reduceEq, Int.cast_ofNat_Int, Bool.false_eq_true, xblkG_exit3, List.length_map, beq_self_eq_true, if_true, if_false, bne_self_eq_false, Bool.bne_true, Bool.true_bne, Bool.bne_false, Bool.false_bne, hva, hvb]
      refine ((format14 b).wk ?_).mono ?_
      · try simp only [adrA, num, str]
        repeat first | exact Wk.nil | exact Wk.refl _ | refine wk_agg ?_ ?_ | refine wk_ownsl ?_ | refine wk_nilsl ?_ | refine Wk.same ?_
      rintro r rfl
      simp only [fmtA, hvb, Bool.false_eq_true, if_false, num, str]
      repeat' first|refine Spl.on (fun _=>?_) (fun _=>?_)|with_reducible refine gd ?_|simp only [go_sem, Int.reduceEq, Int.cast_ofNat_Int, Bool.false_eq_true, xblkG_exit3, List.length_map, beq_self_eq_true, if_true, if_false, bne_self_eq_false, Bool.bne_true, Bool.true_bne, Bool.bne_false, Bool.false_bne, hva, hvb]
      refine ((valid16 a).wk ?_).mono ?_
      · try simp only [adrA, num, str]
        repeat first | exact Wk.nil | exact Wk.refl _ | refine wk_agg ?_ ?_ | refine wk_ownsl ?_ | refine wk_nilsl ?_ | refine Wk.same ?_
      rintro r rfl
      simp only [hva, tru]
      repeat' first|refine Spl.on (fun _=>?_) (fun _=>?_)|with_reducible refine gd ?_|simp only [go_sem, Int.reduceEq, Int.cast_ofNat_Int, Bool.false_eq_true, xblkG_exit3, List.length_map, beq_self_eq_true, if_true, if_false, bne_self_eq_false, Bool.bne_true, Bool.true_bne, Bool.bne_false, Bool.false_bne, hva, hvb]
      have hp := parse_fmt hva
      refine ((parse20 (fmtL a) (by have := valid_len hva; omega)).wk ?_).mono ?_
      · try simp only [adrA, num, str]
        repeat first | exact Wk.nil | exact Wk.refl _ | refine wk_agg ?_ ?_ | refine wk_ownsl ?_ | refine wk_nilsl ?_ | refine Wk.same ?_
      rintro r rfl
      simp only [hp, parseA, adrA, adr0, num, str]
      repeat' first|refine Spl.on (fun _=>?_) (fun _=>?_)|with_reducible refine gd ?_|simp only [go_sem, Int.reduceEq, Int.cast_ofNat_Int, Bool.false_eq_true, xblkG_exit3, List.length_map, beq_self_eq_true, if_true, if_false, bne_self_eq_false, Bool.bne_true, Bool.true_bne, Bool.bne_false, Bool.false_bne, hva, hvb]
      all_goals first | rfl | (simp [tru]; done) | (simp_all [tru]; done)
    · by_cases hab : a = b
      · have e1 : (fmtL a == fmtL b) = true := by rw [hab]; simp
        have e2 := adr_eqt hab
        refine ((format14 a).wk ?_).mono ?_
        · try simp only [adrA, num, str]
          repeat first | exact Wk.nil | exact Wk.refl _ | refine wk_agg ?_ ?_ | refine wk_ownsl ?_ | refine wk_nilsl ?_ | refine Wk.same ?_
        rintro r rfl
        simp only [fmtA, hva, if_true, num, str]
        repeat' first|refine Spl.on (fun _=>?_) (fun _=>?_)|with_reducible refine gd ?_|simp only [go_sem, Int.reduceEq, Int.cast_ofNat_Int, Bool.false_eq_true, xblkG_exit3, List.length_map, beq_self_eq_true, if_true, if_false, bne_self_eq_false, Bool.bne_true, Bool.true_bne, Bool.bne_false, Bool.false_bne, hva, hvb, e1, e2]
        refine ((format14 b).wk ?_).mono ?_
        · try simp only [adrA, num, str]
          repeat first | exact Wk.nil | exact Wk.refl _ | refine wk_agg ?_ ?_ | refine wk_ownsl ?_ | refine wk_nilsl ?_ | refine Wk.same ?_
        rintro r rfl
        simp only [fmtA, hvb, if_true, num, str]
        repeat' first|refine Spl.on (fun _=>?_) (fun _=>?_)|with_reducible refine gd ?_|simp only [go_sem, Int.reduceEq, Int.cast_ofNat_Int, Bool.false_eq_true, xblkG_exit3, List.length_map, beq_self_eq_true, if_true, if_false, bne_self_eq_false, Bool.bne_true, Bool.true_bne, Bool.bne_false, Bool.false_bne, hva, hvb, e1, e2]
        refine ((valid16 a).wk ?_).mono ?_
        · try simp only [adrA, num, str]
          repeat first | exact Wk.nil | exact Wk.refl _ | refine wk_agg ?_ ?_ | refine wk_ownsl ?_ | refine wk_nilsl ?_ | refine Wk.same ?_
        rintro r rfl
        simp only [hva, tru]
        repeat' first|refine Spl.on (fun _=>?_) (fun _=>?_)|with_reducible refine gd ?_|simp only [go_sem, Int.reduceEq, Int.cast_ofNat_Int, Bool.false_eq_true, xblkG_exit3, List.length_map, beq_self_eq_true, if_true, if_false, bne_self_eq_false, Bool.bne_true, Bool.true_bne, Bool.bne_false, Bool.false_bne, hva, hvb, e1, e2]
        have hp := parse_fmt hva
        refine ((parse20 (fmtL a) (by have := valid_len hva; omega)).wk ?_).mono ?_
        · try simp only [adrA, num, str]
          repeat first | exact Wk.nil | exact Wk.refl _ | refine wk_agg ?_ ?_ | refine wk_ownsl ?_ | refine wk_nilsl ?_ | refine Wk.same ?_
        rintro r rfl
        simp only [hp, parseA, adrA, adr0, num, str]
        repeat' first|refine Spl.on (fun _=>?_) (fun _=>?_)|with_reducible refine gd ?_|simp only [go_sem, Int.reduceEq, Int.cast_ofNat_Int, Bool.false_eq_true, xblkG_exit3, List.length_map, beq_self_eq_true, if_true, if_false, bne_self_eq_false, Bool.bne_true, Bool.true_bne, Bool.bne_false, Bool.false_bne, hva, hvb, e1, e2]
        all_goals first | rfl | (simp [tru]; done) | (simp_all [tru]; done)
      · have e1 : (fmtL a == fmtL b) = false := by
          cases h : (fmtL a == fmtL b) with
          | false => rfl
          | true => exact absurd (fmt_inj hva hvb (beq_iff_eq.1 h)) hab
        have e2 := adr_eqf hab
        refine ((format14 a).wk ?_).mono ?_
        · try simp only [adrA, num, str]
          repeat first | exact Wk.nil | exact Wk.refl _ | refine wk_agg ?_ ?_ | refine wk_ownsl ?_ | refine wk_nilsl ?_ | refine Wk.same ?_
        rintro r rfl
        simp only [fmtA, hva, if_true, num, str]
        repeat' first|refine Spl.on (fun _=>?_) (fun _=>?_)|with_reducible refine gd ?_|simp only [go_sem, Int.reduceEq, Int.cast_ofNat_Int, Bool.false_eq_true, xblkG_exit3, List.length_map, beq_self_eq_true, if_true, if_false, bne_self_eq_false, Bool.bne_true, Bool.true_bne, Bool.bne_false, Bool.false_bne, hva, hvb, e1, e2]
        refine ((format14 b).wk ?_).mono ?_
        · try simp only [adrA, num, str]
          repeat first | exact Wk.nil | exact Wk.refl _ | refine wk_agg ?_ ?_ | refine wk_ownsl ?_ | refine wk_nilsl ?_ | refine Wk.same ?_
        rintro r rfl
        simp only [fmtA, hvb, if_true, num, str]
        repeat' first|refine Spl.on (fun _=>?_) (fun _=>?_)|with_reducible refine gd ?_|simp only [go_sem, Int.reduceEq, Int.cast_ofNat_Int, Bool.false_eq_true, xblkG_exit3, List.length_map, beq_self_eq_true, if_true, if_false, bne_self_eq_false, Bool.bne_true, Bool.true_bne, Bool.bne_false, Bool.false_bne, hva, hvb, e1, e2]
        refine ((valid16 a).wk ?_).mono ?_
        · try simp only [adrA, num, str]
          repeat first | exact Wk.nil | exact Wk.refl _ | refine wk_agg ?_ ?_ | refine wk_ownsl ?_ | refine wk_nilsl ?_ | refine Wk.same ?_
        rintro r rfl
        simp only [hva, tru]
        repeat' first|refine Spl.on (fun _=>?_) (fun _=>?_)|with_reducible refine gd ?_|simp only [go_sem, Int.reduceEq, Int.cast_ofNat_Int, Bool.false_eq_true, xblkG_exit3, List.length_map, beq_self_eq_true, if_true, if_false, bne_self_eq_false, Bool.bne_true, Bool.true_bne, Bool.bne_false, Bool.false_bne, hva, hvb, e1, e2]
        have hp := parse_fmt hva
        refine ((parse20 (fmtL a) (by have := valid_len hva; omega)).wk ?_).mono ?_
        · try simp only [adrA, num, str]
          repeat first | exact Wk.nil | exact Wk.refl _ | refine wk_agg ?_ ?_ | refine wk_ownsl ?_ | refine wk_nilsl ?_ | refine Wk.same ?_
        rintro r rfl
        simp only [hp, parseA, adrA, adr0, num, str]
        repeat' first|refine Spl.on (fun _=>?_) (fun _=>?_)|with_reducible refine gd ?_|simp only [go_sem, Int.reduceEq, Int.cast_ofNat_Int, Bool.false_eq_true, xblkG_exit3, List.length_map, beq_self_eq_true, if_true, if_false, bne_self_eq_false, Bool.bne_true, Bool.true_bne, Bool.bne_false, Bool.false_bne, hva, hvb, e1, e2]
        all_goals first | rfl | (simp [tru]; done) | (simp_all [tru]; done)
theorem lawA6 (xs : List AV) (h : OfA Tryz.prog [23, 23] xs) : ACalls Tryz.prog 6 xs (fun r => r = tru true) := by
  obtain ⟨_, y, _, rfl, h1, g1⟩ := OfA_cons h
  obtain ⟨_, z, _, rfl, h2, g2⟩ := OfA_cons g1
  obtain rfl := OfA_nil g2
  obtain ⟨a, rfl, k1, k2⟩ := OfE_adr h1
  obtain ⟨b, rfl, k3, k4⟩ := OfE_adr h2
  unfold maxLen at k1 k2 k3 k4
  exact law6 a b (by omega) (by omega) (by omega) (by omega)
end Go.Proofs.YtkafbgdokgfjmaaGreatDoor
