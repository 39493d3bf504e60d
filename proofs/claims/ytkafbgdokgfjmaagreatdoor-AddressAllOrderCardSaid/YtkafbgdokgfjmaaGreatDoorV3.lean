/- sane (without the reference) -/
import Derived.Test.YtkafbgdokgfjmaaGreatDoorT
import Derived.Test.YtkafbgdokgfjmaaGreatDoorA10
import Derived.Test.YtkafbgdokgfjmaaGreatDoorA11
import Derived.Test.YtkafbgdokgfjmaaGreatDoorV2
namespace Go.Proofs.YtkafbgdokgfjmaaGreatDoor
open Go.RowKit Go.Proofs
set_option linter.unusedSimpArgs false
set_option linter.unusedVariables false
set_option maxRecDepth 100000
set_option maxHeartbeats 4000000

def aS : Adr := ⟨2, [], 7, [101, 110]⟩
def aN : Adr := ⟨1, [97], 0, []⟩
def aT : Adr := ⟨3, [99, 105, 116, 121, 45, 104, 97, 108, 108], 2, []⟩
theorem aS_v : validL aS = true := by decide +kernel
theorem aN_v : validL aN = false := by decide +kernel
theorem aT_v : validL aT = true := by decide +kernel
theorem aS_f : fmtL aS = [47, 115, 116, 111, 114, 121, 47, 55, 47, 101, 110] := by
  show 47 :: Lib.join [wStory, dec 7, [101, 110]] [47] = _
  rw [dec_eq (by decide) (by decide)]
  decide +kernel
theorem aT_f : fmtL aT = [47, 116, 111, 112, 105, 99, 47, 99, 105, 116, 121, 45, 104, 97, 108, 108, 47, 50] := by
  show 47 :: Lib.join [wTopic, [99, 105, 116, 121, 45, 104, 97, 108, 108], dec 2] [47] = _
  rw [dec_eq (by decide) (by decide)]
  decide +kernel
theorem p2 : parseL [47, 116, 111, 112, 105, 99, 47, 99, 105, 116, 121, 45, 104, 97, 108, 108, 47, 50] = some aT := by rw [← aT_f]; exact parse_fmt aT_v
theorem p3 : parseL [47, 116, 111, 112, 105, 99, 47, 97, 47, 48, 50] = none := by
  cases h : parseL [47, 116, 111, 112, 105, 99, 47, 97, 47, 48, 50] with
  | none => rfl
  | some a =>
    obtain ⟨h1, h2⟩ := parse_some h
    have h3 := cand_fmt h1
    rw [h2] at h3
    have h4 : cand [47, 116, 111, 112, 105, 99, 47, 97, 47, 48, 50] = ⟨3, [97], 2, []⟩ := Adr.ext' (by decide +kernel) (by decide +kernel) (by decide +kernel) (by decide +kernel)
    rw [h4] at h3
    subst h3
    have h5 : fmtL ⟨3, [97], 2, []⟩ = [47, 116, 111, 112, 105, 99, 47, 97, 47, 50] := by
      show 47 :: Lib.join [wTopic, [97], dec 2] [47] = _
      rw [dec_eq (by decide) (by decide)]
      decide +kernel
    rw [h5] at h2
    exact absurd h2 (by decide)
def b0 : List Str := [[47], 47 :: wMap]
theorem b0_asc : b0.Pairwise (· < ·) := by
  unfold b0
  refine List.pairwise_cons.2 ⟨fun x hx => ?_, List.pairwise_singleton _ _⟩
  rw [List.mem_singleton] at hx
  subst hx
  exact of_decide_eq_true rfl
theorem fmt1 : fmtL adr1 = [47] ∧ validL adr1 = true := by decide +kernel
theorem fmt6 : fmtL adr6 = 47 :: wMap ∧ validL adr6 = true := by decide +kernel
theorem all0 : allL [] = b0 := by
  refine dst_of b0_asc fun x => ?_
  have : fmF (adL []) = b0 := by
    show (List.filter validL [adr1, adr6]).map fmtL = b0
    rw [List.filter_cons_of_pos fmt1.2, List.filter_cons_of_pos fmt6.2, List.filter_nil, List.map_cons, List.map_cons, List.map_nil, fmt1.1, fmt6.1]
    rfl
  rw [this]
theorem f1 : fmtA aS = .tup [.raw (.string ⟨[47, 115, 116, 111, 114, 121, 47, 55, 47, 101, 110].toArray⟩), .raw (.int .i64 0)] := by rw [fmtA, if_pos aS_v, aS_f]; rfl
theorem f2 : fmtA aN = .tup [.raw (.string ⟨([] : Str).toArray⟩), .raw (.int .i64 120)] := by rw [fmtA, aN_v]; rfl
theorem pa2 : parseA (parseL [47, 116, 111, 112, 105, 99, 47, 99, 105, 116, 121, 45, 104, 97, 108, 108, 47, 50]) = .tup [.agg [.raw (.int .i64 3), .raw (.string ⟨[99, 105, 116, 121, 45, 104, 97, 108, 108].toArray⟩), .raw (.int .i64 2), .raw (.string ⟨([] : Str).toArray⟩)], .raw (.int .i64 0)] := by rw [p2]; rfl
theorem pa3 : parseA (parseL [47, 116, 111, 112, 105, 99, 47, 97, 47, 48, 50]) = .tup [.agg [.raw (.int .i64 0), .raw (.string ⟨([] : Str).toArray⟩), .raw (.int .i64 0), .raw (.string ⟨([] : Str).toArray⟩)], .raw (.int .i64 120)] := by rw [p3]; rfl
theorem sane12 : ACalls Tryz.prog 12 [] (fun r => r = tru true) := by
  refine calls_short [] ttok hmix Tryz.func12 (by decide) (by decide +kernel) (by simp only [Tryz.f12, Option.bind_some, comp, isLend, lendOf, lendX, lendC, lendH, Nat.reduceLeDiff, Nat.reduceSub, ne_eq, not_false_eq_true, and_self, cops, cguard, gslot, List.getElem?_toArray, List.getElem?_cons_succ, List.getElem?_cons_zero, vlook, tlook, cutAt_nil, cutAt, firstReg, isCut, mkSeq, Nat.reduceAdd, Nat.reduceEqDiff, reduceIte]; rfl) Tryz.ntmps12 Tryz.results12 ⟨_, rfl⟩ rfl ?_
  simp only [List.length_cons, List.length_nil, Nat.reduceAdd, Nat.reduceSub, List.replicate_succ, List.replicate_zero, List.cons_append, List.nil_append, num, str, tru]
  repeat' first|refine Spl.on (fun _=>?_) (fun _=>?_)|with_reducible refine gd ?_|simp only [go_sem, Int.reduceEq, Int.cast_ofNat_Int, Bool.false_eq_true, xblkG_exit3, List.length_map, beq_self_eq_true, List.length_cons, List.length_nil]
  refine ((format14 aS).wk ?_).mono ?_
  · try simp only [adrA, aS, num, str]
    repeat first | exact Wk.nil | exact Wk.refl _ | refine wk_agg ?_ ?_ | refine wk_ownsl ?_ | refine wk_nilsl ?_ | refine Wk.same ?_
  rintro r rfl
  simp only [f1]
  repeat' first|refine Spl.on (fun _=>?_) (fun _=>?_)|with_reducible refine gd ?_|simp only [go_sem, Int.reduceEq, Int.cast_ofNat_Int, Bool.false_eq_true, xblkG_exit3, List.length_map, beq_self_eq_true, List.length_cons, List.length_nil]
  refine ((format14 aN).wk ?_).mono ?_
  · try simp only [adrA, aN, num, str]
    repeat first | exact Wk.nil | exact Wk.refl _ | refine wk_agg ?_ ?_ | refine wk_ownsl ?_ | refine wk_nilsl ?_ | refine Wk.same ?_
  rintro r rfl
  simp only [f2]
  repeat' first|refine Spl.on (fun _=>?_) (fun _=>?_)|with_reducible refine gd ?_|simp only [go_sem, Int.reduceEq, Int.cast_ofNat_Int, Bool.false_eq_true, xblkG_exit3, List.length_map, beq_self_eq_true, List.length_cons, List.length_nil]
  refine ((parse20 [47, 116, 111, 112, 105, 99, 47, 99, 105, 116, 121, 45, 104, 97, 108, 108, 47, 50] (by decide)).wk ?_).mono ?_
  · try simp only [adrA, num, str]
    repeat first | exact Wk.nil | exact Wk.refl _ | refine wk_agg ?_ ?_ | refine wk_ownsl ?_ | refine wk_nilsl ?_ | refine Wk.same ?_
  rintro r rfl
  simp only [pa2]
  repeat' first|refine Spl.on (fun _=>?_) (fun _=>?_)|with_reducible refine gd ?_|simp only [go_sem, Int.reduceEq, Int.cast_ofNat_Int, Bool.false_eq_true, xblkG_exit3, List.length_map, beq_self_eq_true, List.length_cons, List.length_nil]
  refine ((parse20 [47, 116, 111, 112, 105, 99, 47, 97, 47, 48, 50] (by decide)).wk ?_).mono ?_
  · try simp only [adrA, num, str]
    repeat first | exact Wk.nil | exact Wk.refl _ | refine wk_agg ?_ ?_ | refine wk_ownsl ?_ | refine wk_nilsl ?_ | refine Wk.same ?_
  rintro r rfl
  simp only [pa3]
  repeat' first|refine Spl.on (fun _=>?_) (fun _=>?_)|with_reducible refine gd ?_|simp only [go_sem, Int.reduceEq, Int.cast_ofNat_Int, Bool.false_eq_true, xblkG_exit3, List.length_map, beq_self_eq_true, List.length_cons, List.length_nil]
  refine ((all24 [] [] (by decide) (by simp) (by simp) (by simp) (by decide) (by decide) (by decide)).wk ?_).mono ?_
  · simp only [stA, List.map_nil]
    repeat first | exact Wk.nil | exact Wk.refl _ | refine wk_agg ?_ ?_ | refine wk_ownsl ?_ | refine wk_nilsl ?_ | refine Wk.same ?_
  rintro r rfl
  simp only [all0, b0, wMap, List.map_cons, List.map_nil, str]
  repeat' first|refine Spl.on (fun _=>?_) (fun _=>?_)|with_reducible refine gd ?_|simp only [go_sem, Int.reduceEq, Int.cast_ofNat_Int, Bool.false_eq_true, xblkG_exit3, List.length_map, beq_self_eq_true, List.length_cons, List.length_nil]
  refine ((valid16 aT).wk ?_).mono ?_
  · try simp only [adrA, aT, num, str]
    repeat first | exact Wk.nil | exact Wk.refl _ | refine wk_agg ?_ ?_ | refine wk_ownsl ?_ | refine wk_nilsl ?_ | refine Wk.same ?_
  rintro r rfl
  simp only [aT_v, tru]
  repeat' first|refine Spl.on (fun _=>?_) (fun _=>?_)|with_reducible refine gd ?_|simp only [go_sem, Int.reduceEq, Int.cast_ofNat_Int, Bool.false_eq_true, xblkG_exit3, List.length_map, beq_self_eq_true, List.length_cons, List.length_nil]
  refine ((urgency18 aT).wk ?_).mono ?_
  · try simp only [adrA, aT, num, str]
    repeat first | exact Wk.nil | exact Wk.refl _ | refine wk_agg ?_ ?_ | refine wk_ownsl ?_ | refine wk_nilsl ?_ | refine Wk.same ?_
  rintro r rfl
  simp only [aT_v, if_true, urgL, aT, num, Int.reduceEq, if_false]
  repeat' first|refine Spl.on (fun _=>?_) (fun _=>?_)|with_reducible refine gd ?_|simp only [go_sem, Int.reduceEq, Int.cast_ofNat_Int, Bool.false_eq_true, xblkG_exit3, List.length_map, beq_self_eq_true, List.length_cons, List.length_nil]
  all_goals first | rfl | (simp [tru]; done)
def shortL (a : Adr) : Adr := ⟨a.kind, a.name.take 40, a.n, a.lang.take 40⟩
theorem take_min (s : Str) (n : Nat) : s.take (min (s.length : Int) n).toNat = s.take n := by
  rcases Nat.le_total s.length n with h | h
  · rw [show (min (s.length : Int) n).toNat = s.length by omega, List.take_length, List.take_of_length_le h]
  · rw [show (min (s.length : Int) n).toNat = n by omega]
theorem short13 (a : Adr) (ha : a.name.length ≤ 9223372036854775807) (hb : a.lang.length ≤ 9223372036854775807) : ACalls Tryz.prog 13 [adrA a] (fun r => r = adrA (shortL a)) := by
  have h1 := take_min a.name 40
  have h2 := take_min a.lang 40
  simp only [Int.cast_ofNat_Int] at h1 h2
  simp only [adrA]
  refine calls_short [] ttok hmix Tryz.func13 (by decide) (by decide +kernel) (by simp only [Tryz.f13, Option.bind_some, comp, isLend, lendOf, lendX, lendC, lendH, Nat.reduceLeDiff, Nat.reduceSub, ne_eq, not_false_eq_true, and_self, cops, cguard, gslot, List.getElem?_toArray, List.getElem?_cons_succ, List.getElem?_cons_zero, vlook, tlook, cutAt_nil, cutAt, firstReg, isCut, mkSeq, Nat.reduceAdd, Nat.reduceEqDiff, reduceIte]; rfl) Tryz.ntmps13 Tryz.results13 ⟨_, rfl⟩ rfl ?_
  simp only [List.length_cons, List.length_nil, Nat.reduceAdd, Nat.reduceSub, List.replicate_succ, List.replicate_zero, List.cons_append, List.nil_append, num, str, tru]
  repeat' first|refine Spl.on (fun _=>?_) (fun _=>?_)|with_reducible refine gd ?_|simp only [go_sem, Int.reduceEq, Int.cast_ofNat_Int, Bool.false_eq_true, xblkG_exit3, List.length_map, h1, h2]
  all_goals first | rfl | omega | (simp [shortL, h1, h2, num, str]; done)
end Go.Proofs.YtkafbgdokgfjmaaGreatDoor
