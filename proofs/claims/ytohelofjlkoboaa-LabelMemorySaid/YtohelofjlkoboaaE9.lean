/- sane, and the laws of joins. -/
import Derived.Test.YtohelofjlkoboaaT
import Derived.Test.YtohelofjlkoboaaA10
import Derived.Test.YtohelofjlkoboaaE8
import Derived.Test.YtohelofjlkoboaaE6
namespace Go.Proofs.Ytohelofjlkoboaa
open Go.RowKit Go.Proofs
set_option linter.unusedSimpArgs false
set_option linter.unusedVariables false
set_option maxRecDepth 100000
set_option maxHeartbeats 4000000
theorem nums_nil : nums [] = [] := rfl
def lbA : Lb := ⟨5, [2], 1, 2⟩
def lbB : Lb := ⟨3, [1, 2, 7], 0, 4⟩
def lbJ : Lb := ⟨5, [1, 2, 7], 1, 6⟩
theorem jAB : joinL lbA lbB = lbJ := by kernel_rfl
theorem sane13 : ACalls Try.prog 13 [] (fun r => r = tru true) := by
  refine calls_short [] ttok hmix Try.func13 (by decide) (by decide +kernel) (by simp only [Try.f13, Option.bind_some, comp, isLend, lendOf, lendX, lendC, lendH, Nat.reduceLeDiff, Nat.reduceSub, ne_eq, not_false_eq_true, and_self, cops, cguard, gslot, List.getElem?_toArray, List.getElem?_cons_succ, List.getElem?_cons_zero, vlook, tlook, cutAt_nil, cutAt, firstReg, isCut, mkSeq, Nat.reduceAdd, Nat.reduceEqDiff, reduceIte]; rfl) Try.ntmps13 Try.results13 ⟨_, rfl⟩ rfl ?_
  simp only [List.length_cons, List.length_nil, Nat.reduceAdd, Nat.reduceSub, List.replicate_succ, List.replicate_zero, List.cons_append, List.nil_append, num, str, tru]
  simp only [go_sem, num, tru]
  repeat' first|refine Spl.on (fun _=>?_) (fun _=>?_)|with_reducible refine gd ?_|simp only [go_sem]
  refine ((join22' lbA lbB (by decide) (by decide)).wk ?_).mono ?_
  · simp only [lab, num, nums_nil, lbA, lbB, lbJ]
    repeat first | exact Wk.nil | exact Wk.refl _ | refine wk_agg ?_ ?_ | refine wk_ownsl ?_ | refine wk_nilsl ?_ | refine Wk.same ?_
  rintro r rfl
  rw [jAB]
  simp only [tru, labO, num]
  repeat' first|refine Spl.on (fun _=>?_) (fun _=>?_)|with_reducible refine gd ?_|simp only [go_sem, lbJ]
  refine ((same18 lbJ ⟨5, [1, 2, 7], 1, 6⟩ (by decide)).wk ?_).mono ?_
  · simp only [lab, num, nums_nil, lbA, lbB, lbJ]
    repeat first | exact Wk.nil | exact Wk.refl _ | refine wk_agg ?_ ?_ | refine wk_ownsl ?_ | refine wk_nilsl ?_ | refine Wk.same ?_
  rintro r rfl
  rw [show sameL lbJ ⟨5, [1, 2, 7], 1, 6⟩ = true from by kernel_rfl]
  simp only [tru, labO, num]
  repeat' first|refine Spl.on (fun _=>?_) (fun _=>?_)|with_reducible refine gd ?_|simp only [go_sem, lbJ]
  refine ((leq20 lbA lbJ (by decide) (by decide)).wk ?_).mono ?_
  · simp only [lab, num, nums_nil, lbA, lbB, lbJ]
    repeat first | exact Wk.nil | exact Wk.refl _ | refine wk_agg ?_ ?_ | refine wk_ownsl ?_ | refine wk_nilsl ?_ | refine Wk.same ?_
  rintro r rfl
  rw [show leqL lbA lbJ = true from by kernel_rfl]
  simp only [tru, labO, num]
  repeat' first|refine Spl.on (fun _=>?_) (fun _=>?_)|with_reducible refine gd ?_|simp only [go_sem, lbJ]
  refine ((leq20 lbJ lbA (by decide) (by decide)).wk ?_).mono ?_
  · simp only [lab, num, nums_nil, lbA, lbB, lbJ]
    repeat first | exact Wk.nil | exact Wk.refl _ | refine wk_agg ?_ ?_ | refine wk_ownsl ?_ | refine wk_nilsl ?_ | refine Wk.same ?_
  rintro r rfl
  rw [show leqL lbJ lbA = false from by kernel_rfl]
  simp only [tru, labO, num]
  repeat' first|refine Spl.on (fun _=>?_) (fun _=>?_)|with_reducible refine gd ?_|simp only [go_sem, lbJ]
  refine ((same18 lbA lbB (by decide)).wk ?_).mono ?_
  · simp only [lab, num, nums_nil, lbA, lbB, lbJ]
    repeat first | exact Wk.nil | exact Wk.refl _ | refine wk_agg ?_ ?_ | refine wk_ownsl ?_ | refine wk_nilsl ?_ | refine Wk.same ?_
  rintro r rfl
  rw [show sameL lbA lbB = false from by kernel_rfl]
  simp only [tru, labO, num]
  repeat' first|refine Spl.on (fun _=>?_) (fun _=>?_)|with_reducible refine gd ?_|simp only [go_sem, lbJ]
  refine ((allows24 lbJ 0 5 [7, 1, 2] 1 (by decide) (by decide)).wk ?_).mono ?_
  · simp only [lab, num, nums_nil, lbA, lbB, lbJ]
    repeat first | exact Wk.nil | exact Wk.refl _ | refine wk_agg ?_ ?_ | refine wk_ownsl ?_ | refine wk_nilsl ?_ | refine Wk.same ?_
  rintro r rfl
  rw [show allowsL lbJ 0 5 [7, 1, 2] 1 = true from by kernel_rfl]
  simp only [tru, labO, num]
  repeat' first|refine Spl.on (fun _=>?_) (fun _=>?_)|with_reducible refine gd ?_|simp only [go_sem, lbJ]
  refine ((allows24 lbJ 0 4 [7, 1, 2] 1 (by decide) (by decide)).wk ?_).mono ?_
  · simp only [lab, num, nums_nil, lbA, lbB, lbJ]
    repeat first | exact Wk.nil | exact Wk.refl _ | refine wk_agg ?_ ?_ | refine wk_ownsl ?_ | refine wk_nilsl ?_ | refine Wk.same ?_
  rintro r rfl
  rw [show allowsL lbJ 0 4 [7, 1, 2] 1 = false from by kernel_rfl]
  simp only [tru, labO, num]
  repeat' first|refine Spl.on (fun _=>?_) (fun _=>?_)|with_reducible refine gd ?_|simp only [go_sem, lbJ]
  refine ((allows24 lbJ 0 5 [7, 1] 1 (by decide) (by decide)).wk ?_).mono ?_
  · simp only [lab, num, nums_nil, lbA, lbB, lbJ]
    repeat first | exact Wk.nil | exact Wk.refl _ | refine wk_agg ?_ ?_ | refine wk_ownsl ?_ | refine wk_nilsl ?_ | refine Wk.same ?_
  rintro r rfl
  rw [show allowsL lbJ 0 5 [7, 1] 1 = false from by kernel_rfl]
  simp only [tru, labO, num]
  repeat' first|refine Spl.on (fun _=>?_) (fun _=>?_)|with_reducible refine gd ?_|simp only [go_sem, lbJ]
  refine ((allows24 lbJ 0 5 [7, 1, 2] 0 (by decide) (by decide)).wk ?_).mono ?_
  · simp only [lab, num, nums_nil, lbA, lbB, lbJ]
    repeat first | exact Wk.nil | exact Wk.refl _ | refine wk_agg ?_ ?_ | refine wk_ownsl ?_ | refine wk_nilsl ?_ | refine Wk.same ?_
  rintro r rfl
  rw [show allowsL lbJ 0 5 [7, 1, 2] 0 = false from by kernel_rfl]
  simp only [tru, labO, num]
  repeat' first|refine Spl.on (fun _=>?_) (fun _=>?_)|with_reducible refine gd ?_|simp only [go_sem, lbJ]
  refine ((allows24 lbJ 1 5 [7, 1, 2] 1 (by decide) (by decide)).wk ?_).mono ?_
  · simp only [lab, num, nums_nil, lbA, lbB, lbJ]
    repeat first | exact Wk.nil | exact Wk.refl _ | refine wk_agg ?_ ?_ | refine wk_ownsl ?_ | refine wk_nilsl ?_ | refine Wk.same ?_
  rintro r rfl
  rw [show allowsL lbJ 1 5 [7, 1, 2] 1 = false from by kernel_rfl]
  simp only [tru, labO, num]
  repeat' first|refine Spl.on (fun _=>?_) (fun _=>?_)|with_reducible refine gd ?_|simp only [go_sem, lbJ]
  refine ((valid16 ⟨0, [2, 2], 0, 0⟩ (by decide)).wk ?_).mono ?_
  · simp only [lab, num, nums_nil, lbA, lbB, lbJ]
    repeat first | exact Wk.nil | exact Wk.refl _ | refine wk_agg ?_ ?_ | refine wk_ownsl ?_ | refine wk_nilsl ?_ | refine Wk.same ?_
  rintro r rfl
  rw [show okL ⟨0, [2, 2], 0, 0⟩ = false from by kernel_rfl]
  simp only [tru, labO, num]
  repeat' first|refine Spl.on (fun _=>?_) (fun _=>?_)|with_reducible refine gd ?_|simp only [go_sem, lbJ]
  refine ((valid16 ⟨0, [], 0, 16⟩ (by decide)).wk ?_).mono ?_
  · simp only [lab, num, nums_nil, lbA, lbB, lbJ]
    repeat first | exact Wk.nil | exact Wk.refl _ | refine wk_agg ?_ ?_ | refine wk_ownsl ?_ | refine wk_nilsl ?_ | refine Wk.same ?_
  rintro r rfl
  rw [show okL ⟨0, [], 0, 16⟩ = false from by kernel_rfl]
  simp only [tru, labO, num]
  repeat' first|refine Spl.on (fun _=>?_) (fun _=>?_)|with_reducible refine gd ?_|simp only [go_sem, lbJ]
  refine ((valid16 ⟨1000000000, [], 0, 0⟩ (by decide)).wk ?_).mono ?_
  · simp only [lab, num, nums_nil, lbA, lbB, lbJ]
    repeat first | exact Wk.nil | exact Wk.refl _ | refine wk_agg ?_ ?_ | refine wk_ownsl ?_ | refine wk_nilsl ?_ | refine Wk.same ?_
  rintro r rfl
  rw [show okL ⟨1000000000, [], 0, 0⟩ = true from by kernel_rfl]
  simp only [tru, labO, num]
  repeat' first|refine Spl.on (fun _=>?_) (fun _=>?_)|with_reducible refine gd ?_|simp only [go_sem, lbJ]
theorem sameL_iff {a b : Lb} : sameL a b = true ↔ a = b := by
  cases a; cases b
  simp [sameL, and_assoc]
theorem sameL_rfl (a : Lb) : sameL a a = true := sameL_iff.2 rfl
theorem len_ok {a : Lb} (h : okL a = true) : a.a.length ≤ 1000000 := by have := asc_len (okL_a h); omega
theorem bit_all : ∀ (x y : Fin 16) (c : Fin 4), bitL (or4 x.val y.val) c.val = (bitL x.val c.val || bitL y.val c.val) := by decide +kernel
theorem bit_or {x y : Int} (hx : 0 ≤ x ∧ x ≤ 15) (hy : 0 ≤ y ∧ y ≤ 15) {c : Nat} (hc : c < 4) : bitL (or4 x y) c = (bitL x c || bitL y c) := by
  obtain ⟨i, rfl⟩ := fin_of (n := 16) hx.1 (by omega)
  obtain ⟨j, rfl⟩ := fin_of (n := 16) hy.1 (by omega)
  exact bit_all i j ⟨c, hc⟩
theorem or4_range (x y : Int) : 0 ≤ or4 x y ∧ or4 x y ≤ 15 := by unfold or4; split <;> split <;> split <;> split <;> omega
theorem or4_comm (x y : Int) : or4 x y = or4 y x := by simp only [or4, Bool.or_comm]
theorem or4_assoc {x y z : Int} (hx : 0 ≤ x ∧ x ≤ 15) (hy : 0 ≤ y ∧ y ≤ 15) (hz : 0 ≤ z ∧ z ≤ 15) : or4 (or4 x y) z = or4 x (or4 y z) := by
  unfold or4
  rw [show (if (bitL x 0 || bitL y 0) = true then (1 : Int) else 0) + (if (bitL x 1 || bitL y 1) = true then 2 else 0) + (if (bitL x 2 || bitL y 2) = true then 4 else 0) + (if (bitL x 3 || bitL y 3) = true then 8 else 0) = or4 x y from rfl,
    show (if (bitL y 0 || bitL z 0) = true then (1 : Int) else 0) + (if (bitL y 1 || bitL z 1) = true then 2 else 0) + (if (bitL y 2 || bitL z 2) = true then 4 else 0) + (if (bitL y 3 || bitL z 3) = true then 8 else 0) = or4 y z from rfl]
  simp only [bit_or hx hy (by decide : 0 < 4), bit_or hx hy (by decide : 1 < 4), bit_or hx hy (by decide : 2 < 4), bit_or hx hy (by decide : 3 < 4), bit_or hy hz (by decide : 0 < 4), bit_or hy hz (by decide : 1 < 4), bit_or hy hz (by decide : 2 < 4), bit_or hy hz (by decide : 3 < 4), Bool.or_assoc]
theorem or4_idem_all : ∀ x : Fin 16, or4 x.val x.val = x.val := by decide +kernel
theorem or4_idem {x : Int} (hx : 0 ≤ x ∧ x ≤ 15) : or4 x x = x := by
  obtain ⟨i, rfl⟩ := fin_of (n := 16) hx.1 (by omega)
  exact or4_idem_all i
theorem or4_zero_all : ∀ x : Fin 16, or4 x.val 0 = x.val := by decide +kernel
theorem or4_zero {x : Int} (hx : 0 ≤ x ∧ x ≤ 15) : or4 x 0 = x := by
  obtain ⟨i, rfl⟩ := fin_of (n := 16) hx.1 (by omega)
  exact or4_zero_all i
theorem ok_zero : okL zeroL = true := by decide
theorem join_eq {a b : Lb} (ha : okL a = true) (hb : okL b = true) : joinL a b = ⟨max a.u b.u, joinA a.a b.a, max a.n b.n, or4 a.d b.d⟩ := by
  simp only [joinL, ha, hb, Bool.and_self, if_true]
theorem asc_joinA (a b : List Int) : asc 0 (joinA a b) = true := asc_filter 0 ids _ asc_ids
theorem joinA_comm (a b : List Int) : joinA a b = joinA b a := by
  simp only [joinA]
  congr 1
  funext x
  simp only [inAny, Bool.or_comm]
theorem join_comm {a b : Lb} (ha : okL a = true) (hb : okL b = true) : joinL a b = joinL b a := by
  rw [join_eq ha hb, join_eq hb ha, Int.max_comm, joinA_comm, Int.max_comm a.n, or4_comm]
theorem join_assoc {a b c : Lb} (ha : okL a = true) (hb : okL b = true) (hc : okL c = true) : joinL (joinL a b) c = joinL a (joinL b c) := by
  rw [join_eq (ok_join ha hb) hc, join_eq ha (ok_join hb hc), join_eq ha hb, join_eq hb hc]
  have e : joinA (joinA a.a b.a) c.a = joinA a.a (joinA b.a c.a) := by
    refine ext_lt (joinA_pw _ _) (joinA_pw _ _) fun x => ?_
    rw [mem_joinA (asc_joinA _ _) (okL_a hc), mem_joinA (okL_a ha) (okL_a hb), mem_joinA (okL_a ha) (asc_joinA _ _), mem_joinA (okL_a hb) (okL_a hc), or_assoc]
  simp only [e, Int.max_assoc, or4_assoc (okL_d ha) (okL_d hb) (okL_d hc)]
theorem join_idem {a : Lb} (ha : okL a = true) : joinL a a = a := by
  have e : joinA a.a a.a = a.a := by
    refine ext_lt (joinA_pw _ _) (asc_pw (okL_a ha)).1 fun x => ?_
    rw [mem_joinA (okL_a ha) (okL_a ha), or_self]
  rw [join_eq ha ha, e, Int.max_self, Int.max_self, or4_idem (okL_d ha)]
theorem join_zero {a : Lb} (ha : okL a = true) : joinL a zeroL = a := by
  have e : joinA a.a [] = a.a := by
    refine ext_lt (joinA_pw _ _) (asc_pw (okL_a ha)).1 fun x => ?_
    rw [mem_joinA (okL_a ha) rfl]; simp
  have h1 := okL_u ha
  have h2 := okL_n ha
  rw [join_eq ha ok_zero, show zeroL.u = 0 from rfl, show zeroL.n = 0 from rfl, show zeroL.d = 0 from rfl, show zeroL.a = [] from rfl, e, or4_zero (okL_d ha), Int.max_eq_left h1.1, Int.max_eq_left h2.1]
theorem zero_join {a : Lb} (ha : okL a = true) : joinL zeroL a = a := by rw [join_comm ok_zero ha, join_zero ha]
end Go.Proofs.Ytohelofjlkoboaa
