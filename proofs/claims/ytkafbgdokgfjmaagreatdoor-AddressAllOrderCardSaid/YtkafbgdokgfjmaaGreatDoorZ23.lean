/- The law AddressAllOrder (the walk). -/
import Derived.Test.YtkafbgdokgfjmaaGreatDoorT
import Derived.Test.YtkafbgdokgfjmaaGreatDoorA10
import Derived.Test.YtkafbgdokgfjmaaGreatDoorA11
import Derived.Test.YtkafbgdokgfjmaaGreatDoorA13
import Derived.Test.YtkafbgdokgfjmaaGreatDoorV5
import Derived.Test.YtkafbgdokgfjmaaGreatDoorZ24
namespace Go.Proofs.YtkafbgdokgfjmaaGreatDoor
open Go.RowKit Go.Proofs
set_option linter.unusedSimpArgs false
set_option linter.unusedVariables false
set_option maxRecDepth 100000
set_option maxHeartbeats 4000000
theorem exch_perm (L : List Sto) {i j : Nat} (hi : i < L.length) (hj : j < L.length) : ∃ M : List Sto, exch2 (L.map sto) i j = M.map sto ∧ L.Perm M := by
  refine ⟨(L.set i L[j]).set j L[i], ?_, (List.set_set_perm hi hj).symm⟩
  have h1 : (L.map sto).getD j .any = sto L[j] := by rw [List.getD_eq_getElem?_getD, List.getElem?_map, List.getElem?_eq_getElem hj]; rfl
  have h2 : (L.map sto).getD i .any = sto L[i] := by rw [List.getD_eq_getElem?_getD, List.getElem?_map, List.getElem?_eq_getElem hi]; rfl
  unfold exch2
  rw [h1, h2, List.map_set, List.map_set]
theorem LOk.perm {L M : List Sto} (h : LOk L) (p : L.Perm M) : LOk M :=
  ⟨by rw [← p.length_eq]; exact h.len, fun s hs => h.tp s (p.mem_iff.2 hs), fun s hs => h.ed s (p.mem_iff.2 hs), fun s hs => h.tn s (p.mem_iff.2 hs), fun s hs => h.an s (p.mem_iff.2 hs)⟩
theorem stos_ok (L : List Sto) : ∀ x ∈ L.map sto, ∃ cs, x = .agg cs ∧ cs.map v1 = cs ∧ cs.length = 8 := fun x hx => by
  obtain ⟨s, _, rfl⟩ := List.mem_map.1 hx
  exact ⟨_, rfl, rfl, rfl⟩
theorem lawA9 (xs : List AV) (h : OfA Tryz.prog [34, 3, 3] xs) : ACalls Tryz.prog 9 xs (fun r => r = tru true) := by
  obtain ⟨_, y0, _, rfl, h0, g0⟩ := OfA_cons h
  obtain ⟨_, y1, _, rfl, h1, g1⟩ := OfA_cons g0
  obtain ⟨_, y2, _, rfl, h2, g2⟩ := OfA_cons g1
  obtain rfl := OfA_nil g2
  obtain ⟨l, rfl, hl1, hl2⟩ := items_of h0
  obtain ⟨i, rfl, hi⟩ := OfE_i64 Tryz.underlying3 h1
  obtain ⟨j, rfl, hj⟩ := OfE_i64 Tryz.underlying3 h2
  simp only [num]
  refine calls_shortX [] [3, 4, 6, 7, 8] ttok hmix Tryz.func9 (by decide) (by decide +kernel) (by simp only [Tryz.f9, Option.bind_some, compX, esc, inE, mkB, mkX1, mkX2, Bool.or_false, Bool.false_or, Bool.or_true, Bool.true_or, Bool.or_self, cond_true, cond_false, comp, isLend, lendOf, lendX, lendC, lendH, Nat.reduceLeDiff, Nat.reduceSub, ne_eq, not_false_eq_true, and_self, cops, cguard, gslot, List.getElem?_toArray, List.getElem?_cons_succ, List.getElem?_cons_zero, vlook, tlook, cutAt_nil, cutAt, firstReg, isCut, mkSeq, Nat.reduceAdd, Nat.reduceEqDiff, reduceIte]; rfl) Tryz.ntmps9 Tryz.results9 ⟨_, rfl⟩ rfl ?_
  simp only [List.length_cons, List.length_nil, Nat.reduceAdd, Nat.reduceSub, List.replicate_succ, List.replicate_zero, List.cons_append, List.nil_append, num, str, tru]
  repeat' first|refine Spl.on (fun _=>?_) (fun _=>?_)|with_reducible refine gd ?_|simp only [go_sem, Int.reduceEq, Int.cast_ofNat_Int, Bool.false_eq_true, xblkG_exit3, List.length_map, beq_self_eq_true, if_true, if_false, Nat.reduceMod, reduceIte]
  refine ((sane12).wk ?_).mono ?_
  · try simp only [num, str]
    repeat first | exact Wk.nil | exact Wk.refl _ | refine wk_agg ?_ ?_ | refine wk_ownsl ?_ | refine wk_nilsl ?_ | refine Wk.same ?_
  rintro r rfl
  try simp only [tru, num, str]
  repeat' first|refine Spl.on (fun _=>?_) (fun _=>?_)|with_reducible refine gd ?_|simp only [go_sem, Int.reduceEq, Int.cast_ofNat_Int, Bool.false_eq_true, xblkG_exit3, List.length_map, beq_self_eq_true, if_true, if_false, List.map_take]
  have hok := stL_ok l
  refine ((state22m l hl1 hl2).wk ?_).mono ?_
  · repeat first | exact Wk.nil | exact Wk.refl _ | refine wk_agg ?_ ?_ | refine wk_ownsl ?_ | refine wk_nilsl ?_ | refine Wk.same ?_
  rintro r rfl
  have hL : (List.map sto (List.map mkS (List.take 40 l))) = (stL l).map sto := rfl
  rw [hL]
  generalize stL l = L at *
  have hal := hok.all_len
  have hll := hok.len
  obtain ⟨X, hX⟩ : ∃ X, allL L = X := ⟨_, rfl⟩
  have hca := hok.all []
  rw [hX] at hal hca
  repeat' first|refine Spl.on (fun _=>?_) (fun _=>?_)|with_reducible refine gd ?_|simp only [go_sem, Int.reduceEq, Int.cast_ofNat_Int, Bool.false_eq_true, xblkG_exit3, List.length_map, beq_self_eq_true, if_true, if_false, Nat.reduceMod, reduceIte]
  refine cwpX_frozen [] ttok hmix 8 rfl (by simp only [comp, isLend, lendOf, cops, cguard, gslot, List.getElem?_toArray, List.getElem?_cons_succ, List.getElem?_cons_zero, vlook, tlook, Bool.false_eq_true, if_false, if_true, reduceIte]; rfl) (by decide +kernel) (by decide) ?_
  repeat' first|refine Spl.on (fun _=>?_) (fun _=>?_)|with_reducible refine gd ?_|simp only [go_sem, Int.reduceEq, Int.cast_ofNat_Int, Bool.false_eq_true, xblkG_exit3, List.length_map, beq_self_eq_true, if_true, if_false, Nat.reduceMod, reduceIte]
  refine ((hca).wk ?_).mono ?_
  · try simp only [stA, num, str]
    repeat first | exact Wk.nil | exact Wk.refl _ | refine wk_agg ?_ ?_ | refine wk_ownsl ?_ | refine wk_nilsl ?_ | refine Wk.same ?_
  rintro r rfl
  try simp only [tru, num, str]
  repeat' first|refine Spl.on (fun _=>?_) (fun _=>?_)|with_reducible refine gd ?_|simp only [go_sem, Int.reduceEq, Int.cast_ofNat_Int, Bool.false_eq_true, xblkG_exit3, List.length_map, beq_self_eq_true, if_true, if_false, List.map_take]
  by_cases h0 : L.length = 0
  · have e0 := eq_true (show (L.length : Int) = 0 by omega)
    refine cwpX_lends [100017] ttok rfl (by simp only [cops, cguard, gslot, List.getElem?_toArray, List.getElem?_cons_succ, List.getElem?_cons_zero]; rfl) rfl rfl rfl rfl rfl rfl rfl rfl (by decide) rfl rfl rfl ?_
    repeat' first|refine Spl.on (fun _=>?_) (fun _=>?_)|with_reducible refine gd ?_|simp only [go_sem, Int.reduceEq, Int.cast_ofNat_Int, Bool.false_eq_true, xblkG_exit3, List.length_map, beq_self_eq_true, if_true, if_false, Nat.reduceMod, reduceIte, e0]
  have e0 := eq_false (show ¬ (L.length : Int) = 0 by omega)
  refine cwpX_lends [100017] ttok rfl (by simp only [cops, cguard, gslot, List.getElem?_toArray, List.getElem?_cons_succ, List.getElem?_cons_zero]; rfl) rfl rfl rfl rfl rfl rfl rfl rfl (by decide) rfl rfl rfl ?_
  repeat' first|refine Spl.on (fun _=>?_) (fun _=>?_)|with_reducible refine gd ?_|simp only [go_sem, Int.reduceEq, Int.cast_ofNat_Int, Bool.false_eq_true, xblkG_exit3, List.length_map, beq_self_eq_true, if_true, if_false, Nat.reduceMod, reduceIte, e0]
  refine cwpX_frozen [] ttok hmix 8 rfl (by simp only [comp, isLend, lendOf, cops, cguard, gslot, List.getElem?_toArray, List.getElem?_cons_succ, List.getElem?_cons_zero, vlook, tlook, Bool.false_eq_true, if_false, if_true, reduceIte]; rfl) (by decide +kernel) (by decide) ?_
  simp (decide := true) only [mkd_eq [8] [2700008, 2200008] [] [[], [8], [8], [], [], [], [8], [8], [], [], [], []], List.zip_cons_cons, List.zip_nil_left, List.zip_nil_right]
  repeat' first|refine Spl.on (fun _=>?_) (fun _=>?_)|with_reducible refine gd ?_|simp only [go_sem, Int.reduceEq, Int.cast_ofNat_Int, Bool.false_eq_true, xblkG_exit3, List.length_map, beq_self_eq_true, if_true, if_false, Nat.reduceMod, reduceIte]
  refine ((pick31 i hi L.length (by omega) (by omega)).wk ?_).mono ?_
  · try simp only [num, str]
    repeat first | exact Wk.nil | exact Wk.refl _ | refine wk_agg ?_ ?_ | refine wk_ownsl ?_ | refine wk_nilsl ?_ | refine Wk.same ?_
  rintro r rfl
  try simp only [tru, num, str]
  repeat' first|refine Spl.on (fun _=>?_) (fun _=>?_)|with_reducible refine gd ?_|simp only [go_sem, Int.reduceEq, Int.cast_ofNat_Int, Bool.false_eq_true, xblkG_exit3, List.length_map, beq_self_eq_true, if_true, if_false, List.map_take]
  refine ((pick31 j hj L.length (by omega) (by omega)).wk ?_).mono ?_
  · try simp only [num, str]
    repeat first | exact Wk.nil | exact Wk.refl _ | refine wk_agg ?_ ?_ | refine wk_ownsl ?_ | refine wk_nilsl ?_ | refine Wk.same ?_
  rintro r rfl
  try simp only [tru, num, str]
  repeat' first|refine Spl.on (fun _=>?_) (fun _=>?_)|with_reducible refine gd ?_|simp only [go_sem, Int.reduceEq, Int.cast_ofNat_Int, Bool.false_eq_true, xblkG_exit3, List.length_map, beq_self_eq_true, if_true, if_false, List.map_take]
  have hpi := pickN_lt (a := i) (n := L.length) (by omega)
  have hpj := pickN_lt (a := j) (n := L.length) (by omega)
  obtain ⟨M, hM, hp⟩ := exch_perm L hpi hpj
  refine cwpX_swap7 rfl rfl rfl rfl ⟨by omega, by simp only [List.length_map]; omega⟩ ⟨by omega, by simp only [List.length_map]; omega⟩ (stos_ok L) ?_
  simp only [Int.toNat_natCast]
  rw [hM]
  simp (decide := true) only [List.set_cons_zero, List.set_cons_succ, List.map_cons, List.map_nil, kf_any, kf_raw, kf_box, kf_strs, anys, List.mapIdx_cons, List.mapIdx_nil, if_true, if_false, reduceIte]
  have hokM := hok.perm hp
  have hcM := hokM.all []
  have hXM : allL M = X := by rw [← hX]; exact (all_perm hp).symm
  rw [hXM] at hcM
  repeat' first|refine Spl.on (fun _=>?_) (fun _=>?_)|with_reducible refine gd ?_|simp only [go_sem, Int.reduceEq, Int.cast_ofNat_Int, Bool.false_eq_true, xblkG_exit3, List.length_map, beq_self_eq_true, if_true, if_false, Nat.reduceMod, reduceIte]
  refine cwpX_frozen [] ttok hmix 8 rfl (by simp only [comp, isLend, lendOf, cops, cguard, gslot, List.getElem?_toArray, List.getElem?_cons_succ, List.getElem?_cons_zero, vlook, tlook, Bool.false_eq_true, if_false, if_true, reduceIte]; rfl) (by decide +kernel) (by decide) ?_
  repeat' first|refine Spl.on (fun _=>?_) (fun _=>?_)|with_reducible refine gd ?_|simp only [go_sem, Int.reduceEq, Int.cast_ofNat_Int, Bool.false_eq_true, xblkG_exit3, List.length_map, beq_self_eq_true, if_true, if_false, Nat.reduceMod, reduceIte]
  refine ((hcM).wk ?_).mono ?_
  · try simp only [stA, num, str]
    repeat first | exact Wk.nil | exact Wk.refl _ | refine wk_agg ?_ ?_ | refine wk_ownsl ?_ | refine wk_nilsl ?_ | refine Wk.same ?_
  rintro r rfl
  try simp only [tru, num, str]
  repeat' first|refine Spl.on (fun _=>?_) (fun _=>?_)|with_reducible refine gd ?_|simp only [go_sem, Int.reduceEq, Int.cast_ofNat_Int, Bool.false_eq_true, xblkG_exit3, List.length_map, beq_self_eq_true, if_true, if_false, List.map_take]
  refine ((same22 X X (by omega) (by omega)).wk ?_).mono ?_
  · try simp only [num, str]
    repeat first | exact Wk.nil | exact Wk.refl _ | refine wk_agg ?_ ?_ | refine wk_ownsl ?_ | refine wk_nilsl ?_ | refine Wk.same ?_
  rintro r rfl
  try simp only [tru, num, str]
  repeat' first|refine Spl.on (fun _=>?_) (fun _=>?_)|with_reducible refine gd ?_|simp only [go_sem, Int.reduceEq, Int.cast_ofNat_Int, Bool.false_eq_true, xblkG_exit3, List.length_map, beq_self_eq_true, if_true, if_false, List.map_take]
  done
end Go.Proofs.YtkafbgdokgfjmaaGreatDoor
