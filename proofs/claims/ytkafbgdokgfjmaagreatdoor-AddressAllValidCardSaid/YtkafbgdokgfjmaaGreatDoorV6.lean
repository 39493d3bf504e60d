/- law 8 (without the reference) -/
import Derived.Test.YtkafbgdokgfjmaaGreatDoorT
import Derived.Test.YtkafbgdokgfjmaaGreatDoorA10
import Derived.Test.YtkafbgdokgfjmaaGreatDoorA11
import Derived.Test.YtkafbgdokgfjmaaGreatDoorV5
namespace Go.Proofs.YtkafbgdokgfjmaaGreatDoor
open Go.RowKit Go.Proofs
set_option linter.unusedSimpArgs false
set_option linter.unusedVariables false
set_option maxRecDepth 100000
set_option maxHeartbeats 4000000

def edm (n : Int) (s : Sto) : List AV := if s.tk then [] else if s.id = n then s.ed else []
def thS (n : Int) (g : Str) (s : Sto) : Bool := (edm n s).any fun e => edl e == g
theorem parse_all {L : List Sto} {t : Str} (h : t ∈ allL L) : ∃ a ∈ adL L, validL a = true ∧ fmtL a = t ∧ parseL t = some a := by
  obtain ⟨a, h1, h2, h3⟩ := all_mem.1 h
  exact ⟨a, h1, h2, h3, by rw [← h3]; exact parse_fmt h2⟩
theorem ed_there {L : List Sto} {a : Adr} (h : a ∈ adL L) (hk : a.kind = 2) : L.any (thS a.n a.lang) = true := by
  rcases ad_mem.1 h with (rfl | rfl) | ⟨s, hs, h1, e, he, rfl⟩ | ⟨t, _, _, rfl | ⟨p, _, _, rfl⟩⟩ | ⟨t, _, rfl⟩
  · simp [adr1] at hk
  · simp [adr6] at hk
  · refine List.any_eq_true.2 ⟨s, hs, ?_⟩
    unfold thS edm
    rw [h1]
    simp only [Bool.false_eq_true, if_false, if_true]
    exact List.any_eq_true.2 ⟨e, he, by simp⟩
  · simp at hk
  · simp at hk
  · simp [auF] at hk
theorem any_take {α : Type} {f : α → Bool} {l : List α} {j : Nat} {x : α} (h : l[j]? = some x) : (l.take (j + 1)).any f = ((l.take j).any f || f x) := by
  rw [List.take_add_one, h, List.any_append]; simp
theorem lawA8 (xs : List AV) (h : OfA Tryz.prog [34] xs) : ACalls Tryz.prog 8 xs (fun r => r = tru true) := by
  obtain ⟨_, y0, _, rfl, h0, g0⟩ := OfA_cons h
  obtain rfl := OfA_nil g0
  obtain ⟨l, rfl, hl1, hl2⟩ := items_of h0
  refine calls_short [] ttok hmix Tryz.func8 (by decide) (by decide +kernel) (by simp only [Tryz.f8, Option.bind_some, comp, isLend, lendOf, lendX, lendC, lendH, Nat.reduceLeDiff, Nat.reduceSub, ne_eq, not_false_eq_true, and_self, cops, cguard, gslot, List.getElem?_toArray, List.getElem?_cons_succ, List.getElem?_cons_zero, vlook, tlook, cutAt_nil, cutAt, firstReg, isCut, mkSeq, Nat.reduceAdd, Nat.reduceEqDiff, reduceIte]; rfl) Tryz.ntmps8 Tryz.results8 ⟨_, rfl⟩ rfl ?_
  simp only [List.length_cons, List.length_nil, Nat.reduceAdd, Nat.reduceSub, List.replicate_succ, List.replicate_zero, List.cons_append, List.nil_append, num, str, tru]
  simp (decide := true) only [mkd_eq [7] [5000007, 4800007] [] [[7], [7], [7], [51, 7], [], [53, 51], [53], [], [], [], [47], [47], [47], [], []], List.zip_cons_cons, List.zip_nil_left, List.zip_nil_right]
  simp (decide := true) only [mkd_eq [12, 16] [12400012, 11800016] [] [[], [117], [16, 117], [119, 16, 117], [117], [121, 119, 117], [121, 117], [117], [12, 117], [12, 117], [117], [117], []], List.zip_cons_cons, List.zip_nil_left, List.zip_nil_right]
  repeat' first|refine Spl.on (fun _=>?_) (fun _=>?_)|with_reducible refine gd ?_|simp only [go_sem, Int.reduceEq, Int.cast_ofNat_Int, Bool.false_eq_true, xblkG_exit3, List.length_map, beq_self_eq_true, if_true, if_false]
  refine ((sane12).wk ?_).mono ?_
  · try simp only [num, str]
    repeat first | exact Wk.nil | exact Wk.refl _ | refine wk_agg ?_ ?_ | refine wk_ownsl ?_ | refine wk_nilsl ?_ | refine Wk.same ?_
  rintro r rfl
  try simp only [tru, num, str]
  repeat' first|refine Spl.on (fun _=>?_) (fun _=>?_)|with_reducible refine gd ?_|simp only [go_sem, Int.reduceEq, Int.cast_ofNat_Int, Bool.false_eq_true, xblkG_exit3, List.length_map, beq_self_eq_true, if_true, if_false]
  have hok := stL_ok l
  refine ((stateS l hl1 hl2).wk ?_).mono ?_
  · repeat first | exact Wk.nil | exact Wk.refl _ | refine wk_agg ?_ ?_ | refine wk_ownsl ?_ | refine wk_nilsl ?_ | refine Wk.same ?_
  rintro r rfl
  generalize stL l = L at *
  have hal := hok.all_len
  have hll := hok.len
  obtain ⟨X, hX⟩ : ∃ X, allL L = X := ⟨_, rfl⟩
  have hca := hok.allS []
  rw [hX] at hal hca
  repeat' first|refine Spl.on (fun _=>?_) (fun _=>?_)|with_reducible refine gd ?_|simp only [go_sem, Int.reduceEq, Int.cast_ofNat_Int, Bool.false_eq_true, xblkG_exit3, List.length_map, beq_self_eq_true, if_true, if_false]
  refine ((hca).wk ?_).mono ?_
  · try simp only [stA, num, str]
    repeat first | exact Wk.nil | exact Wk.refl _ | refine wk_agg ?_ ?_ | refine wk_ownsl ?_ | refine wk_nilsl ?_ | refine Wk.same ?_
  rintro r rfl
  try simp only [tru, num, str]
  repeat' first|refine Spl.on (fun _=>?_) (fun _=>?_)|with_reducible refine gd ?_|simp only [go_sem, Int.reduceEq, Int.cast_ofNat_Int, Bool.false_eq_true, xblkG_exit3, List.length_map, beq_self_eq_true, if_true, if_false]
  refine cwp_loop [false, false, false, false, false, false, true, true, true, true, true, false, false, false, false, false, false, false, false, false, false, false, false, true, true, true, true, true, true, true, true, true, true, true, true, true, true, true, true, true, true, true, true, true, true, true, true, true, true, true, true, true, true, true, true, true, true, true, true, true, true, true, true, true, true, true, true, true, false, false, false, false, false, false, false, false, false, false, false, false, false, false, false, false, false, false, false, false, false, false, false, false, false, false, false, false, false, false, false, false, false, false, false, false, false, false, false, false, false, false, false, false, false, false, false, false, false, false, false, false, false, false, false, false, false, false, false, false, false, false, false] [6] (fun n xs => ∃ i : Nat, i ≤ L.length ∧ i + n = L.length ∧ xs = [num i]) ⟨L.length, _, ⟨0, by omega, by omega, rfl⟩, ?_⟩ ?_
  · simp only [hvm_t, hvm_f, hvm_nil, puts_cons, puts_nil, List.set_cons_zero, List.set_cons_succ, num]
    repeat first | exact Wk.nil | refine wk_ownsl ?_ | refine Wk.same ?_ | refine wk_any ?_
  · rintro n xs ⟨i, hi1, hi2, rfl⟩
    simp only [hvm_t, hvm_f, hvm_nil, puts_cons, puts_nil, List.set_cons_zero, List.set_cons_succ, num]
    rcases Nat.lt_or_ge i L.length with hlt | hge
    · have ej := eq_true (show (i : Int) < (L.length : Int) by omega)
      obtain ⟨s, hx, hd⟩ := drop_at hlt
      have hso := hok.st s (List.mem_of_getElem? hx)
      have heo := hok.edok s (List.mem_of_getElem? hx)
      have hed := hso.2
      have hgx := sto_at hx
      simp only [num, str, tru] at hgx
      have hw : IntKind.i64.wrap ((i : Int) + 1) = ((i + 1 : Nat) : Int) := wrap_succ (by omega)
      repeat' first|refine Spl.on (fun _=>?_) (fun _=>?_)|with_reducible refine gd ?_|simp only [go_sem, Int.reduceEq, Int.cast_ofNat_Int, Bool.false_eq_true, xblkG_exit3, List.length_map, beq_self_eq_true, if_true, if_false, ej, hgx, hw]
      refine cwp_loop [false, false, false, false, false, false, false, false, true, true, true, false, false, false, false, false, false, false, false, false, false, false, false, false, false, false, false, false, false, false, false, false, false, false, false, true, true, true, true, true, true, true, true, true, true, true, true, true, true, true, true, true, true, true, true, true, true, true, true, true, true, true, true, true, true, true, true, true, false, false, false, false, false, false, false, false, false, false, false, false, false, false, false, false, false, false, false, false, false, false, false, false, false, false, false, false, false, false, false, false, false, false, false, false, false, false, false, false, false, false, false, false, false, false, false, false, false, false, false, false, false, false, false, false, false, false, false, false, false, false, false] [8] (fun n xs => ∃ j : Nat, j ≤ s.ed.length ∧ j + n = s.ed.length ∧ xs = [num j]) ⟨s.ed.length, _, ⟨0, by omega, by omega, rfl⟩, ?_⟩ ?_
      · simp only [hvm_t, hvm_f, hvm_nil, puts_cons, puts_nil, List.set_cons_zero, List.set_cons_succ, num]
        repeat first | exact Wk.nil | refine wk_ownsl ?_ | refine Wk.same ?_ | refine wk_any ?_
      · rintro n2 xs ⟨j, hj1, hj2, rfl⟩
        simp only [hvm_t, hvm_f, hvm_nil, puts_cons, puts_nil, List.set_cons_zero, List.set_cons_succ, num]
        by_cases hcj : j < s.ed.length ∧ s.tk = false
        · obtain ⟨hjl, htk⟩ := hcj
          have hwj : IntKind.i64.wrap ((j : Int) + 1) = ((j + 1 : Nat) : Int) := wrap_succ (by omega)
          have ek := eq_true (show (j : Int) < (s.ed.length : Int) by omega)
          obtain ⟨e, hjx, hjd⟩ := drop_at hjl
          have hin : ∀ (_ : validL ⟨2, [], s.id, edl e⟩ = true), decide (fmtL ⟨2, [], s.id, edl e⟩ ∈ X) = true := fun hv => decide_eq_true (by
            rw [← hX]
            exact all_mem.2 ⟨_, ad_mem.2 (.inr (.inl ⟨s, List.mem_of_getElem? hx, htk, e, List.mem_of_getElem? hjx, rfl⟩)), hv, rfl⟩)
          obtain ⟨l, c1, c2, c3, c4, rfl⟩ := heo e (List.mem_of_getElem? hjx)
          have hge : s.ed.getD j .any = .agg [str l, c1, c2, c3, c4] := by simp [hjx]
          have hel : edl (.agg [str l, c1, c2, c3, c4]) = l := by simp [edl, str]
          rw [hel] at hin
          simp only [str] at hge
          repeat' first|refine Spl.on (fun _=>?_) (fun _=>?_)|with_reducible refine gd ?_|simp only [go_sem, Int.reduceEq, Int.cast_ofNat_Int, Bool.false_eq_true, xblkG_exit3, List.length_map, beq_self_eq_true, if_true, if_false, ek, hge, hwj, htk, hgx, ej]
          refine ((format14 ⟨2, [], s.id, l⟩).wk ?_).mono ?_
          · try simp only [adrA, num, str]
            repeat first | exact Wk.nil | exact Wk.refl _ | refine wk_agg ?_ ?_ | refine wk_ownsl ?_ | refine wk_nilsl ?_ | refine Wk.same ?_
          rintro r rfl
          cases hv : validL ⟨2, [], s.id, l⟩
          · simp only [fmtA, hv, Bool.false_eq_true, if_false, num, str]
            repeat' first|refine Spl.on (fun _=>?_) (fun _=>?_)|with_reducible refine gd ?_|simp only [go_sem, Int.reduceEq, Int.cast_ofNat_Int, Bool.false_eq_true, xblkG_exit3, List.length_map, beq_self_eq_true, if_true, if_false, ek, hge, hwj, htk, hgx, ej]
            refine lend_mk (n2 - 1) [num ((j + 1 : Nat) : Int)] (by omega) ⟨j + 1, by omega, by omega, rfl⟩ ?_
            simp only [hvm_t, hvm_f, hvm_nil, puts_cons, puts_nil, List.set_cons_zero, List.set_cons_succ, num]
            repeat first | exact Wk.nil | refine wk_ownsl ?_ | refine Wk.same ?_ | refine wk_any ?_
          · have hin2 := hin hv
            simp only [fmtA, hv, if_true, num, str]
            repeat' first|refine Spl.on (fun _=>?_) (fun _=>?_)|with_reducible refine gd ?_|simp only [go_sem, Int.reduceEq, Int.cast_ofNat_Int, Bool.false_eq_true, xblkG_exit3, List.length_map, beq_self_eq_true, if_true, if_false, ek, hge, hwj, htk, hgx, ej]
            refine ((has26 X (fmtL ⟨2, [], s.id, l⟩) hal).wk ?_).mono ?_
            · try simp only [num, str]
              repeat first | exact Wk.nil | exact Wk.refl _ | refine wk_agg ?_ ?_ | refine wk_ownsl ?_ | refine wk_nilsl ?_ | refine Wk.same ?_
            rintro r rfl
            try simp only [hin2, tru]
            repeat' first|refine Spl.on (fun _=>?_) (fun _=>?_)|with_reducible refine gd ?_|simp only [go_sem, Int.reduceEq, Int.cast_ofNat_Int, Bool.false_eq_true, xblkG_exit3, List.length_map, beq_self_eq_true, if_true, if_false, ek, hge, hwj, htk, hgx, ej]
            refine lend_mk (n2 - 1) [num ((j + 1 : Nat) : Int)] (by omega) ⟨j + 1, by omega, by omega, rfl⟩ ?_
            simp only [hvm_t, hvm_f, hvm_nil, puts_cons, puts_nil, List.set_cons_zero, List.set_cons_succ, num]
            repeat first | exact Wk.nil | refine wk_ownsl ?_ | refine Wk.same ?_ | refine wk_any ?_
        · by_cases hjl : j < s.ed.length
          · have htk : s.tk = true := by
              cases h : s.tk with
              | true => rfl
              | false => exact absurd ⟨hjl, h⟩ hcj
            have ek := eq_true (show (j : Int) < (s.ed.length : Int) by omega)
            repeat' first|refine Spl.on (fun _=>?_) (fun _=>?_)|with_reducible refine gd ?_|simp only [go_sem, Int.reduceEq, Int.cast_ofNat_Int, Bool.false_eq_true, xblkG_exit3, List.length_map, beq_self_eq_true, if_true, if_false, ek, htk, hw, ej]
            refine lend_mk (n - 1) [num ((i + 1 : Nat) : Int)] (by omega) ⟨i + 1, by omega, by omega, rfl⟩ ?_
            simp only [hvm_t, hvm_f, hvm_nil, puts_cons, puts_nil, List.set_cons_zero, List.set_cons_succ, num]
            repeat first | exact Wk.nil | refine wk_ownsl ?_ | refine Wk.same ?_ | refine wk_any ?_
          · have ek := eq_false (show ¬ (j : Int) < (s.ed.length : Int) by omega)
            repeat' first|refine Spl.on (fun _=>?_) (fun _=>?_)|with_reducible refine gd ?_|simp only [go_sem, Int.reduceEq, Int.cast_ofNat_Int, Bool.false_eq_true, xblkG_exit3, List.length_map, beq_self_eq_true, if_true, if_false, ek, hw, ej]
            refine lend_mk (n - 1) [num ((i + 1 : Nat) : Int)] (by omega) ⟨i + 1, by omega, by omega, rfl⟩ ?_
            simp only [hvm_t, hvm_f, hvm_nil, puts_cons, puts_nil, List.set_cons_zero, List.set_cons_succ, num]
            repeat first | exact Wk.nil | refine wk_ownsl ?_ | refine Wk.same ?_ | refine wk_any ?_
    · have ej := eq_false (show ¬ (i : Int) < (L.length : Int) by omega)
      repeat' first|refine Spl.on (fun _=>?_) (fun _=>?_)|with_reducible refine gd ?_|simp only [go_sem, Int.reduceEq, Int.cast_ofNat_Int, Bool.false_eq_true, xblkG_exit3, List.length_map, beq_self_eq_true, if_true, if_false, ej]
      refine cwp_loop [false, false, false, false, false, false, false, false, false, false, false, true, true, true, true, true, true, true, false, false, false, false, false, false, false, false, false, false, false, false, false, false, false, false, false, false, false, false, false, false, false, false, false, false, false, false, false, false, false, false, false, false, false, false, false, false, false, false, false, false, false, false, false, false, false, false, false, false, true, true, true, true, true, true, true, true, true, true, true, true, true, true, true, true, true, true, true, true, true, true, true, true, true, true, true, true, true, true, true, true, true, true, true, true, true, true, true, true, true, true, true, true, true, true, true, true, true, true, true, true, true, true, true, true, true, true, true, true, true, true, false] [11] (fun n xs => ∃ i : Nat, i ≤ X.length ∧ i + n = X.length ∧ xs = [num i]) ⟨X.length, _, ⟨0, by omega, by omega, rfl⟩, ?_⟩ ?_
      · simp only [hvm_t, hvm_f, hvm_nil, puts_cons, puts_nil, List.set_cons_zero, List.set_cons_succ, num]
        repeat first | exact Wk.nil | refine wk_ownsl ?_ | refine Wk.same ?_ | refine wk_any ?_
      · rintro n xs ⟨i, hi1, hi2, rfl⟩
        simp only [hvm_t, hvm_f, hvm_nil, puts_cons, puts_nil, List.set_cons_zero, List.set_cons_succ, num]
        rcases Nat.lt_or_ge i X.length with hlt | hge
        · have ej := eq_true (show (i : Int) < (X.length : Int) by omega)
          obtain ⟨t, ht, htd⟩ := drop_at hlt
          have hgx := strs_at ht
          have hw : IntKind.i64.wrap ((i : Int) + 1) = ((i + 1 : Nat) : Int) := wrap_succ (by omega)
          obtain ⟨a, ha1, ha2, ha3, hp⟩ := parse_all (L := L) (t := t) (by rw [hX]; exact List.mem_of_getElem? ht)
          have htl : t.length ≤ 1000000 := by rw [← ha3]; have := valid_len ha2; omega
          repeat' first|refine Spl.on (fun _=>?_) (fun _=>?_)|with_reducible refine gd ?_|simp only [go_sem, Int.reduceEq, Int.cast_ofNat_Int, Bool.false_eq_true, xblkG_exit3, List.length_map, beq_self_eq_true, if_true, if_false, ej, hgx, hw]
          refine ((parse20 t htl).wk ?_).mono ?_
          · try simp only [num, str]
            repeat first | exact Wk.nil | exact Wk.refl _ | refine wk_agg ?_ ?_ | refine wk_ownsl ?_ | refine wk_nilsl ?_ | refine Wk.same ?_
          rintro r rfl
          try simp only [hp, parseA, adrA, num, str]
          by_cases h2 : a.kind = 2
          · have e2 := eq_true h2
            have hthere := ed_there ha1 h2
            repeat' first|refine Spl.on (fun _=>?_) (fun _=>?_)|with_reducible refine gd ?_|simp only [go_sem, Int.reduceEq, Int.cast_ofNat_Int, Bool.false_eq_true, xblkG_exit3, List.length_map, beq_self_eq_true, if_true, if_false, ej, hgx, hw, e2]
            refine cwp_loop [false, false, false, false, false, false, false, false, false, false, false, false, false, false, true, true, true, true, false, false, false, false, false, false, false, false, false, false, false, false, false, false, false, false, false, false, false, false, false, false, false, false, false, false, false, false, false, false, false, false, false, false, false, false, false, false, false, false, false, false, false, false, false, false, false, false, false, false, false, false, false, false, false, false, false, false, false, false, false, false, false, false, false, false, false, true, true, true, true, true, true, true, true, true, true, true, true, true, true, true, true, true, true, true, true, true, true, true, true, true, true, true, true, true, true, true, true, true, true, true, true, true, true, true, true, true, true, true, false, false, false] [14, 15] (fun n xs => ∃ k : Nat, k ≤ L.length ∧ k + n = L.length ∧ xs = [tru ((L.take k).any (thS a.n a.lang)), num k]) ⟨L.length, _, ⟨0, by omega, by omega, rfl⟩, ?_⟩ ?_
            · simp only [List.take_zero, List.any_nil, tru]
              simp only [hvm_t, hvm_f, hvm_nil, puts_cons, puts_nil, List.set_cons_zero, List.set_cons_succ, num]
              repeat first | exact Wk.nil | refine wk_ownsl ?_ | refine Wk.same ?_ | refine wk_any ?_
            · rintro n4 xs ⟨k, hk1, hk2, rfl⟩
              simp only [tru]
              simp only [hvm_t, hvm_f, hvm_nil, puts_cons, puts_nil, List.set_cons_zero, List.set_cons_succ, num]
              rcases Nat.lt_or_ge k L.length with hkl | hkg
              · have ej := eq_true (show (k : Int) < (L.length : Int) by omega)
                obtain ⟨s, hx, hd⟩ := drop_at hkl
                have hso := hok.st s (List.mem_of_getElem? hx)
                have heo := hok.edok s (List.mem_of_getElem? hx)
                have hed := hso.2
                have hgx := sto_at hx
                simp only [num, str, tru] at hgx
                have hwk : IntKind.i64.wrap ((k : Int) + 1) = ((k + 1 : Nat) : Int) := wrap_succ (by omega)
                repeat' first|refine Spl.on (fun _=>?_) (fun _=>?_)|with_reducible refine gd ?_|simp only [go_sem, Int.reduceEq, Int.cast_ofNat_Int, Bool.false_eq_true, xblkG_exit3, List.length_map, beq_self_eq_true, if_true, if_false, ej, hgx, hwk]
                refine cwp_loop [false, false, false, false, false, false, false, false, false, false, false, false, false, false, true, false, false, true, false, false, false, false, false, false, false, false, false, false, false, false, false, false, false, false, false, false, false, false, false, false, false, false, false, false, false, false, false, false, false, false, false, false, false, false, false, false, false, false, false, false, false, false, false, false, false, false, false, false, false, false, false, false, false, false, false, false, false, false, false, false, false, false, false, false, false, false, false, false, false, false, false, false, false, false, false, false, false, true, true, true, true, true, true, true, true, true, true, true, true, true, true, true, true, true, true, true, true, true, true, true, true, true, true, true, true, true, true, true, false, false, false] [14, 17] (fun n xs => ∃ q : Nat, q ≤ (edm a.n s).length ∧ q + n = (edm a.n s).length ∧ xs = [tru ((L.take k).any (thS a.n a.lang) || ((edm a.n s).take q).any fun e => edl e == a.lang), num q]) ⟨(edm a.n s).length, _, ⟨0, by omega, by omega, rfl⟩, ?_⟩ ?_
                · simp only [List.take_zero, List.any_nil, Bool.or_false, tru]
                  simp only [hvm_t, hvm_f, hvm_nil, puts_cons, puts_nil, List.set_cons_zero, List.set_cons_succ, num]
                  repeat first | exact Wk.nil | refine wk_ownsl ?_ | refine Wk.same ?_ | refine wk_any ?_
                · rintro n5 xs ⟨q, hq1, hq2, rfl⟩
                  simp only [tru]
                  simp only [hvm_t, hvm_f, hvm_nil, puts_cons, puts_nil, List.set_cons_zero, List.set_cons_succ, num]
                  have hqe : (edm a.n s).length ≤ s.ed.length := by
                    unfold edm
                    split
                    · simp
                    · split <;> simp
                  rcases Nat.lt_or_ge q (edm a.n s).length with hq | hq
                  · have htk : s.tk = false := by
                      cases h : s.tk with
                      | false => rfl
                      | true => simp [edm, h] at hq
                    have hid : s.id = a.n := by
                      by_cases h : s.id = a.n
                      · exact h
                      · simp [edm, htk, h] at hq
                    have hee : edm a.n s = s.ed := by simp [edm, htk, hid]
                    have hel2 : (edm a.n s).length = s.ed.length := by rw [hee]
                    rw [hee] at hq
                    have hwq : IntKind.i64.wrap ((q : Int) + 1) = ((q + 1 : Nat) : Int) := wrap_succ (by omega)
                    have ek := eq_true (show (q : Int) < (s.ed.length : Int) by omega)
                    have ed := eq_true (show s.id = a.n from hid)
                    obtain ⟨e, hqx, hqd⟩ := drop_at hq
                    have hst := any_take (f := fun e => edl e == a.lang) hqx
                    obtain ⟨l, c1, c2, c3, c4, rfl⟩ := heo e (List.mem_of_getElem? hqx)
                    have hge : s.ed.getD q .any = .agg [str l, c1, c2, c3, c4] := by simp [hqx]
                    have hel : edl (.agg [str l, c1, c2, c3, c4]) = l := by simp [edl, str]
                    simp only [hel] at hst
                    simp only [str] at hge
                    rw [hee]
                    obtain ⟨th, hth⟩ : ∃ th, ((L.take k).any (thS a.n a.lang) || (s.ed.take q).any fun e => edl e == a.lang) = th := ⟨_, rfl⟩
                    have hnx : ((L.take k).any (thS a.n a.lang) || (s.ed.take (q + 1)).any fun e => edl e == a.lang) = (th || (l == a.lang)) := by rw [hst, ← Bool.or_assoc, hth]
                    rw [hth]
                    cases hb : (l == a.lang) <;> cases th
                    all_goals (
                      repeat' first|refine Spl.on (fun _=>?_) (fun _=>?_)|with_reducible refine gd ?_|simp only [go_sem, Int.reduceEq, Int.cast_ofNat_Int, Bool.false_eq_true, xblkG_exit3, List.length_map, beq_self_eq_true, if_true, if_false, ek, ed, hge, hwq, htk, hb]
                      refine lend_mk (n5 - 1) [tru ((L.take k).any (thS a.n a.lang) || (s.ed.take (q + 1)).any fun e => edl e == a.lang), num ((q + 1 : Nat) : Int)] (by omega) ⟨q + 1, by omega, by omega, rfl⟩ ?_
                      rw [hnx, hb]
                      simp only [tru, Bool.or_true, Bool.or_false, Bool.true_or, Bool.false_or]
                      simp only [hvm_t, hvm_f, hvm_nil, puts_cons, puts_nil, List.set_cons_zero, List.set_cons_succ, num]
                      repeat first | exact Wk.nil | refine wk_ownsl ?_ | refine Wk.same ?_ | refine wk_any ?_)
                  · have hfin : ((L.take k).any (thS a.n a.lang) || ((edm a.n s).take q).any fun e => edl e == a.lang) = (L.take (k + 1)).any (thS a.n a.lang) := by
                      rw [List.take_of_length_le hq, any_take hx]; rfl
                    rw [hfin]
                    by_cases hjl : q < s.ed.length
                    · have ek := eq_true (show (q : Int) < (s.ed.length : Int) by omega)
                      cases htk : s.tk
                      · have hid : ¬ s.id = a.n := by
                          intro h
                          have : edm a.n s = s.ed := by simp [edm, htk, h]
                          rw [this] at hq
                          omega
                        have ed := eq_false hid
                        repeat' first|refine Spl.on (fun _=>?_) (fun _=>?_)|with_reducible refine gd ?_|simp only [go_sem, Int.reduceEq, Int.cast_ofNat_Int, Bool.false_eq_true, xblkG_exit3, List.length_map, beq_self_eq_true, if_true, if_false, ek, ed, htk, hwk]
                        refine lend_mk (n4 - 1) [tru ((L.take (k + 1)).any (thS a.n a.lang)), num ((k + 1 : Nat) : Int)] (by omega) ⟨k + 1, by omega, by omega, rfl⟩ ?_
                        simp only [tru]
                        simp only [hvm_t, hvm_f, hvm_nil, puts_cons, puts_nil, List.set_cons_zero, List.set_cons_succ, num]
                        repeat first | exact Wk.nil | refine wk_ownsl ?_ | refine Wk.same ?_ | refine wk_any ?_
                      · repeat' first|refine Spl.on (fun _=>?_) (fun _=>?_)|with_reducible refine gd ?_|simp only [go_sem, Int.reduceEq, Int.cast_ofNat_Int, Bool.false_eq_true, xblkG_exit3, List.length_map, beq_self_eq_true, if_true, if_false, ek, htk, hwk]
                        refine lend_mk (n4 - 1) [tru ((L.take (k + 1)).any (thS a.n a.lang)), num ((k + 1 : Nat) : Int)] (by omega) ⟨k + 1, by omega, by omega, rfl⟩ ?_
                        simp only [tru]
                        simp only [hvm_t, hvm_f, hvm_nil, puts_cons, puts_nil, List.set_cons_zero, List.set_cons_succ, num]
                        repeat first | exact Wk.nil | refine wk_ownsl ?_ | refine Wk.same ?_ | refine wk_any ?_
                    · have ek := eq_false (show ¬ (q : Int) < (s.ed.length : Int) by omega)
                      repeat' first|refine Spl.on (fun _=>?_) (fun _=>?_)|with_reducible refine gd ?_|simp only [go_sem, Int.reduceEq, Int.cast_ofNat_Int, Bool.false_eq_true, xblkG_exit3, List.length_map, beq_self_eq_true, if_true, if_false, ek, hwk]
                      refine lend_mk (n4 - 1) [tru ((L.take (k + 1)).any (thS a.n a.lang)), num ((k + 1 : Nat) : Int)] (by omega) ⟨k + 1, by omega, by omega, rfl⟩ ?_
                      simp only [tru]
                      simp only [hvm_t, hvm_f, hvm_nil, puts_cons, puts_nil, List.set_cons_zero, List.set_cons_succ, num]
                      repeat first | exact Wk.nil | refine wk_ownsl ?_ | refine Wk.same ?_ | refine wk_any ?_
              · have ej := eq_false (show ¬ (k : Int) < (L.length : Int) by omega)
                have hth : (L.take k).any (thS a.n a.lang) = true := by rw [List.take_of_length_le hkg]; exact hthere
                rw [hth]
                repeat' first|refine Spl.on (fun _=>?_) (fun _=>?_)|with_reducible refine gd ?_|simp only [go_sem, Int.reduceEq, Int.cast_ofNat_Int, Bool.false_eq_true, xblkG_exit3, List.length_map, beq_self_eq_true, if_true, if_false, ej, hw]
                refine lend_mk (n - 1) [num ((i + 1 : Nat) : Int)] (by omega) ⟨i + 1, by omega, by omega, rfl⟩ ?_
                simp only [hvm_t, hvm_f, hvm_nil, puts_cons, puts_nil, List.set_cons_zero, List.set_cons_succ, num]
                repeat first | exact Wk.nil | refine wk_ownsl ?_ | refine Wk.same ?_ | refine wk_any ?_
          · have e2 := eq_false h2
            repeat' first|refine Spl.on (fun _=>?_) (fun _=>?_)|with_reducible refine gd ?_|simp only [go_sem, Int.reduceEq, Int.cast_ofNat_Int, Bool.false_eq_true, xblkG_exit3, List.length_map, beq_self_eq_true, if_true, if_false, ej, hgx, hw, e2]
            refine lend_mk (n - 1) [num ((i + 1 : Nat) : Int)] (by omega) ⟨i + 1, by omega, by omega, rfl⟩ ?_
            simp only [hvm_t, hvm_f, hvm_nil, puts_cons, puts_nil, List.set_cons_zero, List.set_cons_succ, num]
            repeat first | exact Wk.nil | refine wk_ownsl ?_ | refine Wk.same ?_ | refine wk_any ?_
        · have ej := eq_false (show ¬ (i : Int) < (X.length : Int) by omega)
          repeat' first|refine Spl.on (fun _=>?_) (fun _=>?_)|with_reducible refine gd ?_|simp only [go_sem, Int.reduceEq, Int.cast_ofNat_Int, Bool.false_eq_true, xblkG_exit3, List.length_map, beq_self_eq_true, if_true, if_false, ej]
          all_goals first | rfl | (simp [tru]; done) | (simp_all [tru]; done)
end Go.Proofs.YtkafbgdokgfjmaaGreatDoor
