/- law 11 (without the reference) -/
import Derived.Test.YtkafbgdokgfjmaaGreatDoorT
import Derived.Test.YtkafbgdokgfjmaaGreatDoorA10
import Derived.Test.YtkafbgdokgfjmaaGreatDoorA11
import Derived.Test.YtkafbgdokgfjmaaGreatDoorV6
namespace Go.Proofs.YtkafbgdokgfjmaaGreatDoor
open Go.RowKit Go.Proofs
set_option linter.unusedSimpArgs false
set_option linter.unusedVariables false
set_option maxRecDepth 100000
set_option maxHeartbeats 4000000

def fmtS (a : Adr) : Str := if validL a = true then fmtL a else []
def fmtE (a : Adr) : Int := if validL a = true then 0 else 120
theorem fmtA_eq (a : Adr) : fmtA a = .tup [str (fmtS a), num (fmtE a)] := by
  unfold fmtA fmtS fmtE
  split <;> rfl
theorem formatS (a : Adr) : ACalls Tryz.prog 14 [adrA a] (fun r => r = .tup [str (fmtS a), num (fmtE a)]) := by
  rw [← fmtA_eq]; exact format14 a
theorem pg_pos {L : List Sto} {t : Str} (h : t ∈ topR L) : 1 ≤ pgN L t := by
  obtain ⟨s, hs, h1, h2⟩ := topR_mem.1 h
  have hm : s ∈ newL t L := newL_iff.2 ⟨hs, h1, by simp [hasB, h2]⟩
  have := List.length_pos_of_mem hm
  unfold pgN; omega
theorem pg_in {L : List Sto} {t : Str} {p : Nat} (ht : t ∈ topR L) (hn : nameL t = true) (h : p < pgN L t) (h2 : p < 64) : fmtS ⟨3, t, (p : Int) + 1, []⟩ ∈ allL L := by
  have hv : validL ⟨3, t, (p : Int) + 1, []⟩ = true := by
    have : numB ((p : Int) + 1) = true := numB_iff.2 ⟨by omega, by omega⟩
    simp [validL, this, hn]
  rw [fmtS, if_pos hv]
  exact all_mem.2 ⟨_, ad_mem.2 (.inr (.inr (.inl ⟨t, ht, hn, .inr ⟨p, h, h2, rfl⟩⟩))), hv, rfl⟩
theorem k5 {L : List Sto} {a : Adr} (h : a ∈ adL L) (hk : a.kind = 5) : fmtS ⟨3, a.name, 1, []⟩ ∈ allL L := by
  rcases ad_mem.1 h with (rfl | rfl) | ⟨s, hs, h1, e, he, rfl⟩ | ⟨t, h1, h2, rfl | ⟨p, _, _, rfl⟩⟩ | ⟨t, _, rfl⟩
  · simp [adr1] at hk
  · simp [adr6] at hk
  · simp at hk
  · exact pg_in (p := 0) h1 h2 (pg_pos h1) (by omega)
  · simp at hk
  · simp [auF] at hk
theorem pgL_ne {ids : List Int} {p : Nat} (h : p < (ids.length + 4) / 5) : pgL ids ((p : Int) + 1) ≠ [] := by
  have h1 : (1 : Int) ≤ (p : Int) + 1 := by omega
  have h2 : ((p : Int) + 1 - 1).toNat = p := by omega
  unfold pgL
  rw [if_pos h1, h2]
  intro hh
  have := congrArg List.length hh
  rw [List.length_take, List.length_drop, List.length_nil] at this
  omega
theorem k3 {L : List Sto} {a : Adr} (h : a ∈ adL L) (hk : a.kind = 3) : pgL ((newL a.name L).reverse.map (·.id)) a.n ≠ [] ∧ (1 < a.n → fmtS ⟨3, a.name, a.n - 1, []⟩ ∈ allL L) := by
  rcases ad_mem.1 h with (rfl | rfl) | ⟨s, hs, h1, e, he, rfl⟩ | ⟨t, h1, h2, rfl | ⟨p, h3, h4, rfl⟩⟩ | ⟨t, _, rfl⟩
  · simp [adr1] at hk
  · simp [adr6] at hk
  · simp at hk
  · simp at hk
  · refine ⟨pgL_ne (by rw [List.length_map, List.length_reverse]; exact h3), fun hp => ?_⟩
    simp only at hp ⊢
    have := pg_in (L := L) (t := t) (p := p - 1) h1 h2 (by omega) (by omega)
    rw [show (((p - 1 : Nat) : Int) + 1) = (p : Int) + 1 - 1 by omega] at this
    exact this
  · simp [auF] at hk
theorem k4 {L : List Sto} {a : Adr} (h : a ∈ adL L) (hk : a.kind = 4) : ((newL [] L).filter fun s => decide (s.au = a.name)).map (·.id) ≠ [] := by
  rcases ad_mem.1 h with (rfl | rfl) | ⟨s, hs, h1, e, he, rfl⟩ | ⟨t, h1, h2, rfl | ⟨p, h3, h4, rfl⟩⟩ | ⟨t, ht, rfl⟩
  · simp [adr1] at hk
  · simp [adr6] at hk
  · simp at hk
  · simp at hk
  · simp at hk
  · obtain ⟨s, hs, h1, rfl⟩ := autR_mem.1 ht
    intro hh
    have hm : s ∈ (newL [] L).filter fun s' => decide (s'.au = (auF s.au).name) := List.mem_filter.2 ⟨newL_iff.2 ⟨hs, h1, by simp [hasB]⟩, by simp [auF]⟩
    rw [List.map_eq_nil_iff] at hh
    rw [hh] at hm
    cases hm
theorem root_in (L : List Sto) : [47] ∈ allL L := all_mem.2 ⟨adr1, ad_mem.2 (.inl (.inl rfl)), fmt1.2, fmt1.1⟩
theorem map_in (L : List Sto) : 47 :: wMap ∈ allL L := all_mem.2 ⟨adr6, ad_mem.2 (.inl (.inr rfl)), fmt6.2, fmt6.1⟩
theorem lawA11 (xs : List AV) (h : OfA Tryz.prog [34] xs) : ACalls Tryz.prog 11 xs (fun r => r = tru true) := by
  obtain ⟨_, y0, _, rfl, h0, g0⟩ := OfA_cons h
  obtain rfl := OfA_nil g0
  obtain ⟨l, rfl, hl1, hl2⟩ := items_of h0
  refine calls_short [] ttok hmix Tryz.func11 (by decide) (by decide +kernel) (by simp only [Tryz.f11, Option.bind_some, comp, isLend, lendOf, lendX, lendC, lendH, Nat.reduceLeDiff, Nat.reduceSub, ne_eq, not_false_eq_true, and_self, cops, cguard, gslot, List.getElem?_toArray, List.getElem?_cons_succ, List.getElem?_cons_zero, vlook, tlook, cutAt_nil, cutAt, firstReg, isCut, mkSeq, Nat.reduceAdd, Nat.reduceEqDiff, reduceIte]; rfl) Tryz.ntmps11 Tryz.results11 ⟨_, rfl⟩ rfl ?_
  simp only [List.length_cons, List.length_nil, Nat.reduceAdd, Nat.reduceSub, List.replicate_succ, List.replicate_zero, List.cons_append, List.nil_append, num, str, tru]
  simp (decide := true) only [mkd_eq [5, 6] [] [] [[], [], [46], [6, 46], [46], [49, 46], [50, 5, 49], [49, 6], [49], [50, 49], [49], [55, 5, 49], [49, 6], [55, 49], [49], [49], [49, 46], [46]], List.zip_cons_cons, List.zip_nil_left, List.zip_nil_right]
  repeat' first|refine Spl.on (fun _=>?_) (fun _=>?_)|with_reducible refine gd ?_|simp only [go_sem, Int.reduceEq, Int.cast_ofNat_Int, Bool.false_eq_true, xblkG_exit3, List.length_map, beq_self_eq_true, if_true, if_false]
  refine ((sane12).wk ?_).mono ?_
  · try simp only [num, str]
    repeat first | exact Wk.nil | exact Wk.refl _ | refine wk_agg ?_ ?_ | refine wk_ownsl ?_ | refine wk_nilsl ?_ | refine Wk.same ?_
  rintro r rfl
  try simp only [tru, num, str]
  repeat' first|refine Spl.on (fun _=>?_) (fun _=>?_)|with_reducible refine gd ?_|simp only [go_sem, Int.reduceEq, Int.cast_ofNat_Int, Bool.false_eq_true, xblkG_exit3, List.length_map, beq_self_eq_true, if_true, if_false]
  have hok := stL_ok l
  refine ((stateS l hl1 hl2).wk ?_).mono ?_
  · repeat first | exact Wk.nil | exact Wk.refl _ | refine wk_agg ?_ ?_ | refine wk_ownsl ?_ | refine wk_nilsl ?_ | refine Wk.same ?_
  rintro r rfl
  generalize stL l = L at *
  have hal := hok.all_len
  have hll := hok.len
  obtain ⟨X, hX⟩ : ∃ X, allL L = X := ⟨_, rfl⟩
  have hca := hok.allS []
  have hr1 : decide ([47] ∈ X) = true := decide_eq_true (by rw [← hX]; exact root_in L)
  have hr2 : decide (47 :: wMap ∈ X) = true := decide_eq_true (by rw [← hX]; exact map_in L)
  rw [hX] at hal hca
  repeat' first|refine Spl.on (fun _=>?_) (fun _=>?_)|with_reducible refine gd ?_|simp only [go_sem, Int.reduceEq, Int.cast_ofNat_Int, Bool.false_eq_true, xblkG_exit3, List.length_map, beq_self_eq_true, if_true, if_false]
  refine ((hca).wk ?_).mono ?_
  · try simp only [stA, num, str]
    repeat first | exact Wk.nil | exact Wk.refl _ | refine wk_agg ?_ ?_ | refine wk_ownsl ?_ | refine wk_nilsl ?_ | refine Wk.same ?_
  rintro r rfl
  try simp only [tru, num, str]
  repeat' first|refine Spl.on (fun _=>?_) (fun _=>?_)|with_reducible refine gd ?_|simp only [go_sem, Int.reduceEq, Int.cast_ofNat_Int, Bool.false_eq_true, xblkG_exit3, List.length_map, beq_self_eq_true, if_true, if_false]
  refine ((has26 X [47] hal).wk ?_).mono ?_
  · try simp only [num, str]
    repeat first | exact Wk.nil | exact Wk.refl _ | refine wk_agg ?_ ?_ | refine wk_ownsl ?_ | refine wk_nilsl ?_ | refine Wk.same ?_
  rintro r rfl
  try simp only [hr1, tru]
  repeat' first|refine Spl.on (fun _=>?_) (fun _=>?_)|with_reducible refine gd ?_|simp only [go_sem, Int.reduceEq, Int.cast_ofNat_Int, Bool.false_eq_true, xblkG_exit3, List.length_map, beq_self_eq_true, if_true, if_false]
  refine ((has26 X (47 :: wMap) hal).wk ?_).mono ?_
  · try simp only [num, str, wMap]
    repeat first | exact Wk.nil | exact Wk.refl _ | refine wk_agg ?_ ?_ | refine wk_ownsl ?_ | refine wk_nilsl ?_ | refine Wk.same ?_
  rintro r rfl
  try simp only [hr2, tru]
  repeat' first|refine Spl.on (fun _=>?_) (fun _=>?_)|with_reducible refine gd ?_|simp only [go_sem, Int.reduceEq, Int.cast_ofNat_Int, Bool.false_eq_true, xblkG_exit3, List.length_map, beq_self_eq_true, if_true, if_false]
  refine cwp_loop [false, false, false, false, false, false, true, true, true, true, true, true, true, true, true, true, true, false, false, false, false, false, false, false, false, false, false, false, false, false, true, true, true, true, true, true, true, true, true, true, true, true, true, true, true, true, true, true, true, true, true, true, true, true, true, true, true, true, true, true, true, true, true, true, true, true, true, true, true, true, true, true, true, true, true, true, true, true, true, true, true, true, true, true, true, true, true, true, true, true, true, true, true, true, true, true, true, true, true, true, true, true, true, true, true, true, true, true, true, true, true, true, true, true, true, true, true, true, true, true, true, true, true, true, true, true, true, true, true, true, true, false] [6] (fun n xs => ∃ i : Nat, i ≤ X.length ∧ i + n = X.length ∧ xs = [num i]) ⟨X.length, _, ⟨0, by omega, by omega, rfl⟩, ?_⟩ ?_
  · simp only [hvm_t, hvm_f, hvm_nil, puts_cons, puts_nil, List.set_cons_zero, List.set_cons_succ, num]
    repeat first | exact Wk.nil | refine wk_ownsl ?_ | refine Wk.same ?_ | refine wk_any ?_
  · rintro n xs ⟨i, hi1, hi2, rfl⟩
    simp only [hvm_t, hvm_f, hvm_nil, puts_cons, puts_nil, List.set_cons_zero, List.set_cons_succ, num]
    rcases Nat.lt_or_ge i X.length with hlt | hge
    · have ej := eq_true (show (i : Int) < (X.length : Int) by omega)
      obtain ⟨t, ht, htd⟩ := drop_at hlt
      have hgx := strs_at ht
      have hw : IntKind.i64.wrap ((i : Int) + 1) = ((i + 1 : Nat) : Int) := wrap_succ (by omega)
      obtain ⟨a, ha1, ha2, ha3, hp⟩ := parse_all (L := L) (t := t) (by rw [hX]; exact List.mem_of_getElem? ht)
      have htl : t.length ≤ 1000000 := by rw [← ha3]; have := valid_len ha2; omega
      have hvn := valid_n ha2
      have hI : I64 a.n := ⟨by omega, by omega⟩
      have hw1 : IntKind.i64.wrap (a.n - 1) = a.n - 1 := wrap_in (by omega) (by omega)
      rcases Nat.eq_zero_or_pos i with h0 | h0
      · have i0 := eq_false (show ¬ (0 : Int) < (i : Int) by omega)
        repeat' first|refine Spl.on (fun _=>?_) (fun _=>?_)|with_reducible refine gd ?_|simp only [go_sem, Int.reduceEq, Int.cast_ofNat_Int, Bool.false_eq_true, xblkG_exit3, List.length_map, beq_self_eq_true, if_true, if_false, ej, hgx, hw, i0]
        refine ((parse20 t htl).wk ?_).mono ?_
        · try simp only [num, str]
          repeat first | exact Wk.nil | exact Wk.refl _ | refine wk_agg ?_ ?_ | refine wk_ownsl ?_ | refine wk_nilsl ?_ | refine Wk.same ?_
        rintro r rfl
        try simp only [hp, parseA, adrA, num, str]
        by_cases hk5 : a.kind = 5
        · have hkk := hk5
          have e5 := eq_true (show a.kind = 5 by omega)
          have e3 := eq_false (show ¬ a.kind = 3 by omega)
          have e4 := eq_false (show ¬ a.kind = 4 by omega)
          have h5 : decide (fmtS ⟨3, a.name, 1, []⟩ ∈ X) = true := decide_eq_true (by rw [← hX]; exact k5 ha1 hkk)
          repeat' first|refine Spl.on (fun _=>?_) (fun _=>?_)|with_reducible refine gd ?_|simp only [go_sem, Int.reduceEq, Int.cast_ofNat_Int, Bool.false_eq_true, xblkG_exit3, List.length_map, beq_self_eq_true, if_true, if_false, ej, hgx, hw, hw1, i0, e5, e3, e4, nums_length]
          refine ((formatS ⟨3, a.name, 1, []⟩).wk ?_).mono ?_
          · try simp only [adrA, num, str]
            repeat first | exact Wk.nil | exact Wk.refl _ | refine wk_agg ?_ ?_ | refine wk_ownsl ?_ | refine wk_nilsl ?_ | refine Wk.same ?_
          rintro r rfl
          try simp only [tru, num, str]
          repeat' first|refine Spl.on (fun _=>?_) (fun _=>?_)|with_reducible refine gd ?_|simp only [go_sem, Int.reduceEq, Int.cast_ofNat_Int, Bool.false_eq_true, xblkG_exit3, List.length_map, beq_self_eq_true, if_true, if_false, ej, hgx, hw, hw1, i0, e5, e3, e4, nums_length]
          refine ((formatS ⟨3, a.name, a.n - 1, []⟩).wk ?_).mono ?_
          · try simp only [adrA, num, str]
            repeat first | exact Wk.nil | exact Wk.refl _ | refine wk_agg ?_ ?_ | refine wk_ownsl ?_ | refine wk_nilsl ?_ | refine Wk.same ?_
          rintro r rfl
          try simp only [tru, num, str]
          repeat' first|refine Spl.on (fun _=>?_) (fun _=>?_)|with_reducible refine gd ?_|simp only [go_sem, Int.reduceEq, Int.cast_ofNat_Int, Bool.false_eq_true, xblkG_exit3, List.length_map, beq_self_eq_true, if_true, if_false, ej, hgx, hw, hw1, i0, e5, e3, e4, nums_length]
          refine ((page20 L [] a.name a.n hI (by omega) hok.st).wk ?_).mono ?_
          · try simp only [stA, num, str]
            repeat first | exact Wk.nil | exact Wk.refl _ | refine wk_agg ?_ ?_ | refine wk_ownsl ?_ | refine wk_nilsl ?_ | refine Wk.same ?_
          rintro r rfl
          try simp only [tru, num, str]
          repeat' first|refine Spl.on (fun _=>?_) (fun _=>?_)|with_reducible refine gd ?_|simp only [go_sem, Int.reduceEq, Int.cast_ofNat_Int, Bool.false_eq_true, xblkG_exit3, List.length_map, beq_self_eq_true, if_true, if_false, ej, hgx, hw, hw1, i0, e5, e3, e4, nums_length]
          refine ((has26 X (fmtS ⟨3, a.name, 1, []⟩) hal).wk ?_).mono ?_
          · try simp only [num, str]
            repeat first | exact Wk.nil | exact Wk.refl _ | refine wk_agg ?_ ?_ | refine wk_ownsl ?_ | refine wk_nilsl ?_ | refine Wk.same ?_
          rintro r rfl
          try simp only [h5, tru]
          repeat' first|refine Spl.on (fun _=>?_) (fun _=>?_)|with_reducible refine gd ?_|simp only [go_sem, Int.reduceEq, Int.cast_ofNat_Int, Bool.false_eq_true, xblkG_exit3, List.length_map, beq_self_eq_true, if_true, if_false, ej, hgx, hw, hw1, i0, e5, e3, e4, nums_length]
          refine ((has26 X (fmtS ⟨3, a.name, a.n - 1, []⟩) hal).wk ?_).mono ?_
          · try simp only [num, str]
            repeat first | exact Wk.nil | exact Wk.refl _ | refine wk_agg ?_ ?_ | refine wk_ownsl ?_ | refine wk_nilsl ?_ | refine Wk.same ?_
          rintro r rfl
          try simp only [tru]
          repeat' first|refine Spl.on (fun _=>?_) (fun _=>?_)|with_reducible refine gd ?_|simp only [go_sem, Int.reduceEq, Int.cast_ofNat_Int, Bool.false_eq_true, xblkG_exit3, List.length_map, beq_self_eq_true, if_true, if_false, ej, hgx, hw, hw1, i0, e5, e3, e4, nums_length]
          refine lend_mk (n - 1) [num ((i + 1 : Nat) : Int)] (by omega) ⟨i + 1, by omega, by omega, rfl⟩ ?_
          simp only [hvm_t, hvm_f, hvm_nil, puts_cons, puts_nil, List.set_cons_zero, List.set_cons_succ, num]
          repeat first | exact Wk.nil | refine wk_ownsl ?_ | refine Wk.same ?_ | refine wk_any ?_
        by_cases hk3 : a.kind = 3
        · have hkk := hk3
          have e5 := eq_false (show ¬ a.kind = 5 by omega)
          have e3 := eq_true (show a.kind = 3 by omega)
          have e4 := eq_false (show ¬ a.kind = 4 by omega)
          obtain ⟨g1, g2⟩ := k3 ha1 hkk
          have hpl := eq_false (show ¬ (((pgL ((newL a.name L).reverse.map (·.id)) a.n).length : Nat) : Int) = 0 by
            intro h
            exact g1 (List.eq_nil_of_length_eq_zero (by omega)))
          have g3 : 1 < a.n → decide (fmtS ⟨3, a.name, a.n - 1, []⟩ ∈ X) = true := fun h => decide_eq_true (by rw [← hX]; exact g2 h)
          by_cases h1n : 1 < a.n
          · have e1n := eq_true h1n
            have g4 := g3 h1n
            repeat' first|refine Spl.on (fun _=>?_) (fun _=>?_)|with_reducible refine gd ?_|simp only [go_sem, Int.reduceEq, Int.cast_ofNat_Int, Bool.false_eq_true, xblkG_exit3, List.length_map, beq_self_eq_true, if_true, if_false, ej, hgx, hw, hw1, i0, e5, e3, e4, nums_length, hpl, e1n]
            refine ((formatS ⟨3, a.name, 1, []⟩).wk ?_).mono ?_
            · try simp only [adrA, num, str]
              repeat first | exact Wk.nil | exact Wk.refl _ | refine wk_agg ?_ ?_ | refine wk_ownsl ?_ | refine wk_nilsl ?_ | refine Wk.same ?_
            rintro r rfl
            try simp only [tru, num, str]
            repeat' first|refine Spl.on (fun _=>?_) (fun _=>?_)|with_reducible refine gd ?_|simp only [go_sem, Int.reduceEq, Int.cast_ofNat_Int, Bool.false_eq_true, xblkG_exit3, List.length_map, beq_self_eq_true, if_true, if_false, ej, hgx, hw, hw1, i0, e5, e3, e4, nums_length, hpl, e1n]
            refine ((formatS ⟨3, a.name, a.n - 1, []⟩).wk ?_).mono ?_
            · try simp only [adrA, num, str]
              repeat first | exact Wk.nil | exact Wk.refl _ | refine wk_agg ?_ ?_ | refine wk_ownsl ?_ | refine wk_nilsl ?_ | refine Wk.same ?_
            rintro r rfl
            try simp only [tru, num, str]
            repeat' first|refine Spl.on (fun _=>?_) (fun _=>?_)|with_reducible refine gd ?_|simp only [go_sem, Int.reduceEq, Int.cast_ofNat_Int, Bool.false_eq_true, xblkG_exit3, List.length_map, beq_self_eq_true, if_true, if_false, ej, hgx, hw, hw1, i0, e5, e3, e4, nums_length, hpl, e1n]
            refine ((page20 L [] a.name a.n hI (by omega) hok.st).wk ?_).mono ?_
            · try simp only [stA, num, str]
              repeat first | exact Wk.nil | exact Wk.refl _ | refine wk_agg ?_ ?_ | refine wk_ownsl ?_ | refine wk_nilsl ?_ | refine Wk.same ?_
            rintro r rfl
            try simp only [tru, num, str]
            repeat' first|refine Spl.on (fun _=>?_) (fun _=>?_)|with_reducible refine gd ?_|simp only [go_sem, Int.reduceEq, Int.cast_ofNat_Int, Bool.false_eq_true, xblkG_exit3, List.length_map, beq_self_eq_true, if_true, if_false, ej, hgx, hw, hw1, i0, e5, e3, e4, nums_length, hpl, e1n]
            refine ((has26 X (fmtS ⟨3, a.name, 1, []⟩) hal).wk ?_).mono ?_
            · try simp only [num, str]
              repeat first | exact Wk.nil | exact Wk.refl _ | refine wk_agg ?_ ?_ | refine wk_ownsl ?_ | refine wk_nilsl ?_ | refine Wk.same ?_
            rintro r rfl
            try simp only [tru]
            repeat' first|refine Spl.on (fun _=>?_) (fun _=>?_)|with_reducible refine gd ?_|simp only [go_sem, Int.reduceEq, Int.cast_ofNat_Int, Bool.false_eq_true, xblkG_exit3, List.length_map, beq_self_eq_true, if_true, if_false, ej, hgx, hw, hw1, i0, e5, e3, e4, nums_length, hpl, e1n]
            refine ((has26 X (fmtS ⟨3, a.name, a.n - 1, []⟩) hal).wk ?_).mono ?_
            · try simp only [num, str]
              repeat first | exact Wk.nil | exact Wk.refl _ | refine wk_agg ?_ ?_ | refine wk_ownsl ?_ | refine wk_nilsl ?_ | refine Wk.same ?_
            rintro r rfl
            try simp only [g4, tru]
            repeat' first|refine Spl.on (fun _=>?_) (fun _=>?_)|with_reducible refine gd ?_|simp only [go_sem, Int.reduceEq, Int.cast_ofNat_Int, Bool.false_eq_true, xblkG_exit3, List.length_map, beq_self_eq_true, if_true, if_false, ej, hgx, hw, hw1, i0, e5, e3, e4, nums_length, hpl, e1n]
            refine lend_mk (n - 1) [num ((i + 1 : Nat) : Int)] (by omega) ⟨i + 1, by omega, by omega, rfl⟩ ?_
            simp only [hvm_t, hvm_f, hvm_nil, puts_cons, puts_nil, List.set_cons_zero, List.set_cons_succ, num]
            repeat first | exact Wk.nil | refine wk_ownsl ?_ | refine Wk.same ?_ | refine wk_any ?_
          · have e1n := eq_false h1n
            repeat' first|refine Spl.on (fun _=>?_) (fun _=>?_)|with_reducible refine gd ?_|simp only [go_sem, Int.reduceEq, Int.cast_ofNat_Int, Bool.false_eq_true, xblkG_exit3, List.length_map, beq_self_eq_true, if_true, if_false, ej, hgx, hw, hw1, i0, e5, e3, e4, nums_length, hpl, e1n]
            refine ((formatS ⟨3, a.name, 1, []⟩).wk ?_).mono ?_
            · try simp only [adrA, num, str]
              repeat first | exact Wk.nil | exact Wk.refl _ | refine wk_agg ?_ ?_ | refine wk_ownsl ?_ | refine wk_nilsl ?_ | refine Wk.same ?_
            rintro r rfl
            try simp only [tru, num, str]
            repeat' first|refine Spl.on (fun _=>?_) (fun _=>?_)|with_reducible refine gd ?_|simp only [go_sem, Int.reduceEq, Int.cast_ofNat_Int, Bool.false_eq_true, xblkG_exit3, List.length_map, beq_self_eq_true, if_true, if_false, ej, hgx, hw, hw1, i0, e5, e3, e4, nums_length, hpl, e1n]
            refine ((formatS ⟨3, a.name, a.n - 1, []⟩).wk ?_).mono ?_
            · try simp only [adrA, num, str]
              repeat first | exact Wk.nil | exact Wk.refl _ | refine wk_agg ?_ ?_ | refine wk_ownsl ?_ | refine wk_nilsl ?_ | refine Wk.same ?_
            rintro r rfl
            try simp only [tru, num, str]
            repeat' first|refine Spl.on (fun _=>?_) (fun _=>?_)|with_reducible refine gd ?_|simp only [go_sem, Int.reduceEq, Int.cast_ofNat_Int, Bool.false_eq_true, xblkG_exit3, List.length_map, beq_self_eq_true, if_true, if_false, ej, hgx, hw, hw1, i0, e5, e3, e4, nums_length, hpl, e1n]
            refine ((page20 L [] a.name a.n hI (by omega) hok.st).wk ?_).mono ?_
            · try simp only [stA, num, str]
              repeat first | exact Wk.nil | exact Wk.refl _ | refine wk_agg ?_ ?_ | refine wk_ownsl ?_ | refine wk_nilsl ?_ | refine Wk.same ?_
            rintro r rfl
            try simp only [tru, num, str]
            repeat' first|refine Spl.on (fun _=>?_) (fun _=>?_)|with_reducible refine gd ?_|simp only [go_sem, Int.reduceEq, Int.cast_ofNat_Int, Bool.false_eq_true, xblkG_exit3, List.length_map, beq_self_eq_true, if_true, if_false, ej, hgx, hw, hw1, i0, e5, e3, e4, nums_length, hpl, e1n]
            refine ((has26 X (fmtS ⟨3, a.name, 1, []⟩) hal).wk ?_).mono ?_
            · try simp only [num, str]
              repeat first | exact Wk.nil | exact Wk.refl _ | refine wk_agg ?_ ?_ | refine wk_ownsl ?_ | refine wk_nilsl ?_ | refine Wk.same ?_
            rintro r rfl
            try simp only [tru]
            repeat' first|refine Spl.on (fun _=>?_) (fun _=>?_)|with_reducible refine gd ?_|simp only [go_sem, Int.reduceEq, Int.cast_ofNat_Int, Bool.false_eq_true, xblkG_exit3, List.length_map, beq_self_eq_true, if_true, if_false, ej, hgx, hw, hw1, i0, e5, e3, e4, nums_length, hpl, e1n]
            refine ((has26 X (fmtS ⟨3, a.name, a.n - 1, []⟩) hal).wk ?_).mono ?_
            · try simp only [num, str]
              repeat first | exact Wk.nil | exact Wk.refl _ | refine wk_agg ?_ ?_ | refine wk_ownsl ?_ | refine wk_nilsl ?_ | refine Wk.same ?_
            rintro r rfl
            try simp only [tru]
            repeat' first|refine Spl.on (fun _=>?_) (fun _=>?_)|with_reducible refine gd ?_|simp only [go_sem, Int.reduceEq, Int.cast_ofNat_Int, Bool.false_eq_true, xblkG_exit3, List.length_map, beq_self_eq_true, if_true, if_false, ej, hgx, hw, hw1, i0, e5, e3, e4, nums_length, hpl, e1n]
            refine lend_mk (n - 1) [num ((i + 1 : Nat) : Int)] (by omega) ⟨i + 1, by omega, by omega, rfl⟩ ?_
            simp only [hvm_t, hvm_f, hvm_nil, puts_cons, puts_nil, List.set_cons_zero, List.set_cons_succ, num]
            repeat first | exact Wk.nil | refine wk_ownsl ?_ | refine Wk.same ?_ | refine wk_any ?_
        by_cases hk4 : a.kind = 4
        · have hkk := hk4
          have e5 := eq_false (show ¬ a.kind = 5 by omega)
          have e3 := eq_false (show ¬ a.kind = 3 by omega)
          have e4 := eq_true (show a.kind = 4 by omega)
          have hby := eq_false (show ¬ ((((newL [] L).filter fun s => decide (s.au = a.name)).length : Nat) : Int) = 0 by
            intro h
            exact k4 ha1 hkk (by rw [List.eq_nil_of_length_eq_zero (l := (newL [] L).filter fun s => decide (s.au = a.name)) (by omega)]; rfl))
          repeat' first|refine Spl.on (fun _=>?_) (fun _=>?_)|with_reducible refine gd ?_|simp only [go_sem, Int.reduceEq, Int.cast_ofNat_Int, Bool.false_eq_true, xblkG_exit3, List.length_map, beq_self_eq_true, if_true, if_false, ej, hgx, hw, hw1, i0, e5, e3, e4, nums_length, hby]
          refine ((formatS ⟨3, a.name, 1, []⟩).wk ?_).mono ?_
          · try simp only [adrA, num, str]
            repeat first | exact Wk.nil | exact Wk.refl _ | refine wk_agg ?_ ?_ | refine wk_ownsl ?_ | refine wk_nilsl ?_ | refine Wk.same ?_
          rintro r rfl
          try simp only [tru, num, str]
          repeat' first|refine Spl.on (fun _=>?_) (fun _=>?_)|with_reducible refine gd ?_|simp only [go_sem, Int.reduceEq, Int.cast_ofNat_Int, Bool.false_eq_true, xblkG_exit3, List.length_map, beq_self_eq_true, if_true, if_false, ej, hgx, hw, hw1, i0, e5, e3, e4, nums_length, hby]
          refine ((formatS ⟨3, a.name, a.n - 1, []⟩).wk ?_).mono ?_
          · try simp only [adrA, num, str]
            repeat first | exact Wk.nil | exact Wk.refl _ | refine wk_agg ?_ ?_ | refine wk_ownsl ?_ | refine wk_nilsl ?_ | refine Wk.same ?_
          rintro r rfl
          try simp only [tru, num, str]
          repeat' first|refine Spl.on (fun _=>?_) (fun _=>?_)|with_reducible refine gd ?_|simp only [go_sem, Int.reduceEq, Int.cast_ofNat_Int, Bool.false_eq_true, xblkG_exit3, List.length_map, beq_self_eq_true, if_true, if_false, ej, hgx, hw, hw1, i0, e5, e3, e4, nums_length, hby]
          refine ((page20 L [] a.name a.n hI (by omega) hok.st).wk ?_).mono ?_
          · try simp only [stA, num, str]
            repeat first | exact Wk.nil | exact Wk.refl _ | refine wk_agg ?_ ?_ | refine wk_ownsl ?_ | refine wk_nilsl ?_ | refine Wk.same ?_
          rintro r rfl
          try simp only [tru, num, str]
          repeat' first|refine Spl.on (fun _=>?_) (fun _=>?_)|with_reducible refine gd ?_|simp only [go_sem, Int.reduceEq, Int.cast_ofNat_Int, Bool.false_eq_true, xblkG_exit3, List.length_map, beq_self_eq_true, if_true, if_false, ej, hgx, hw, hw1, i0, e5, e3, e4, nums_length, hby]
          refine ((has26 X (fmtS ⟨3, a.name, 1, []⟩) hal).wk ?_).mono ?_
          · try simp only [num, str]
            repeat first | exact Wk.nil | exact Wk.refl _ | refine wk_agg ?_ ?_ | refine wk_ownsl ?_ | refine wk_nilsl ?_ | refine Wk.same ?_
          rintro r rfl
          try simp only [tru]
          repeat' first|refine Spl.on (fun _=>?_) (fun _=>?_)|with_reducible refine gd ?_|simp only [go_sem, Int.reduceEq, Int.cast_ofNat_Int, Bool.false_eq_true, xblkG_exit3, List.length_map, beq_self_eq_true, if_true, if_false, ej, hgx, hw, hw1, i0, e5, e3, e4, nums_length, hby]
          refine ((has26 X (fmtS ⟨3, a.name, a.n - 1, []⟩) hal).wk ?_).mono ?_
          · try simp only [num, str]
            repeat first | exact Wk.nil | exact Wk.refl _ | refine wk_agg ?_ ?_ | refine wk_ownsl ?_ | refine wk_nilsl ?_ | refine Wk.same ?_
          rintro r rfl
          try simp only [tru]
          repeat' first|refine Spl.on (fun _=>?_) (fun _=>?_)|with_reducible refine gd ?_|simp only [go_sem, Int.reduceEq, Int.cast_ofNat_Int, Bool.false_eq_true, xblkG_exit3, List.length_map, beq_self_eq_true, if_true, if_false, ej, hgx, hw, hw1, i0, e5, e3, e4, nums_length, hby]
          refine ((by18 L [] a.name (by omega) hok.st).wk ?_).mono ?_
          · try simp only [stA, num, str]
            repeat first | exact Wk.nil | exact Wk.refl _ | refine wk_agg ?_ ?_ | refine wk_ownsl ?_ | refine wk_nilsl ?_ | refine Wk.same ?_
          rintro r rfl
          try simp only [tru, num, str]
          repeat' first|refine Spl.on (fun _=>?_) (fun _=>?_)|with_reducible refine gd ?_|simp only [go_sem, Int.reduceEq, Int.cast_ofNat_Int, Bool.false_eq_true, xblkG_exit3, List.length_map, beq_self_eq_true, if_true, if_false, ej, hgx, hw, hw1, i0, e5, e3, e4, nums_length, hby]
          refine lend_mk (n - 1) [num ((i + 1 : Nat) : Int)] (by omega) ⟨i + 1, by omega, by omega, rfl⟩ ?_
          simp only [hvm_t, hvm_f, hvm_nil, puts_cons, puts_nil, List.set_cons_zero, List.set_cons_succ, num]
          repeat first | exact Wk.nil | refine wk_ownsl ?_ | refine Wk.same ?_ | refine wk_any ?_
        have e5 := eq_false (show ¬ a.kind = 5 by omega)
        have e3 := eq_false (show ¬ a.kind = 3 by omega)
        have e4 := eq_false (show ¬ a.kind = 4 by omega)
        repeat' first|refine Spl.on (fun _=>?_) (fun _=>?_)|with_reducible refine gd ?_|simp only [go_sem, Int.reduceEq, Int.cast_ofNat_Int, Bool.false_eq_true, xblkG_exit3, List.length_map, beq_self_eq_true, if_true, if_false, ej, hgx, hw, hw1, i0, e5, e3, e4, nums_length]
        refine ((formatS ⟨3, a.name, 1, []⟩).wk ?_).mono ?_
        · try simp only [adrA, num, str]
          repeat first | exact Wk.nil | exact Wk.refl _ | refine wk_agg ?_ ?_ | refine wk_ownsl ?_ | refine wk_nilsl ?_ | refine Wk.same ?_
        rintro r rfl
        try simp only [tru, num, str]
        repeat' first|refine Spl.on (fun _=>?_) (fun _=>?_)|with_reducible refine gd ?_|simp only [go_sem, Int.reduceEq, Int.cast_ofNat_Int, Bool.false_eq_true, xblkG_exit3, List.length_map, beq_self_eq_true, if_true, if_false, ej, hgx, hw, hw1, i0, e5, e3, e4, nums_length]
        refine ((formatS ⟨3, a.name, a.n - 1, []⟩).wk ?_).mono ?_
        · try simp only [adrA, num, str]
          repeat first | exact Wk.nil | exact Wk.refl _ | refine wk_agg ?_ ?_ | refine wk_ownsl ?_ | refine wk_nilsl ?_ | refine Wk.same ?_
        rintro r rfl
        try simp only [tru, num, str]
        repeat' first|refine Spl.on (fun _=>?_) (fun _=>?_)|with_reducible refine gd ?_|simp only [go_sem, Int.reduceEq, Int.cast_ofNat_Int, Bool.false_eq_true, xblkG_exit3, List.length_map, beq_self_eq_true, if_true, if_false, ej, hgx, hw, hw1, i0, e5, e3, e4, nums_length]
        refine ((page20 L [] a.name a.n hI (by omega) hok.st).wk ?_).mono ?_
        · try simp only [stA, num, str]
          repeat first | exact Wk.nil | exact Wk.refl _ | refine wk_agg ?_ ?_ | refine wk_ownsl ?_ | refine wk_nilsl ?_ | refine Wk.same ?_
        rintro r rfl
        try simp only [tru, num, str]
        repeat' first|refine Spl.on (fun _=>?_) (fun _=>?_)|with_reducible refine gd ?_|simp only [go_sem, Int.reduceEq, Int.cast_ofNat_Int, Bool.false_eq_true, xblkG_exit3, List.length_map, beq_self_eq_true, if_true, if_false, ej, hgx, hw, hw1, i0, e5, e3, e4, nums_length]
        refine ((has26 X (fmtS ⟨3, a.name, 1, []⟩) hal).wk ?_).mono ?_
        · try simp only [num, str]
          repeat first | exact Wk.nil | exact Wk.refl _ | refine wk_agg ?_ ?_ | refine wk_ownsl ?_ | refine wk_nilsl ?_ | refine Wk.same ?_
        rintro r rfl
        try simp only [tru]
        repeat' first|refine Spl.on (fun _=>?_) (fun _=>?_)|with_reducible refine gd ?_|simp only [go_sem, Int.reduceEq, Int.cast_ofNat_Int, Bool.false_eq_true, xblkG_exit3, List.length_map, beq_self_eq_true, if_true, if_false, ej, hgx, hw, hw1, i0, e5, e3, e4, nums_length]
        refine ((has26 X (fmtS ⟨3, a.name, a.n - 1, []⟩) hal).wk ?_).mono ?_
        · try simp only [num, str]
          repeat first | exact Wk.nil | exact Wk.refl _ | refine wk_agg ?_ ?_ | refine wk_ownsl ?_ | refine wk_nilsl ?_ | refine Wk.same ?_
        rintro r rfl
        try simp only [tru]
        repeat' first|refine Spl.on (fun _=>?_) (fun _=>?_)|with_reducible refine gd ?_|simp only [go_sem, Int.reduceEq, Int.cast_ofNat_Int, Bool.false_eq_true, xblkG_exit3, List.length_map, beq_self_eq_true, if_true, if_false, ej, hgx, hw, hw1, i0, e5, e3, e4, nums_length]
        refine lend_mk (n - 1) [num ((i + 1 : Nat) : Int)] (by omega) ⟨i + 1, by omega, by omega, rfl⟩ ?_
        simp only [hvm_t, hvm_f, hvm_nil, puts_cons, puts_nil, List.set_cons_zero, List.set_cons_succ, num]
        repeat first | exact Wk.nil | refine wk_ownsl ?_ | refine Wk.same ?_ | refine wk_any ?_
      · have i0 := eq_true (show (0 : Int) < (i : Int) by omega)
        have hwi : IntKind.i64.wrap ((i : Int) - 1) = ((i - 1 : Nat) : Int) := by rw [wrap_in (by omega) (by omega)]; omega
        obtain ⟨u, hu⟩ : ∃ u, X[i - 1]? = some u := ⟨_, List.getElem?_eq_getElem (by omega)⟩
        have hgu := strs_at hu
        have hbl : Op.bytesLess u t = true := by
          rw [bytesLess_eq]
          refine decide_eq_true ?_
          have hasc := all_asc L
          rw [hX] at hasc
          have h1 := List.pairwise_iff_getElem.1 hasc (i - 1) i (by omega) hlt (by omega)
          rw [(List.getElem?_eq_some_iff.1 hu).2, (List.getElem?_eq_some_iff.1 ht).2] at h1
          exact h1
        repeat' first|refine Spl.on (fun _=>?_) (fun _=>?_)|with_reducible refine gd ?_|simp only [go_sem, Int.reduceEq, Int.cast_ofNat_Int, Bool.false_eq_true, xblkG_exit3, List.length_map, beq_self_eq_true, if_true, if_false, ej, hgx, hw, i0, hwi, hgu, hbl, Int.toNat_natCast]
        refine ((parse20 t htl).wk ?_).mono ?_
        · try simp only [num, str]
          repeat first | exact Wk.nil | exact Wk.refl _ | refine wk_agg ?_ ?_ | refine wk_ownsl ?_ | refine wk_nilsl ?_ | refine Wk.same ?_
        rintro r rfl
        try simp only [hp, parseA, adrA, num, str]
        by_cases hk5 : a.kind = 5
        · have hkk := hk5
          have e5 := eq_true (show a.kind = 5 by omega)
          have e3 := eq_false (show ¬ a.kind = 3 by omega)
          have e4 := eq_false (show ¬ a.kind = 4 by omega)
          have h5 : decide (fmtS ⟨3, a.name, 1, []⟩ ∈ X) = true := decide_eq_true (by rw [← hX]; exact k5 ha1 hkk)
          repeat' first|refine Spl.on (fun _=>?_) (fun _=>?_)|with_reducible refine gd ?_|simp only [go_sem, Int.reduceEq, Int.cast_ofNat_Int, Bool.false_eq_true, xblkG_exit3, List.length_map, beq_self_eq_true, if_true, if_false, ej, hgx, hw, hw1, i0, hwi, hgu, hbl, Int.toNat_natCast, e5, e3, e4, nums_length]
          refine ((formatS ⟨3, a.name, 1, []⟩).wk ?_).mono ?_
          · try simp only [adrA, num, str]
            repeat first | exact Wk.nil | exact Wk.refl _ | refine wk_agg ?_ ?_ | refine wk_ownsl ?_ | refine wk_nilsl ?_ | refine Wk.same ?_
          rintro r rfl
          try simp only [tru, num, str]
          repeat' first|refine Spl.on (fun _=>?_) (fun _=>?_)|with_reducible refine gd ?_|simp only [go_sem, Int.reduceEq, Int.cast_ofNat_Int, Bool.false_eq_true, xblkG_exit3, List.length_map, beq_self_eq_true, if_true, if_false, ej, hgx, hw, hw1, i0, hwi, hgu, hbl, Int.toNat_natCast, e5, e3, e4, nums_length]
          refine ((formatS ⟨3, a.name, a.n - 1, []⟩).wk ?_).mono ?_
          · try simp only [adrA, num, str]
            repeat first | exact Wk.nil | exact Wk.refl _ | refine wk_agg ?_ ?_ | refine wk_ownsl ?_ | refine wk_nilsl ?_ | refine Wk.same ?_
          rintro r rfl
          try simp only [tru, num, str]
          repeat' first|refine Spl.on (fun _=>?_) (fun _=>?_)|with_reducible refine gd ?_|simp only [go_sem, Int.reduceEq, Int.cast_ofNat_Int, Bool.false_eq_true, xblkG_exit3, List.length_map, beq_self_eq_true, if_true, if_false, ej, hgx, hw, hw1, i0, hwi, hgu, hbl, Int.toNat_natCast, e5, e3, e4, nums_length]
          refine ((page20 L [] a.name a.n hI (by omega) hok.st).wk ?_).mono ?_
          · try simp only [stA, num, str]
            repeat first | exact Wk.nil | exact Wk.refl _ | refine wk_agg ?_ ?_ | refine wk_ownsl ?_ | refine wk_nilsl ?_ | refine Wk.same ?_
          rintro r rfl
          try simp only [tru, num, str]
          repeat' first|refine Spl.on (fun _=>?_) (fun _=>?_)|with_reducible refine gd ?_|simp only [go_sem, Int.reduceEq, Int.cast_ofNat_Int, Bool.false_eq_true, xblkG_exit3, List.length_map, beq_self_eq_true, if_true, if_false, ej, hgx, hw, hw1, i0, hwi, hgu, hbl, Int.toNat_natCast, e5, e3, e4, nums_length]
          refine ((has26 X (fmtS ⟨3, a.name, 1, []⟩) hal).wk ?_).mono ?_
          · try simp only [num, str]
            repeat first | exact Wk.nil | exact Wk.refl _ | refine wk_agg ?_ ?_ | refine wk_ownsl ?_ | refine wk_nilsl ?_ | refine Wk.same ?_
          rintro r rfl
          try simp only [h5, tru]
          repeat' first|refine Spl.on (fun _=>?_) (fun _=>?_)|with_reducible refine gd ?_|simp only [go_sem, Int.reduceEq, Int.cast_ofNat_Int, Bool.false_eq_true, xblkG_exit3, List.length_map, beq_self_eq_true, if_true, if_false, ej, hgx, hw, hw1, i0, hwi, hgu, hbl, Int.toNat_natCast, e5, e3, e4, nums_length]
          refine ((has26 X (fmtS ⟨3, a.name, a.n - 1, []⟩) hal).wk ?_).mono ?_
          · try simp only [num, str]
            repeat first | exact Wk.nil | exact Wk.refl _ | refine wk_agg ?_ ?_ | refine wk_ownsl ?_ | refine wk_nilsl ?_ | refine Wk.same ?_
          rintro r rfl
          try simp only [tru]
          repeat' first|refine Spl.on (fun _=>?_) (fun _=>?_)|with_reducible refine gd ?_|simp only [go_sem, Int.reduceEq, Int.cast_ofNat_Int, Bool.false_eq_true, xblkG_exit3, List.length_map, beq_self_eq_true, if_true, if_false, ej, hgx, hw, hw1, i0, hwi, hgu, hbl, Int.toNat_natCast, e5, e3, e4, nums_length]
          refine lend_mk (n - 1) [num ((i + 1 : Nat) : Int)] (by omega) ⟨i + 1, by omega, by omega, rfl⟩ ?_
          simp only [hvm_t, hvm_f, hvm_nil, puts_cons, puts_nil, List.set_cons_zero, List.set_cons_succ, num]
          repeat first | exact Wk.nil | refine wk_ownsl ?_ | refine Wk.same ?_ | refine wk_any ?_
        by_cases hk3 : a.kind = 3
        · have hkk := hk3
          have e5 := eq_false (show ¬ a.kind = 5 by omega)
          have e3 := eq_true (show a.kind = 3 by omega)
          have e4 := eq_false (show ¬ a.kind = 4 by omega)
          obtain ⟨g1, g2⟩ := k3 ha1 hkk
          have hpl := eq_false (show ¬ (((pgL ((newL a.name L).reverse.map (·.id)) a.n).length : Nat) : Int) = 0 by
            intro h
            exact g1 (List.eq_nil_of_length_eq_zero (by omega)))
          have g3 : 1 < a.n → decide (fmtS ⟨3, a.name, a.n - 1, []⟩ ∈ X) = true := fun h => decide_eq_true (by rw [← hX]; exact g2 h)
          by_cases h1n : 1 < a.n
          · have e1n := eq_true h1n
            have g4 := g3 h1n
            repeat' first|refine Spl.on (fun _=>?_) (fun _=>?_)|with_reducible refine gd ?_|simp only [go_sem, Int.reduceEq, Int.cast_ofNat_Int, Bool.false_eq_true, xblkG_exit3, List.length_map, beq_self_eq_true, if_true, if_false, ej, hgx, hw, hw1, i0, hwi, hgu, hbl, Int.toNat_natCast, e5, e3, e4, nums_length, hpl, e1n]
            refine ((formatS ⟨3, a.name, 1, []⟩).wk ?_).mono ?_
            · try simp only [adrA, num, str]
              repeat first | exact Wk.nil | exact Wk.refl _ | refine wk_agg ?_ ?_ | refine wk_ownsl ?_ | refine wk_nilsl ?_ | refine Wk.same ?_
            rintro r rfl
            try simp only [tru, num, str]
            repeat' first|refine Spl.on (fun _=>?_) (fun _=>?_)|with_reducible refine gd ?_|simp only [go_sem, Int.reduceEq, Int.cast_ofNat_Int, Bool.false_eq_true, xblkG_exit3, List.length_map, beq_self_eq_true, if_true, if_false, ej, hgx, hw, hw1, i0, hwi, hgu, hbl, Int.toNat_natCast, e5, e3, e4, nums_length, hpl, e1n]
            refine ((formatS ⟨3, a.name, a.n - 1, []⟩).wk ?_).mono ?_
            · try simp only [adrA, num, str]
              repeat first | exact Wk.nil | exact Wk.refl _ | refine wk_agg ?_ ?_ | refine wk_ownsl ?_ | refine wk_nilsl ?_ | refine Wk.same ?_
            rintro r rfl
            try simp only [tru, num, str]
            repeat' first|refine Spl.on (fun _=>?_) (fun _=>?_)|with_reducible refine gd ?_|simp only [go_sem, Int.reduceEq, Int.cast_ofNat_Int, Bool.false_eq_true, xblkG_exit3, List.length_map, beq_self_eq_true, if_true, if_false, ej, hgx, hw, hw1, i0, hwi, hgu, hbl, Int.toNat_natCast, e5, e3, e4, nums_length, hpl, e1n]
            refine ((page20 L [] a.name a.n hI (by omega) hok.st).wk ?_).mono ?_
            · try simp only [stA, num, str]
              repeat first | exact Wk.nil | exact Wk.refl _ | refine wk_agg ?_ ?_ | refine wk_ownsl ?_ | refine wk_nilsl ?_ | refine Wk.same ?_
            rintro r rfl
            try simp only [tru, num, str]
            repeat' first|refine Spl.on (fun _=>?_) (fun _=>?_)|with_reducible refine gd ?_|simp only [go_sem, Int.reduceEq, Int.cast_ofNat_Int, Bool.false_eq_true, xblkG_exit3, List.length_map, beq_self_eq_true, if_true, if_false, ej, hgx, hw, hw1, i0, hwi, hgu, hbl, Int.toNat_natCast, e5, e3, e4, nums_length, hpl, e1n]
            refine ((has26 X (fmtS ⟨3, a.name, 1, []⟩) hal).wk ?_).mono ?_
            · try simp only [num, str]
              repeat first | exact Wk.nil | exact Wk.refl _ | refine wk_agg ?_ ?_ | refine wk_ownsl ?_ | refine wk_nilsl ?_ | refine Wk.same ?_
            rintro r rfl
            try simp only [tru]
            repeat' first|refine Spl.on (fun _=>?_) (fun _=>?_)|with_reducible refine gd ?_|simp only [go_sem, Int.reduceEq, Int.cast_ofNat_Int, Bool.false_eq_true, xblkG_exit3, List.length_map, beq_self_eq_true, if_true, if_false, ej, hgx, hw, hw1, i0, hwi, hgu, hbl, Int.toNat_natCast, e5, e3, e4, nums_length, hpl, e1n]
            refine ((has26 X (fmtS ⟨3, a.name, a.n - 1, []⟩) hal).wk ?_).mono ?_
            · try simp only [num, str]
              repeat first | exact Wk.nil | exact Wk.refl _ | refine wk_agg ?_ ?_ | refine wk_ownsl ?_ | refine wk_nilsl ?_ | refine Wk.same ?_
            rintro r rfl
            try simp only [g4, tru]
            repeat' first|refine Spl.on (fun _=>?_) (fun _=>?_)|with_reducible refine gd ?_|simp only [go_sem, Int.reduceEq, Int.cast_ofNat_Int, Bool.false_eq_true, xblkG_exit3, List.length_map, beq_self_eq_true, if_true, if_false, ej, hgx, hw, hw1, i0, hwi, hgu, hbl, Int.toNat_natCast, e5, e3, e4, nums_length, hpl, e1n]
            refine lend_mk (n - 1) [num ((i + 1 : Nat) : Int)] (by omega) ⟨i + 1, by omega, by omega, rfl⟩ ?_
            simp only [hvm_t, hvm_f, hvm_nil, puts_cons, puts_nil, List.set_cons_zero, List.set_cons_succ, num]
            repeat first | exact Wk.nil | refine wk_ownsl ?_ | refine Wk.same ?_ | refine wk_any ?_
          · have e1n := eq_false h1n
            repeat' first|refine Spl.on (fun _=>?_) (fun _=>?_)|with_reducible refine gd ?_|simp only [go_sem, Int.reduceEq, Int.cast_ofNat_Int, Bool.false_eq_true, xblkG_exit3, List.length_map, beq_self_eq_true, if_true, if_false, ej, hgx, hw, hw1, i0, hwi, hgu, hbl, Int.toNat_natCast, e5, e3, e4, nums_length, hpl, e1n]
            refine ((formatS ⟨3, a.name, 1, []⟩).wk ?_).mono ?_
            · try simp only [adrA, num, str]
              repeat first | exact Wk.nil | exact Wk.refl _ | refine wk_agg ?_ ?_ | refine wk_ownsl ?_ | refine wk_nilsl ?_ | refine Wk.same ?_
            rintro r rfl
            try simp only [tru, num, str]
            repeat' first|refine Spl.on (fun _=>?_) (fun _=>?_)|with_reducible refine gd ?_|simp only [go_sem, Int.reduceEq, Int.cast_ofNat_Int, Bool.false_eq_true, xblkG_exit3, List.length_map, beq_self_eq_true, if_true, if_false, ej, hgx, hw, hw1, i0, hwi, hgu, hbl, Int.toNat_natCast, e5, e3, e4, nums_length, hpl, e1n]
            refine ((formatS ⟨3, a.name, a.n - 1, []⟩).wk ?_).mono ?_
            · try simp only [adrA, num, str]
              repeat first | exact Wk.nil | exact Wk.refl _ | refine wk_agg ?_ ?_ | refine wk_ownsl ?_ | refine wk_nilsl ?_ | refine Wk.same ?_
            rintro r rfl
            try simp only [tru, num, str]
            repeat' first|refine Spl.on (fun _=>?_) (fun _=>?_)|with_reducible refine gd ?_|simp only [go_sem, Int.reduceEq, Int.cast_ofNat_Int, Bool.false_eq_true, xblkG_exit3, List.length_map, beq_self_eq_true, if_true, if_false, ej, hgx, hw, hw1, i0, hwi, hgu, hbl, Int.toNat_natCast, e5, e3, e4, nums_length, hpl, e1n]
            refine ((page20 L [] a.name a.n hI (by omega) hok.st).wk ?_).mono ?_
            · try simp only [stA, num, str]
              repeat first | exact Wk.nil | exact Wk.refl _ | refine wk_agg ?_ ?_ | refine wk_ownsl ?_ | refine wk_nilsl ?_ | refine Wk.same ?_
            rintro r rfl
            try simp only [tru, num, str]
            repeat' first|refine Spl.on (fun _=>?_) (fun _=>?_)|with_reducible refine gd ?_|simp only [go_sem, Int.reduceEq, Int.cast_ofNat_Int, Bool.false_eq_true, xblkG_exit3, List.length_map, beq_self_eq_true, if_true, if_false, ej, hgx, hw, hw1, i0, hwi, hgu, hbl, Int.toNat_natCast, e5, e3, e4, nums_length, hpl, e1n]
            refine ((has26 X (fmtS ⟨3, a.name, 1, []⟩) hal).wk ?_).mono ?_
            · try simp only [num, str]
              repeat first | exact Wk.nil | exact Wk.refl _ | refine wk_agg ?_ ?_ | refine wk_ownsl ?_ | refine wk_nilsl ?_ | refine Wk.same ?_
            rintro r rfl
            try simp only [tru]
            repeat' first|refine Spl.on (fun _=>?_) (fun _=>?_)|with_reducible refine gd ?_|simp only [go_sem, Int.reduceEq, Int.cast_ofNat_Int, Bool.false_eq_true, xblkG_exit3, List.length_map, beq_self_eq_true, if_true, if_false, ej, hgx, hw, hw1, i0, hwi, hgu, hbl, Int.toNat_natCast, e5, e3, e4, nums_length, hpl, e1n]
            refine ((has26 X (fmtS ⟨3, a.name, a.n - 1, []⟩) hal).wk ?_).mono ?_
            · try simp only [num, str]
              repeat first | exact Wk.nil | exact Wk.refl _ | refine wk_agg ?_ ?_ | refine wk_ownsl ?_ | refine wk_nilsl ?_ | refine Wk.same ?_
            rintro r rfl
            try simp only [tru]
            repeat' first|refine Spl.on (fun _=>?_) (fun _=>?_)|with_reducible refine gd ?_|simp only [go_sem, Int.reduceEq, Int.cast_ofNat_Int, Bool.false_eq_true, xblkG_exit3, List.length_map, beq_self_eq_true, if_true, if_false, ej, hgx, hw, hw1, i0, hwi, hgu, hbl, Int.toNat_natCast, e5, e3, e4, nums_length, hpl, e1n]
            refine lend_mk (n - 1) [num ((i + 1 : Nat) : Int)] (by omega) ⟨i + 1, by omega, by omega, rfl⟩ ?_
            simp only [hvm_t, hvm_f, hvm_nil, puts_cons, puts_nil, List.set_cons_zero, List.set_cons_succ, num]
            repeat first | exact Wk.nil | refine wk_ownsl ?_ | refine Wk.same ?_ | refine wk_any ?_
        by_cases hk4 : a.kind = 4
        · have hkk := hk4
          have e5 := eq_false (show ¬ a.kind = 5 by omega)
          have e3 := eq_false (show ¬ a.kind = 3 by omega)
          have e4 := eq_true (show a.kind = 4 by omega)
          have hby := eq_false (show ¬ ((((newL [] L).filter fun s => decide (s.au = a.name)).length : Nat) : Int) = 0 by
            intro h
            exact k4 ha1 hkk (by rw [List.eq_nil_of_length_eq_zero (l := (newL [] L).filter fun s => decide (s.au = a.name)) (by omega)]; rfl))
          repeat' first|refine Spl.on (fun _=>?_) (fun _=>?_)|with_reducible refine gd ?_|simp only [go_sem, Int.reduceEq, Int.cast_ofNat_Int, Bool.false_eq_true, xblkG_exit3, List.length_map, beq_self_eq_true, if_true, if_false, ej, hgx, hw, hw1, i0, hwi, hgu, hbl, Int.toNat_natCast, e5, e3, e4, nums_length, hby]
          refine ((formatS ⟨3, a.name, 1, []⟩).wk ?_).mono ?_
          · try simp only [adrA, num, str]
            repeat first | exact Wk.nil | exact Wk.refl _ | refine wk_agg ?_ ?_ | refine wk_ownsl ?_ | refine wk_nilsl ?_ | refine Wk.same ?_
          rintro r rfl
          try simp only [tru, num, str]
          repeat' first|refine Spl.on (fun _=>?_) (fun _=>?_)|with_reducible refine gd ?_|simp only [go_sem, Int.reduceEq, Int.cast_ofNat_Int, Bool.false_eq_true, xblkG_exit3, List.length_map, beq_self_eq_true, if_true, if_false, ej, hgx, hw, hw1, i0, hwi, hgu, hbl, Int.toNat_natCast, e5, e3, e4, nums_length, hby]
          refine ((formatS ⟨3, a.name, a.n - 1, []⟩).wk ?_).mono ?_
          · try simp only [adrA, num, str]
            repeat first | exact Wk.nil | exact Wk.refl _ | refine wk_agg ?_ ?_ | refine wk_ownsl ?_ | refine wk_nilsl ?_ | refine Wk.same ?_
          rintro r rfl
          try simp only [tru, num, str]
          repeat' first|refine Spl.on (fun _=>?_) (fun _=>?_)|with_reducible refine gd ?_|simp only [go_sem, Int.reduceEq, Int.cast_ofNat_Int, Bool.false_eq_true, xblkG_exit3, List.length_map, beq_self_eq_true, if_true, if_false, ej, hgx, hw, hw1, i0, hwi, hgu, hbl, Int.toNat_natCast, e5, e3, e4, nums_length, hby]
          refine ((page20 L [] a.name a.n hI (by omega) hok.st).wk ?_).mono ?_
          · try simp only [stA, num, str]
            repeat first | exact Wk.nil | exact Wk.refl _ | refine wk_agg ?_ ?_ | refine wk_ownsl ?_ | refine wk_nilsl ?_ | refine Wk.same ?_
          rintro r rfl
          try simp only [tru, num, str]
          repeat' first|refine Spl.on (fun _=>?_) (fun _=>?_)|with_reducible refine gd ?_|simp only [go_sem, Int.reduceEq, Int.cast_ofNat_Int, Bool.false_eq_true, xblkG_exit3, List.length_map, beq_self_eq_true, if_true, if_false, ej, hgx, hw, hw1, i0, hwi, hgu, hbl, Int.toNat_natCast, e5, e3, e4, nums_length, hby]
          refine ((has26 X (fmtS ⟨3, a.name, 1, []⟩) hal).wk ?_).mono ?_
          · try simp only [num, str]
            repeat first | exact Wk.nil | exact Wk.refl _ | refine wk_agg ?_ ?_ | refine wk_ownsl ?_ | refine wk_nilsl ?_ | refine Wk.same ?_
          rintro r rfl
          try simp only [tru]
          repeat' first|refine Spl.on (fun _=>?_) (fun _=>?_)|with_reducible refine gd ?_|simp only [go_sem, Int.reduceEq, Int.cast_ofNat_Int, Bool.false_eq_true, xblkG_exit3, List.length_map, beq_self_eq_true, if_true, if_false, ej, hgx, hw, hw1, i0, hwi, hgu, hbl, Int.toNat_natCast, e5, e3, e4, nums_length, hby]
          refine ((has26 X (fmtS ⟨3, a.name, a.n - 1, []⟩) hal).wk ?_).mono ?_
          · try simp only [num, str]
            repeat first | exact Wk.nil | exact Wk.refl _ | refine wk_agg ?_ ?_ | refine wk_ownsl ?_ | refine wk_nilsl ?_ | refine Wk.same ?_
          rintro r rfl
          try simp only [tru]
          repeat' first|refine Spl.on (fun _=>?_) (fun _=>?_)|with_reducible refine gd ?_|simp only [go_sem, Int.reduceEq, Int.cast_ofNat_Int, Bool.false_eq_true, xblkG_exit3, List.length_map, beq_self_eq_true, if_true, if_false, ej, hgx, hw, hw1, i0, hwi, hgu, hbl, Int.toNat_natCast, e5, e3, e4, nums_length, hby]
          refine ((by18 L [] a.name (by omega) hok.st).wk ?_).mono ?_
          · try simp only [stA, num, str]
            repeat first | exact Wk.nil | exact Wk.refl _ | refine wk_agg ?_ ?_ | refine wk_ownsl ?_ | refine wk_nilsl ?_ | refine Wk.same ?_
          rintro r rfl
          try simp only [tru, num, str]
          repeat' first|refine Spl.on (fun _=>?_) (fun _=>?_)|with_reducible refine gd ?_|simp only [go_sem, Int.reduceEq, Int.cast_ofNat_Int, Bool.false_eq_true, xblkG_exit3, List.length_map, beq_self_eq_true, if_true, if_false, ej, hgx, hw, hw1, i0, hwi, hgu, hbl, Int.toNat_natCast, e5, e3, e4, nums_length, hby]
          refine lend_mk (n - 1) [num ((i + 1 : Nat) : Int)] (by omega) ⟨i + 1, by omega, by omega, rfl⟩ ?_
          simp only [hvm_t, hvm_f, hvm_nil, puts_cons, puts_nil, List.set_cons_zero, List.set_cons_succ, num]
          repeat first | exact Wk.nil | refine wk_ownsl ?_ | refine Wk.same ?_ | refine wk_any ?_
        have e5 := eq_false (show ¬ a.kind = 5 by omega)
        have e3 := eq_false (show ¬ a.kind = 3 by omega)
        have e4 := eq_false (show ¬ a.kind = 4 by omega)
        repeat' first|refine Spl.on (fun _=>?_) (fun _=>?_)|with_reducible refine gd ?_|simp only [go_sem, Int.reduceEq, Int.cast_ofNat_Int, Bool.false_eq_true, xblkG_exit3, List.length_map, beq_self_eq_true, if_true, if_false, ej, hgx, hw, hw1, i0, hwi, hgu, hbl, Int.toNat_natCast, e5, e3, e4, nums_length]
        refine ((formatS ⟨3, a.name, 1, []⟩).wk ?_).mono ?_
        · try simp only [adrA, num, str]
          repeat first | exact Wk.nil | exact Wk.refl _ | refine wk_agg ?_ ?_ | refine wk_ownsl ?_ | refine wk_nilsl ?_ | refine Wk.same ?_
        rintro r rfl
        try simp only [tru, num, str]
        repeat' first|refine Spl.on (fun _=>?_) (fun _=>?_)|with_reducible refine gd ?_|simp only [go_sem, Int.reduceEq, Int.cast_ofNat_Int, Bool.false_eq_true, xblkG_exit3, List.length_map, beq_self_eq_true, if_true, if_false, ej, hgx, hw, hw1, i0, hwi, hgu, hbl, Int.toNat_natCast, e5, e3, e4, nums_length]
        refine ((formatS ⟨3, a.name, a.n - 1, []⟩).wk ?_).mono ?_
        · try simp only [adrA, num, str]
          repeat first | exact Wk.nil | exact Wk.refl _ | refine wk_agg ?_ ?_ | refine wk_ownsl ?_ | refine wk_nilsl ?_ | refine Wk.same ?_
        rintro r rfl
        try simp only [tru, num, str]
        repeat' first|refine Spl.on (fun _=>?_) (fun _=>?_)|with_reducible refine gd ?_|simp only [go_sem, Int.reduceEq, Int.cast_ofNat_Int, Bool.false_eq_true, xblkG_exit3, List.length_map, beq_self_eq_true, if_true, if_false, ej, hgx, hw, hw1, i0, hwi, hgu, hbl, Int.toNat_natCast, e5, e3, e4, nums_length]
        refine ((page20 L [] a.name a.n hI (by omega) hok.st).wk ?_).mono ?_
        · try simp only [stA, num, str]
          repeat first | exact Wk.nil | exact Wk.refl _ | refine wk_agg ?_ ?_ | refine wk_ownsl ?_ | refine wk_nilsl ?_ | refine Wk.same ?_
        rintro r rfl
        try simp only [tru, num, str]
        repeat' first|refine Spl.on (fun _=>?_) (fun _=>?_)|with_reducible refine gd ?_|simp only [go_sem, Int.reduceEq, Int.cast_ofNat_Int, Bool.false_eq_true, xblkG_exit3, List.length_map, beq_self_eq_true, if_true, if_false, ej, hgx, hw, hw1, i0, hwi, hgu, hbl, Int.toNat_natCast, e5, e3, e4, nums_length]
        refine ((has26 X (fmtS ⟨3, a.name, 1, []⟩) hal).wk ?_).mono ?_
        · try simp only [num, str]
          repeat first | exact Wk.nil | exact Wk.refl _ | refine wk_agg ?_ ?_ | refine wk_ownsl ?_ | refine wk_nilsl ?_ | refine Wk.same ?_
        rintro r rfl
        try simp only [tru]
        repeat' first|refine Spl.on (fun _=>?_) (fun _=>?_)|with_reducible refine gd ?_|simp only [go_sem, Int.reduceEq, Int.cast_ofNat_Int, Bool.false_eq_true, xblkG_exit3, List.length_map, beq_self_eq_true, if_true, if_false, ej, hgx, hw, hw1, i0, hwi, hgu, hbl, Int.toNat_natCast, e5, e3, e4, nums_length]
        refine ((has26 X (fmtS ⟨3, a.name, a.n - 1, []⟩) hal).wk ?_).mono ?_
        · try simp only [num, str]
          repeat first | exact Wk.nil | exact Wk.refl _ | refine wk_agg ?_ ?_ | refine wk_ownsl ?_ | refine wk_nilsl ?_ | refine Wk.same ?_
        rintro r rfl
        try simp only [tru]
        repeat' first|refine Spl.on (fun _=>?_) (fun _=>?_)|with_reducible refine gd ?_|simp only [go_sem, Int.reduceEq, Int.cast_ofNat_Int, Bool.false_eq_true, xblkG_exit3, List.length_map, beq_self_eq_true, if_true, if_false, ej, hgx, hw, hw1, i0, hwi, hgu, hbl, Int.toNat_natCast, e5, e3, e4, nums_length]
        refine lend_mk (n - 1) [num ((i + 1 : Nat) : Int)] (by omega) ⟨i + 1, by omega, by omega, rfl⟩ ?_
        simp only [hvm_t, hvm_f, hvm_nil, puts_cons, puts_nil, List.set_cons_zero, List.set_cons_succ, num]
        repeat first | exact Wk.nil | refine wk_ownsl ?_ | refine Wk.same ?_ | refine wk_any ?_
    · have ej := eq_false (show ¬ (i : Int) < (X.length : Int) by omega)
      repeat' first|refine Spl.on (fun _=>?_) (fun _=>?_)|with_reducible refine gd ?_|simp only [go_sem, Int.reduceEq, Int.cast_ofNat_Int, Bool.false_eq_true, xblkG_exit3, List.length_map, beq_self_eq_true, if_true, if_false, ej]
      all_goals first | rfl | (simp [tru]; done) | (simp_all [tru]; done)
end Go.Proofs.YtkafbgdokgfjmaaGreatDoor
