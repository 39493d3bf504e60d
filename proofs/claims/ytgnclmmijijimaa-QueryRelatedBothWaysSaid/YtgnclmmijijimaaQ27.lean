/- The law QueryRelatedBothWays. -/
import Derived.Test.YtgnclmmijijimaaT
import Derived.Test.YtgnclmmijijimaaA10
import Derived.Test.YtgnclmmijijimaaA12
import Derived.Test.YtgnclmmijijimaaQ20
import Derived.Test.YtgnclmmijijimaaQ26
namespace Go.Proofs.Ytgnclmmijijimaa
open Go.RowKit Go.Proofs
set_option linter.unusedSimpArgs false
set_option linter.unusedVariables false
set_option maxRecDepth 100000
set_option maxHeartbeats 4000000

theorem rid_st {i : Nat} {L : List Sto} (h : ∀ s ∈ L, StOk s) : ∀ s ∈ rid i L, StOk s := fun s hs => by
  obtain ⟨t, ht, h1, h2⟩ := rid_mem hs
  have := h t ht
  unfold StOk at *
  rw [h1, h2]; exact this
theorem rid_tps {i : Nat} {L : List Sto} (h : ∀ s ∈ L, s.tp.length ≤ 1000) : ∀ s ∈ rid i L, s.tp.length ≤ 1000 := fun s hs => by
  obtain ⟨t, ht, h1, h2⟩ := rid_mem hs
  rw [h1]; exact h t ht
theorem rid_at {i : Nat} {L : List Sto} {s : Sto} (h : L[i]? = some s) : ((rid i L).map sto).getD i .any = .agg [num s.id, str s.au, .sl 1 (s.tp.map str), .sl 5 s.ed, num s.pu, .nil, tru s.re, tru s.tk] := by
  have := rid_get i h
  rw [if_neg (by omega)] at this
  simp [this, sto, stoC]
theorem rid_put {i : Nat} {L : List Sto} {s : Sto} (h : L[i]? = some s) : ((rid i L).map sto).set i (.agg [num ((i + 1 : Nat) : Int), str s.au, .sl 1 (s.tp.map str), .sl 5 s.ed, num s.pu, .nil, tru s.re, tru s.tk]) = (rid (i + 1) L).map sto := by
  rw [← rid_set h, List.map_set]
  rfl
def allS (X : List Sto) (i : Nat) : AV := .sl 1 (nums (allR X i))
theorem allS_at {X : List Sto} {m i : Nat} (h : i < m) : ((List.range m).map (allS X)).getD i .any = .sl 1 (nums (allR X i)) := by
  simp [h, allS]
theorem any_take2 {α : Type} {f : α → Bool} {l : List α} {j : Nat} {x : α} (h : l[j]? = some x) : (l.take (j + 1)).any f = ((l.take j).any f || f x) := by
  rw [List.take_add_one, h, List.any_append]; simp
theorem lawA11 (xs : List AV) (h : OfA Try.prog [22, 3] xs) : ACalls Try.prog 11 xs (fun r => r = tru true) := by
  obtain ⟨_, y0, _, rfl, h0, h⟩ := OfA_cons h
  obtain ⟨_, y1, _, rfl, h1, h⟩ := OfA_cons h
  obtain rfl := OfA_nil h
  obtain ⟨l, rfl, hl1, hl2, hl3⟩ := items_of h0
  obtain ⟨n, rfl, hn⟩ := OfE_i64 Try.underlying3 h1
  simp only [num]
  refine calls_shortX [] [3, 6, 9] ttok hmix Try.func11 (by decide) (by decide +kernel) (by simp only [Try.f11, Option.bind_some, compX, esc, inE, mkB, mkX1, mkX2, Bool.or_false, Bool.false_or, Bool.or_true, Bool.true_or, Bool.or_self, cond_true, cond_false, comp, isLend, lendOf, lendX, lendC, lendH, Nat.reduceLeDiff, Nat.reduceSub, ne_eq, not_false_eq_true, and_self, cops, cguard, gslot, List.getElem?_toArray, List.getElem?_cons_succ, List.getElem?_cons_zero, vlook, tlook, cutAt_nil, cutAt, firstReg, isCut, mkSeq, Nat.reduceAdd, Nat.reduceEqDiff, reduceIte]; rfl) Try.ntmps11 Try.results11 ⟨_, rfl⟩ rfl ?_
  simp only [List.length_cons, List.length_nil, Nat.reduceAdd, Nat.reduceSub, List.replicate_succ, List.replicate_zero, List.cons_append, List.nil_append, num, str, tru]
  repeat' first|refine Spl.on (fun _=>?_) (fun _=>?_)|with_reducible refine gd ?_|simp only [go_sem, decide_true, decide_false, Int.reduceEq, Int.cast_ofNat_Int, Bool.false_eq_true, Bool.not_true, Bool.not_false, nums_length, List.length_map, List.length_range, rid_len, Nat.reduceMod, if_false, if_true, reduceIte]
  refine ((sane12).wk ?_).mono ?_
  · try simp only [stA, num, str]
    repeat first | exact Wk.nil | exact Wk.refl _ | refine wk_agg ?_ ?_ | refine wk_ownsl ?_ | refine wk_nilsl ?_ | refine Wk.same ?_
  rintro r rfl
  try simp only [tru, num, str]
  repeat' first|refine Spl.on (fun _=>?_) (fun _=>?_)|with_reducible refine gd ?_|simp only [go_sem, decide_true, decide_false, Int.reduceEq, Int.cast_ofNat_Int, Bool.false_eq_true, Bool.not_true, Bool.not_false, nums_length, List.length_map, List.length_range, rid_len, Nat.reduceMod, if_false, if_true, reduceIte]
  refine ((state13m l hl1 hl2).wk ?_).mono ?_
  · repeat first | exact Wk.nil | exact Wk.refl _ | refine wk_agg ?_ ?_ | refine wk_ownsl ?_ | refine wk_nilsl ?_ | refine Wk.same ?_
  rintro r rfl
  have hL : (List.map sto (List.map mkS (List.take 25 l))) = (stL l).map sto := rfl
  rw [hL]
  have hl := stL_len l
  have hs := stL_ok l
  have ht := stL_tp l
  generalize stL l = L at *
  repeat' first|refine Spl.on (fun _=>?_) (fun _=>?_)|with_reducible refine gd ?_|simp only [go_sem, decide_true, decide_false, Int.reduceEq, Int.cast_ofNat_Int, Bool.false_eq_true, Bool.not_true, Bool.not_false, nums_length, List.length_map, List.length_range, rid_len, Nat.reduceMod, if_false, if_true, reduceIte]
  refine cwpX_lends [100022] ttok rfl (by simp only [cops, cguard, gslot, List.getElem?_toArray, List.getElem?_cons_succ, List.getElem?_cons_zero]; rfl) rfl rfl rfl rfl rfl rfl rfl rfl (by decide) rfl rfl rfl ?_
  repeat' first|refine Spl.on (fun _=>?_) (fun _=>?_)|with_reducible refine gd ?_|simp only [go_sem, decide_true, decide_false, Int.reduceEq, Int.cast_ofNat_Int, Bool.false_eq_true, Bool.not_true, Bool.not_false, nums_length, List.length_map, List.length_range, rid_len, Nat.reduceMod, if_false, if_true, reduceIte]
  refine cwpX_loop [false, false, false, false, false, false, true, true, false, false, false, false, false, false, false, false, false, false, false, false, false, false, false, false, false, true, true, true, true, true, true, true, true, true, true, false, false, false, false, false, false, false, false, false, false, false, false, false, false, false, false, false, false, false, false, false, false, false, false, false, false, false, false, false, false, false, false, false, false, false, false, false, false, false, false, false, false, false, false, false, false, false, false, false, false, false, false, false, false, false, false, false, false, false, false, false, false, false, false, false, false, false, false, false, false, false, false, false, false, false, false, false, false, false, false, false, false, false, false, false, false, false, false, false, false, false, false, false, false] [6, 24] (fun n xs => ∃ i : Nat, i ≤ L.length ∧ i + n = L.length ∧ xs = [.box 27 [.mine 50 8 ((rid i L).map sto), .nil], num i]) ⟨L.length, _, ⟨0, by omega, by omega, rfl⟩, ?_⟩ ?_
  · rw [rid_zero]
    simp only [hvm_t, hvm_f, hvm_nil, puts_cons, puts_nil, List.set_cons_zero, List.set_cons_succ, num]
    repeat first | exact Wk.nil | exact Wk.refl _ | refine Wk.box (W1.box ?_) ?_ | refine wk_agg ?_ ?_ | refine wk_ownsl ?_ | refine wk_nilown ?_ | refine wk_nilmine ?_ | refine wk_nilsl ?_ | refine Wk.same ?_ | refine wk_any ?_
  · rintro n1 xs ⟨i, hi1, hi2, rfl⟩
    simp only [hvm_t, hvm_f, hvm_nil, puts_cons, puts_nil, List.set_cons_zero, List.set_cons_succ, num]
    rcases Nat.lt_or_ge i L.length with hlt | hge
    · have ej := eq_true (show (i : Int) < (L.length : Int) by omega)
      obtain ⟨s, hx⟩ : ∃ s, L[i]? = some s := ⟨_, List.getElem?_eq_getElem hlt⟩
      have hgx := rid_at hx
      have hpx := rid_put hx
      simp only [num, str, tru] at hgx hpx
      have hw : IntKind.i64.wrap ((i : Int) + 1) = ((i + 1 : Nat) : Int) := wrap_succ (by omega)
      repeat' first|refine Spl.on (fun _=>?_) (fun _=>?_)|with_reducible refine gd ?_|simp only [go_sem, decide_true, decide_false, Int.reduceEq, Int.cast_ofNat_Int, Bool.false_eq_true, Bool.not_true, Bool.not_false, nums_length, List.length_map, List.length_range, rid_len, Nat.reduceMod, if_false, if_true, reduceIte, ej, hgx, hw]
      refine cwpX_lends [100028] ttok rfl (by simp only [cops, cguard, gslot, List.getElem?_toArray, List.getElem?_cons_succ, List.getElem?_cons_zero]; rfl) rfl rfl rfl rfl rfl rfl rfl rfl (by decide) rfl rfl rfl ?_
      repeat' first|refine Spl.on (fun _=>?_) (fun _=>?_)|with_reducible refine gd ?_|simp only [go_sem, decide_true, decide_false, Int.reduceEq, Int.cast_ofNat_Int, Bool.false_eq_true, Bool.not_true, Bool.not_false, nums_length, List.length_map, List.length_range, rid_len, Nat.reduceMod, if_false, if_true, reduceIte, ej, hgx, hw, hpx, Int.toNat_natCast]
      refine lend_mk (n1 - 1) [.box 27 [.mine 50 8 ((rid (i + 1) L).map sto), .nil], num ((i + 1 : Nat) : Int)] (by omega) ⟨i + 1, by omega, by omega, rfl⟩ ?_
      simp only [hvm_t, hvm_f, hvm_nil, puts_cons, puts_nil, List.set_cons_zero, List.set_cons_succ, num]
      repeat first | exact Wk.nil | refine wk_ownsl ?_ | refine wk_nilown ?_ | refine Wk.same ?_ | refine wk_any ?_
    · have ej := eq_false (show ¬ (i : Int) < (L.length : Int) by omega)
      have hiL : i = L.length := by omega
      subst hiL
      repeat' first|refine Spl.on (fun _=>?_) (fun _=>?_)|with_reducible refine gd ?_|simp only [go_sem, decide_true, decide_false, Int.reduceEq, Int.cast_ofNat_Int, Bool.false_eq_true, Bool.not_true, Bool.not_false, nums_length, List.length_map, List.length_range, rid_len, Nat.reduceMod, if_false, if_true, reduceIte, ej]
      obtain ⟨X, hX⟩ : ∃ X, rid L.length L = X := ⟨_, rfl⟩
      have hN : Num X := hX ▸ rid_num L
      have hXl : X.length = L.length := by rw [← hX, rid_len]
      have hXs : ∀ s ∈ X, StOk s := hX ▸ rid_st hs
      have hXt : ∀ s ∈ X, s.tp.length ≤ 1000 := hX ▸ rid_tps ht
      have hX25 : X.length ≤ 25 := by omega
      rw [hX]
      refine cwpX_lends [36] ttok rfl (by simp only [cops, cguard, gslot, List.getElem?_toArray, List.getElem?_cons_succ, List.getElem?_cons_zero]; rfl) rfl rfl rfl rfl rfl rfl rfl rfl (by decide) rfl rfl rfl ?_
      repeat' first|refine Spl.on (fun _=>?_) (fun _=>?_)|with_reducible refine gd ?_|simp only [go_sem, decide_true, decide_false, Int.reduceEq, Int.cast_ofNat_Int, Bool.false_eq_true, Bool.not_true, Bool.not_false, nums_length, List.length_map, List.length_range, rid_len, Nat.reduceMod, if_false, if_true, reduceIte]
      refine cwp_loop [false, false, false, false, false, false, true, false, true, true, false, false, false, false, false, false, false, false, false, false, false, false, false, false, false, false, false, false, false, false, false, false, false, false, false, false, false, false, true, true, true, true, true, true, true, true, true, true, true, false, false, false, false, false, false, false, false, false, false, false, false, false, false, false, false, false, false, false, false, false, false, false, false, false, false, false, false, false, false, false, false, false, false, false, false, false, false, false, false, false, false, false, false, false, false, false, false, false, false, false, false, false, false, false, false, false, false, false, false, false, false, false, false, false, false, false, false, false, false, false, false, false, false, false, false, false, false, false, false] [6, 8, 38] (fun n xs => ∃ i : Nat, i ≤ X.length ∧ i + n = X.length ∧ xs = [.box 27 [.sl 8 (X.map sto), .nil], .own 31 1 ((List.range i).map (allS X)), num i]) ⟨X.length, _, ⟨0, by omega, by omega, rfl⟩, ?_⟩ ?_
      · simp only [List.range_zero, List.map_nil]
        simp only [hvm_t, hvm_f, hvm_nil, puts_cons, puts_nil, List.set_cons_zero, List.set_cons_succ, num]
        repeat first | exact Wk.nil | exact Wk.refl _ | refine Wk.box (W1.box ?_) ?_ | refine wk_agg ?_ ?_ | refine wk_ownsl ?_ | refine wk_nilown ?_ | refine wk_nilmine ?_ | refine wk_nilsl ?_ | refine Wk.same ?_ | refine wk_any ?_
      · rintro n2 xs ⟨i, hi1, hi2, rfl⟩
        simp only [hvm_t, hvm_f, hvm_nil, puts_cons, puts_nil, List.set_cons_zero, List.set_cons_succ, num]
        rcases Nat.lt_or_ge i X.length with hlt | hge
        · have ej := eq_true (show (i : Int) < (X.length : Int) by omega)
          have hw : IntKind.i64.wrap ((i : Int) + 1) = ((i + 1 : Nat) : Int) := wrap_succ (by omega)
          repeat' first|refine Spl.on (fun _=>?_) (fun _=>?_)|with_reducible refine gd ?_|simp only [go_sem, decide_true, decide_false, Int.reduceEq, Int.cast_ofNat_Int, Bool.false_eq_true, Bool.not_true, Bool.not_false, nums_length, List.length_map, List.length_range, rid_len, Nat.reduceMod, if_false, if_true, reduceIte, ej, hw]
          refine ((related29 X [] ((i + 1 : Nat) : Int) 100 (by omega) hXs hXt).wk ?_).mono ?_
          · try simp only [stA, num, str]
            repeat first | exact Wk.nil | exact Wk.refl _ | refine wk_agg ?_ ?_ | refine wk_ownsl ?_ | refine wk_nilsl ?_ | refine Wk.same ?_
          rintro r rfl
          try simp only [tru, num, str]
          repeat' first|refine Spl.on (fun _=>?_) (fun _=>?_)|with_reducible refine gd ?_|simp only [go_sem, decide_true, decide_false, Int.reduceEq, Int.cast_ofNat_Int, Bool.false_eq_true, Bool.not_true, Bool.not_false, nums_length, List.length_map, List.length_range, rid_len, Nat.reduceMod, if_false, if_true, reduceIte, ej, hw]
          refine lend_mk (n2 - 1) [.box 27 [.sl 8 (X.map sto), .nil], .own 31 1 ((List.range (i + 1)).map (allS X)), num ((i + 1 : Nat) : Int)] (by omega) ⟨i + 1, by omega, by omega, rfl⟩ ?_
          rw [List.range_succ, List.map_append, List.map_cons, List.map_nil, show allS X i = .sl 1 (nums (relR X ((i + 1 : Nat) : Int) 100)) from rfl]
          simp only [hvm_t, hvm_f, hvm_nil, puts_cons, puts_nil, List.set_cons_zero, List.set_cons_succ, num]
          repeat first | exact Wk.nil | refine wk_ownsl ?_ | refine wk_nilown ?_ | refine Wk.same ?_ | refine wk_any ?_
        · have ej := eq_false (show ¬ (i : Int) < (X.length : Int) by omega)
          have hiL : i = X.length := by omega
          subst hiL
          repeat' first|refine Spl.on (fun _=>?_) (fun _=>?_)|with_reducible refine gd ?_|simp only [go_sem, decide_true, decide_false, Int.reduceEq, Int.cast_ofNat_Int, Bool.false_eq_true, Bool.not_true, Bool.not_false, nums_length, List.length_map, List.length_range, rid_len, Nat.reduceMod, if_false, if_true, reduceIte, ej]
          refine cwp_loop [false, false, false, false, false, false, false, false, true, false, true, true, true, true, true, true, true, true, false, false, false, false, false, false, false, false, false, false, false, false, false, false, false, false, false, false, false, false, false, false, false, false, false, false, false, false, false, false, false, false, false, true, true, true, true, true, true, true, true, true, true, true, true, true, true, true, true, true, true, true, true, true, true, true, true, true, true, true, true, true, true, true, true, true, true, true, true, true, true, true, true, true, true, true, true, true, true, true, true, true, true, true, true, true, true, true, true, true, true, true, true, true, true, true, true, true, true, true, true, true, true, true, true, true, true, true, true, true, true] [8, 51] (fun n xs => ∃ i : Nat, i ≤ X.length ∧ i + n = X.length ∧ xs = [.sl 1 ((List.range X.length).map (allS X)), num i]) ⟨X.length, _, ⟨0, by omega, by omega, rfl⟩, ?_⟩ ?_
          · simp only [hvm_t, hvm_f, hvm_nil, puts_cons, puts_nil, List.set_cons_zero, List.set_cons_succ, num]
            repeat first | exact Wk.nil | exact Wk.refl _ | refine Wk.box (W1.box ?_) ?_ | refine wk_agg ?_ ?_ | refine wk_ownsl ?_ | refine wk_nilown ?_ | refine wk_nilmine ?_ | refine wk_nilsl ?_ | refine Wk.same ?_ | refine wk_any ?_
          · rintro n3 xs ⟨i, hi1, hi2, rfl⟩
            simp only [hvm_t, hvm_f, hvm_nil, puts_cons, puts_nil, List.set_cons_zero, List.set_cons_succ, num]
            rcases Nat.lt_or_ge i X.length with hlt | hge
            · have ej := eq_true (show (i : Int) < (X.length : Int) by omega)
              have hw : IntKind.i64.wrap ((i : Int) + 1) = ((i + 1 : Nat) : Int) := wrap_succ (by omega)
              have hgi := allS_at (X := X) hlt
              repeat' first|refine Spl.on (fun _=>?_) (fun _=>?_)|with_reducible refine gd ?_|simp only [go_sem, decide_true, decide_false, Int.reduceEq, Int.cast_ofNat_Int, Bool.false_eq_true, Bool.not_true, Bool.not_false, nums_length, List.length_map, List.length_range, rid_len, Nat.reduceMod, if_false, if_true, reduceIte, ej, hw, hgi]
              have hrf := rel_few hN hX25 hlt n
              have hb := eq_true hrf.1
              have htk : List.take (relR X ((i + 1 : Nat) : Int) n).length (nums (allR X i)) = nums (relR X ((i + 1 : Nat) : Int) n) := by
                unfold nums
                rw [← List.map_take, hrf.2]
              have hli : (allR X i).length ≤ 1000000 := relR_len hX25 hXt _ _
              refine ((related29 X [] ((i + 1 : Nat) : Int) n (by omega) hXs hXt).wk ?_).mono ?_
              · try simp only [stA, num, str]
                repeat first | exact Wk.nil | exact Wk.refl _ | refine wk_agg ?_ ?_ | refine wk_ownsl ?_ | refine wk_nilsl ?_ | refine Wk.same ?_
              rintro r rfl
              try simp only [tru, num, str]
              repeat' first|refine Spl.on (fun _=>?_) (fun _=>?_)|with_reducible refine gd ?_|simp only [go_sem, decide_true, decide_false, Int.reduceEq, Int.cast_ofNat_Int, Bool.false_eq_true, Bool.not_true, Bool.not_false, nums_length, List.length_map, List.length_range, rid_len, Nat.reduceMod, if_false, if_true, reduceIte, ej, hw, hgi, hb, htk]
              refine ((same15 (relR X ((i + 1 : Nat) : Int) n) (relR X ((i + 1 : Nat) : Int) n) (relR_len hX25 hXt _ n) (relR_len hX25 hXt _ n)).wk ?_).mono ?_
              · try simp only [stA, num, str]
                repeat first | exact Wk.nil | exact Wk.refl _ | refine wk_agg ?_ ?_ | refine wk_ownsl ?_ | refine wk_nilsl ?_ | refine Wk.same ?_
              rintro r rfl
              try simp only [decide_true, tru]
              repeat' first|refine Spl.on (fun _=>?_) (fun _=>?_)|with_reducible refine gd ?_|simp only [go_sem, decide_true, decide_false, Int.reduceEq, Int.cast_ofNat_Int, Bool.false_eq_true, Bool.not_true, Bool.not_false, nums_length, List.length_map, List.length_range, rid_len, Nat.reduceMod, if_false, if_true, reduceIte, ej, hw, hgi, hb, htk]
              refine cwp_loop [false, false, false, false, false, false, false, false, false, false, false, false, false, false, true, true, true, true, false, false, false, false, false, false, false, false, false, false, false, false, false, false, false, false, false, false, false, false, false, false, false, false, false, false, false, false, false, false, false, false, false, false, false, false, false, false, false, false, false, false, false, false, false, false, false, false, false, false, false, false, false, false, false, false, false, false, false, false, false, false, false, false, false, false, false, false, false, false, true, true, true, true, true, true, true, true, true, true, true, true, true, true, true, true, true, true, true, true, true, true, true, true, true, true, true, true, true, true, true, true, true, true, true, true, true, true, true, true, false] [88] (fun n xs => ∃ q : Nat, q ≤ (allR X i).length ∧ q + n = (allR X i).length ∧ xs = [num q]) ⟨(allR X i).length, _, ⟨0, by omega, by omega, rfl⟩, ?_⟩ ?_
              · simp only [hvm_t, hvm_f, hvm_nil, puts_cons, puts_nil, List.set_cons_zero, List.set_cons_succ, num]
                repeat first | exact Wk.nil | refine wk_ownsl ?_ | refine wk_nilown ?_ | refine Wk.same ?_ | refine wk_any ?_
              · rintro n4 xs ⟨q, hq1, hq2, rfl⟩
                simp only [hvm_t, hvm_f, hvm_nil, puts_cons, puts_nil, List.set_cons_zero, List.set_cons_succ, num]
                rcases Nat.lt_or_ge q (allR X i).length with hq | hq
                · have eq := eq_true (show (q : Int) < ((allR X i).length : Int) by omega)
                  obtain ⟨x, hx, hxd⟩ := drop_at hq
                  have hgx := nums_at hx
                  have hwq : IntKind.i64.wrap ((q : Int) + 1) = ((q + 1 : Nat) : Int) := wrap_succ (by omega)
                  obtain ⟨k, hk, rfl, hki, hback⟩ := rel_in hN hX25 hlt (List.mem_of_getElem? hx)
                  have e1 := eq_false (show ¬ ((k + 1 : Nat) : Int) < 1 by omega)
                  have e2 := eq_false (show ¬ ((k + 1 : Nat) : Int) > (X.length : Int) by omega)
                  have e3 := eq_false (show ¬ ((k + 1 : Nat) : Int) = ((i + 1 : Nat) : Int) by omega)
                  have hwk : IntKind.i64.wrap (((k + 1 : Nat) : Int) - 1) = (k : Int) := by rw [wrap_in (by omega) (by omega)]; omega
                  have hgk := allS_at (X := X) hk
                  have hlk : (allR X k).length ≤ 1000000 := relR_len hX25 hXt _ _
                  repeat' first|refine Spl.on (fun _=>?_) (fun _=>?_)|with_reducible refine gd ?_|simp only [go_sem, decide_true, decide_false, Int.reduceEq, Int.cast_ofNat_Int, Bool.false_eq_true, Bool.not_true, Bool.not_false, nums_length, List.length_map, List.length_range, rid_len, Nat.reduceMod, if_false, if_true, reduceIte, ej, hw, hgi, hb, htk, eq, hgx, hwq, e1, e2, e3, hwk, hgk, Int.toNat_natCast]
                  refine cwp_loop [false, false, false, false, false, false, false, false, false, false, false, false, false, false, false, true, true, true, false, false, false, false, false, false, false, false, false, false, false, false, false, false, false, false, false, false, false, false, false, false, false, false, false, false, false, false, false, false, false, false, false, false, false, false, false, false, false, false, false, false, false, false, false, false, false, false, false, false, false, false, false, false, false, false, false, false, false, false, false, false, false, false, false, false, false, false, false, false, false, false, false, false, false, false, false, false, false, false, false, false, false, false, false, false, false, false, false, false, false, false, false, false, true, true, true, true, true, true, true, true, true, true, true, true, false, false, false, false, false] [15, 112] (fun n xs => ∃ r : Nat, r ≤ (allR X k).length ∧ r + n = (allR X k).length ∧ xs = [tru (((allR X k).take r).any fun j => decide (j = ((i + 1 : Nat) : Int))), num r]) ⟨(allR X k).length, _, ⟨0, by omega, by omega, rfl⟩, ?_⟩ ?_
                  · simp only [List.take_zero, List.any_nil, tru]
                    simp only [hvm_t, hvm_f, hvm_nil, puts_cons, puts_nil, List.set_cons_zero, List.set_cons_succ, num]
                    repeat first | exact Wk.nil | refine wk_ownsl ?_ | refine wk_nilown ?_ | refine Wk.same ?_ | refine wk_any ?_
                  · rintro n5 xs ⟨r, hr1, hr2, rfl⟩
                    simp only [tru]
                    simp only [hvm_t, hvm_f, hvm_nil, puts_cons, puts_nil, List.set_cons_zero, List.set_cons_succ, num]
                    rcases Nat.lt_or_ge r (allR X k).length with hr | hr
                    · have er := eq_true (show (r : Int) < ((allR X k).length : Int) by omega)
                      obtain ⟨z, hz, hzd⟩ := drop_at hr
                      have hgr := nums_at hz
                      have hwr : IntKind.i64.wrap ((r : Int) + 1) = ((r + 1 : Nat) : Int) := wrap_succ (by omega)
                      have hst := any_take2 (f := fun j => decide (j = ((i + 1 : Nat) : Int))) hz
                      obtain ⟨th, hth⟩ : ∃ th, ((allR X k).take r).any (fun j => decide (j = ((i + 1 : Nat) : Int))) = th := ⟨_, rfl⟩
                      rw [hth] at hst ⊢
                      by_cases hzi : z = ((i + 1 : Nat) : Int)
                      · have ez := eq_true hzi
                        cases th
                        all_goals (
                          repeat' first|refine Spl.on (fun _=>?_) (fun _=>?_)|with_reducible refine gd ?_|simp only [go_sem, decide_true, decide_false, Int.reduceEq, Int.cast_ofNat_Int, Bool.false_eq_true, Bool.not_true, Bool.not_false, nums_length, List.length_map, List.length_range, rid_len, Nat.reduceMod, if_false, if_true, reduceIte, ej, hw, hgi, hb, htk, eq, hgx, hwq, e1, e2, e3, hwk, hgk, Int.toNat_natCast, er, hgr, hwr, ez]
                          refine lend_mk (n5 - 1) [tru (((allR X k).take (r + 1)).any fun j => decide (j = ((i + 1 : Nat) : Int))), num ((r + 1 : Nat) : Int)] (by omega) ⟨r + 1, by omega, by omega, rfl⟩ ?_
                          rw [hst]
                          simp only [tru, ez, decide_true, decide_false, Bool.or_true, Bool.or_false, Bool.true_or, Bool.false_or]
                          simp only [hvm_t, hvm_f, hvm_nil, puts_cons, puts_nil, List.set_cons_zero, List.set_cons_succ, num]
                          repeat first | exact Wk.nil | refine wk_ownsl ?_ | refine wk_nilown ?_ | refine Wk.same ?_ | refine wk_any ?_)
                      · have ez := eq_false hzi
                        cases th
                        all_goals (
                          repeat' first|refine Spl.on (fun _=>?_) (fun _=>?_)|with_reducible refine gd ?_|simp only [go_sem, decide_true, decide_false, Int.reduceEq, Int.cast_ofNat_Int, Bool.false_eq_true, Bool.not_true, Bool.not_false, nums_length, List.length_map, List.length_range, rid_len, Nat.reduceMod, if_false, if_true, reduceIte, ej, hw, hgi, hb, htk, eq, hgx, hwq, e1, e2, e3, hwk, hgk, Int.toNat_natCast, er, hgr, hwr, ez]
                          refine lend_mk (n5 - 1) [tru (((allR X k).take (r + 1)).any fun j => decide (j = ((i + 1 : Nat) : Int))), num ((r + 1 : Nat) : Int)] (by omega) ⟨r + 1, by omega, by omega, rfl⟩ ?_
                          rw [hst]
                          simp only [tru, ez, decide_true, decide_false, Bool.or_true, Bool.or_false, Bool.true_or, Bool.false_or]
                          simp only [hvm_t, hvm_f, hvm_nil, puts_cons, puts_nil, List.set_cons_zero, List.set_cons_succ, num]
                          repeat first | exact Wk.nil | refine wk_ownsl ?_ | refine wk_nilown ?_ | refine Wk.same ?_ | refine wk_any ?_)
                    · have er := eq_false (show ¬ (r : Int) < ((allR X k).length : Int) by omega)
                      have hall : ((allR X k).take r).any (fun j => decide (j = ((i + 1 : Nat) : Int))) = true := by
                        rw [List.take_of_length_le hr]
                        exact List.any_eq_true.2 ⟨_, hback, by simp⟩
                      rw [hall]
                      repeat' first|refine Spl.on (fun _=>?_) (fun _=>?_)|with_reducible refine gd ?_|simp only [go_sem, decide_true, decide_false, Int.reduceEq, Int.cast_ofNat_Int, Bool.false_eq_true, Bool.not_true, Bool.not_false, nums_length, List.length_map, List.length_range, rid_len, Nat.reduceMod, if_false, if_true, reduceIte, ej, hw, hgi, hb, htk, eq, hgx, hwq, e1, e2, e3, hwk, hgk, Int.toNat_natCast, er]
                      refine lend_mk (n4 - 1) [num ((q + 1 : Nat) : Int)] (by omega) ⟨q + 1, by omega, by omega, rfl⟩ ?_
                      simp only [hvm_t, hvm_f, hvm_nil, puts_cons, puts_nil, List.set_cons_zero, List.set_cons_succ, num]
                      repeat first | exact Wk.nil | refine wk_ownsl ?_ | refine wk_nilown ?_ | refine Wk.same ?_ | refine wk_any ?_
                · have eq := eq_false (show ¬ (q : Int) < ((allR X i).length : Int) by omega)
                  repeat' first|refine Spl.on (fun _=>?_) (fun _=>?_)|with_reducible refine gd ?_|simp only [go_sem, decide_true, decide_false, Int.reduceEq, Int.cast_ofNat_Int, Bool.false_eq_true, Bool.not_true, Bool.not_false, nums_length, List.length_map, List.length_range, rid_len, Nat.reduceMod, if_false, if_true, reduceIte, ej, hw, hgi, hb, htk, eq]
                  refine lend_mk (n3 - 1) [.sl 1 ((List.range X.length).map (allS X)), num ((i + 1 : Nat) : Int)] (by omega) ⟨i + 1, by omega, by omega, rfl⟩ ?_
                  simp only [hvm_t, hvm_f, hvm_nil, puts_cons, puts_nil, List.set_cons_zero, List.set_cons_succ, num]
                  repeat first | exact Wk.nil | refine wk_ownsl ?_ | refine wk_nilown ?_ | refine Wk.same ?_ | refine wk_any ?_
            · have ej := eq_false (show ¬ (i : Int) < (X.length : Int) by omega)
              repeat' first|refine Spl.on (fun _=>?_) (fun _=>?_)|with_reducible refine gd ?_|simp only [go_sem, decide_true, decide_false, Int.reduceEq, Int.cast_ofNat_Int, Bool.false_eq_true, Bool.not_true, Bool.not_false, nums_length, List.length_map, List.length_range, rid_len, Nat.reduceMod, if_false, if_true, reduceIte, ej]
end Go.Proofs.Ytgnclmmijijimaa
