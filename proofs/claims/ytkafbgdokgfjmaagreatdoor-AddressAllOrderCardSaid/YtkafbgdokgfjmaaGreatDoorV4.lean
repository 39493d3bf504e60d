/- the states (without the reference) -/
import Derived.Test.YtkafbgdokgfjmaaGreatDoorT
import Derived.Test.YtkafbgdokgfjmaaGreatDoorA10
import Derived.Test.YtkafbgdokgfjmaaGreatDoorA11
import Derived.Test.YtkafbgdokgfjmaaGreatDoorZ17
import Derived.Test.YtkafbgdokgfjmaaGreatDoorV3
import Derived.Test.YtkafbgdokgfjmaaGreatDoorB4
namespace Go.Proofs.YtkafbgdokgfjmaaGreatDoor
open Go.RowKit Go.Proofs
set_option linter.unusedSimpArgs false
set_option linter.unusedVariables false
set_option maxRecDepth 100000
set_option maxHeartbeats 4000000

theorem fm_bound {α β : Type} {f : α → List β} {c : Nat} : ∀ {l : List α}, (∀ x ∈ l, (f x).length ≤ c) → (l.flatMap f).length ≤ c * l.length
  | [], _ => by simp
  | x :: l, h => by
    have h1 := fm_bound (l := l) fun y hy => h y (by simp [hy])
    have h2 := h x (by simp)
    rw [List.flatMap_cons, List.length_append, List.length_cons, Nat.mul_add, Nat.mul_one]
    omega
theorem topR_mem {L : List Sto} {t : Str} : t ∈ topR L ↔ ∃ s ∈ L, lstd s = true ∧ t ∈ s.tp := by
  rw [topR_dst, (dst_spec _).2]
  simp only [List.mem_flatMap, List.mem_filter]
  exact ⟨fun ⟨s, ⟨h1, h2⟩, h3⟩ => ⟨s, h1, h2, h3⟩, fun ⟨s, h1, h2, h3⟩ => ⟨s, ⟨h1, h2⟩, h3⟩⟩
theorem autR_mem {L : List Sto} {t : Str} : t ∈ autR L ↔ ∃ s ∈ L, lstd s = true ∧ t = s.au := by
  rw [autR_dst, (dst_spec _).2]
  simp only [List.mem_map, List.mem_filter]
  exact ⟨fun ⟨s, ⟨h1, h2⟩, h3⟩ => ⟨s, h1, h2, h3.symm⟩, fun ⟨s, h1, h2, h3⟩ => ⟨s, ⟨h1, h2⟩, h3.symm⟩⟩
theorem nms8_len : ∀ s ∈ nms8, s.length ≤ 21 := by decide
theorem nm8_len (a : Int) : (nm8 a).length ≤ 21 := by
  have h : pickN a 8 < nms8.length := pickN_lt (by omega)
  have : nm8 a ∈ nms8 := by simp [nm8, List.getD_eq_getElem?_getD, h]
  exact nms8_len _ this
/-- A state that a law may build. -/
structure LOk (L : List Sto) : Prop where
  len : L.length ≤ 1000
  tp : ∀ s ∈ L, s.tp.length ≤ 4
  ed : ∀ s ∈ L, ∃ l : List Int, l.length ≤ 4 ∧ s.ed = l.map edB
  tn : ∀ s ∈ L, ∀ t ∈ s.tp, t.length ≤ 21
  an : ∀ s ∈ L, s.au.length ≤ 21
section
variable {L : List Sto} (h : LOk L)
include h
theorem LOk.st : ∀ s ∈ L, StOk s := fun s hs => by
  obtain ⟨l, h1, h2⟩ := h.ed s hs
  have := h.tp s hs
  exact ⟨by omega, by rw [h2, List.length_map]; omega⟩
theorem LOk.tp1000 : ∀ s ∈ L, s.tp.length ≤ 1000 := fun s hs => by have := h.tp s hs; omega
theorem LOk.edok : ∀ s ∈ L, EdOk s := fun s hs e he => by
  obtain ⟨l, h1, h2⟩ := h.ed s hs
  rw [h2] at he
  obtain ⟨a, _, rfl⟩ := List.mem_map.1 he
  exact ⟨_, _, _, _, _, rfl⟩
theorem LOk.edn : ∀ s ∈ L, ∀ e ∈ s.ed, (edl e).length ≤ 1000000000 := fun s hs e he => by
  obtain ⟨l, h1, h2⟩ := h.ed s hs
  rw [h2] at he
  obtain ⟨a, _, rfl⟩ := List.mem_map.1 he
  have := nm8_len a
  simp only [edB, edl, str]
  omega
theorem LOk.top : (topR L).length ≤ 4000 := by
  rw [topR_dst]
  refine Nat.le_trans (dst_len _) ?_
  have h1 := fm_bound (l := L.filter lstd) (f := (·.tp)) (c := 4) fun s hs => h.tp s (List.mem_filter.1 hs).1
  have h2 := List.length_filter_le lstd L
  have := h.len
  omega
theorem LOk.aut : (autR L).length ≤ 1000 := by
  rw [autR_dst]
  refine Nat.le_trans (dst_len _) ?_
  rw [List.length_map]
  have h2 := List.length_filter_le lstd L
  have := h.len
  omega
theorem LOk.topn : ∀ t ∈ topR L, t.length ≤ 21 := fun t ht => by
  obtain ⟨s, h1, _, h2⟩ := topR_mem.1 ht
  exact h.tn s h1 t h2
theorem LOk.autn : ∀ t ∈ autR L, t.length ≤ 21 := fun t ht => by
  obtain ⟨s, h1, _, rfl⟩ := autR_mem.1 ht
  exact h.an s h1
theorem LOk.edl : (L.flatMap edF).length ≤ 4000 := by
  have h1 := fm_bound (l := L) (f := edF) (c := 4) fun s hs => by
    obtain ⟨l, h1, h2⟩ := h.ed s hs
    unfold edF
    split
    · simp
    · rw [List.length_map, h2, List.length_map]; exact h1
  have := h.len
  omega
theorem LOk.adl : (adL L).length ≤ 1000000 := by
  have h1 := fm_bound (l := topR L) (f := tpF L) (c := 65) fun t _ => by
    unfold tpF
    split
    · simp; omega
    · simp
  have := h.edl; have := h.top; have := h.aut
  simp only [adL, List.length_append, List.length_map, List.length_cons, List.length_nil]
  omega
theorem LOk.all_len : (allL L).length ≤ 1000000 := by
  have := dst_len (fmF (adL L)); have := fmF_len (adL L); have := h.adl
  unfold allL; omega
theorem LOk.all (tm : List AV) : ACalls Tryz.prog 24 [stA L tm] (fun r => r = .own 9 1 ((allL L).map str)) := by
  have := h.len; have := h.top; have := h.aut; have := h.adl
  exact all24 L tm (by omega) h.st h.tp1000 h.edok (by omega) (by omega) (by omega)
theorem LOk.allS (tm : List AV) : ACalls Tryz.prog 24 [stA L tm] (fun r => r = .sl 1 ((allL L).map str)) := by
  refine (h.all tm).wkr ?_
  rintro r rfl
  exact ⟨_, W1.ownsl _ _ _, rfl, rfl⟩
end
def stL (l : List It) : List Sto := (l.take 40).map mkS
theorem stL_ok (l : List It) : LOk (stL l) := by
  have hm : ∀ s ∈ stL l, ∃ x, s = mkS x := fun s hs => by
    obtain ⟨x, _, rfl⟩ := List.mem_map.1 hs
    exact ⟨x, rfl⟩
  refine ⟨?_, ?_, ?_, ?_, ?_⟩
  · simp only [stL, List.length_map, List.length_take]; omega
  · intro s hs
    obtain ⟨x, rfl⟩ := hm s hs
    simp only [mkS, List.length_map, List.length_take]; omega
  · intro s hs
    obtain ⟨x, rfl⟩ := hm s hs
    exact ⟨x.lg.take 4, by rw [List.length_take]; omega, rfl⟩
  · intro s hs t ht
    obtain ⟨x, rfl⟩ := hm s hs
    simp only [mkS, List.mem_map] at ht
    obtain ⟨a, _, rfl⟩ := ht
    exact nm8_len a
  · intro s hs
    obtain ⟨x, rfl⟩ := hm s hs
    exact nm8_len _
/-- A law's state as it is handed on. -/
theorem stateS (l : List It) (hl : l.length ≤ 9223372036854775807) (ho : ∀ x ∈ l, ItOk x) : ACalls Tryz.prog 22 [.sl 6 (l.map itA)] (fun r => r = .agg [.own 48 8 ((stL l).map sto), .nil]) := state22 l hl ho
theorem has26 (l : List Str) (s : Str) (hl : l.length ≤ 1000000) : ACalls Tryz.prog 26 [.sl 1 (l.map str), str s] (fun r => r = tru (decide (s ∈ l))) := by
  refine calls_short [] ttok hmix Tryz.func26 (by decide) (by decide +kernel) (by simp only [Tryz.f26, Option.bind_some, comp, isLend, lendOf, lendX, lendC, lendH, Nat.reduceLeDiff, Nat.reduceSub, ne_eq, not_false_eq_true, and_self, cops, cguard, gslot, List.getElem?_toArray, List.getElem?_cons_succ, List.getElem?_cons_zero, vlook, tlook, cutAt_nil, cutAt, firstReg, isCut, mkSeq, Nat.reduceAdd, Nat.reduceEqDiff, reduceIte]; rfl) Tryz.ntmps26 Tryz.results26 ⟨_, rfl⟩ rfl ?_
  simp only [List.length_cons, List.length_nil, Nat.reduceAdd, Nat.reduceSub, List.replicate_succ, List.replicate_zero, List.cons_append, List.nil_append, num, str, tru]
  repeat' first|refine Spl.on (fun _=>?_) (fun _=>?_)|with_reducible refine gd ?_|simp only [go_sem, Int.reduceEq, Int.cast_ofNat_Int, Bool.false_eq_true, xblkG_exit3, List.length_map, beq_self_eq_true, if_true, if_false]
  refine cwp_loop [false, false, false, false, true, true, true, true, true, true, true, true, true, true, true, true, true, true] [5] (fun n xs => ∃ j : Nat, j ≤ l.length ∧ j + n = l.length ∧ xs = [num j] ∧ s ∉ l.take j) ⟨l.length, _, ⟨0, by omega, by omega, rfl, by simp⟩, ?_⟩ ?_
  · simp only [hvm_t, hvm_f, hvm_nil, puts_cons, puts_nil, List.set_cons_zero, List.set_cons_succ, num]
    repeat first | exact Wk.nil | refine Wk.same ?_ | refine wk_any ?_
  · rintro n xs ⟨j, hjl, hn, rfl, he⟩
    simp only [hvm_t, hvm_f, hvm_nil, puts_cons, puts_nil, List.set_cons_zero, List.set_cons_succ, num]
    rcases Nat.lt_or_ge j l.length with hlt | hge
    · have ej := eq_true (show (j : Int) < (l.length : Int) by omega)
      obtain ⟨x, hx, hd⟩ := drop_at hlt
      have hgx := strs_at hx
      have hw : IntKind.i64.wrap ((j : Int) + 1) = ((j + 1 : Nat) : Int) := wrap_succ (by omega)
      by_cases hxs : x = s
      · have e4 : (x == s) = true := by rw [hxs]; simp
        have hin : s ∈ l := by rw [← hxs]; exact List.mem_of_getElem? hx
        repeat' first|refine Spl.on (fun _=>?_) (fun _=>?_)|with_reducible refine gd ?_|simp only [go_sem, Int.reduceEq, Int.cast_ofNat_Int, Bool.false_eq_true, xblkG_exit3, List.length_map, beq_self_eq_true, if_true, if_false, ej, hgx, hw, e4]
        all_goals (simp [hin, tru]; done)
      · have e4 : (x == s) = false := by
          cases h : (x == s) with
          | false => rfl
          | true => exact absurd (beq_iff_eq.1 h) hxs
        repeat' first|refine Spl.on (fun _=>?_) (fun _=>?_)|with_reducible refine gd ?_|simp only [go_sem, Int.reduceEq, Int.cast_ofNat_Int, Bool.false_eq_true, xblkG_exit3, List.length_map, beq_self_eq_true, if_true, if_false, ej, hgx, hw, e4]
        refine lend_mk (n - 1) [num ((j + 1 : Nat) : Int)] (by omega) ⟨j + 1, by omega, by omega, rfl, fun hm => ?_⟩ ?_
        · rw [List.take_add_one, hx, List.mem_append] at hm
          rcases hm with hm | hm
          · exact he hm
          · simp at hm; exact hxs hm.symm
        · simp only [hvm_t, hvm_f, hvm_nil, puts_cons, puts_nil, List.set_cons_zero, List.set_cons_succ, num]
          repeat first | exact Wk.nil | refine Wk.same ?_ | refine wk_any ?_
    · have ej := eq_false (show ¬ (j : Int) < (l.length : Int) by omega)
      rw [List.take_of_length_le hge] at he
      repeat' first|refine Spl.on (fun _=>?_) (fun _=>?_)|with_reducible refine gd ?_|simp only [go_sem, Int.reduceEq, Int.cast_ofNat_Int, Bool.false_eq_true, xblkG_exit3, List.length_map, beq_self_eq_true, if_true, if_false, ej]
      all_goals (simp [he, tru]; done)
theorem item_of {n : Nat} {x : AV} (h : OfE Tryz.prog (OfT Tryz.prog n) 57 x) : ∃ it, x = itA it ∧ ItOk it := by
  have c3 : Tryz.prog.cellsOf 3 = 1 := by decide +kernel
  obtain ⟨_, ys, rfl, h0⟩ := OfE_struct Tryz.underlying57 h
  obtain ⟨z1, _, rfl, hz1, h1⟩ := OfR_one (by decide +kernel) h0
  obtain ⟨z2, _, rfl, hz2, h2⟩ := OfR_one (by decide +kernel) h1
  obtain ⟨z3, _, rfl, hz3, h3⟩ := OfR_one (by decide +kernel) h2
  obtain ⟨z4, _, rfl, hz4, h4⟩ := OfR_one (by decide +kernel) h3
  obtain ⟨z5, _, rfl, hz5, h5⟩ := OfR_one (by decide +kernel) h4
  obtain ⟨z6, _, rfl, hz6, h6⟩ := OfR_one (by decide +kernel) h5
  obtain rfl := OfR_nil h6
  obtain ⟨a, rfl, ha⟩ := OfE_i64 Tryz.underlying3 hz1
  obtain ⟨b, rfl, hb⟩ := OfE_i64 Tryz.underlying3 hz2
  obtain ⟨_, es, rfl, hel, he⟩ := OfE_slice Tryz.underlying55 c3 (by decide) hz3
  obtain ⟨ts, rfl, hts⟩ := map_of (f := num) (Q := I64) fun y hy => OfE_i64 Tryz.underlying3 (he y hy)
  obtain ⟨_, es2, rfl, hel2, he2⟩ := OfE_slice Tryz.underlying55 c3 (by decide) hz4
  obtain ⟨ts2, rfl, hts2⟩ := map_of (f := num) (Q := I64) fun y hy => OfE_i64 Tryz.underlying3 (he2 y hy)
  obtain ⟨c, rfl, hc⟩ := OfE_i64 Tryz.underlying3 hz5
  obtain ⟨d, rfl, hd⟩ := OfE_i64 Tryz.underlying3 hz6
  rw [List.length_map] at hel hel2
  exact ⟨⟨a, b, ts, ts2, c, d⟩, rfl, ⟨hc, hd, hts2, hts, hel2, hel⟩⟩
theorem items_of {n : Nat} {x : AV} (h : OfE Tryz.prog (OfT Tryz.prog n) 34 x) : ∃ l : List It, x = .sl 6 (l.map itA) ∧ l.length ≤ 9223372036854775807 ∧ (∀ y ∈ l, ItOk y) := by
  have c : Tryz.prog.cellsOf 57 = 6 := by decide +kernel
  obtain ⟨_, es, rfl, hel, he⟩ := OfE_slice Tryz.underlying34 c (by decide) h
  obtain ⟨l, rfl, hl⟩ := map_of (f := itA) (Q := ItOk) fun y hy => item_of (he y hy)
  rw [List.length_map] at hel
  exact ⟨l, rfl, hel, hl⟩
end Go.Proofs.YtkafbgdokgfjmaaGreatDoor
