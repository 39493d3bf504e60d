/- Same, contains, and the reference Same. -/
import Derived.Test.YtohelofjlkoboaaT
import Derived.Test.YtohelofjlkoboaaA10
import Derived.Test.YtohelofjlkoboaaE3
namespace Go.Proofs.Ytohelofjlkoboaa
open Go.RowKit Go.Proofs
set_option linter.unusedSimpArgs false
set_option linter.unusedVariables false
set_option maxRecDepth 100000
set_option maxHeartbeats 4000000
def sameL (l m : Lb) : Bool := decide (l.u = m.u) && decide (l.a = m.a) && decide (l.n = m.n) && decide (l.d = m.d)
theorem same18 (l m : Lb) (hl : l.a.length ≤ 1000000) : ACalls Try.prog 18 [lab l, lab m] (fun r => r = tru (sameL l m)) := by
  refine calls_short [] ttok hmix Try.func18 (by decide) (by decide +kernel) (by simp only [Try.f18, Option.bind_some, comp, isLend, lendOf, lendX, lendC, lendH, Nat.reduceLeDiff, Nat.reduceSub, ne_eq, not_false_eq_true, and_self, cops, cguard, gslot, List.getElem?_toArray, List.getElem?_cons_succ, List.getElem?_cons_zero, vlook, tlook, cutAt_nil, cutAt, firstReg, isCut, mkSeq, Nat.reduceAdd, Nat.reduceEqDiff, reduceIte]; rfl) Try.ntmps18 Try.results18 ⟨_, rfl⟩ rfl ?_
  simp only [List.length_cons, List.length_nil, Nat.reduceAdd, Nat.reduceSub, List.replicate_succ, List.replicate_zero, List.cons_append, List.nil_append, num, str, tru]
  simp only [go_sem, lab, num, tru]
  repeat' first|refine Spl.on (fun _=>?_) (fun _=>?_)|with_reducible refine gd ?_|simp only [go_sem]
  · refine (equal29 l.a m.a hl).mono ?_
    rintro r rfl
    simp only [tru]
    repeat' first|refine Spl.on (fun _=>?_) (fun _=>?_)|with_reducible refine gd ?_|simp only [go_sem]
    all_goals (refine tru_e ?_; simp [sameL, *])
  · refine tru_f ?_; simp [sameL, *]
theorem same19 (l m : Lb) (hl : l.a.length ≤ 1000000) : ACalls Try.prog 19 [lab l, lab m] (fun r => r = tru (sameL l m)) := by
  refine calls_short [] ttok hmix Try.func19 (by decide) (by decide +kernel) (by simp only [Try.f19, Option.bind_some, comp, isLend, lendOf, lendX, lendC, lendH, Nat.reduceLeDiff, Nat.reduceSub, ne_eq, not_false_eq_true, and_self, cops, cguard, gslot, List.getElem?_toArray, List.getElem?_cons_succ, List.getElem?_cons_zero, vlook, tlook, cutAt_nil, cutAt, firstReg, isCut, mkSeq, Nat.reduceAdd, Nat.reduceEqDiff, reduceIte]; rfl) Try.ntmps19 Try.results19 ⟨_, rfl⟩ rfl ?_
  simp only [List.length_cons, List.length_nil, Nat.reduceAdd, Nat.reduceSub, List.replicate_succ, List.replicate_zero, List.cons_append, List.nil_append, num, str, tru]
  simp (decide := true) only [mkd_eq [3, 2, 5] [2500003, 2000002] [] [[2], [21, 2], [5], [21], [], [3], [26, 3], [5], [26], [], []], List.zip_cons_cons, List.zip_nil_left, List.zip_nil_right]
  simp only [go_sem, lab, num, tru]
  refine asq_ndmk (fun h => ?_) (fun h => ?_)
  · simp only [go_sem]
    refine tru_f ?_
    have : l.a ≠ m.a := fun e => h (by rw [e])
    simp [sameL, this]
  · simp only [go_sem]
    have hl' : l.a.length = m.a.length := by omega
    refine cwp_loop [false, false, false, false, false, true, false, false, false, false, false, false, false, true, true, true, true, true, true, true, true, true, true, true, true, true, true, true, true, true, true, false, false, false, false, false, false, false, false, false, false, false, false, false, false, false, false, false, false, false] [5] (fun n xs => ∃ i, i + n = l.a.length ∧ xs = [num i] ∧ l.a.take i = m.a.take i) ⟨_, _, ⟨0, by simp; rfl, rfl, rfl⟩, ?_⟩ ?_
    · simp only [hvm_t, hvm_f, hvm_nil, puts_cons, puts_nil, List.set_cons_zero, List.set_cons_succ, num]
      exact Wk.refl _
    · rintro n xs ⟨i, hi, rfl, ht⟩
      simp only [hvm_t, hvm_f, hvm_nil, puts_cons, puts_nil, List.set_cons_zero, List.set_cons_succ, num]
      simp only [go_sem]
      refine asq_dmk (fun h1 => ?_) (fun h1 => ?_)
      · have hlt : i < l.a.length := by omega
        have hlt' : i < m.a.length := by omega
        have hw : IntKind.i64.wrap ((i : Int) + 1) = ((i + 1 : Nat) : Int) := wrap_succ (by omega)
        have g1 : l.a.getD i 0 = l.a[i] := by simp [hlt]
        have g2 : m.a.getD i 0 = m.a[i] := by simp [hlt']
        repeat' first|refine Spl.on (fun _=>?_) (fun _=>?_)|with_reducible refine gd ?_|simp only [go_sem, nums_getD hlt, nums_getD hlt', hw]
        · refine tru_f ?_
          have : l.a ≠ m.a := fun e => by
            rename_i h2
            exact h2 (by rw [e])
          simp [sameL, this]
        · refine lend_mk (n - 1) [num ((i + 1 : Nat) : Int)] (by omega) ⟨i + 1, by omega, rfl, ?_⟩ ?_
          · rename_i h2
            rw [g1, g2] at h2
            simp only [List.take_add_one, ht, List.getElem?_eq_getElem hlt, List.getElem?_eq_getElem hlt', h2]
          · simp only [hvm_t, hvm_f, hvm_nil, puts_cons, puts_nil, List.set_cons_zero, List.set_cons_succ, num]
            repeat first | exact Wk.nil | refine Wk.same ?_ | refine wk_any ?_
      · have : i = l.a.length := by omega
        subst this
        rw [List.take_length, hl', List.take_length] at ht
        repeat' first|refine Spl.on (fun _=>?_) (fun _=>?_)|with_reducible refine gd ?_|simp only [go_sem]
        all_goals (refine tru_e ?_; simp [sameL, ht, *])
theorem asc_pw : ∀ {p : Int} {l : List Int}, asc p l = true → l.Pairwise (· < ·) ∧ ∀ x ∈ l, p < x ∧ x ≤ 64
  | p, [], _ => ⟨.nil, by simp⟩
  | p, x :: l, h => by
    simp only [asc, Bool.and_eq_true, decide_eq_true_eq] at h
    obtain ⟨h1, h2⟩ := asc_pw h.2
    refine ⟨.cons (fun y hy => (h2 y hy).1) h1, fun y hy => ?_⟩
    rcases List.mem_cons.1 hy with rfl | hy
    · omega
    · have := h2 y hy; omega
theorem contains30 (all part : List Int) (hla : all.length ≤ 1000000) (hlp : part.length ≤ 1000000) (ha : all.Pairwise (· < ·)) (hp : part.Pairwise (· < ·)) :
    ACalls Try.prog 30 [.sl 1 (nums all), .sl 1 (nums part)] (fun r => r = tru (part.all fun x => decide (x ∈ all))) := by
  refine calls_short [] ttok hmix Try.func30 (by decide) (by decide +kernel) (by simp only [Try.f30, Option.bind_some, comp, isLend, lendOf, lendX, lendC, lendH, Nat.reduceLeDiff, Nat.reduceSub, ne_eq, not_false_eq_true, and_self, cops, cguard, gslot, List.getElem?_toArray, List.getElem?_cons_succ, List.getElem?_cons_zero, vlook, tlook, cutAt_nil, cutAt, firstReg, isCut, mkSeq, Nat.reduceAdd, Nat.reduceEqDiff, reduceIte]; rfl) Try.ntmps30 Try.results30 ⟨_, rfl⟩ rfl ?_
  simp only [List.length_cons, List.length_nil, Nat.reduceAdd, Nat.reduceSub, List.replicate_succ, List.replicate_zero, List.cons_append, List.nil_append, num, str, tru]
  simp only [go_sem, num, tru]
  refine cwp_loop [false, false, false, false, false, true, false, true, false, false, true, true, true, true, true, true, true, true, true, true, true, true, true, true, true, true, true, true, true, true, true, true, true, true, true, true] [5, 10] (fun n xs => ∃ nx i, i + n = part.length ∧ nx ≤ all.length ∧ xs = [num nx, num i] ∧ (∀ x ∈ part.take i, x ∈ all) ∧ ∀ k < nx, ∀ y ∈ part.drop i, all.getD k 0 < y) ⟨_, _, ⟨0, 0, by simp; rfl, Nat.zero_le _, rfl, by simp, by simp⟩, ?_⟩ ?_
  · simp only [hvm_t, hvm_f, hvm_nil, puts_cons, puts_nil, List.set_cons_zero, List.set_cons_succ, num]
    exact Wk.refl _
  · rintro n xs ⟨nx, i, hi, hnx, rfl, hin, hlow⟩
    simp only [hvm_t, hvm_f, hvm_nil, puts_cons, puts_nil, List.set_cons_zero, List.set_cons_succ, num]
    simp only [go_sem]
    refine asq_dmk (fun h1 => ?_) (fun h1 => ?_)
    · have hlt : i < part.length := by omega
      have hw : IntKind.i64.wrap ((i : Int) + 1) = ((i + 1 : Nat) : Int) := wrap_succ (by omega)
      have hd : part.drop i = part.getD i 0 :: part.drop (i + 1) := by rw [List.drop_eq_getElem_cons hlt]; simp [hlt]
      have hx : part.getD i 0 ∈ part := by simp [hlt]
      repeat' first|refine Spl.on (fun _=>?_) (fun _=>?_)|with_reducible refine gd ?_|simp only [go_sem, nums_getD hlt]
      generalize hgx : part.getD i 0 = x at *
      refine cwp_loop [false, false, false, false, false, true, false, false, false, false, false, false, false, false, true, true, true, true, true, true, true, true, true, true, true, true, true, true, true, true, true, true, true, true, true, false] [5] (fun m ys => ∃ nx : Nat, nx + m = all.length ∧ ys = [num nx] ∧ ∀ k < nx, all.getD k 0 < x) ⟨all.length - nx, _, ⟨nx, by omega, rfl, fun k hk => hlow k hk x (by rw [hd]; simp)⟩, ?_⟩ ?_
      · simp only [hvm_t, hvm_f, hvm_nil, puts_cons, puts_nil, List.set_cons_zero, List.set_cons_succ, num]
        exact Wk.refl _
      · rintro m ys ⟨nx, hnx, rfl, hlow⟩
        simp only [hvm_t, hvm_f, hvm_nil, puts_cons, puts_nil, List.set_cons_zero, List.set_cons_succ, num]
        have hw1 : nx < all.length → IntKind.i64.wrap ((nx : Int) + 1) = ((nx + 1 : Nat) : Int) := fun h => wrap_succ (by omega)
        have hw2 : nx < all.length → IntKind.i64.wrap (((nx + 1 : Nat) : Int) - 1) = (nx : Int) := fun h => by rw [wrap_in (by omega) (by omega)]; omega
        simp only [go_sem]
        refine asp_dmk (fun h2 => ?_) (fun h2 => ?_)
        · have hlt2 : nx < all.length := by omega
          have hpd := hp.sublist (List.drop_sublist i part)
          rw [hd] at hpd
          have hxlt : ∀ y ∈ part.drop (i + 1), x < y := fun y hy => List.rel_of_pairwise_cons hpd hy
          have hmono : ∀ k, nx ≤ k → k < all.length → all.getD nx 0 ≤ all.getD k 0 := fun k hk hk2 => by
            have e1 : all.getD nx 0 = all[nx] := by simp [hlt2]
            have e2 : all.getD k 0 = all[k] := by simp [hk2]
            rw [e1, e2]
            rcases Nat.lt_or_ge nx k with h | h
            · exact Int.le_of_lt (List.pairwise_iff_getElem.1 ha nx k hlt2 hk2 h)
            · have : nx = k := by omega
              subst this; exact Int.le_refl _
          repeat' first|refine Spl.on (fun _=>?_) (fun _=>?_)|with_reducible refine gd ?_|simp only [go_sem, nums_getD hlt2, hw1 hlt2, hw2 hlt2, hw]
          · rename_i h3 h4
            refine lend_mk (n - 1) [num ((nx + 1 : Nat) : Int), num ((i + 1 : Nat) : Int)] (by omega) ⟨nx + 1, i + 1, by omega, by omega, rfl, ?_, ?_⟩ ?_
            · intro y hy
              rw [List.take_add_one, List.getElem?_eq_getElem hlt, Option.toList, List.mem_append] at hy
              rcases hy with hy | hy
              · exact hin y hy
              · have e1 : part.getD i 0 = part[i] := by simp [hlt]
                have e2 : all.getD nx 0 = all[nx] := by simp [hlt2]
                rw [List.mem_singleton] at hy
                rw [hy, ← e1, hgx, ← h4, e2]
                exact List.getElem_mem hlt2
            · intro k hk y hy
              have := hxlt y hy
              rcases Nat.lt_or_ge k nx with h | h
              · have := hlow k h; omega
              · have : k = nx := by omega
                subst this; omega
            · simp only [hvm_t, hvm_f, hvm_nil, puts_cons, puts_nil, List.set_cons_zero, List.set_cons_succ, num]
              repeat first | exact Wk.nil | refine Wk.same ?_ | refine wk_any ?_
          · rename_i h3 h4
            refine lend_mk (m - 1) [num ((nx + 1 : Nat) : Int)] (by omega) ⟨nx + 1, by omega, rfl, fun k hk => ?_⟩ ?_
            · rcases Nat.lt_or_ge k nx with h | h
              · exact hlow k h
              · have : k = nx := by omega
                subst this; omega
            · simp only [hvm_t, hvm_f, hvm_nil, puts_cons, puts_nil, List.set_cons_zero, List.set_cons_succ, num]
              repeat first | exact Wk.nil | refine Wk.same ?_ | refine wk_any ?_
          · rename_i h3
            refine tru_f ?_
            rw [List.all_eq_false]
            refine ⟨x, hx, ?_⟩
            simp only [decide_eq_true_eq]
            intro hm
            obtain ⟨k, hk, hkx⟩ := List.getElem_of_mem hm
            have e2 : all.getD k 0 = all[k] := by simp [hk]
            rcases Nat.lt_or_ge k nx with h | h
            · have := hlow k h; omega
            · have := hmono k h hk; omega
        · repeat' first|refine Spl.on (fun _=>?_) (fun _=>?_)|with_reducible refine gd ?_|simp only [go_sem]
          refine tru_f ?_
          rw [List.all_eq_false]
          refine ⟨x, hx, ?_⟩
          simp only [decide_eq_true_eq]
          intro hm
          obtain ⟨k, hk, hkx⟩ := List.getElem_of_mem hm
          have e2 : all.getD k 0 = all[k] := by simp [hk]
          have := hlow k (by omega); omega
    · simp only [go_sem]
      refine tru_t ?_
      have : i = part.length := by omega
      subst this
      rw [List.take_length] at hin
      simpa using hin
end Go.Proofs.Ytohelofjlkoboaa
