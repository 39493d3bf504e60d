/- Allows, and the reference. -/
import Derived.Test.YtohelofjlkoboaaT
import Derived.Test.YtohelofjlkoboaaA10
import Derived.Test.YtohelofjlkoboaaE5
namespace Go.Proofs.Ytohelofjlkoboaa
open Go.RowKit Go.Proofs
set_option linter.unusedSimpArgs false
set_option linter.unusedVariables false
set_option maxRecDepth 100000
set_option maxHeartbeats 4000000
theorem allows24w (l : Lb) (k now : Int) (out : List Int) (n : Int) (hl : l.a.length ≤ 1000000) (ho : out.length ≤ 9223372036854775807) : ACalls Try.prog 24 [lab l, num k, num now, .sl 1 (nums out), num n] (fun r => r = tru (allowsL l k now out n)) := by
  refine calls_short [] ttok hmix Try.func24 (by decide) (by decide +kernel) (by simp only [Try.f24, Option.bind_some, comp, isLend, lendOf, lendX, lendC, lendH, Nat.reduceLeDiff, Nat.reduceSub, ne_eq, not_false_eq_true, and_self, cops, cguard, gslot, List.getElem?_toArray, List.getElem?_cons_succ, List.getElem?_cons_zero, vlook, tlook, cutAt_nil, cutAt, firstReg, isCut, mkSeq, Nat.reduceAdd, Nat.reduceEqDiff, reduceIte]; rfl) Try.ntmps24 Try.results24 ⟨_, rfl⟩ rfl ?_
  simp only [List.length_cons, List.length_nil, Nat.reduceAdd, Nat.reduceSub, List.replicate_succ, List.replicate_zero, List.cons_append, List.nil_append, num, str, tru]
  simp only [go_sem, lab, num, tru]
  repeat' first|refine Spl.on (fun _=>?_) (fun _=>?_)|with_reducible refine gd ?_|simp only [go_sem]
  refine (valid16 l hl).mono ?_
  rintro r rfl
  simp only [tru]
  repeat' first|refine Spl.on (fun _=>?_) (fun _=>?_)|with_reducible refine gd ?_|simp only [go_sem]
  · rename_i k1
    refine tru_f ?_
    simp only [allowsL, k1, Bool.and_false, Bool.false_and]
  · rename_i k1
    refine ((within28 [(k, 0, 3)] (by simp)).wk wkown).mono ?_
    rintro r rfl
    repeat' first|refine Spl.on (fun _=>?_) (fun _=>?_)|with_reducible refine gd ?_|simp only [go_sem]
    all_goals simp only [List.all_cons, List.all_nil, Bool.and_true, Bool.and_eq_true, Bool.and_eq_false_iff, decide_eq_true_eq, decide_eq_false_iff_not] at *
    all_goals try (refine tru_f ?_; simp only [allowsL, Bool.and_eq_false_iff, decide_eq_false_iff_not]; omega)
    refine ⟨by omega, ?_⟩
    repeat' first|refine Spl.on (fun _=>?_) (fun _=>?_)|with_reducible refine gd ?_|simp only [go_sem]
    · refine tru_f ?_
      rename_i k5
      have := Eq.trans (shr4 (x := l.d) (y := k) (okL_d ‹okL l = true›) (by omega)).symm (decide_eq_true k5)
      simp only [allowsL, this, Bool.not_true, Bool.and_false, Bool.false_and]
    · rename_i k5
      have k1 : okL l = true := by assumption
      have hbit := Eq.trans (shr4 (x := l.d) (y := k) (okL_d k1) (by omega)).symm (decide_eq_false k5)
      refine cwp_loop [false, false, false, false, false, false, false, false, false, false, false, false, true, false, false, false, false, false, false, false, false, false, false, false, false, false, false, false, false, false, false, false, false, false, false, false, false, false, false, false, false, false, false, false, true, true, true, true, true, true, true, true, true] [44] (fun n xs => ∃ i, i + n = l.a.length ∧ xs = [num i] ∧ ∀ y ∈ l.a.take i, y ∈ out) ⟨_, _, ⟨0, by simp; rfl, rfl, by simp⟩, ?_⟩ ?_
      · simp only [hvm_t, hvm_f, hvm_nil, puts_cons, puts_nil, List.set_cons_zero, List.set_cons_succ, num]
        exact Wk.refl _
      · rintro m xs ⟨i, hi, rfl, hin⟩
        simp only [hvm_t, hvm_f, hvm_nil, puts_cons, puts_nil, List.set_cons_zero, List.set_cons_succ, num]
        simp only [go_sem]
        refine asq_dmk (fun h1 => ?_) (fun h1 => ?_)
        · have hlt : i < l.a.length := by omega
          have hw : IntKind.i64.wrap ((i : Int) + 1) = ((i + 1 : Nat) : Int) := wrap_succ (by omega)
          have e1 : l.a.getD i 0 = l.a[i] := by simp [hlt]
          repeat' first|refine Spl.on (fun _=>?_) (fun _=>?_)|with_reducible refine gd ?_|simp only [go_sem, nums_getD hlt]
          refine (contains35w out (l.a.getD i 0) ho).mono ?_
          rintro r rfl
          simp only [tru]
          repeat' first|refine Spl.on (fun _=>?_) (fun _=>?_)|with_reducible refine gd ?_|simp only [go_sem, hw]
          · rename_i h2
            refine tru_f ?_
            have : (l.a.all fun x => decide (x ∈ out)) = false := by
              rw [List.all_eq_false]
              exact ⟨l.a.getD i 0, by rw [e1]; exact List.getElem_mem hlt, by simpa only [decide_eq_true_eq] using h2⟩
            simp only [allowsL, this, Bool.and_false, Bool.false_and]
          · rename_i h2
            refine lend_mk (m - 1) [num ((i + 1 : Nat) : Int)] (by omega) ⟨i + 1, by omega, rfl, ?_⟩ ?_
            · intro y hy
              rw [List.take_add_one, List.getElem?_eq_getElem hlt, Option.toList, List.mem_append] at hy
              rcases hy with hy | hy
              · exact hin y hy
              · rw [List.mem_singleton] at hy
                rw [hy, ← e1]; exact h2
            · simp only [hvm_t, hvm_f, hvm_nil, puts_cons, puts_nil, List.set_cons_zero, List.set_cons_succ, num]
              repeat first | exact Wk.nil | refine Wk.same ?_ | refine wk_any ?_
        · have : i = l.a.length := by omega
          subst this
          rw [List.take_length] at hin
          have hin' : (l.a.all fun x => decide (x ∈ out)) = true := by simpa using hin
          repeat' first|refine Spl.on (fun _=>?_) (fun _=>?_)|with_reducible refine gd ?_|simp only [go_sem]
          have e1 : 0 ≤ k := by omega
          have e2 : k ≤ 3 := by omega
          have e3 : l.u ≤ now := by omega
          have e4 : l.n ≤ n := by omega
          refine tru_t ?_
          simp only [allowsL, k1, e1, e2, e3, e4, hin', hbit, decide_true, Bool.true_and, Bool.and_true, Bool.not_false]
theorem allows25w (l : Lb) (k now : Int) (out : List Int) (n : Int) (hl : l.a.length ≤ 1000000) (ho : out.length ≤ 9223372036854775807) : ACalls Try.prog 25 [lab l, num k, num now, .sl 1 (nums out), num n] (fun r => r = tru (allowsL l k now out n)) := by
  refine calls_short [] ttok hmix Try.func25 (by decide) (by decide +kernel) (by simp only [Try.f25, Option.bind_some, comp, isLend, lendOf, lendX, lendC, lendH, Nat.reduceLeDiff, Nat.reduceSub, ne_eq, not_false_eq_true, and_self, cops, cguard, gslot, List.getElem?_toArray, List.getElem?_cons_succ, List.getElem?_cons_zero, vlook, tlook, cutAt_nil, cutAt, firstReg, isCut, mkSeq, Nat.reduceAdd, Nat.reduceEqDiff, reduceIte]; rfl) Try.ntmps25 Try.results25 ⟨_, rfl⟩ rfl ?_
  simp only [List.length_cons, List.length_nil, Nat.reduceAdd, Nat.reduceSub, List.replicate_succ, List.replicate_zero, List.cons_append, List.nil_append, num, str, tru]
  simp only [go_sem, lab, num, tru]
  repeat' first|refine Spl.on (fun _=>?_) (fun _=>?_)|with_reducible refine gd ?_|simp only [go_sem]
  refine (refvalid17 l hl).mono ?_
  rintro r rfl
  simp only [tru]
  repeat' first|refine Spl.on (fun _=>?_) (fun _=>?_)|with_reducible refine gd ?_|simp only [go_sem]
  · rename_i k1
    refine tru_f ?_
    simp only [allowsL, k1, Bool.and_false, Bool.false_and]
  all_goals try (refine tru_f ?_; simp only [allowsL, Bool.and_eq_false_iff, decide_eq_false_iff_not]; omega)
  refine cwp_loop [false, false, false, false, false, false, false, false, false, false, false, false, true, true, false, false, false, false, false, false, false, false, false, false, false, false, false, false, false, false, false, false, false, false, false, false, false, false, false, true, true, true, true, true, true, true, true, true, true, true, true, true, true, true, true, false, false, false, false, false, false] [12] (fun n xs => ∃ i, i + n = l.a.length ∧ xs = [num i] ∧ ∀ y ∈ l.a.take i, y ∈ out) ⟨_, _, ⟨0, by simp; rfl, rfl, by simp⟩, ?_⟩ ?_
  · simp only [hvm_t, hvm_f, hvm_nil, puts_cons, puts_nil, List.set_cons_zero, List.set_cons_succ, num]
    exact Wk.refl _
  · rintro m xs ⟨i, hi, rfl, hin⟩
    simp only [hvm_t, hvm_f, hvm_nil, puts_cons, puts_nil, List.set_cons_zero, List.set_cons_succ, num]
    simp only [go_sem]
    refine asq_dmk (fun h1 => ?_) (fun h1 => ?_)
    · have hlt : i < l.a.length := by omega
      have hw : IntKind.i64.wrap ((i : Int) + 1) = ((i + 1 : Nat) : Int) := wrap_succ (by omega)
      have e1 : l.a.getD i 0 = l.a[i] := by simp [hlt]
      repeat' first|refine Spl.on (fun _=>?_) (fun _=>?_)|with_reducible refine gd ?_|simp only [go_sem, nums_getD hlt]
      refine (has31w out (l.a.getD i 0) ho).mono ?_
      rintro r rfl
      simp only [tru]
      repeat' first|refine Spl.on (fun _=>?_) (fun _=>?_)|with_reducible refine gd ?_|simp only [go_sem, hw]
      · rename_i h2
        refine tru_f ?_
        have : (l.a.all fun x => decide (x ∈ out)) = false := by
          rw [List.all_eq_false]
          exact ⟨l.a.getD i 0, by rw [e1]; exact List.getElem_mem hlt, by simpa only [decide_eq_true_eq] using h2⟩
        simp only [allowsL, this, Bool.and_false, Bool.false_and]
      · rename_i h2
        refine lend_mk (m - 1) [num ((i + 1 : Nat) : Int)] (by omega) ⟨i + 1, by omega, rfl, ?_⟩ ?_
        · intro y hy
          rw [List.take_add_one, List.getElem?_eq_getElem hlt, Option.toList, List.mem_append] at hy
          rcases hy with hy | hy
          · exact hin y hy
          · rw [List.mem_singleton] at hy
            rw [hy, ← e1]; exact h2
        · simp only [hvm_t, hvm_f, hvm_nil, puts_cons, puts_nil, List.set_cons_zero, List.set_cons_succ, num]
          repeat first | exact Wk.nil | refine Wk.same ?_ | refine wk_any ?_
    · have : i = l.a.length := by omega
      subst this
      rw [List.take_length] at hin
      have hin' : (l.a.all fun x => decide (x ∈ out)) = true := by simpa using hin
      repeat' first|refine Spl.on (fun _=>?_) (fun _=>?_)|with_reducible refine gd ?_|simp only [go_sem]
      obtain ⟨kn, rfl⟩ : ∃ kn : Nat, k = kn := ⟨k.toNat, by omega⟩
      have k1 : okL l = true := by assumption
      refine (bit32 l.d kn (okL_d k1).1 (by have := okL_d k1; omega) (by omega)).mono ?_
      rintro r rfl
      simp only [tru]
      repeat' first|refine Spl.on (fun _=>?_) (fun _=>?_)|with_reducible refine gd ?_|simp only [go_sem]
      have e1 : (0 : Int) ≤ kn := by omega
      have e2 : (kn : Int) ≤ 3 := by omega
      have e3 : l.u ≤ now := by omega
      have e4 : l.n ≤ n := by omega
      refine tru_e ?_
      simp only [allowsL, k1, e1, e2, e3, e4, hin', decide_true, Bool.true_and, Bool.and_true, bitL, Int.toNat_natCast]
theorem allows24 (l : Lb) (k now : Int) (out : List Int) (n : Int) (hl : l.a.length ≤ 1000000) (ho : out.length ≤ 1000000) : ACalls Try.prog 24 [lab l, num k, num now, .sl 1 (nums out), num n] (fun r => r = tru (allowsL l k now out n)) := allows24w l k now out n hl (Nat.le_trans ho (by decide))
theorem allows25 (l : Lb) (k now : Int) (out : List Int) (n : Int) (hl : l.a.length ≤ 1000000) (ho : out.length ≤ 1000000) : ACalls Try.prog 25 [lab l, num k, num now, .sl 1 (nums out), num n] (fun r => r = tru (allowsL l k now out n)) := allows25w l k now out n hl (Nat.le_trans ho (by decide))
end Go.Proofs.Ytohelofjlkoboaa
