/- Leq, Allows, and their references. -/
import Derived.Test.YtohelofjlkoboaaT
import Derived.Test.YtohelofjlkoboaaA10
import Derived.Test.YtohelofjlkoboaaE4
namespace Go.Proofs.Ytohelofjlkoboaa
open Go.RowKit Go.Proofs
set_option linter.unusedSimpArgs false
set_option linter.unusedVariables false
set_option maxRecDepth 100000
set_option maxHeartbeats 4000000
def bitL (x : Int) (c : Nat) : Bool := decide (x / 2 ^ c % 2 = 1)
def sub4 (x y : Int) : Bool := (List.range 4).all fun c => !bitL x c || bitL y c
def leqL (a b : Lb) : Bool := okL a && okL b && decide (a.u ≤ b.u) && a.a.all (fun x => decide (x ∈ b.a)) && decide (a.n ≤ b.n) && sub4 a.d b.d
def allowsL (l : Lb) (k now : Int) (out : List Int) (n : Int) : Bool := okL l && decide (0 ≤ k) && decide (k ≤ 3) && decide (l.u ≤ now) && decide (l.n ≤ n) && !bitL l.d k.toNat && l.a.all (fun x => decide (x ∈ out))
theorem okL_d {l : Lb} (h : okL l = true) : 0 ≤ l.d ∧ l.d ≤ 15 := by
  simp only [okL, Bool.and_eq_true, decide_eq_true_eq] at h; omega
theorem okL_n {l : Lb} (h : okL l = true) : 0 ≤ l.n ∧ l.n ≤ 5 := by
  simp only [okL, Bool.and_eq_true, decide_eq_true_eq] at h; omega
theorem okL_u {l : Lb} (h : okL l = true) : 0 ≤ l.u ∧ l.u ≤ 1000000000 := by
  simp only [okL, Bool.and_eq_true, decide_eq_true_eq] at h; omega
theorem okL_a {l : Lb} (h : okL l = true) : asc 0 l.a = true := by
  simp only [okL, Bool.and_eq_true, decide_eq_true_eq] at h; exact h.2
theorem fin_of {x : Int} {n : Nat} (h0 : 0 ≤ x) (h1 : x < n) : ∃ k : Fin n, x = (k.val : Int) := ⟨⟨x.toNat, by omega⟩, by simp; omega⟩
theorem andnot_all : ∀ x y : Fin 16, decide (IntKind.i64.wrap ((BitVec.ofInt IntKind.i64.bits (x.val : Int) &&& ~~~ (BitVec.ofInt IntKind.i64.bits (y.val : Int))).toNat) = 0) = sub4 x.val y.val := by decide +kernel
theorem andnot4 {x y : Int} (hx : 0 ≤ x ∧ x ≤ 15) (hy : 0 ≤ y ∧ y ≤ 15) : decide (IntKind.i64.wrap ((BitVec.ofInt IntKind.i64.bits x &&& ~~~ (BitVec.ofInt IntKind.i64.bits y)).toNat) = 0) = sub4 x y := by
  obtain ⟨i, rfl⟩ := fin_of (n := 16) hx.1 (by omega)
  obtain ⟨j, rfl⟩ := fin_of (n := 16) hy.1 (by omega)
  exact andnot_all i j
theorem shr_all : ∀ (x : Fin 16) (y : Fin 4), decide (IntKind.i64.wrap ((BitVec.ofInt IntKind.i64.bits (((x.val : Int).fdiv (2 ^ (min (y.val : Int).toNat IntKind.i64.bits)))) &&& (BitVec.ofInt IntKind.i64.bits 1)).toNat) = 1) = bitL x.val (y.val : Int).toNat := by decide +kernel
theorem shr4 {x y : Int} (hx : 0 ≤ x ∧ x ≤ 15) (hy : 0 ≤ y ∧ y ≤ 3) : decide (IntKind.i64.wrap ((BitVec.ofInt IntKind.i64.bits ((x.fdiv (2 ^ (min y.toNat IntKind.i64.bits)))) &&& (BitVec.ofInt IntKind.i64.bits 1)).toNat) = 1) = bitL x y.toNat := by
  obtain ⟨i, rfl⟩ := fin_of (n := 16) hx.1 (by omega)
  obtain ⟨j, rfl⟩ := fin_of (n := 4) hy.1 (by omega)
  exact shr_all i j
theorem sub4_iff {x y : Int} : sub4 x y = true ↔ ∀ c < 4, bitL x c = true → bitL y c = true := by
  simp only [sub4, List.all_eq_true, List.mem_range, Bool.or_eq_true, Bool.not_eq_true']
  exact ⟨fun h c hc hx => (h c hc).resolve_left (by simp [hx]), fun h c hc => by
    cases hx : bitL x c with
    | false => exact .inl rfl
    | true => exact .inr (h c hc hx)⟩
theorem leq20 (l m : Lb) (hl : l.a.length ≤ 1000000) (hm : m.a.length ≤ 1000000) : ACalls Try.prog 20 [lab l, lab m] (fun r => r = tru (leqL l m)) := by
  refine calls_short [] ttok hmix Try.func20 (by decide) (by decide +kernel) (by simp only [Try.f20, Option.bind_some, comp, isLend, lendOf, lendX, lendC, lendH, Nat.reduceLeDiff, Nat.reduceSub, ne_eq, not_false_eq_true, and_self, cops, cguard, gslot, List.getElem?_toArray, List.getElem?_cons_succ, List.getElem?_cons_zero, vlook, tlook, cutAt_nil, cutAt, firstReg, isCut, mkSeq, Nat.reduceAdd, Nat.reduceEqDiff, reduceIte]; rfl) Try.ntmps20 Try.results20 ⟨_, rfl⟩ rfl ?_
  simp only [List.length_cons, List.length_nil, Nat.reduceAdd, Nat.reduceSub, List.replicate_succ, List.replicate_zero, List.cons_append, List.nil_append, num, str, tru]
  simp only [go_sem, lab, num, tru]
  repeat' first|refine Spl.on (fun _=>?_) (fun _=>?_)|with_reducible refine gd ?_|simp only [go_sem]
  refine (valid16 l hl).mono ?_
  rintro r rfl
  simp only [tru]
  repeat' first|refine Spl.on (fun _=>?_) (fun _=>?_)|with_reducible refine gd ?_|simp only [go_sem]
  · rename_i k1
    refine (valid16 m hm).mono ?_
    rintro r rfl
    simp only [tru]
    repeat' first|refine Spl.on (fun _=>?_) (fun _=>?_)|with_reducible refine gd ?_|simp only [go_sem]
    · rename_i k2 k3
      refine (contains30 m.a l.a hm hl (asc_pw (okL_a k2)).1 (asc_pw (okL_a k1)).1).mono ?_
      rintro r rfl
      simp only [tru]
      repeat' first|refine Spl.on (fun _=>?_) (fun _=>?_)|with_reducible refine gd ?_|simp only [go_sem]
      · rename_i k4 k5
        refine tru_e ?_
        refine Eq.trans (andnot4 (okL_d k1) (okL_d k2)) ?_
        simp only [leqL, k1, k2, k3, k4, k5, decide_true, Bool.true_and]
      · rename_i k4 k5
        refine tru_f ?_
        simp only [leqL, k5, decide_false, Bool.and_false, Bool.false_and]
      · rename_i k4
        refine tru_f ?_
        simp only [leqL, k4, Bool.and_false, Bool.false_and]
    · rename_i k2 k3
      refine tru_f ?_
      simp only [leqL, k3, decide_false, Bool.and_false, Bool.false_and]
    · rename_i k2
      refine tru_f ?_
      simp only [leqL, k2, Bool.and_false, Bool.false_and]
  · rename_i k1
    refine tru_f ?_
    simp only [leqL, k1, Bool.and_false, Bool.false_and]
theorem leq21 (l m : Lb) (hl : l.a.length ≤ 1000000) (hm : m.a.length ≤ 1000000) : ACalls Try.prog 21 [lab l, lab m] (fun r => r = tru (leqL l m)) := by
  refine calls_short [] ttok hmix Try.func21 (by decide) (by decide +kernel) (by simp only [Try.f21, Option.bind_some, comp, isLend, lendOf, lendX, lendC, lendH, Nat.reduceLeDiff, Nat.reduceSub, ne_eq, not_false_eq_true, and_self, cops, cguard, gslot, List.getElem?_toArray, List.getElem?_cons_succ, List.getElem?_cons_zero, vlook, tlook, cutAt_nil, cutAt, firstReg, isCut, mkSeq, Nat.reduceAdd, Nat.reduceEqDiff, reduceIte]; rfl) Try.ntmps21 Try.results21 ⟨_, rfl⟩ rfl ?_
  simp only [List.length_cons, List.length_nil, Nat.reduceAdd, Nat.reduceSub, List.replicate_succ, List.replicate_zero, List.cons_append, List.nil_append, num, str, tru]
  simp (decide := true) only [mkd_eq [2, 3] [4500002, 4300003] [] [[3], [3], [2], [46, 2], [], [46], [], [], []], List.zip_cons_cons, List.zip_nil_left, List.zip_nil_right]
  simp only [go_sem, lab, num, tru]
  repeat' first|refine Spl.on (fun _=>?_) (fun _=>?_)|with_reducible refine gd ?_|simp only [go_sem]
  refine (refvalid17 l hl).mono ?_
  rintro r rfl
  simp only [tru]
  repeat' first|refine Spl.on (fun _=>?_) (fun _=>?_)|with_reducible refine gd ?_|simp only [go_sem]
  refine (refvalid17 m hm).mono ?_
  rintro r rfl
  simp only [tru]
  repeat' first|refine Spl.on (fun _=>?_) (fun _=>?_)|with_reducible refine gd ?_|simp only [go_sem]
  all_goals try (refine tru_f ?_; (try simp only [leqL, decide_eq_true_eq] at *); simp [leqL, *]; done)
  all_goals try (refine tru_f ?_; simp only [leqL, Bool.and_eq_false_iff, decide_eq_false_iff_not]; omega)
  rename_i k1 k2 k3 k4
  refine cwp_loop [false, false, false, false, false, false, false, true, true, false, false, false, false, false, false, false, false, false, false, false, false, false, false, false, false, false, false, false, false, false, false, false, false, false, false, false, true, true, true, true, true, true, true, true, true, true, true, true, true, true, true, true, true, false, false, false, false, false, false, false, false, false, false, false, false, false, false, false, false, false] [7] (fun n xs => ∃ i, i + n = l.a.length ∧ xs = [num i] ∧ ∀ y ∈ l.a.take i, y ∈ m.a) ⟨_, _, ⟨0, by simp; rfl, rfl, by simp⟩, ?_⟩ ?_
  · simp only [hvm_t, hvm_f, hvm_nil, puts_cons, puts_nil, List.set_cons_zero, List.set_cons_succ, num]
    exact Wk.refl _
  · rintro n xs ⟨i, hi, rfl, hin⟩
    simp only [hvm_t, hvm_f, hvm_nil, puts_cons, puts_nil, List.set_cons_zero, List.set_cons_succ, num]
    simp only [go_sem]
    refine asq_dmk (fun h1 => ?_) (fun h1 => ?_)
    · have hlt : i < l.a.length := by omega
      have hw : IntKind.i64.wrap ((i : Int) + 1) = ((i + 1 : Nat) : Int) := wrap_succ (by omega)
      have e1 : l.a.getD i 0 = l.a[i] := by simp [hlt]
      repeat' first|refine Spl.on (fun _=>?_) (fun _=>?_)|with_reducible refine gd ?_|simp only [go_sem, nums_getD hlt]
      refine (has31 m.a (l.a.getD i 0) hm).mono ?_
      rintro r rfl
      simp only [tru]
      repeat' first|refine Spl.on (fun _=>?_) (fun _=>?_)|with_reducible refine gd ?_|simp only [go_sem, hw]
      · rename_i h2
        refine tru_f ?_
        have : (l.a.all fun x => decide (x ∈ m.a)) = false := by
          rw [List.all_eq_false]
          exact ⟨l.a.getD i 0, by rw [e1]; exact List.getElem_mem hlt, by simpa only [decide_eq_true_eq] using h2⟩
        simp only [leqL, this, Bool.and_false, Bool.false_and]
      · rename_i h2
        refine lend_mk (n - 1) [num ((i + 1 : Nat) : Int)] (by omega) ⟨i + 1, by omega, rfl, ?_⟩ ?_
        · intro y hy
          rw [List.take_add_one, List.getElem?_eq_getElem hlt, Option.toList, List.mem_append] at hy
          rcases hy with hy | hy
          · exact hin y hy
          · rw [List.mem_singleton] at hy
            rw [hy, ← e1]; exact h2
        · simp only [hvm_t, hvm_f, hvm_nil, puts_cons, puts_nil, List.set_cons_zero, List.set_cons_succ, num]
          repeat first | exact Wk.nil | refine Wk.same ?_ | refine wk_any ?_
    · have : i = l.a.length := by omega
      subst this
      rw [List.take_length] at hin
      have hin' : (l.a.all fun x => decide (x ∈ m.a)) = true := by simpa using hin
      simp only [go_sem]
      refine cwp_loop [false, false, false, false, false, false, false, false, false, true, true, true, false, false, false, false, false, false, false, false, false, false, false, false, false, false, false, false, false, false, false, false, false, false, false, false, false, false, false, false, false, false, false, false, false, false, false, false, false, false, false, false, false, true, true, true, true, true, true, true, true, true, true, true, true, true, true, true, true, true] [9] (fun n xs => ∃ c : Nat, c + n = 4 ∧ xs = [num c] ∧ ∀ b < c, bitL l.d b = true → bitL m.d b = true) ⟨4, _, ⟨0, rfl, rfl, by simp⟩, ?_⟩ ?_
      · simp only [hvm_t, hvm_f, hvm_nil, puts_cons, puts_nil, List.set_cons_zero, List.set_cons_succ, num]
        exact Wk.refl _
      · rintro n xs ⟨c, hc, rfl, hb⟩
        simp only [hvm_t, hvm_f, hvm_nil, puts_cons, puts_nil, List.set_cons_zero, List.set_cons_succ, num]
        simp only [go_sem]
        refine asq_dmk (fun h2 => ?_) (fun h2 => ?_)
        · have hw : IntKind.i64.wrap ((c : Int) + 1) = ((c + 1 : Nat) : Int) := wrap_succ (by omega)
          repeat' first|refine Spl.on (fun _=>?_) (fun _=>?_)|with_reducible refine gd ?_|simp only [go_sem]
          refine (bit32 l.d c (okL_d k1).1 (by have := okL_d k1; omega) (by omega)).mono ?_
          rintro r rfl
          simp only [tru]
          repeat' first|refine Spl.on (fun _=>?_) (fun _=>?_)|with_reducible refine gd ?_|simp only [go_sem]
          refine (bit32 m.d c (okL_d k2).1 (by have := okL_d k2; omega) (by omega)).mono ?_
          rintro r rfl
          simp only [tru]
          repeat' first|refine Spl.on (fun _=>?_) (fun _=>?_)|with_reducible refine gd ?_|simp only [go_sem, hw]
          · rename_i h3 h4
            refine tru_f ?_
            have : sub4 l.d m.d = false := by
              cases hs : sub4 l.d m.d with
              | false => rfl
              | true => exact absurd (of_decide_eq_true (sub4_iff.1 hs c (by omega) (decide_eq_true h3))) h4
            simp only [leqL, this, Bool.and_false]
          · rename_i h3 h4
            refine lend_mk (n - 1) [num ((c + 1 : Nat) : Int)] (by omega) ⟨c + 1, by omega, rfl, fun b hbc hbl => ?_⟩ ?_
            · rcases Nat.lt_or_ge b c with h | h
              · exact hb b h hbl
              · have : b = c := by omega
                subst this; exact decide_eq_true h4
            · simp only [hvm_t, hvm_f, hvm_nil, puts_cons, puts_nil, List.set_cons_zero, List.set_cons_succ, num]
              repeat first | exact Wk.nil | refine Wk.same ?_ | refine wk_any ?_
          · rename_i h3
            refine lend_mk (n - 1) [num ((c + 1 : Nat) : Int)] (by omega) ⟨c + 1, by omega, rfl, fun b hbc hbl => ?_⟩ ?_
            · rcases Nat.lt_or_ge b c with h | h
              · exact hb b h hbl
              · have : b = c := by omega
                subst this; exact absurd (of_decide_eq_true hbl) h3
            · simp only [hvm_t, hvm_f, hvm_nil, puts_cons, puts_nil, List.set_cons_zero, List.set_cons_succ, num]
              repeat first | exact Wk.nil | refine Wk.same ?_ | refine wk_any ?_
        · repeat' first|refine Spl.on (fun _=>?_) (fun _=>?_)|with_reducible refine gd ?_|simp only [go_sem]
          refine tru_t ?_
          have hs : sub4 l.d m.d = true := sub4_iff.2 fun b hb4 => hb b (by omega)
          have e3 : l.u ≤ m.u := by omega
          have e4 : l.n ≤ m.n := by omega
          simp only [leqL, k1, k2, e3, e4, hin', hs, decide_true, Bool.and_true]
end Go.Proofs.Ytohelofjlkoboaa
