/- The reference: Tokens. -/
import Derived.Test.YtibdijaacolhkaaT
import Derived.Test.YtibdijaacolhkaaA10
import Derived.Test.YtibdijaacolhkaaX9
namespace Go.Proofs.Ytibdijaacolhkaa
open Go.RowKit Go.Proofs
set_option linter.unusedSimpArgs false
set_option linter.unusedVariables false
set_option maxRecDepth 100000
set_option maxHeartbeats 4000000
def sc (u : List UInt8) (a : Nat) (g : Option Nat) : List Tk := scanF (u.length + 1) u a g
theorem scanF_two : ∀ (f1 f2 : Nat) (u : List UInt8) (a : Nat) (g : Option Nat), u.length < f1 → u.length < f2 → scanF f1 u a g = scanF f2 u a g
  | 0, _, _, _, _, h, _ => by omega
  | _ + 1, 0, _, _, _, _, h => by omega
  | f1 + 1, f2 + 1, [], a, none, _, _ => by simp only [scanF]
  | f1 + 1, f2 + 1, [], a, some g, _, _ => by simp only [scanF]
  | f1 + 1, f2 + 1, c :: r, a, none, h1, h2 => by
    simp only [List.length_cons] at h1 h2
    simp only [scanF]
    cases ho : opn (c :: r) with
    | true =>
      simp only [if_true]
      rw [scanF_two f1 f2 r (a + 1) (some a) (by omega) (by omega)]
    | false =>
      cases hb : (litL (c :: r)).2.2 with
      | true => simp only [if_true, Bool.false_eq_true, if_false]
      | false =>
        have hp := litL_pos rfl ho hb
        simp only [Bool.false_eq_true, if_false]
        rw [scanF_two f1 f2 _ _ none (by simp only [List.length_drop, List.length_cons]; omega) (by simp only [List.length_drop, List.length_cons]; omega)]
  | f1 + 1, f2 + 1, c :: r, a, some g, h1, h2 => by
    simp only [List.length_cons] at h1 h2
    simp only [scanF]
    cases hw : wsp c with
    | true =>
      simp only [if_true]
      rw [scanF_two f1 f2 r (a + 1) (some g) (by omega) (by omega)]
    | false =>
      simp only [Bool.false_eq_true, if_false]
      rcases ho : partL (c :: r) with _ | ⟨k, t, n⟩
      · rfl
      · have hp := partL_spec ho
        simp only []
        rw [scanF_two f1 f2 _ _ _ (by simp only [List.length_drop, List.length_cons]; omega) (by simp only [List.length_drop, List.length_cons]; omega)]
theorem scanF_sc {f : Nat} {u : List UInt8} {a : Nat} {g : Option Nat} (h : u.length < f) : scanF f u a g = sc u a g := scanF_two _ _ _ _ _ h (by omega)
theorem tagF_ws {f : Nat} {c : UInt8} {r : List UInt8} {j g : Nat} (h : wsp c = true) : tagF (f + 1) (c :: r) j g = tagF f r (j + 1) g := by simp only [tagF, h, if_true]
theorem tagF_bad {f : Nat} {c : UInt8} {r : List UInt8} {j g : Nat} (h : wsp c = false) (ho : partL (c :: r) = none) : tagF (f + 1) (c :: r) j g = ([], j, true) := by simp only [tagF, h, Bool.false_eq_true, if_false, ho]
theorem tagF_cl {f : Nat} {c : UInt8} {r : List UInt8} {j g : Nat} {k : Int} {t : List UInt8} {n : Nat} (h : wsp c = false) (ho : partL (c :: r) = some (k, t, n)) (h7 : k = 7) : tagF (f + 1) (c :: r) j g = ([⟨k, t, j⟩], j + n, false) := by simp only [tagF, h, Bool.false_eq_true, if_false, ho, h7, if_true]
theorem tagF_tok {f : Nat} {c : UInt8} {r : List UInt8} {j g : Nat} {k : Int} {t : List UInt8} {n : Nat} (h : wsp c = false) (ho : partL (c :: r) = some (k, t, n)) (h7 : ¬ k = 7) : tagF (f + 1) (c :: r) j g = (⟨k, t, j⟩ :: (tagF f ((c :: r).drop n) (j + n) g).1, (tagF f ((c :: r).drop n) (j + n) g).2) := by simp only [tagF, h, Bool.false_eq_true, if_false, ho, h7]
theorem sc_nil (a : Nat) : sc [] a none = [] := rfl
theorem sc_end (a g : Nat) : sc [] a (some g) = [⟨0, [], g⟩] := rfl
theorem sc_opn {c : UInt8} {r : List UInt8} {a : Nat} (h : opn (c :: r) = true) : sc (c :: r) a none = ⟨6, [123], a⟩ :: sc r (a + 1) (some a) := by
  simp only [sc, scanF, h, if_true, List.length_cons]
theorem sc_bad {c : UInt8} {r : List UInt8} {a : Nat} (h : opn (c :: r) = false) (hb : (litL (c :: r)).2.2 = true) : sc (c :: r) a none = [⟨0, [], a + (litL (c :: r)).2.1⟩] := by
  simp only [sc, scanF, h, hb, if_true, Bool.false_eq_true, if_false]
theorem sc_text {c : UInt8} {r : List UInt8} {a : Nat} (h : opn (c :: r) = false) (hb : (litL (c :: r)).2.2 = false) : sc (c :: r) a none = ⟨1, (litL (c :: r)).1, a⟩ :: sc ((c :: r).drop (litL (c :: r)).2.1) (a + (litL (c :: r)).2.1) none := by
  have hp := litL_pos rfl h hb
  rw [← scanF_sc (f := r.length + 1) (u := (c :: r).drop _) (by simp only [List.length_drop, List.length_cons]; omega)]
  simp only [sc, scanF, h, hb, Bool.false_eq_true, if_false, List.length_cons]
theorem sc_ws {c : UInt8} {r : List UInt8} {a g : Nat} (h : wsp c = true) : sc (c :: r) a (some g) = sc r (a + 1) (some g) := by
  simp only [sc, scanF, h, if_true, List.length_cons]
theorem sc_none {c : UInt8} {r : List UInt8} {a g : Nat} (h : wsp c = false) (ho : partL (c :: r) = none) : sc (c :: r) a (some g) = [⟨0, [], a⟩] := by
  simp only [sc, scanF, h, ho, Bool.false_eq_true, if_false]
theorem sc_tok {c : UInt8} {r : List UInt8} {a g : Nat} {k : Int} {t : List UInt8} {n : Nat} (h : wsp c = false) (ho : partL (c :: r) = some (k, t, n)) : sc (c :: r) a (some g) = ⟨k, t, a⟩ :: sc ((c :: r).drop n) (a + n) (if k = 7 then none else some g) := by
  have hp := partL_spec ho
  rw [← scanF_sc (f := r.length + 1) (u := (c :: r).drop _) (by simp only [List.length_drop, List.length_cons]; omega)]
  simp only [sc, scanF, h, ho, Bool.false_eq_true, if_false, List.length_cons]
theorem toks_sc (s : List UInt8) : toks s = sc s 0 none := rfl
theorem tagF_sc : ∀ (f : Nat) (u : List UInt8) (j g : Nat), u.length < f →
    sc u j (some g) = (tagF f u j g).1 ++ (if (tagF f u j g).2.2 then [⟨0, [], (tagF f u j g).2.1⟩] else sc (u.drop ((tagF f u j g).2.1 - j)) (tagF f u j g).2.1 none)
    ∧ ((tagF f u j g).2.2 = false → j < (tagF f u j g).2.1 ∧ (tagF f u j g).2.1 ≤ j + u.length) ∧ ∀ t ∈ (tagF f u j g).1, t.k ≠ 0
  | 0, _, _, _, h => by omega
  | f + 1, [], j, g, _ => by simp [tagF, sc, scanF]
  | f + 1, c :: r, j, g, h => by
    simp only [List.length_cons] at h
    rcases Bool.eq_false_or_eq_true (wsp c) with hw | hw
    · rw [tagF_ws hw, sc_ws hw]
      obtain ⟨i1, i2, i3⟩ := tagF_sc f r (j + 1) g (by omega)
      refine ⟨?_, ?_, i3⟩
      · rw [i1]
        congr 1
        rcases Bool.eq_false_or_eq_true (tagF f r (j + 1) g).2.2 with hb | hb
        · simp only [hb, if_true]
        · have := i2 hb
          simp only [hb, Bool.false_eq_true, if_false]
          have e : (tagF f r (j + 1) g).2.1 - j = ((tagF f r (j + 1) g).2.1 - (j + 1)) + 1 := by omega
          rw [e, List.drop_succ_cons]
      · intro hb
        have := i2 hb
        simp only [List.length_cons]
        omega
    · obtain ⟨o, ho⟩ : ∃ o, partL (c :: r) = o := ⟨_, rfl⟩
      rcases o with _ | ⟨k, t, n⟩
      · rw [tagF_bad hw ho, sc_none hw ho]
        simp
      · have hp := partL_spec ho
        simp only [List.length_cons] at hp
        rw [sc_tok hw ho]
        by_cases h7 : k = 7
        · rw [tagF_cl hw ho h7]
          refine ⟨?_, ?_, ?_⟩
          · have e : j + n - j = n := by omega
            simp only [h7, if_true, Bool.false_eq_true, if_false, e, List.cons_append, List.nil_append]
          · intro _; simp only [List.length_cons]; omega
          · intro u hu
            rw [List.mem_singleton] at hu
            subst hu
            exact hp.2.2.1
        · rw [tagF_tok hw ho h7]
          obtain ⟨i1, i2, i3⟩ := tagF_sc f ((c :: r).drop n) (j + n) g (by simp only [List.length_drop, List.length_cons]; omega)
          refine ⟨?_, ?_, ?_⟩
          · simp only [h7, if_false]
            rw [i1, List.cons_append]
            congr 2
            rcases Bool.eq_false_or_eq_true (tagF f ((c :: r).drop n) (j + n) g).2.2 with hb | hb
            · simp only [hb, if_true]
            · have := i2 hb
              simp only [hb, Bool.false_eq_true, if_false]
              have e : (tagF f ((c :: r).drop n) (j + n) g).2.1 - j = n + ((tagF f ((c :: r).drop n) (j + n) g).2.1 - (j + n)) := by omega
              rw [e, ← List.drop_drop]
          · intro hb
            have := i2 hb
            simp only [List.length_drop, List.length_cons] at this ⊢
            omega
          · intro u hu
            rw [List.mem_cons] at hu
            rcases hu with rfl | hu
            · exact hp.2.2.1
            · exact i3 u hu
theorem tl_mid (a b : List Tk) (x : Tk) : tl (a ++ [x] ++ b) = .own 34 3 ((a ++ [x] ++ b).map tk) := by cases a <;> simp [tl]
theorem find_pre {l pre rest : List Tk} {t : Tk} (he : l = pre ++ t :: rest) (hp : ∀ u ∈ pre, u.k ≠ 0) (h0 : t.k = 0) : l.find? (fun t => decide (t.k = 0)) = some t := by
  rw [he, List.find?_append]
  have : pre.find? (fun t => decide (t.k = 0)) = none := by
    rw [List.find?_eq_none]; intro u hu; simpa using hp u hu
  rw [this]; simp [h0]
theorem find_non {l : List Tk} (hp : ∀ u ∈ l, u.k ≠ 0) : l.find? (fun t => decide (t.k = 0)) = none := by
  rw [List.find?_eq_none]; intro u hu; simpa using hp u hu
theorem refTokens11 (s : List UInt8) (hs : s.length ≤ 1000000) : ACalls Try.prog 11 [str s] (fun r => r = tokensR s) := by
  refine calls_short [] ttok hmix Try.func11 (by decide) (by decide +kernel) (by simp only [Try.f11, Option.bind_some, comp, isLend, lendOf, lendX, lendC, lendH, Nat.reduceLeDiff, Nat.reduceSub, ne_eq, not_false_eq_true, and_self, cops, cguard, gslot, List.getElem?_toArray, List.getElem?_cons_succ, List.getElem?_cons_zero, vlook, tlook, cutAt_nil, cutAt, firstReg, isCut, mkSeq, Nat.reduceAdd, Nat.reduceEqDiff, reduceIte]; rfl) Try.ntmps11 Try.results11 ⟨_, rfl⟩ rfl ?_
  simp only [List.length_cons, List.length_nil, Nat.reduceAdd, Nat.reduceSub, List.replicate_succ, List.replicate_zero, List.cons_append, List.nil_append, num, str, tru]
  repeat' first | with_reducible refine asq_dmk (fun _ => ?_) (fun _ => ?_) | with_reducible refine asq_ndmk (fun _ => ?_) (fun _ => ?_) | with_reducible refine asq_nmk (fun _ => ?_) (fun _ => ?_) | with_reducible refine asq_mk (fun _ => ?_) (fun _ => ?_) | with_reducible refine asp_dmk (fun _ => ?_) (fun _ => ?_) | with_reducible refine asp_ndmk (fun _ => ?_) (fun _ => ?_) | with_reducible refine asp_nmk (fun _ => ?_) (fun _ => ?_) | with_reducible refine asp_mk (fun _ => ?_) (fun _ => ?_) | with_reducible refine And.intro (by first | omega | rfl | decide | with_unfolding_all rfl) ?_ | simp only [go_sem, Nat.reduceLT, Nat.reduceAdd, Nat.reduceSub, Nat.reduceMul, Nat.reduceLeDiff, ne_eq, Nat.reduceEqDiff, not_false_eq_true, Bool.and_true, Bool.true_and, Nat.succ_ne_self, and_true, Bool.not_true, Bool.not_false, Int.toNat_zero, Int.reduceToNat, Nat.mul_one, Int.toNat_one]
  · rename_i h
    have h1 : 1000 < s.length := by omega
    simp only [tokensR, h1, if_true, num]
  rename_i h
  have h1 : ¬ 1000 < s.length := by omega
  simp only [tokensR, h1, if_false]
  have htl := toks_len s
  refine cwp_loop [false, false, false, false, false, true, true, true, true, true, true, true, true, true, true, true, true, true, true, true, true, true, true, true, true, true, true, true, true, true, true, true, true, true, true, true, true, true, true, true, true, true, true, true, true, true, true, true, true, true, true, true, false] [5, 6] (fun n xs => ∃ (j : Nat) (pre : List Tk), j ≤ s.length ∧ s.length - j < n ∧ toks s = pre ++ sc (s.drop j) j none ∧ (∀ t ∈ pre, t.k ≠ 0) ∧ xs = [tl pre, num j]) ⟨s.length + 1, _, ⟨0, [], by omega, by omega, rfl, by simp, rfl⟩, ?_⟩ ?_
  · simp only [hvm_t, hvm_f, hvm_nil, puts_cons, puts_nil, List.set_cons_zero, List.set_cons_succ, num]
    simp only [tl_nil]
    repeat first | exact Wk.nil | refine Wk.same ?_ | refine wk_any ?_
  · rintro n xs ⟨j, pre, hjl, hn, he, hp0, rfl⟩
    have hpl : pre.length ≤ 1001 := by
      have := congrArg List.length he
      rw [List.length_append] at this
      omega
    simp only [hvm_t, hvm_f, hvm_nil, puts_cons, puts_nil, List.set_cons_zero, List.set_cons_succ, num]
    simp only [go_sem, Nat.reduceLT, Nat.reduceAdd, Nat.reduceSub, Nat.reduceMul, Nat.reduceLeDiff, ne_eq, Nat.reduceEqDiff, not_false_eq_true, Bool.and_true, Bool.true_and, Nat.succ_ne_self, and_true, Bool.not_true, Bool.not_false, Int.toNat_zero, Int.reduceToNat, Nat.mul_one, Int.toNat_one]
    rcases Nat.lt_or_ge j s.length with hlt | hge
    · have ej := eq_true (show (j : Int) < (s.length : Int) by omega)
      obtain ⟨c, hc0, hd⟩ := drop_cons hlt
      repeat' first | with_reducible refine asq_dmk (fun _ => ?_) (fun _ => ?_) | with_reducible refine asq_ndmk (fun _ => ?_) (fun _ => ?_) | with_reducible refine asq_nmk (fun _ => ?_) (fun _ => ?_) | with_reducible refine asq_mk (fun _ => ?_) (fun _ => ?_) | with_reducible refine asp_dmk (fun _ => ?_) (fun _ => ?_) | with_reducible refine asp_ndmk (fun _ => ?_) (fun _ => ?_) | with_reducible refine asp_nmk (fun _ => ?_) (fun _ => ?_) | with_reducible refine asp_mk (fun _ => ?_) (fun _ => ?_) | with_reducible refine And.intro (by first | omega | rfl | decide | with_unfolding_all rfl) ?_ | simp only [go_sem, Nat.reduceLT, Nat.reduceAdd, Nat.reduceSub, Nat.reduceMul, Nat.reduceLeDiff, ne_eq, Nat.reduceEqDiff, not_false_eq_true, Bool.and_true, Bool.true_and, Nat.succ_ne_self, and_true, Bool.not_true, Bool.not_false, Int.toNat_zero, Int.reduceToNat, Nat.mul_one, Int.toNat_one, ej, decide_true, decide_false]
      all_goals try (exfalso; omega)
      refine (textEnd18 s j hjl hs).mono ?_
      rintro r rfl
      have h2 := litL_le (s.drop j).length (s.drop j) (Nat.le_refl _)
      rw [List.length_drop] at h2
      cases hop : opn (s.drop j) with
      | true =>
        rw [litL_opn hop]
        simp only [textR, Bool.false_eq_true, if_false, str, num, Nat.add_zero]
        rw [hd] at he hop
        rw [sc_opn hop] at he
        rcases pre with _ | ⟨p0, pr⟩ <;> simp only [tl_nil, tl_cons]
        · repeat' first | with_reducible refine asq_dmk (fun _ => ?_) (fun _ => ?_) | with_reducible refine asq_ndmk (fun _ => ?_) (fun _ => ?_) | with_reducible refine asq_nmk (fun _ => ?_) (fun _ => ?_) | with_reducible refine asq_mk (fun _ => ?_) (fun _ => ?_) | with_reducible refine asp_dmk (fun _ => ?_) (fun _ => ?_) | with_reducible refine asp_ndmk (fun _ => ?_) (fun _ => ?_) | with_reducible refine asp_nmk (fun _ => ?_) (fun _ => ?_) | with_reducible refine asp_mk (fun _ => ?_) (fun _ => ?_) | with_reducible refine And.intro (by first | omega | rfl | decide | with_unfolding_all rfl) ?_ | simp only [go_sem, Nat.reduceLT, Nat.reduceAdd, Nat.reduceSub, Nat.reduceMul, Nat.reduceLeDiff, ne_eq, Nat.reduceEqDiff, not_false_eq_true, Bool.and_true, Bool.true_and, Nat.succ_ne_self, and_true, Bool.not_true, Bool.not_false, Int.toNat_zero, Int.reduceToNat, Nat.mul_one, Int.toNat_one, Int.reduceNeg, Int.reduceLE, Int.reduceLT, Int.lt_irrefl, decide_true, decide_false]
          refine (tag19 s j [] hlt hs (by omega)).mono ?_
          rintro r rfl
          obtain ⟨i1, i2, i3⟩ := tagF_sc (s.length - j) (s.drop (j + 1)) (j + 1) j (by rw [List.length_drop]; omega)
          obtain ⟨⟨mid, nx, wr⟩, hx⟩ : ∃ x, tagF (s.length - j) (s.drop (j + 1)) (j + 1) j = x := ⟨_, rfl⟩
          rw [hx] at i1 i2 i3 ⊢
          cases wr with
          | true =>
            simp only [tagR, if_true, num, tru]
            repeat' first | with_reducible refine asq_dmk (fun _ => ?_) (fun _ => ?_) | with_reducible refine asq_ndmk (fun _ => ?_) (fun _ => ?_) | with_reducible refine asq_nmk (fun _ => ?_) (fun _ => ?_) | with_reducible refine asq_mk (fun _ => ?_) (fun _ => ?_) | with_reducible refine asp_dmk (fun _ => ?_) (fun _ => ?_) | with_reducible refine asp_ndmk (fun _ => ?_) (fun _ => ?_) | with_reducible refine asp_nmk (fun _ => ?_) (fun _ => ?_) | with_reducible refine asp_mk (fun _ => ?_) (fun _ => ?_) | with_reducible refine And.intro (by first | omega | rfl | decide | with_unfolding_all rfl) ?_ | simp only [go_sem, Nat.reduceLT, Nat.reduceAdd, Nat.reduceSub, Nat.reduceMul, Nat.reduceLeDiff, ne_eq, Nat.reduceEqDiff, not_false_eq_true, Bool.and_true, Bool.true_and, Nat.succ_ne_self, and_true, Bool.not_true, Bool.not_false, Int.toNat_zero, Int.reduceToNat, Nat.mul_one, Int.toNat_one, decide_true, decide_false]
            simp only [if_true] at i1
            rw [i1] at he
            have he2 : toks s = ([] ++ (⟨6, [123], j⟩ : Tk) :: mid) ++ ⟨0, [], nx⟩ :: [] := by rw [he]; simp
            rw [find_pre he2 (by
              intro u hu
              rcases List.mem_append.1 hu with hu | hu
              · exact hp0 u hu
              · rcases List.mem_cons.1 hu with rfl | hu
                · exact (by decide : (6 : Int) ≠ 0)
                · exact i3 u hu) rfl]
          | false =>
            have i4 := i2 rfl
            rw [List.length_drop] at i4
            simp only [Bool.false_eq_true, if_false] at i1
            have hdn : (s.drop (j + 1)).drop (nx - (j + 1)) = s.drop nx := by
              rw [List.drop_drop]; congr 1; simp only at i4; omega
            rw [hdn] at i1
            rw [i1] at he
            simp only [tagR, Bool.false_eq_true, if_false, num, tru]
            repeat' first | with_reducible refine asq_dmk (fun _ => ?_) (fun _ => ?_) | with_reducible refine asq_ndmk (fun _ => ?_) (fun _ => ?_) | with_reducible refine asq_nmk (fun _ => ?_) (fun _ => ?_) | with_reducible refine asq_mk (fun _ => ?_) (fun _ => ?_) | with_reducible refine asp_dmk (fun _ => ?_) (fun _ => ?_) | with_reducible refine asp_ndmk (fun _ => ?_) (fun _ => ?_) | with_reducible refine asp_nmk (fun _ => ?_) (fun _ => ?_) | with_reducible refine asp_mk (fun _ => ?_) (fun _ => ?_) | with_reducible refine And.intro (by first | omega | rfl | decide | with_unfolding_all rfl) ?_ | simp only [go_sem, Nat.reduceLT, Nat.reduceAdd, Nat.reduceSub, Nat.reduceMul, Nat.reduceLeDiff, ne_eq, Nat.reduceEqDiff, not_false_eq_true, Bool.and_true, Bool.true_and, Nat.succ_ne_self, and_true, Bool.not_true, Bool.not_false, Int.toNat_zero, Int.reduceToNat, Nat.mul_one, Int.toNat_one, decide_true, decide_false]
            simp only at i4
            refine lend_mk (n - 1) [tl ([] ++ [(⟨6, [123], j⟩ : Tk)] ++ mid), num (nx : Nat)] (by omega) ⟨nx, [] ++ [⟨6, [123], j⟩] ++ mid, by omega, by omega, by rw [he]; simp, ?_, rfl⟩ ?_
            · intro u hu
              rw [List.mem_append, List.mem_append, List.mem_singleton] at hu
              rcases hu with (hu | rfl) | hu
              · exact hp0 u hu
              · exact (by decide : (6 : Int) ≠ 0)
              · exact i3 u hu
            · simp only [hvm_t, hvm_f, hvm_nil, puts_cons, puts_nil, List.set_cons_zero, List.set_cons_succ, num]
              rw [tl_mid]
              repeat first | exact Wk.nil | refine Wk.same ?_ | refine wk_any ?_
        · repeat' first | with_reducible refine asq_dmk (fun _ => ?_) (fun _ => ?_) | with_reducible refine asq_ndmk (fun _ => ?_) (fun _ => ?_) | with_reducible refine asq_nmk (fun _ => ?_) (fun _ => ?_) | with_reducible refine asq_mk (fun _ => ?_) (fun _ => ?_) | with_reducible refine asp_dmk (fun _ => ?_) (fun _ => ?_) | with_reducible refine asp_ndmk (fun _ => ?_) (fun _ => ?_) | with_reducible refine asp_nmk (fun _ => ?_) (fun _ => ?_) | with_reducible refine asp_mk (fun _ => ?_) (fun _ => ?_) | with_reducible refine And.intro (by first | omega | rfl | decide | with_unfolding_all rfl) ?_ | simp only [go_sem, Nat.reduceLT, Nat.reduceAdd, Nat.reduceSub, Nat.reduceMul, Nat.reduceLeDiff, ne_eq, Nat.reduceEqDiff, not_false_eq_true, Bool.and_true, Bool.true_and, Nat.succ_ne_self, and_true, Bool.not_true, Bool.not_false, Int.toNat_zero, Int.reduceToNat, Nat.mul_one, Int.toNat_one, Int.reduceNeg, Int.reduceLE, Int.reduceLT, Int.lt_irrefl, decide_true, decide_false]
          refine (tag19 s j (p0 :: pr) hlt hs (by omega)).mono ?_
          rintro r rfl
          obtain ⟨i1, i2, i3⟩ := tagF_sc (s.length - j) (s.drop (j + 1)) (j + 1) j (by rw [List.length_drop]; omega)
          obtain ⟨⟨mid, nx, wr⟩, hx⟩ : ∃ x, tagF (s.length - j) (s.drop (j + 1)) (j + 1) j = x := ⟨_, rfl⟩
          rw [hx] at i1 i2 i3 ⊢
          cases wr with
          | true =>
            simp only [tagR, if_true, num, tru]
            repeat' first | with_reducible refine asq_dmk (fun _ => ?_) (fun _ => ?_) | with_reducible refine asq_ndmk (fun _ => ?_) (fun _ => ?_) | with_reducible refine asq_nmk (fun _ => ?_) (fun _ => ?_) | with_reducible refine asq_mk (fun _ => ?_) (fun _ => ?_) | with_reducible refine asp_dmk (fun _ => ?_) (fun _ => ?_) | with_reducible refine asp_ndmk (fun _ => ?_) (fun _ => ?_) | with_reducible refine asp_nmk (fun _ => ?_) (fun _ => ?_) | with_reducible refine asp_mk (fun _ => ?_) (fun _ => ?_) | with_reducible refine And.intro (by first | omega | rfl | decide | with_unfolding_all rfl) ?_ | simp only [go_sem, Nat.reduceLT, Nat.reduceAdd, Nat.reduceSub, Nat.reduceMul, Nat.reduceLeDiff, ne_eq, Nat.reduceEqDiff, not_false_eq_true, Bool.and_true, Bool.true_and, Nat.succ_ne_self, and_true, Bool.not_true, Bool.not_false, Int.toNat_zero, Int.reduceToNat, Nat.mul_one, Int.toNat_one, decide_true, decide_false]
            simp only [if_true] at i1
            rw [i1] at he
            have he2 : toks s = ((p0 :: pr) ++ (⟨6, [123], j⟩ : Tk) :: mid) ++ ⟨0, [], nx⟩ :: [] := by rw [he]; simp
            rw [find_pre he2 (by
              intro u hu
              rcases List.mem_append.1 hu with hu | hu
              · exact hp0 u hu
              · rcases List.mem_cons.1 hu with rfl | hu
                · exact (by decide : (6 : Int) ≠ 0)
                · exact i3 u hu) rfl]
          | false =>
            have i4 := i2 rfl
            rw [List.length_drop] at i4
            simp only [Bool.false_eq_true, if_false] at i1
            have hdn : (s.drop (j + 1)).drop (nx - (j + 1)) = s.drop nx := by
              rw [List.drop_drop]; congr 1; simp only at i4; omega
            rw [hdn] at i1
            rw [i1] at he
            simp only [tagR, Bool.false_eq_true, if_false, num, tru]
            repeat' first | with_reducible refine asq_dmk (fun _ => ?_) (fun _ => ?_) | with_reducible refine asq_ndmk (fun _ => ?_) (fun _ => ?_) | with_reducible refine asq_nmk (fun _ => ?_) (fun _ => ?_) | with_reducible refine asq_mk (fun _ => ?_) (fun _ => ?_) | with_reducible refine asp_dmk (fun _ => ?_) (fun _ => ?_) | with_reducible refine asp_ndmk (fun _ => ?_) (fun _ => ?_) | with_reducible refine asp_nmk (fun _ => ?_) (fun _ => ?_) | with_reducible refine asp_mk (fun _ => ?_) (fun _ => ?_) | with_reducible refine And.intro (by first | omega | rfl | decide | with_unfolding_all rfl) ?_ | simp only [go_sem, Nat.reduceLT, Nat.reduceAdd, Nat.reduceSub, Nat.reduceMul, Nat.reduceLeDiff, ne_eq, Nat.reduceEqDiff, not_false_eq_true, Bool.and_true, Bool.true_and, Nat.succ_ne_self, and_true, Bool.not_true, Bool.not_false, Int.toNat_zero, Int.reduceToNat, Nat.mul_one, Int.toNat_one, decide_true, decide_false]
            simp only at i4
            refine lend_mk (n - 1) [tl ((p0 :: pr) ++ [(⟨6, [123], j⟩ : Tk)] ++ mid), num (nx : Nat)] (by omega) ⟨nx, (p0 :: pr) ++ [⟨6, [123], j⟩] ++ mid, by omega, by omega, by rw [he]; simp, ?_, rfl⟩ ?_
            · intro u hu
              rw [List.mem_append, List.mem_append, List.mem_singleton] at hu
              rcases hu with (hu | rfl) | hu
              · exact hp0 u hu
              · exact (by decide : (6 : Int) ≠ 0)
              · exact i3 u hu
            · simp only [hvm_t, hvm_f, hvm_nil, puts_cons, puts_nil, List.set_cons_zero, List.set_cons_succ, num]
              rw [tl_mid]
              repeat first | exact Wk.nil | refine Wk.same ?_ | refine wk_any ?_
      | false => 
        obtain ⟨⟨lt, ln, lbad⟩, hx⟩ : ∃ x, litL (s.drop j) = x := ⟨_, rfl⟩
        rw [hx] at h2 ⊢
        replace h2 : ln ≤ s.length - j := h2.1
        have hx' := hx
        have hop' := hop
        rw [hd] at hx' hop'
        cases lbad with
        | true =>
          simp only [textR, if_true, str, num]
          have eg := eq_true (show 0 ≤ ((j + ln : Nat) : Int) by omega)
          repeat' first | with_reducible refine asq_dmk (fun _ => ?_) (fun _ => ?_) | with_reducible refine asq_ndmk (fun _ => ?_) (fun _ => ?_) | with_reducible refine asq_nmk (fun _ => ?_) (fun _ => ?_) | with_reducible refine asq_mk (fun _ => ?_) (fun _ => ?_) | with_reducible refine asp_dmk (fun _ => ?_) (fun _ => ?_) | with_reducible refine asp_ndmk (fun _ => ?_) (fun _ => ?_) | with_reducible refine asp_nmk (fun _ => ?_) (fun _ => ?_) | with_reducible refine asp_mk (fun _ => ?_) (fun _ => ?_) | with_reducible refine And.intro (by first | omega | rfl | decide | with_unfolding_all rfl) ?_ | simp only [go_sem, Nat.reduceLT, Nat.reduceAdd, Nat.reduceSub, Nat.reduceMul, Nat.reduceLeDiff, ne_eq, Nat.reduceEqDiff, not_false_eq_true, Bool.and_true, Bool.true_and, Nat.succ_ne_self, and_true, Bool.not_true, Bool.not_false, Int.toNat_zero, Int.reduceToNat, Nat.mul_one, Int.toNat_one, eg, decide_true, decide_false]
          all_goals try (exfalso; omega)
          have h3 := sc_bad (a := j) hop' (by rw [hx'])
          rw [hx', ← hd] at h3
          rw [h3] at he
          rw [find_pre he hp0 rfl]
        | false =>
          have hp : 0 < ln := by
            have := litL_pos hd hop
            rw [hx] at this; exact this rfl
          have eg := eq_true (show ((j : Nat) : Int) < ((j + ln : Nat) : Int) by omega)
          simp only [textR, Bool.false_eq_true, if_false, str, num]
          have h3 := sc_text (a := j) hop' (by rw [hx'])
          rw [hx', ← hd, List.drop_drop] at h3
          rw [h3] at he
          rcases pre with _ | ⟨p0, pr⟩ <;> simp only [tl_nil, tl_cons]
          all_goals simp only [List.length_cons, List.length_nil] at hpl
          · repeat' first | with_reducible refine asq_dmk (fun _ => ?_) (fun _ => ?_) | with_reducible refine asq_ndmk (fun _ => ?_) (fun _ => ?_) | with_reducible refine asq_nmk (fun _ => ?_) (fun _ => ?_) | with_reducible refine asq_mk (fun _ => ?_) (fun _ => ?_) | with_reducible refine asp_dmk (fun _ => ?_) (fun _ => ?_) | with_reducible refine asp_ndmk (fun _ => ?_) (fun _ => ?_) | with_reducible refine asp_nmk (fun _ => ?_) (fun _ => ?_) | with_reducible refine asp_mk (fun _ => ?_) (fun _ => ?_) | with_reducible refine And.intro (by first | omega | rfl | decide | with_unfolding_all rfl) ?_ | simp only [go_sem, Nat.reduceLT, Nat.reduceAdd, Nat.reduceSub, Nat.reduceMul, Nat.reduceLeDiff, ne_eq, Nat.reduceEqDiff, not_false_eq_true, Bool.and_true, Bool.true_and, Nat.succ_ne_self, and_true, Bool.not_true, Bool.not_false, Int.toNat_zero, Int.reduceToNat, Nat.mul_one, Int.toNat_one, eg, List.length_map, List.length_cons, List.length_nil, Int.reduceNeg, Int.reduceLE, decide_true, decide_false]
            all_goals try (exfalso; omega)
            refine lend_mk (n - 1) [tl ([] ++ [(⟨1, lt, j⟩ : Tk)]), num ((j + ln : Nat) : Int)] (by omega) ⟨j + ln, [] ++ [⟨1, lt, j⟩], by omega, by omega, by rw [he]; simp, ?_, rfl⟩ ?_
            · intro u hu
              rw [List.mem_append, List.mem_singleton] at hu
              rcases hu with hu | rfl
              · exact hp0 u hu
              · exact (by decide : (1 : Int) ≠ 0)
            · simp only [hvm_t, hvm_f, hvm_nil, puts_cons, puts_nil, List.set_cons_zero, List.set_cons_succ, num]
              rw [tl_snoc]
              repeat first | exact Wk.nil | refine Wk.same ?_ | refine wk_any ?_
          · repeat' first | with_reducible refine asq_dmk (fun _ => ?_) (fun _ => ?_) | with_reducible refine asq_ndmk (fun _ => ?_) (fun _ => ?_) | with_reducible refine asq_nmk (fun _ => ?_) (fun _ => ?_) | with_reducible refine asq_mk (fun _ => ?_) (fun _ => ?_) | with_reducible refine asp_dmk (fun _ => ?_) (fun _ => ?_) | with_reducible refine asp_ndmk (fun _ => ?_) (fun _ => ?_) | with_reducible refine asp_nmk (fun _ => ?_) (fun _ => ?_) | with_reducible refine asp_mk (fun _ => ?_) (fun _ => ?_) | with_reducible refine And.intro (by first | omega | rfl | decide | with_unfolding_all rfl) ?_ | simp only [go_sem, Nat.reduceLT, Nat.reduceAdd, Nat.reduceSub, Nat.reduceMul, Nat.reduceLeDiff, ne_eq, Nat.reduceEqDiff, not_false_eq_true, Bool.and_true, Bool.true_and, Nat.succ_ne_self, and_true, Bool.not_true, Bool.not_false, Int.toNat_zero, Int.reduceToNat, Nat.mul_one, Int.toNat_one, eg, List.length_map, List.length_cons, List.length_nil, Int.reduceNeg, Int.reduceLE, decide_true, decide_false]
            all_goals try (exfalso; omega)
            refine lend_mk (n - 1) [tl ((p0 :: pr) ++ [(⟨1, lt, j⟩ : Tk)]), num ((j + ln : Nat) : Int)] (by omega) ⟨j + ln, (p0 :: pr) ++ [⟨1, lt, j⟩], by omega, by omega, by rw [he]; simp, ?_, rfl⟩ ?_
            · intro u hu
              rw [List.mem_append, List.mem_singleton] at hu
              rcases hu with hu | rfl
              · exact hp0 u hu
              · exact (by decide : (1 : Int) ≠ 0)
            · simp only [hvm_t, hvm_f, hvm_nil, puts_cons, puts_nil, List.set_cons_zero, List.set_cons_succ, num]
              rw [tl_snoc]
              repeat first | exact Wk.nil | refine Wk.same ?_ | refine wk_any ?_
    · have ej := eq_false (show ¬ (j : Int) < (s.length : Int) by omega)
      have hz : s.drop j = [] := by simp; omega
      rw [hz, sc_nil, List.append_nil] at he
      rw [find_non (by rw [he]; exact hp0), he]
      rcases pre with _ | ⟨p0, pr⟩ <;> simp only [tl_nil, tl_cons]
      all_goals repeat' first | with_reducible refine asq_dmk (fun _ => ?_) (fun _ => ?_) | with_reducible refine asq_ndmk (fun _ => ?_) (fun _ => ?_) | with_reducible refine asq_nmk (fun _ => ?_) (fun _ => ?_) | with_reducible refine asq_mk (fun _ => ?_) (fun _ => ?_) | with_reducible refine asp_dmk (fun _ => ?_) (fun _ => ?_) | with_reducible refine asp_ndmk (fun _ => ?_) (fun _ => ?_) | with_reducible refine asp_nmk (fun _ => ?_) (fun _ => ?_) | with_reducible refine asp_mk (fun _ => ?_) (fun _ => ?_) | with_reducible refine And.intro (by first | omega | rfl | decide | with_unfolding_all rfl) ?_ | simp only [go_sem, Nat.reduceLT, Nat.reduceAdd, Nat.reduceSub, Nat.reduceMul, Nat.reduceLeDiff, ne_eq, Nat.reduceEqDiff, not_false_eq_true, Bool.and_true, Bool.true_and, Nat.succ_ne_self, and_true, Bool.not_true, Bool.not_false, Int.toNat_zero, Int.reduceToNat, Nat.mul_one, Int.toNat_one, ej, decide_true, decide_false]
      all_goals try (exfalso; omega)
end Go.Proofs.Ytibdijaacolhkaa
