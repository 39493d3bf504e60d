/- Tokens and their places: the law LexerOffsets. -/
import Derived.Test.YtibdijaacolhkaaT
import Derived.Test.YtibdijaacolhkaaA10
import Derived.Test.YtibdijaacolhkaaX14
namespace Go.Proofs.Ytibdijaacolhkaa
open Go.RowKit Go.Proofs
set_option linter.unusedSimpArgs false
set_option linter.unusedVariables false
set_option maxRecDepth 100000
set_option maxHeartbeats 4000000
/-- How a token stands in the source. -/
def repT (x : Tk) : List UInt8 := if x.k = 1 then escL x.t else if x.k = 4 then 34 :: (x.t ++ [34]) else x.t
theorem litL_take : ∀ (n : Nat) (u : List UInt8), u.length ≤ n → (litL u).2.2 = false → escL (litL u).1 = u.take (litL u).2.1
  | _, [], _, _ => by simp [litL, escL]
  | 0, c :: r, h, _ => by simp at h
  | n + 1, c :: r, h, hb => by
    simp only [List.length_cons] at h
    cases ho : opn (c :: r) with
    | true => rw [litL_opn ho]; simp [escL]
    | false =>
      cases hbad : badc c with
      | true => rw [litL_bad ho hbad] at hb; cases hb
      | false =>
        cases hl : lb c with
        | false =>
          rw [litL_one ho hbad hl] at hb ⊢
          have ih := litL_take n r (by omega) hb
          simp only [escL, hl, Bool.false_eq_true, if_false, List.take_succ_cons, ih]
        | true =>
          match r, h, ho, hb with
          | [], _, ho, _ => simp only [opn] at ho; rw [ho] at hl; cases hl
          | d :: r, h, ho, hb =>
            simp only [List.length_cons] at h
            rw [litL_two ho hbad hl] at hb ⊢
            have ih := litL_take n r (by omega) hb
            simp only [opn, hl, Bool.true_and, Bool.not_eq_eq_eq_not, Bool.not_false] at ho
            have hd : d = c := (lb_iff.1 ho).trans (lb_iff.1 hl).symm
            subst hd
            simp only [escL, hl, if_true, List.take_succ_cons, ih]
theorem runI_take (p : Int → Bool) : ∀ (u : List UInt8), ∀ c ∈ u.take (runI p u), p (c.toNat : Int) = true
  | [], c, h => by simp [runI] at h
  | d :: r, c, h => by
    simp only [runI] at h
    split at h
    · rename_i hp
      rw [List.take_succ_cons, List.mem_cons] at h
      rcases h with rfl | h
      · exact hp
      · exact runI_take p r c h
    · simp at h
theorem partL_text {c : UInt8} {r : List UInt8} {k : Int} {t : List UInt8} {n : Nat} (h : partL (c :: r) = some (k, t, n)) :
    n ≤ (c :: r).length ∧ 0 < n ∧ ((k = 4 ∧ 34 :: (t ++ [34]) = (c :: r).take n ∧ n = t.length + 2 ∧ ∀ d ∈ t, stI (d.toNat : Int) = true) ∨ ((k = 2 ∨ k = 3 ∨ k = 5 ∨ k = 7) ∧ t = (c :: r).take n ∧ n = t.length)) := by
  simp only [partL] at h
  split at h
  · split at h
    · cases h
    · injection h with h; injection h with h1 h; injection h with h2 h3
      subst h1; subst h2; subst h3
      rename_i hl _
      have := runI_le nmI (c :: r)
      have hp : 0 < runI nmI (c :: r) := by simp only [runI, nmI, hl, Bool.true_or, if_true]; omega
      exact ⟨this, hp, .inr ⟨.inl rfl, rfl, by rw [List.length_take]; omega⟩⟩
  · split at h
    · split at h
      · cases h
      · injection h with h; injection h with h1 h; injection h with h2 h3
        subst h1; subst h2; subst h3
        rename_i hl _
        have := runI_le digI (c :: r)
        have hp : 0 < runI digI (c :: r) := by simp only [runI, hl, if_true]; omega
        exact ⟨this, hp, .inr ⟨.inr (.inl rfl), rfl, by rw [List.length_take]; omega⟩⟩
    · split at h
      · rename_i h34
        split at h
        · rename_i d r2 hd
          split at h
          · rename_i hd34
            injection h with h; injection h with h1 h; injection h with h2 h3
            subst h1; subst h2; subst h3
            have hle := runI_le stI r
            have hc : c = 34 := UInt8.toNat_inj.1 (by have : ((34 : UInt8).toNat : Int) = 34 := rfl; omega)
            have hd' : d = 34 := UInt8.toNat_inj.1 (by have : ((34 : UInt8).toNat : Int) = 34 := rfl; omega)
            subst hc; subst hd'
            have hlen : runI stI r < r.length := by
              have := congrArg List.length hd
              simp at this; omega
            refine ⟨by simp only [List.length_cons]; omega, by omega, .inl ⟨rfl, ?_, by rw [List.length_take]; omega, runI_take stI r⟩⟩
            rw [List.take_succ_cons]
            congr 1
            rw [List.take_add_one]
            congr 1
            have : r[runI stI r]? = (r.drop (runI stI r))[0]? := by rw [List.getElem?_drop]; simp
            rw [this, hd]
            rfl
          · cases h
        · cases h
      · split at h
        · rename_i hc
          injection h with h; injection h with h1 h; injection h with h2 h3
          subst h1; subst h2; subst h3
          have hc : c = 124 := UInt8.toNat_inj.1 (by have : ((124 : UInt8).toNat : Int) = 124 := rfl; omega)
          subst hc
          exact ⟨by simp, by omega, .inr ⟨by simp, by simp, rfl⟩⟩
        · split at h
          · rename_i hc
            injection h with h; injection h with h1 h; injection h with h2 h3
            subst h1; subst h2; subst h3
            have hc : c = 125 := UInt8.toNat_inj.1 (by have : ((125 : UInt8).toNat : Int) = 125 := rfl; omega)
            subst hc
            exact ⟨by simp, by omega, .inr ⟨by simp, by simp, rfl⟩⟩
          · cases h
/-- The first token, and the rest. -/
theorem sc_first : ∀ (n : Nat) (u : List UInt8) (a : Nat) (g : Option Nat) (x : Tk) (rest : List Tk), u.length ≤ n → sc u a g = x :: rest → x.k ≠ 0 →
    ∃ m, m < u.length ∧ x.a = a + m ∧ (∀ c ∈ u.take m, wsp c = true) ∧ (g = none → m = 0) ∧ ((x.k = 1 ∨ x.k = 6) ↔ g = none) ∧ m + (repT x).length ≤ u.length ∧ (u.drop m).take (repT x).length = repT x ∧
      ∃ g', rest = sc (u.drop (m + (repT x).length)) (a + m + (repT x).length) g' ∧ (g' = none ↔ (x.k = 1 ∨ x.k = 7))
  | _, [], a, none, x, rest, _, h, _ => by rw [sc_nil] at h; cases h
  | _, [], a, some g, x, rest, _, h, h0 => by
    rw [sc_end] at h
    injection h with h1 h2
    subst h1
    exact absurd rfl h0
  | 0, c :: r, _, _, _, _, hn, _, _ => by simp at hn
  | n + 1, c :: r, a, none, x, rest, hn, h, h0 => by
    cases ho : opn (c :: r) with
    | true =>
      rw [sc_opn ho] at h
      injection h with h1 h2
      subst h1; subst h2
      have hc : c = 123 := by
        cases r <;> simp only [opn, Bool.and_eq_true] at ho
        · exact lb_iff.1 ho
        · exact lb_iff.1 ho.1
      subst hc
      refine ⟨0, by simp, rfl, by simp, by simp, by simp, by simp [repT], by simp [repT], some a, by simp [repT], by simp⟩
    | false =>
      cases hb : (litL (c :: r)).2.2 with
      | true =>
        rw [sc_bad ho hb] at h
        injection h with h1 h2
        subst h1
        exact absurd rfl h0
      | false =>
        rw [sc_text ho hb] at h
        injection h with h1 h2
        subst h1; subst h2
        have he := litL_take _ (c :: r) (Nat.le_refl _) hb
        have hle := (litL_le _ (c :: r) (Nat.le_refl _)).1
        have hp := litL_pos rfl ho hb
        have hl : (escL (litL (c :: r)).1).length = (litL (c :: r)).2.1 := by rw [he, List.length_take]; omega
        have hr : repT ⟨1, (litL (c :: r)).1, a⟩ = escL (litL (c :: r)).1 := rfl
        refine ⟨0, by simp, rfl, by simp, by simp, by simp, ?_, ?_, none, ?_, by simp⟩
        · rw [hr, hl]; omega
        · rw [hr, hl, List.drop_zero, he]
        · rw [hr, hl, Nat.zero_add, Nat.add_zero]
  | n + 1, c :: r, a, some g, x, rest, hn, h, h0 => by
    simp only [List.length_cons] at hn
    rcases Bool.eq_false_or_eq_true (wsp c) with hw | hw
    · rw [sc_ws hw] at h
      obtain ⟨m, i1, i2, i3, i4, i5, i6, i7, g', i8, i9⟩ := sc_first n r (a + 1) (some g) x rest (by omega) h h0
      refine ⟨m + 1, by simp only [List.length_cons]; omega, by omega, ?_, by simp, i5, by simp only [List.length_cons]; omega, i7, g', ?_, i9⟩
      · intro d hd
        rw [List.take_succ_cons, List.mem_cons] at hd
        rcases hd with rfl | hd
        · exact hw
        · exact i3 d hd
      · rw [i8]
        have e1 : m + 1 + (repT x).length = (m + (repT x).length) + 1 := by omega
        have e2 : a + 1 + m + (repT x).length = a + (m + 1) + (repT x).length := by omega
        rw [e1, List.drop_succ_cons, e2]
    · obtain ⟨o, ho⟩ : ∃ o, partL (c :: r) = o := ⟨_, rfl⟩
      rcases o with _ | ⟨k, t, n⟩
      · rw [sc_none hw ho] at h
        injection h with h1 h2
        subst h1
        exact absurd rfl h0
      · rw [sc_tok hw ho] at h
        injection h with h1 h2
        subst h1; subst h2
        obtain ⟨p1, p2, p3⟩ := partL_text ho
        have hr : repT ⟨k, t, a⟩ = (c :: r).take n ∧ (repT ⟨k, t, a⟩).length = n := by
          rcases p3 with ⟨rfl, p4, p5, _⟩ | ⟨p3, p4, p5⟩
          · exact ⟨by rw [← p4]; rfl, by simp [repT]; omega⟩
          · have : repT ⟨k, t, a⟩ = t := by
              have h1 : ¬ k = 1 := by omega
              have h4 : ¬ k = 4 := by omega
              simp only [repT, h1, h4, if_false]
            exact ⟨by rw [this]; exact p4, by rw [this]; exact p5.symm⟩
        have hk : (k = 1 ∨ k = 6) ↔ False := by
          rcases p3 with ⟨rfl, _⟩ | ⟨p3, _⟩ <;> simp <;> omega
        refine ⟨0, by simp, rfl, by simp, by simp, by simp only [hk, reduceCtorEq], by rw [hr.2]; omega, by rw [hr.2, List.drop_zero, hr.1], (if k = 7 then none else some g), ?_, ?_⟩
        · rw [hr.2, Nat.zero_add, Nat.add_zero]
        · by_cases h7 : k = 7
          · simp [h7]
          · have h1 : ¬ k = 1 := by omega
            simp [h7, h1]
theorem sc_empty : ∀ (n : Nat) (u : List UInt8) (a : Nat) (g : Option Nat), u.length ≤ n → sc u a g = [] → u = [] ∧ g = none
  | _, [], a, none, _, _ => ⟨rfl, rfl⟩
  | _, [], a, some g, _, h => by rw [sc_end] at h; cases h
  | 0, c :: r, _, _, hn, _ => by simp at hn
  | n + 1, c :: r, a, none, hn, h => by
    cases ho : opn (c :: r) with
    | true => rw [sc_opn ho] at h; cases h
    | false =>
      cases hb : (litL (c :: r)).2.2 with
      | true => rw [sc_bad ho hb] at h; cases h
      | false => rw [sc_text ho hb] at h; cases h
  | n + 1, c :: r, a, some g, hn, h => by
    simp only [List.length_cons] at hn
    rcases Bool.eq_false_or_eq_true (wsp c) with hw | hw
    · rw [sc_ws hw] at h
      have := (sc_empty n r (a + 1) (some g) (by omega) h).2
      cases this
    · obtain ⟨o, ho⟩ : ∃ o, partL (c :: r) = o := ⟨_, rfl⟩
      rcases o with _ | ⟨k, t, n⟩
      · rw [sc_none hw ho] at h; cases h
      · rw [sc_tok hw ho] at h; cases h
theorem tokL_cases (s : List UInt8) : (∃ x : Int, tokL s = ([], x, 90)) ∨ (tokL s = (toks s, 0, 0) ∧ s.length ≤ 1000 ∧ ∀ t ∈ toks s, t.k ≠ 0) := by
  unfold tokL
  by_cases h : 1000 < s.length
  · rw [if_pos h]; exact .inl ⟨_, rfl⟩
  · rw [if_neg h]
    cases hf : (toks s).find? (fun t => decide (t.k = 0)) with
    | some t => exact .inl ⟨_, rfl⟩
    | none =>
      refine .inr ⟨rfl, by omega, fun t ht => ?_⟩
      have := List.find?_eq_none.1 hf t ht
      simpa using this
end Go.Proofs.Ytibdijaacolhkaa
