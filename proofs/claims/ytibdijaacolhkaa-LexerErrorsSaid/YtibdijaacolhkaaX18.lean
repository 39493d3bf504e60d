/- The law LexerErrors. -/
import Derived.Test.YtibdijaacolhkaaT
import Derived.Test.YtibdijaacolhkaaA10
import Derived.Test.YtibdijaacolhkaaX17
namespace Go.Proofs.Ytibdijaacolhkaa
open Go.RowKit Go.Proofs
set_option linter.unusedSimpArgs false
set_option linter.unusedVariables false
set_option maxRecDepth 100000
set_option maxHeartbeats 4000000
theorem bad_lb {b : UInt8} (h : badc b = true) : lb b = false ∧ wsp b = false ∧ nmI (b.toNat : Int) = false ∧ digI (b.toNat : Int) = false ∧ stI (b.toNat : Int) = false ∧ ltrI (b.toNat : Int) = false ∧ ((b.toNat : Nat) : Int) ≠ 34 ∧ ((b.toNat : Nat) : Int) ≠ 124 ∧ ((b.toNat : Nat) : Int) ≠ 125 := by
  simp only [badc, plnI, Bool.and_eq_true, Bool.not_eq_eq_eq_not, Bool.not_true, decide_eq_false_iff_not, Bool.and_eq_false_iff] at h
  obtain ⟨h10, hr⟩ := h
  have hn : ltrI (b.toNat : Int) = false := by simp only [ltrI, Bool.and_eq_false_iff, decide_eq_false_iff_not]; omega
  have hd : digI (b.toNat : Int) = false := by simp only [digI, Bool.and_eq_false_iff, decide_eq_false_iff_not]; omega
  have h45 : ¬ ((b.toNat : Nat) : Int) = 45 := by omega
  have h34 : ¬ ((b.toNat : Nat) : Int) = 34 := by omega
  have hp : plnI (b.toNat : Int) = false := by simp only [plnI, Bool.and_eq_false_iff, decide_eq_false_iff_not]; omega
  refine ⟨?_, ?_, ?_, hd, ?_, hn, h34, by omega, by omega⟩
  · simp only [lb, decide_eq_false_iff_not]; omega
  · simp only [wsp, Bool.or_eq_false_iff, decide_eq_false_iff_not]; omega
  · simp only [nmI, hn, hd, h45, decide_false, Bool.or_self]
  · simp only [stI, hp, Bool.false_and]
theorem part_bad {b : UInt8} {r : List UInt8} (h : badc b = true) : partL (b :: r) = none := by
  obtain ⟨_, _, _, h2, _, h1, h3, h4, h5⟩ := bad_lb h
  simp only [partL, h1, h2, h3, h4, h5, Bool.false_eq_true, if_false]
theorem opn_ins_t {b c : UInt8} {r : List UInt8} (i : Nat) (hb : lb b = false) (h : opn (c :: r) = true) : opn (c :: ins b i r) = true := by
  have hc : lb c = true := by
    cases r <;> simp only [opn, Bool.and_eq_true] at h
    · exact h
    · exact h.1
  cases i with
  | zero => simp [ins, opn, hc, hb]
  | succ i =>
    cases r with
    | nil => simp [ins, opn, hc, hb]
    | cons d r => simpa [ins, opn] using h
theorem opn_flat {c : UInt8} {r : List UInt8} (h : lb c = false) : opn (c :: r) = false := by cases r <;> simp [opn, h]
/-- The token at the head, when a byte comes in behind its beginning. -/
theorem part_ins {b c : UInt8} {r : List UInt8} {k : Int} {t : List UInt8} {n : Nat} (hb : badc b = true) (ho : partL (c :: r) = some (k, t, n)) (i : Nat) (hi : i ≤ r.length) :
    (n ≤ i + 1 → partL (c :: ins b i r) = some (k, t, n)) ∧ (i + 1 < n → k = 4 → partL (c :: ins b i r) = none) ∧ (i + 1 < n → k ≠ 4 → k ≠ 7 ∧ ∃ t', partL (c :: ins b i r) = some (k, t', i + 1)) := by
  obtain ⟨_, _, hnm, hdg, hst, _, hb34, _, _⟩ := bad_lb hb
  have e : c :: ins b i r = ins b (i + 1) (c :: r) := rfl
  have rn := runI_ins hnm (i + 1) (c :: r) (by simp; omega)
  have rd := runI_ins hdg (i + 1) (c :: r) (by simp; omega)
  have rs := runI_ins hst i r hi
  rw [← e] at rn rd
  simp only [partL] at ho ⊢
  rw [rn, rd, rs]
  by_cases h1 : ltrI (c.toNat : Int) = true
  · rw [if_pos h1] at ho ⊢
    by_cases h2 : 20 < runI nmI (c :: r)
    · rw [if_pos h2] at ho; cases ho
    · rw [if_neg h2] at ho
      injection ho with ho; injection ho with e1 ho; injection ho with e2 e3
      subst e1; subst e2; subst e3
      rw [if_neg (by omega)]
      refine ⟨fun h => ?_, fun _ h => (by cases h), fun h _ => ⟨by decide, _, by rw [Nat.min_eq_left (by omega)]⟩⟩
      rw [Nat.min_eq_right h, e, ins_take b _ _ _ h (by simp; omega)]
  · rw [if_neg h1] at ho ⊢
    by_cases h2 : digI (c.toNat : Int) = true
    · rw [if_pos h2] at ho ⊢
      by_cases h3 : 6 < runI digI (c :: r) ∨ (1 < runI digI (c :: r) ∧ ((c.toNat : Nat) : Int) = 48)
      · rw [if_pos h3] at ho; cases ho
      · rw [if_neg h3] at ho
        injection ho with ho; injection ho with e1 ho; injection ho with e2 e3
        subst e1; subst e2; subst e3
        rw [if_neg (by omega)]
        refine ⟨fun h => ?_, fun _ h => (by cases h), fun h _ => ⟨by decide, _, by rw [Nat.min_eq_left (by omega)]⟩⟩
        rw [Nat.min_eq_right h, e, ins_take b _ _ _ h (by simp; omega)]
    · rw [if_neg h2] at ho ⊢
      by_cases h3 : ((c.toNat : Nat) : Int) = 34
      · rw [if_pos h3] at ho ⊢
        have hle := runI_le stI r
        cases hd : r.drop (runI stI r) with
        | nil => rw [hd] at ho; cases ho
        | cons d r2 =>
          rw [hd] at ho
          dsimp only at ho
          by_cases h4 : ((d.toNat : Nat) : Int) = 34
          · rw [if_pos h4] at ho
            injection ho with ho; injection ho with e1 ho; injection ho with e2 e3
            subst e1; subst e2; subst e3
            have hlen : runI stI r < r.length := by
              have := congrArg List.length hd
              simp at this; omega
            refine ⟨fun h => ?_, fun h _ => ?_, fun _ h => absurd rfl h⟩
            · rw [Nat.min_eq_right (by omega), ins_drop b i _ r (by omega) hi, ins_take b i _ r (by omega) hi, hd]
              obtain ⟨j, hj⟩ : ∃ j, i - runI stI r = j + 1 := ⟨i - runI stI r - 1, by omega⟩
              rw [hj]
              simp only [ins, h4, if_true]
            · rw [Nat.min_eq_left (by omega), ins_drop b i i r (Nat.le_refl _) hi, Nat.sub_self]
              simp only [ins, hb34, if_false]
          · rw [if_neg h4] at ho; cases ho
      · rw [if_neg h3] at ho ⊢
        by_cases h4 : ((c.toNat : Nat) : Int) = 124
        · rw [if_pos h4] at ho ⊢
          injection ho with ho; injection ho with e1 ho; injection ho with e2 e3
          subst e1; subst e2; subst e3
          exact ⟨fun _ => rfl, fun h => by omega, fun h => by omega⟩
        · rw [if_neg h4] at ho ⊢
          by_cases h5 : ((c.toNat : Nat) : Int) = 125
          · rw [if_pos h5] at ho ⊢
            injection ho with ho; injection ho with e1 ho; injection ho with e2 e3
            subst e1; subst e2; subst e3
            exact ⟨fun _ => rfl, fun h => by omega, fun h => by omega⟩
          · rw [if_neg h5] at ho; cases ho
theorem J_insb {b : UInt8} {u : List UInt8} {a : Nat} {g : Option Nat} (hb : badc b = true) : J (b :: u) a g = ([], some a) := by
  obtain ⟨h1, h2, _⟩ := bad_lb hb
  cases g with
  | none => exact J_bad (opn_flat h1) hb
  | some g => exact J_none h2 (part_bad hb)
def wl (k : Nat) (l : List Tk) : Nat := l.foldl (fun w x => if x.a < k ∧ k ≤ x.a + 1 + x.t.length then x.a else w) k
theorem ins_law {b : UInt8} (hb : badc b = true) : ∀ (n : Nat) (u : List UInt8) (a : Nat) (g : Option Nat) (i : Nat), u.length ≤ n → (J u a g).2 = none → i ≤ u.length → (J (ins b i u) a g).2 = some (wl (a + i) (J u a g).1)
  | _, u, a, g, 0, hn, h, _ => by
    rw [ins, J_insb hb, wl, Nat.add_zero, want_late a _ _ (J_late _ u a g (Nat.le_refl _))]
  | _, [], a, g, i + 1, _, _, hi => by simp at hi
  | 0, c :: r, _, _, _ + 1, hn, _, _ => by simp at hn
  | n + 1, c :: r, a, none, i + 1, hn, h, hi => by
    simp only [List.length_cons] at hn hi
    obtain ⟨hlb, _⟩ := bad_lb hb
    have ea : a + (i + 1) = (a + 1) + i := by omega
    simp only [ins]
    cases ho : opn (c :: r) with
    | true =>
      rw [J_opn ho] at h ⊢
      rw [J_opn (opn_ins_t i hlb ho), ea]
      exact ins_law hb n r (a + 1) (some a) i (by omega) h (by omega)
    | false =>
      cases hbc : badc c with
      | true => rw [J_bad ho hbc] at h; cases h
      | false =>
        cases hl : lb c with
        | false =>
          rw [J_one ho hbc hl] at h ⊢
          rw [J_one (opn_flat hl) hbc hl, ea]
          exact ins_law hb n r (a + 1) none i (by omega) h (by omega)
        | true =>
          match r, i, hn, hi, ho, h with
          | [], _, _, _, ho, _ => simp only [opn] at ho; rw [ho] at hl; cases hl
          | d :: r, 0, hn, hi, ho, h =>
            simp only [ins]
            rw [J_opn (by simp [opn, hl, hlb]), J_insb hb, wl, want_late]
            rw [J_two ho hbc hl]
            intro x hx
            have := J_late _ _ _ _ (Nat.le_refl _) x hx
            omega
          | d :: r, i + 1, hn, hi, ho, h =>
            simp only [List.length_cons] at hn hi
            simp only [ins]
            rw [J_two ho hbc hl] at h ⊢
            rw [J_two (by simpa [opn] using ho) hbc hl, show a + (i + 1 + 1) = (a + 2) + i by omega]
            exact ins_law hb n r (a + 2) none i (by omega) h (by omega)
  | n + 1, c :: r, a, some g, i + 1, hn, h, hi => by
    simp only [List.length_cons] at hn hi
    have ea : a + (i + 1) = (a + 1) + i := by omega
    simp only [ins]
    rcases Bool.eq_false_or_eq_true (wsp c) with hw | hw
    · rw [J_ws hw] at h ⊢
      rw [J_ws hw, ea]
      exact ins_law hb n r (a + 1) (some g) i (by omega) h (by omega)
    · obtain ⟨o, ho⟩ : ∃ o, partL (c :: r) = o := ⟨_, rfl⟩
      rcases o with _ | ⟨k, t, m⟩
      · rw [J_none hw ho] at h; cases h
      · have hp := partL_spec ho
        have hpt := partL_text ho
        simp only [List.length_cons] at hp hpt
        obtain ⟨p1, p2, p3⟩ := part_ins hb ho i (by omega)
        rcases Nat.lt_or_ge (i + 1) m with hlt | hge
        · by_cases h4 : k = 4
          · subst h4
            rw [J_none hw (p2 hlt rfl), J_str hw ho]
            have htl : m = t.length + 2 := by
              rcases hpt.2.2 with ⟨_, _, q, _⟩ | ⟨q, _⟩
              · exact q
              · omega
            have hl : ∀ x ∈ (J ((c :: r).drop m) (a + m) (some g)).1, a + (i + 1) ≤ x.a := fun x hx => by
              have := J_late _ _ _ _ (Nat.le_refl _) x hx; omega
            rw [wl, List.foldl_cons, if_pos (by dsimp only; omega), want_late _ _ _ hl]
          · obtain ⟨h7, t', ht'⟩ := p3 hlt h4
            rw [J_tok hw ht' h4, if_neg h7, J_tok hw ho h4]
            have e : (c :: ins b i r).drop (i + 1) = ins b (i + 1 - (i + 1)) ((c :: r).drop (i + 1)) := ins_drop b (i + 1) (i + 1) (c :: r) (Nat.le_refl _) (by simp; omega)
            rw [e, Nat.sub_self, ins, J_insb hb, wl, want_late]
            intro x hx
            have := J_late _ _ _ _ (Nat.le_refl _) x hx
            omega
        · have e : (c :: ins b i r).drop m = ins b (i + 1 - m) ((c :: r).drop m) := ins_drop b (i + 1) m (c :: r) hge (by simp; omega)
          have ea : a + (i + 1) = (a + m) + (i + 1 - m) := by omega
          have hdl : ((c :: r).drop m).length ≤ n := by simp only [List.length_drop, List.length_cons]; omega
          have hdi : i + 1 - m ≤ ((c :: r).drop m).length := by simp only [List.length_drop, List.length_cons]; omega
          by_cases h4 : k = 4
          · subst h4
            rw [J_str hw ho] at h ⊢
            rw [J_str hw (p1 hge), e]
            have htl : m = t.length + 2 := by
              rcases hpt.2.2 with ⟨_, _, q, _⟩ | ⟨q, _⟩
              · exact q
              · omega
            have ih := ins_law hb n ((c :: r).drop m) (a + m) (some g) (i + 1 - m) hdl h hdi
            rw [← ea] at ih
            rw [wl, List.foldl_cons, if_neg (by dsimp only; omega)]
            exact ih
          · rw [J_tok hw ho h4] at h ⊢
            rw [J_tok hw (p1 hge) h4, e]
            have ih := ins_law hb n ((c :: r).drop m) (a + m) (if k = 7 then none else some g) (i + 1 - m) hdl h hdi
            rw [← ea] at ih
            exact ih
def wantT (k : Nat) (l : List Tk) : Nat := l.foldl (want1 k) k
theorem tokL_ins {b : UInt8} (hb : badc b = true) {t : List UInt8} (hl : t.length ≤ 600) (ht : ∀ x ∈ toks t, x.k ≠ 0) {i : Nat} (hi : i ≤ t.length) : tokL (t.take i ++ b :: t.drop i) = ([], ((wantT i (toks t) : Nat) : Int), 90) := by
  have hJ : (J t 0 none).2 = none := by
    rw [J, ← toks_sc, proj]
    dsimp only
    rw [List.find?_eq_none.2 (fun x hx => by simpa using ht x hx)]
    rfl
  have h := ins_law hb _ t 0 none i (Nat.le_refl _) hJ hi
  rw [Nat.zero_add] at h
  have hw : wl i (J t 0 none).1 = wantT i (toks t) := by
    rw [wantT, want_filter, J, ← toks_sc]; rfl
  rw [hw, ins_eq b i t hi] at h
  rw [J, ← toks_sc, proj] at h
  dsimp only at h
  rw [Option.map_eq_some_iff] at h
  obtain ⟨x, hx, hxa⟩ := h
  have hlen : (t.take i ++ b :: t.drop i).length = t.length + 1 := by simp; omega
  rw [tokL, if_neg (by omega), hx]
  dsimp only
  rw [hxa]
end Go.Proofs.Ytibdijaacolhkaa
