/- What a byte that is never permitted does to the tokens. -/
import Derived.Test.YtibdijaacolhkaaT
import Derived.Test.YtibdijaacolhkaaA10
import Derived.Test.YtibdijaacolhkaaX16
namespace Go.Proofs.Ytibdijaacolhkaa
open Go.RowKit Go.Proofs
set_option linter.unusedSimpArgs false
set_option linter.unusedVariables false
set_option maxRecDepth 100000
set_option maxHeartbeats 4000000
/-- The strings among the tokens, and the first error. -/
def proj (l : List Tk) : List Tk × Option Nat := (l.filter (fun t => decide (t.k = 4)), (l.find? (fun t => decide (t.k = 0))).map (·.a))
def J (u : List UInt8) (a : Nat) (g : Option Nat) : List Tk × Option Nat := proj (sc u a g)
theorem proj_zero (g : Nat) : proj [⟨0, [], g⟩] = ([], some g) := rfl
theorem proj_skip {k : Int} {t : List UInt8} {a : Nat} {l : List Tk} (h4 : ¬ k = 4) (h0 : ¬ k = 0) : proj (⟨k, t, a⟩ :: l) = proj l := by
  simp only [proj, List.filter_cons, List.find?_cons, h4, h0, decide_false, Bool.false_eq_true, if_false]
theorem proj_str {t : List UInt8} {a : Nat} {l : List Tk} : proj (⟨4, t, a⟩ :: l) = (⟨4, t, a⟩ :: (proj l).1, (proj l).2) := rfl
theorem J_nil (a : Nat) : J [] a none = ([], none) := rfl
theorem J_end (a g : Nat) : J [] a (some g) = ([], some g) := rfl
theorem J_opn {c : UInt8} {r : List UInt8} {a : Nat} (h : opn (c :: r) = true) : J (c :: r) a none = J r (a + 1) (some a) := by
  rw [J, sc_opn h, proj_skip (by decide) (by decide)]; rfl
theorem J_lit : ∀ (u : List UInt8) (a : Nat), J u a none = if (litL u).2.2 then ([], some (a + (litL u).2.1)) else J (u.drop (litL u).2.1) (a + (litL u).2.1) none
  | [], a => rfl
  | c :: r, a => by
    cases ho : opn (c :: r) with
    | true => rw [litL_opn ho]; rfl
    | false =>
      cases hb : (litL (c :: r)).2.2 with
      | true => rw [J, sc_bad ho hb, proj_zero]; rfl
      | false => rw [J, sc_text ho hb, proj_skip (by decide) (by decide)]; rfl
theorem J_bad {c : UInt8} {r : List UInt8} {a : Nat} (h : opn (c :: r) = false) (hb : badc c = true) : J (c :: r) a none = ([], some a) := by
  rw [J_lit, litL_bad h hb]; rfl
theorem J_one {c : UInt8} {r : List UInt8} {a : Nat} (h : opn (c :: r) = false) (hb : badc c = false) (hl : lb c = false) : J (c :: r) a none = J r (a + 1) none := by
  rw [J_lit (c :: r), litL_one h hb hl, J_lit r]
  simp only [List.drop_succ_cons, Nat.add_assoc, Nat.add_comm 1]
theorem J_two {c d : UInt8} {r : List UInt8} {a : Nat} (h : opn (c :: d :: r) = false) (hb : badc c = false) (hl : lb c = true) : J (c :: d :: r) a none = J r (a + 2) none := by
  rw [J_lit (c :: d :: r), litL_two h hb hl, J_lit r]
  simp only [List.drop_succ_cons, Nat.add_assoc, Nat.add_comm 2]
theorem J_ws {c : UInt8} {r : List UInt8} {a g : Nat} (h : wsp c = true) : J (c :: r) a (some g) = J r (a + 1) (some g) := by
  rw [J, sc_ws h]; rfl
theorem J_none {c : UInt8} {r : List UInt8} {a g : Nat} (h : wsp c = false) (ho : partL (c :: r) = none) : J (c :: r) a (some g) = ([], some a) := by
  rw [J, sc_none h ho]; rfl
theorem J_tok {c : UInt8} {r : List UInt8} {a g : Nat} {k : Int} {t : List UInt8} {n : Nat} (h : wsp c = false) (ho : partL (c :: r) = some (k, t, n)) (h4 : ¬ k = 4) :
    J (c :: r) a (some g) = J ((c :: r).drop n) (a + n) (if k = 7 then none else some g) := by
  have hp := partL_spec ho
  rw [J, sc_tok h ho, proj_skip h4 hp.2.2.1]; rfl
theorem J_str {c : UInt8} {r : List UInt8} {a g : Nat} {t : List UInt8} {n : Nat} (h : wsp c = false) (ho : partL (c :: r) = some (4, t, n)) :
    J (c :: r) a (some g) = (⟨4, t, a⟩ :: (J ((c :: r).drop n) (a + n) (some g)).1, (J ((c :: r).drop n) (a + n) (some g)).2) := by
  rw [J, sc_tok h ho, proj_str]; rfl
/-- The offset that is awaited. -/
def wantL (k : Nat) (l : List Tk) : Nat := l.foldl (fun w x => if x.a < k ∧ k ≤ x.a + 1 + x.t.length then x.a else w) k
def want1 (k : Nat) (w : Nat) (x : Tk) : Nat := if x.k = 4 ∧ x.a < k ∧ k ≤ x.a + 1 + x.t.length then x.a else w
theorem want_filter (k : Nat) : ∀ (l : List Tk) (w : Nat), l.foldl (want1 k) w = (l.filter (fun t => decide (t.k = 4))).foldl (fun w x => if x.a < k ∧ k ≤ x.a + 1 + x.t.length then x.a else w) w
  | [], w => rfl
  | x :: l, w => by
    rw [List.foldl_cons, want_filter k l, List.filter_cons]
    by_cases h : x.k = 4
    · simp only [h, decide_true, if_true, List.foldl_cons, want1, true_and]
    · simp only [h, decide_false, Bool.false_eq_true, if_false, want1, false_and]
theorem want_late (k : Nat) : ∀ (l : List Tk) (w : Nat), (∀ x ∈ l, k ≤ x.a) → l.foldl (fun w x => if x.a < k ∧ k ≤ x.a + 1 + x.t.length then x.a else w) w = w
  | [], w, _ => rfl
  | x :: l, w, h => by
    have := h x (by simp)
    rw [List.foldl_cons, if_neg (by omega), want_late k l w (fun y hy => h y (by simp [hy]))]
theorem J_late : ∀ (n : Nat) (u : List UInt8) (a : Nat) (g : Option Nat), u.length ≤ n → ∀ x ∈ (J u a g).1, a ≤ x.a
  | _, [], a, none, _, x, hx => by rw [J_nil] at hx; cases hx
  | _, [], a, some g, _, x, hx => by rw [J_end] at hx; cases hx
  | 0, c :: r, _, _, hn, _, _ => by simp at hn
  | n + 1, c :: r, a, none, hn, x, hx => by
    simp only [List.length_cons] at hn
    cases ho : opn (c :: r) with
    | true =>
      rw [J_opn ho] at hx
      have := J_late n r (a + 1) (some a) (by omega) x hx
      omega
    | false =>
      cases hb : badc c with
      | true => rw [J_bad ho hb] at hx; cases hx
      | false =>
        cases hl : lb c with
        | false =>
          rw [J_one ho hb hl] at hx
          have := J_late n r (a + 1) none (by omega) x hx
          omega
        | true =>
          match r, hn, ho, hx with
          | [], _, ho, _ => simp only [opn] at ho; rw [ho] at hl; cases hl
          | d :: r, hn, ho, hx =>
            simp only [List.length_cons] at hn
            rw [J_two ho hb hl] at hx
            have := J_late n r (a + 2) none (by omega) x hx
            omega
  | n + 1, c :: r, a, some g, hn, x, hx => by
    simp only [List.length_cons] at hn
    rcases Bool.eq_false_or_eq_true (wsp c) with hw | hw
    · rw [J_ws hw] at hx
      have := J_late n r (a + 1) (some g) (by omega) x hx
      omega
    · obtain ⟨o, ho⟩ : ∃ o, partL (c :: r) = o := ⟨_, rfl⟩
      rcases o with _ | ⟨k, t, m⟩
      · rw [J_none hw ho] at hx; cases hx
      · have hp := partL_spec ho
        by_cases h4 : k = 4
        · subst h4
          rw [J_str hw ho] at hx
          rcases List.mem_cons.1 hx with rfl | hx
          · exact Nat.le_refl _
          · have := J_late n ((c :: r).drop m) (a + m) (some g) (by simp only [List.length_drop, List.length_cons]; omega) x hx
            omega
        · rw [J_tok hw ho h4] at hx
          have := J_late n ((c :: r).drop m) (a + m) _ (by simp only [List.length_drop, List.length_cons]; omega) x hx
          omega
def ins (b : UInt8) : Nat → List UInt8 → List UInt8
  | 0, u => b :: u
  | _ + 1, [] => [b]
  | i + 1, c :: r => c :: ins b i r
theorem ins_eq (b : UInt8) : ∀ (i : Nat) (u : List UInt8), i ≤ u.length → ins b i u = u.take i ++ b :: u.drop i
  | 0, u, _ => by simp [ins]
  | i + 1, [], h => by simp at h
  | i + 1, c :: r, h => by
    simp only [List.length_cons] at h
    simp only [ins, ins_eq b i r (by omega), List.take_succ_cons, List.drop_succ_cons, List.cons_append]
theorem ins_drop (b : UInt8) : ∀ (i j : Nat) (u : List UInt8), j ≤ i → i ≤ u.length → (ins b i u).drop j = ins b (i - j) (u.drop j)
  | i, 0, u, _, _ => rfl
  | 0, j + 1, u, h, _ => by omega
  | i + 1, j + 1, [], _, h => by simp at h
  | i + 1, j + 1, c :: r, h, h2 => by
    simp only [List.length_cons] at h2
    simp only [ins, List.drop_succ_cons, ins_drop b i j r (by omega) (by omega)]
    congr 1; omega
theorem ins_take (b : UInt8) : ∀ (i j : Nat) (u : List UInt8), j ≤ i → i ≤ u.length → (ins b i u).take j = u.take j
  | i, 0, u, _, _ => by simp
  | 0, j + 1, u, h, _ => by omega
  | i + 1, j + 1, [], _, h => by simp at h
  | i + 1, j + 1, c :: r, h, h2 => by
    simp only [List.length_cons] at h2
    simp only [ins, List.take_succ_cons, ins_take b i j r (by omega) (by omega)]
theorem runI_ins {p : Int → Bool} {b : UInt8} (hb : p (b.toNat : Int) = false) : ∀ (i : Nat) (u : List UInt8), i ≤ u.length → runI p (ins b i u) = min i (runI p u)
  | 0, u, _ => by simp [ins, runI, hb]
  | i + 1, [], h => by simp at h
  | i + 1, c :: r, h => by
    simp only [List.length_cons] at h
    have ih := runI_ins hb i r (by omega)
    simp only [ins, runI]
    split
    · rw [ih]; omega
    · simp
end Go.Proofs.Ytibdijaacolhkaa
