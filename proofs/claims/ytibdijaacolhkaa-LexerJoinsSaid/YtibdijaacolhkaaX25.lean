/- The tokens of two sources, one after the other. -/
import Derived.Test.YtibdijaacolhkaaT
import Derived.Test.YtibdijaacolhkaaA10
import Derived.Test.YtibdijaacolhkaaX15
namespace Go.Proofs.Ytibdijaacolhkaa
open Go.RowKit Go.Proofs
set_option linter.unusedSimpArgs false
set_option linter.unusedVariables false
set_option maxRecDepth 100000
set_option maxHeartbeats 4000000
/-- Tokens behind tokens: text that follows text is one. -/
def jn : List Tk → List Tk → List Tk
  | [], m => m
  | [x], [] => [x]
  | [x], y :: m => if x.k = 1 ∧ y.k = 1 then ⟨x.k, x.t ++ y.t, x.a⟩ :: m else x :: y :: m
  | x :: y :: l, m => x :: jn (y :: l) m
theorem jn_cons {x : Tk} {l m : List Tk} (h : x.k ≠ 1 ∨ l ≠ []) : jn (x :: l) m = x :: jn l m := by
  match l, m, h with
  | [], [], _ => rfl
  | [], y :: m, h =>
    have hx : ¬ (x.k = 1 ∧ y.k = 1) := fun e => by
      rcases h with h | h
      · exact h e.1
      · exact h rfl
    simp only [jn, hx, if_false]
  | y :: l, m, _ => rfl
def sh (d : Nat) (x : Tk) : Tk := ⟨x.k, x.t, x.a + d⟩
theorem sc_shift (d : Nat) : ∀ (n : Nat) (u : List UInt8) (a : Nat) (g : Option Nat), u.length ≤ n → sc u (a + d) (g.map (· + d)) = (sc u a g).map (sh d)
  | _, [], a, none, _ => rfl
  | _, [], a, some g, _ => rfl
  | 0, c :: r, _, _, h => by simp at h
  | n + 1, c :: r, a, none, h => by
    simp only [List.length_cons] at h
    rw [Option.map_none]
    cases ho : opn (c :: r) with
    | true =>
      rw [sc_opn ho, sc_opn ho]
      have := sc_shift d n r (a + 1) (some a) (by omega)
      rw [Option.map_some, Nat.add_right_comm] at this
      rw [this]
      rfl
    | false =>
      cases hb : (litL (c :: r)).2.2 with
      | true =>
        rw [sc_bad ho hb, sc_bad ho hb]
        simp only [List.map_cons, List.map_nil, sh]
        rw [Nat.add_right_comm]
      | false =>
        have hp := litL_pos rfl ho hb
        rw [sc_text ho hb, sc_text ho hb]
        have := sc_shift d n ((c :: r).drop (litL (c :: r)).2.1) (a + (litL (c :: r)).2.1) none (by simp only [List.length_drop, List.length_cons]; omega)
        rw [Option.map_none, Nat.add_right_comm] at this
        rw [this]
        rfl
  | n + 1, c :: r, a, some g, h => by
    simp only [List.length_cons] at h
    rw [Option.map_some]
    cases hw : wsp c with
    | true =>
      rw [sc_ws hw, sc_ws hw]
      have := sc_shift d n r (a + 1) (some g) (by omega)
      rw [Option.map_some, Nat.add_right_comm] at this
      exact this
    | false =>
      rcases ho : partL (c :: r) with _ | ⟨k, t, m⟩
      · rw [sc_none hw ho, sc_none hw ho]; rfl
      · have hp := partL_spec ho
        rw [sc_tok hw ho, sc_tok hw ho]
        have := sc_shift d n ((c :: r).drop m) (a + m) (if k = 7 then none else some g) (by simp only [List.length_drop, List.length_cons]; omega)
        rw [Nat.add_right_comm] at this
        have he : Option.map (· + d) (if k = 7 then none else some g) = if k = 7 then none else some (g + d) := by split <;> rfl
        rw [he] at this
        rw [this]
        rfl
theorem opn_app {c : UInt8} {r t : List UInt8} (h : opn (c :: r) = false) : opn (c :: (r ++ t)) = false := by
  match r, t, h with
  | [], [], h => exact h
  | [], e :: t, h =>
    simp only [opn] at h
    simp only [List.nil_append, opn, h, Bool.false_and]
  | d :: r, t, h => exact h
theorem litL_app (t : List UInt8) : ∀ (n : Nat) (u : List UInt8), u.length ≤ n → (litL u).2.2 = false →
    (u.drop (litL u).2.1 = [] → litL (u ++ t) = ((litL u).1 ++ (litL t).1, (litL u).2.1 + (litL t).2.1, (litL t).2.2)) ∧ (∀ e f v, u.drop (litL u).2.1 = e :: f :: v → litL (u ++ t) = litL u) ∧ (u.drop (litL u).2.1 = [] ∨ opn (u.drop (litL u).2.1) = true)
  | _, [], _, _ => by
    refine ⟨fun _ => ?_, fun e f v h => ?_, .inl rfl⟩
    · simp [litL]
    · simp [litL] at h
  | 0, c :: r, h, _ => by simp at h
  | n + 1, c :: r, h, hb => by
    simp only [List.length_cons] at h
    rw [List.cons_append]
    cases ho : opn (c :: r) with
    | true =>
      rw [litL_opn ho]
      refine ⟨fun h => ?_, fun e f v h => ?_, .inr ho⟩
      · simp at h
      · simp only [List.drop_zero] at h
        injection h with h1 h2
        subst h1; subst h2
        rw [litL_opn]
        exact ho
    | false =>
      cases hbad : badc c with
      | true => rw [litL_bad ho hbad] at hb; cases hb
      | false =>
        cases hl : lb c with
        | false =>
          rw [litL_one ho hbad hl] at hb ⊢
          rw [litL_one (opn_app ho) hbad hl]
          obtain ⟨i1, i2, i3⟩ := litL_app t n r (by omega) hb
          refine ⟨fun h => ?_, fun e f v h => ?_, ?_⟩
          · rw [List.drop_succ_cons] at h
            rw [i1 h]
            simp only [List.cons_append, Prod.mk.injEq, true_and, and_true]
            omega
          · rw [List.drop_succ_cons] at h
            rw [i2 e f v h]
          · rw [List.drop_succ_cons]; exact i3
        | true =>
          match r, h, ho, hb with
          | [], _, ho, _ => simp only [opn] at ho; rw [ho] at hl; cases hl
          | d :: r, h, ho, hb =>
            simp only [List.length_cons] at h
            rw [List.cons_append]
            rw [litL_two ho hbad hl] at hb ⊢
            rw [litL_two (show opn (c :: d :: (r ++ t)) = false from ho) hbad hl]
            obtain ⟨i1, i2, i3⟩ := litL_app t n r (by omega) hb
            refine ⟨fun h => ?_, fun e f v h => ?_, ?_⟩
            · rw [List.drop_succ_cons, List.drop_succ_cons] at h
              rw [i1 h]
              simp only [List.cons_append, Prod.mk.injEq, true_and, and_true]
              omega
            · rw [List.drop_succ_cons, List.drop_succ_cons] at h
              rw [i2 e f v h]
            · rw [List.drop_succ_cons, List.drop_succ_cons]; exact i3
theorem runI_app2 {p : Int → Bool} (t : List UInt8) : ∀ (u : List UInt8), runI p u < u.length → runI p (u ++ t) = runI p u
  | [], h => by simp at h
  | c :: r, h => by
    simp only [List.cons_append, runI, List.length_cons] at h ⊢
    split
    · rename_i hp
      rw [if_pos hp] at h
      rw [runI_app2 t r (by omega)]
    · rfl
theorem partL_app {u t : List UInt8} {k : Int} {x : List UInt8} {m : Nat} (h : partL u = some (k, x, m)) (hM : m < u.length ∨ k = 7) : partL (u ++ t) = some (k, x, m) := by
  match u, h, hM with
  | c :: r, h, hM =>
    rw [List.cons_append]
    simp only [partL] at h ⊢
    split at h
    · rename_i hl
      split at h
      · cases h
      · rename_i hn
        injection h with h; injection h with h1 h; injection h with h2 h3
        subst h1; subst h2; subst h3
        have hlt : runI nmI (c :: r) < (c :: r).length := by rcases hM with h | h; exact h; omega
        have hr := runI_app2 t (c :: r) hlt
        rw [List.cons_append] at hr
        rw [if_pos hl, hr, if_neg hn, ← List.cons_append, List.take_append_of_le_length (by omega)]
    · rename_i hl
      rw [if_neg hl]
      split at h
      · rename_i hdg
        rw [if_pos hdg]
        split at h
        · cases h
        · rename_i hn
          injection h with h; injection h with h1 h; injection h with h2 h3
          subst h1; subst h2; subst h3
          have hlt : runI digI (c :: r) < (c :: r).length := by rcases hM with h | h; exact h; omega
          have hr := runI_app2 t (c :: r) hlt
          rw [List.cons_append] at hr
          rw [hr, if_neg hn, ← List.cons_append, List.take_append_of_le_length (by omega)]
      · rename_i hdg
        rw [if_neg hdg]
        split at h
        · rename_i h34
          rw [if_pos h34]
          split at h
          · rename_i d r2 hd
            have hlt : runI stI r < r.length := by
              have := congrArg List.length hd
              simp at this; omega
            rw [runI_app2 t r hlt, List.drop_append_of_le_length (by omega), hd, List.take_append_of_le_length (by omega)]
            exact h
          · cases h
        · rename_i h34
          rw [if_neg h34]
          exact h
theorem litL_good {t : List UInt8} (h : ∀ x ∈ sc t 0 none, x.k ≠ 0) : (litL t).2.2 = false := by
  match t, h with
  | [], _ => rfl
  | c :: r, h =>
    cases ho : opn (c :: r) with
    | true => rw [litL_opn ho]
    | false =>
      cases hb : (litL (c :: r)).2.2 with
      | false => rfl
      | true => rw [sc_bad ho hb] at h; exact (h _ List.mem_cons_self rfl).elim
theorem sc_join (t : List UInt8) (ht : (litL t).2.2 = false) : ∀ (n : Nat) (u : List UInt8) (a : Nat) (g : Option Nat), u.length ≤ n → (∀ x ∈ sc u a g, x.k ≠ 0) → sc (u ++ t) a g = jn (sc u a g) (sc t (a + u.length) none)
  | _, [], a, none, _, _ => rfl
  | _, [], a, some g, _, h => by rw [sc_end] at h; exact (h _ List.mem_cons_self rfl).elim
  | 0, c :: r, _, _, h, _ => by simp at h
  | n + 1, c :: r, a, none, hl, h => by
    have hl0 := hl
    simp only [List.length_cons] at hl
    rw [List.cons_append]
    cases ho : opn (c :: r) with
    | true =>
      rw [sc_opn ho] at h ⊢
      match r, hl, ho, h with
      | [], _, _, h => rw [sc_end] at h; exact (h _ (List.mem_cons_of_mem _ List.mem_cons_self) rfl).elim
      | d :: r, hl, ho, h =>
        have ih := sc_join t ht n (d :: r) (a + 1) (some a) (by omega) (fun x hx => h x (by simp [hx]))
        rw [jn_cons (.inl (show (6 : Int) ≠ 1 by decide)), List.cons_append]
        rw [sc_opn (show opn (c :: d :: (r ++ t)) = true from ho)]
        rw [List.cons_append] at ih
        rw [ih]
        have e : a + 1 + (d :: r).length = a + (c :: d :: r).length := by simp only [List.length_cons]; omega
        rw [e]
    | false =>
      cases hb : (litL (c :: r)).2.2 with
      | true => rw [sc_bad ho hb] at h; exact (h _ List.mem_cons_self rfl).elim
      | false =>
        have hp := litL_pos rfl ho hb
        have hle := (litL_le _ (c :: r) (Nat.le_refl _)).1
        obtain ⟨i1, i2, i3⟩ := litL_app t _ (c :: r) (Nat.le_refl _) hb
        rw [sc_text ho hb] at h ⊢
        have hoa : opn (c :: (r ++ t)) = false := opn_app ho
        rcases hd : (c :: r).drop (litL (c :: r)).2.1 with _ | ⟨e, v⟩
        · have hlen : (litL (c :: r)).2.1 = (c :: r).length := by
            have := congrArg List.length hd
            simp only [List.length_drop, List.length_nil] at this
            omega
          have hL := i1 hd
          rw [List.cons_append] at hL
          rw [sc_text hoa (by rw [hL]; exact ht), hL, sc_nil]
          have hdr : (c :: (r ++ t)).drop ((litL (c :: r)).2.1 + (litL t).2.1) = t.drop (litL t).2.1 := by
            rw [← List.cons_append, ← List.drop_drop, hlen, List.drop_left]
          simp only [hdr]
          rw [hlen]
          match t, ht with
          | [], _ => simp [litL, sc_nil, jn]
          | e :: t, ht =>
            cases hot : opn (e :: t) with
            | true =>
              rw [litL_opn hot, sc_opn hot]
              simp only [jn, List.append_nil, Nat.add_zero, List.drop_zero]
              rw [if_neg (by decide), sc_opn hot]
            | false =>
              rw [sc_text hot ht]
              simp only [jn, and_self, if_true, Nat.add_assoc]
        · have hov : opn (e :: v) = true := by
            rw [hd] at i3
            rcases i3 with h | h
            · cases h
            · exact h
          rw [hd] at h
          match v, hd, hov, h with
          | [], hd, hov, h => rw [sc_opn hov, sc_end] at h; exact (h _ (List.mem_cons_of_mem _ (List.mem_cons_of_mem _ List.mem_cons_self)) rfl).elim
          | f :: v, hd, hov, h =>
            have hL := i2 e f v hd
            rw [List.cons_append] at hL
            rw [sc_text hoa (by rw [hL]; exact hb), hL, ← List.cons_append, List.drop_append_of_le_length hle, hd]
            have hvl : (e :: f :: v).length = (c :: r).length - (litL (c :: r)).2.1 := by rw [← hd, List.length_drop]
            have ih := sc_join t ht n (e :: f :: v) (a + (litL (c :: r)).2.1) none (by rw [hvl]; simp only [List.length_cons]; omega) (fun x hx => h x (by simp [hx]))
            rw [ih, jn_cons (.inr fun hnil => ?_)]
            · have e2 : a + (litL (c :: r)).2.1 + (e :: f :: v).length = a + (c :: r).length := by rw [hvl]; omega
              rw [e2]
            · have := (sc_empty _ _ _ _ (Nat.le_refl _) hnil).1
              cases this
  | n + 1, c :: r, a, some g, hl, h => by
    simp only [List.length_cons] at hl
    rw [List.cons_append]
    cases hw : wsp c with
    | true =>
      rw [sc_ws hw] at h ⊢
      rw [sc_ws hw, sc_join t ht n r (a + 1) (some g) (by omega) h]
      have e : a + 1 + r.length = a + (c :: r).length := by simp only [List.length_cons]; omega
      rw [e]
    | false =>
      rcases ho : partL (c :: r) with _ | ⟨k, x, m⟩
      · rw [sc_none hw ho] at h; exact (h _ List.mem_cons_self rfl).elim
      · have hp := partL_spec ho
        rw [sc_tok hw ho] at h ⊢
        have hM : m < (c :: r).length ∨ k = 7 := by
          rcases Nat.lt_or_ge m (c :: r).length with hm | hm
          · exact .inl hm
          · by_cases h7 : k = 7
            · exact .inr h7
            · rw [if_neg h7, List.drop_of_length_le hm, sc_end] at h
              exact (h _ (List.mem_cons_of_mem _ List.mem_cons_self) rfl).elim
        have hpa := partL_app (t := t) ho hM
        rw [List.cons_append] at hpa
        rw [sc_tok hw hpa, ← List.cons_append, List.drop_append_of_le_length hp.2.1, jn_cons (.inl hp.2.2.2.2)]
        have ih := sc_join t ht n ((c :: r).drop m) (a + m) (if k = 7 then none else some g) (by simp only [List.length_drop, List.length_cons]; omega) (fun y hy => h y (by simp only [List.mem_cons]; exact .inr hy))
        rw [ih]
        have e : a + m + ((c :: r).drop m).length = a + (c :: r).length := by rw [List.length_drop]; have := hp.2.1; omega
        rw [e]
/-- The tokens of two accepted sources. -/
theorem toks_join {s t : List UInt8} (hs : ∀ x ∈ toks s, x.k ≠ 0) (ht : ∀ x ∈ toks t, x.k ≠ 0) : toks (s ++ t) = jn (toks s) ((toks t).map (sh s.length)) := by
  simp only [toks_sc] at hs ht ⊢
  have h1 := sc_join t (litL_good ht) _ s 0 none (Nat.le_refl _) hs
  rw [h1]
  have h2 := sc_shift s.length _ t 0 none (Nat.le_refl _)
  rw [Option.map_none] at h2
  rw [h2]
theorem jn_k : ∀ {l m : List Tk}, (∀ x ∈ l, x.k ≠ 0) → (∀ x ∈ m, x.k ≠ 0) → ∀ x ∈ jn l m, x.k ≠ 0
  | [], m, _, hm, x, hx => hm x hx
  | [y], [], hl, _, x, hx => hl x hx
  | [y], z :: m, hl, hm, x, hx => by
    simp only [jn] at hx
    split at hx
    · rw [List.mem_cons] at hx
      rcases hx with rfl | hx
      · exact hl y (by simp)
      · exact hm x (by simp [hx])
    · simp only [List.mem_cons] at hx
      rcases hx with rfl | rfl | hx
      · exact hl _ (by simp)
      · exact hm _ (by simp)
      · exact hm x (by simp [hx])
  | y :: z :: l, m, hl, hm, x, hx => by
    simp only [jn, List.mem_cons] at hx
    rcases hx with rfl | hx
    · exact hl _ (by simp)
    · exact jn_k (fun w hw => hl w (by simp only [List.mem_cons] at hw ⊢; exact .inr hw)) hm x hx
/-- What the loop over the second list makes: the first element may be joined, the others follow. -/
theorem jn_last : ∀ {l : List Tk} {x y : Tk} {m : List Tk}, x.k = 1 → y.k = 1 → jn (l ++ [x]) (y :: m) = l ++ ⟨x.k, x.t ++ y.t, x.a⟩ :: m
  | [], x, y, m, hx, hy => by simp only [List.nil_append, jn, hx, hy, and_self, if_true]
  | z :: l, x, y, m, hx, hy => by
    rw [List.cons_append, jn_cons (.inr (by simp)), jn_last hx hy, List.cons_append]
theorem jn_app : ∀ {l m : List Tk}, (∀ x y, l.getLast? = some x → m.head? = some y → ¬ (x.k = 1 ∧ y.k = 1)) → jn l m = l ++ m
  | [], m, _ => rfl
  | [x], [], _ => rfl
  | [x], y :: m, h => by simp only [jn, if_neg (h x y rfl rfl), List.cons_append, List.nil_append]
  | x :: y :: l, m, h => by
    rw [jn_cons (.inr (by simp)), jn_app (fun a b ha hb => h a b (by rw [List.getLast?_cons_cons]; exact ha) hb)]
    rfl
end Go.Proofs.Ytibdijaacolhkaa
