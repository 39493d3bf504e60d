/- The reference: put, Topics, Authors, Common, Related. -/
import Derived.Test.YtgnclmmijijimaaT
import Derived.Test.YtgnclmmijijimaaA10
import Derived.Test.YtgnclmmijijimaaQ9
import Derived.Test.YtgnclmmijijimaaP1
namespace Go.Proofs.Ytgnclmmijijimaa
open Go.RowKit Go.Proofs
set_option linter.unusedSimpArgs false
set_option linter.unusedVariables false
set_option maxRecDepth 100000
set_option maxHeartbeats 4000000

def leS (s x : Str) : Bool := Op.bytesLess s x || s == x
theorem leS_iff {s x : Str} : leS s x = true ↔ s ≤ x := by
  simp only [leS, Bool.or_eq_true, bytesLess_eq, decide_eq_true_eq, beq_iff_eq]
  exact str_le.symm
def putS (s : Str) (o : List Str × Bool) (x : Str) : List Str × Bool := ((o.1 ++ if !o.2 && leS s x then [s] else []) ++ (if x = s then [] else [x]), o.2 || leS s x)
def putT (s : Str) (l : List Str) : List Str × Bool := l.foldl (putS s) ([], false)
def putL (l : List Str) (s : Str) : List Str := (putT s l).1 ++ if (putT s l).2 then [] else [s]
theorem putT_take {s : Str} {l : List Str} {j : Nat} {x : Str} (h : l[j]? = some x) : putT s (l.take (j + 1)) = putS s (putT s (l.take j)) x := by
  rw [List.take_add_one, h]; simp [putT, List.foldl_append]
theorem leS_self (s : Str) : leS s s = true := leS_iff.2 (List.le_refl _)
theorem putS_len (s x : Str) (o : List Str) (d : Bool) : (putS s (o, d) x).1.length + (if (putS s (o, d) x).2 = true then 0 else 1) ≤ o.length + (if d = true then 0 else 1) + 1 := by
  by_cases hx : x = s
  · subst hx; cases d <;> simp [putS, leS_self]
  · cases d <;> cases hb : leS s x <;> simp [putS, hb, hx]
theorem putT_len' (s : Str) : ∀ (l : List Str) (o : List Str) (d : Bool), (l.foldl (putS s) (o, d)).1.length + (if (l.foldl (putS s) (o, d)).2 = true then 0 else 1) ≤ o.length + (if d = true then 0 else 1) + l.length
  | [], o, d => Nat.le_refl _
  | x :: l, o, d => by
    have h1 := putT_len' s l (putS s (o, d) x).1 (putS s (o, d) x).2
    have h2 := putS_len s x o d
    simp only [List.foldl_cons, List.length_cons]
    refine Nat.le_trans h1 ?_
    omega
theorem putT_len (s : Str) (l : List Str) : (putT s l).1.length + (if (putT s l).2 = true then 0 else 1) ≤ l.length + 1 := by
  have := putT_len' s l [] false
  unfold putT
  simp only [List.length_nil, Bool.false_eq_true, if_false] at this
  omega
theorem putL_len (l : List Str) (s : Str) : (putL l s).length ≤ l.length + 1 := by
  have := putT_len s l
  unfold putL
  rw [List.length_append]
  split <;> rename_i h <;> simp [h] at this ⊢ <;> omega
theorem or_shuf {a b c : Prop} : ((a ∨ b) ∨ c) ∨ b ↔ a ∨ c ∨ b := by
  constructor
  · rintro (((h | h) | h) | h)
    · exact .inl h
    · exact .inr (.inr h)
    · exact .inr (.inl h)
    · exact .inr (.inr h)
  · rintro (h | h | h)
    · exact .inl (.inl (.inl h))
    · exact .inl (.inr h)
    · exact .inr h
theorem putT_spec {s : Str} : ∀ {l : List Str}, l.Pairwise (· < ·) → ∀ (o : List Str) (d : Bool), (o.Pairwise (· < ·)) → (∀ x ∈ o, ∀ y ∈ l, x < y ∨ x = y ∧ x = s) → (d = true → s ∈ o) → (d = false → ∀ x ∈ o, x < s) →
    ((l.foldl (putS s) (o, d)).1 ++ if (l.foldl (putS s) (o, d)).2 then [] else [s]).Pairwise (· < ·) ∧ ∀ x, x ∈ ((l.foldl (putS s) (o, d)).1 ++ if (l.foldl (putS s) (o, d)).2 then [] else [s]) ↔ x ∈ o ∨ x ∈ l ∨ x = s
  | [], _, o, d, ho, _, h1, h2 => by
    cases d with
    | true => refine ⟨by simpa using ho, fun x => ?_⟩; simp; intro h; subst h; exact h1 rfl
    | false =>
      refine ⟨?_, fun x => by simp⟩
      simp only [List.foldl_nil, Bool.false_eq_true, if_false]
      exact List.pairwise_append.2 ⟨ho, by simp, fun x hx y hy => by rw [List.mem_singleton] at hy; subst hy; exact h2 rfl x hx⟩
  | y :: l, hl, o, d, ho, hol, h1, h2 => by
    rw [List.pairwise_cons] at hl
    have ho' : ∀ x ∈ o, x ≠ s → x < y := fun x hx hne => by rcases hol x hx y (by simp) with h | h
                                                            · exact h
                                                            · exact absurd h.2 hne
    have key : ∀ (o2 : List Str) (d2 : Bool), putS s (o, d) y = (o2, d2) → o2.Pairwise (· < ·) → (∀ x ∈ o2, ∀ z ∈ l, x < z ∨ x = z ∧ x = s) → (d2 = true → s ∈ o2) → (d2 = false → ∀ x ∈ o2, x < s) → (∀ x, x ∈ o2 ∨ x = s ↔ x ∈ o ∨ x = y ∨ x = s) →
        (((y :: l).foldl (putS s) (o, d)).1 ++ if ((y :: l).foldl (putS s) (o, d)).2 then [] else [s]).Pairwise (· < ·) ∧ ∀ x, x ∈ (((y :: l).foldl (putS s) (o, d)).1 ++ if ((y :: l).foldl (putS s) (o, d)).2 then [] else [s]) ↔ x ∈ o ∨ x ∈ y :: l ∨ x = s := by
      intro o2 d2 he g1 g2 g3 g4 g5
      rw [List.foldl_cons, he]
      obtain ⟨k1, k2⟩ := putT_spec hl.2 o2 d2 g1 g2 g3 g4
      refine ⟨k1, fun x => ?_⟩
      have := g5 x
      rw [k2]
      simp only [List.mem_cons]
      constructor
      · rintro (h | h | h)
        · rcases this.1 (.inl h) with h | h | h
          · exact .inl h
          · exact .inr (.inl (.inl h))
          · exact .inr (.inr h)
        · exact .inr (.inl (.inr h))
        · exact .inr (.inr h)
      · rintro (h | (h | h) | h)
        · rcases this.2 (.inl h) with h | h
          · exact .inl h
          · exact .inr (.inr h)
        · rcases this.2 (.inr (.inl h)) with h | h
          · exact .inl h
          · exact .inr (.inr h)
        · exact .inr (.inl h)
        · exact .inr (.inr h)
    have hy : ∀ z ∈ l, y < z := fun z hz => hl.1 z hz
    by_cases hys : y = s
    · subst hys
      have hle : leS y y = true := leS_iff.2 (List.le_refl _)
      cases d with
      | true =>
        refine key o true (by simp [putS]) ho (fun x hx z hz => ?_) (fun _ => h1 rfl) (fun h => by cases h) (fun x => by simp)
        rcases hol x hx y (by simp) with h | h
        · exact .inl (str_trans _ _ _ h (hy z hz))
        · rw [h.1]; exact .inl (hy z hz)
      | false =>
        refine key (o ++ [y]) true (by simp [putS, hle]) (List.pairwise_append.2 ⟨ho, by simp, fun x hx z hz => ?_⟩) (fun x hx z hz => ?_) (fun _ => by simp) (fun h => by cases h) (fun x => by simp)
        · rw [List.mem_singleton] at hz; subst hz; exact h2 rfl x hx
        · rcases List.mem_append.1 hx with hx | hx
          · exact .inl (str_trans _ _ _ (h2 rfl x hx) (hy z hz))
          · rw [List.mem_singleton] at hx; subst hx; exact .inl (hy z hz)
    · cases hle : leS s y with
      | true =>
        have hsy : s < y := by rcases str_le.1 (leS_iff.1 hle) with h | h
                               · exact h
                               · exact absurd h.symm hys
        cases d with
        | true =>
          refine key (o ++ [y]) true (by simp [putS, hys]) (List.pairwise_append.2 ⟨ho, by simp, fun x hx z hz => ?_⟩) (fun x hx z hz => ?_) (fun _ => by simp [h1 rfl]) (fun h => by cases h) (fun x => by simp only [List.mem_append, List.mem_singleton, or_assoc])
          · rw [List.mem_singleton] at hz; subst hz
            by_cases hx2 : x = s
            · subst hx2; exact hsy
            · exact ho' x hx hx2
          · rcases List.mem_append.1 hx with hx | hx
            · by_cases hx2 : x = s
              · subst hx2; exact .inl (str_trans _ _ _ hsy (hy z hz))
              · exact .inl (str_trans _ _ _ (ho' x hx hx2) (hy z hz))
            · rw [List.mem_singleton] at hx; subst hx; exact .inl (hy z hz)
        | false =>
          refine key (o ++ [s] ++ [y]) true (by simp [putS, hle, hys]) (List.pairwise_append.2 ⟨List.pairwise_append.2 ⟨ho, by simp, fun x hx z hz => ?_⟩, by simp, fun x hx z hz => ?_⟩) (fun x hx z hz => ?_) (fun _ => by simp) (fun h => by cases h) (fun x => by simp only [List.mem_append, List.mem_singleton]; exact or_shuf)
          · rw [List.mem_singleton] at hz; subst hz; exact h2 rfl x hx
          · rw [List.mem_singleton] at hz; subst hz
            rcases List.mem_append.1 hx with hx | hx
            · exact str_trans _ _ _ (h2 rfl x hx) hsy
            · rw [List.mem_singleton] at hx; subst hx; exact hsy
          · rcases List.mem_append.1 hx with hx | hx
            · rcases List.mem_append.1 hx with hx | hx
              · exact .inl (str_trans _ _ _ (str_trans _ _ _ (h2 rfl x hx) hsy) (hy z hz))
              · rw [List.mem_singleton] at hx; subst hx; exact .inl (str_trans _ _ _ hsy (hy z hz))
            · rw [List.mem_singleton] at hx; subst hx; exact .inl (hy z hz)
      | false =>
        have hlt : y < s := by
          have : ¬ s ≤ y := fun h => by rw [leS_iff.2 h] at hle; cases hle
          exact List.not_le.1 this
        have hd : d = false := by
          cases d with
          | false => rfl
          | true =>
            rcases hol s (h1 rfl) y (by simp) with h | h
            · exact absurd (str_trans _ _ _ h hlt) (str_irr _)
            · exact absurd h.1.symm hys
        subst hd
        refine key (o ++ [y]) false (by simp [putS, hle, hys]) (List.pairwise_append.2 ⟨ho, by simp, fun x hx z hz => ?_⟩) (fun x hx z hz => ?_) (fun h => by cases h) (fun _ x hx => ?_) (fun x => by simp [or_assoc])
        · rw [List.mem_singleton] at hz; subst hz
          exact ho' x hx (fun h => by subst h; exact absurd (h2 rfl _ hx) (str_irr _))
        · rcases List.mem_append.1 hx with hx | hx
          · exact .inl (str_trans _ _ _ (ho' x hx (fun h => by subst h; exact absurd (h2 rfl _ hx) (str_irr _))) (hy z hz))
          · rw [List.mem_singleton] at hx; subst hx; exact .inl (hy z hz)
        · rcases List.mem_append.1 hx with hx | hx
          · exact h2 rfl x hx
          · rw [List.mem_singleton] at hx; subst hx; exact hlt
theorem putL_spec {l : List Str} (s : Str) (h : l.Pairwise (· < ·)) : (putL l s).Pairwise (· < ·) ∧ ∀ x, x ∈ putL l s ↔ x ∈ l ∨ x = s := by
  obtain ⟨h1, h2⟩ := putT_spec (s := s) h [] false (by simp) (by simp) (by simp) (by simp)
  refine ⟨h1, fun x => ?_⟩
  have := (h2 x).trans (show x ∈ [] ∨ x ∈ l ∨ x = s ↔ x ∈ l ∨ x = s by simp)
  exact this
theorem putsF_spec : ∀ (m : List Str) {l : List Str}, l.Pairwise (· < ·) → (m.foldl putL l).Pairwise (· < ·) ∧ ∀ x, x ∈ m.foldl putL l ↔ x ∈ l ∨ x ∈ m
  | [], l, h => ⟨h, by simp⟩
  | s :: m, l, h => by
    obtain ⟨h1, h2⟩ := putL_spec s h
    obtain ⟨h3, h4⟩ := putsF_spec m h1
    refine ⟨h3, fun x => ?_⟩
    rw [List.foldl_cons, h4, h2, List.mem_cons, or_assoc]
theorem putsF_eq (m : List Str) : m.foldl putL [] = dst m := by
  obtain ⟨h1, h2⟩ := putsF_spec m (l := []) (by simp)
  exact (dst_of h1 (fun x => by rw [h2]; simp)).symm
theorem putsF_len : ∀ (m l : List Str), (m.foldl putL l).length ≤ l.length + m.length
  | [], l => by simp
  | s :: m, l => by
    have := putsF_len m (putL l s)
    have := putL_len l s
    simp only [List.foldl_cons, List.length_cons]; omega
theorem foldl_at {α β : Type} {f : β → α → β} {l : List α} {j : Nat} {x : α} {b : β} (h : l[j]? = some x) : (l.take (j + 1)).foldl f b = f ((l.take j).foldl f b) x := by
  rw [List.take_add_one, h]; simp [List.foldl_append]
theorem put44 (l : List Str) (s : Str) (hl : l.length ≤ 10000000) : ACalls Try.prog 44 [.sl 1 (l.map str), str s] (fun r => r = .own 9 1 ((putL l s).map str)) := by
  refine calls_short [] ttok hmix Try.func44 (by decide) (by decide +kernel) (by simp only [Try.f44, Option.bind_some, comp, cops, cguard, gslot, List.getElem?_toArray, List.getElem?_cons_succ, List.getElem?_cons_zero, vlook, tlook, cutAt_nil, cutAt, firstReg, isCut, mkSeq, Nat.reduceAdd, Nat.reduceEqDiff, reduceIte]; rfl) Try.ntmps44 Try.results44 ⟨_, rfl⟩ rfl ?_
  simp only [List.length_cons, List.length_nil, Nat.reduceAdd, Nat.reduceSub, List.replicate_succ, List.replicate_zero, List.cons_append, List.nil_append, num, str, tru]
  repeat' first | with_reducible refine asq_dmk (fun _ => ?_) (fun _ => ?_) | with_reducible refine asq_ndmk (fun _ => ?_) (fun _ => ?_) | with_reducible refine asq_nmk (fun _ => ?_) (fun _ => ?_) | with_reducible refine asq_mk (fun _ => ?_) (fun _ => ?_) | with_reducible refine asp_dmk (fun _ => ?_) (fun _ => ?_) | with_reducible refine asp_ndmk (fun _ => ?_) (fun _ => ?_) | with_reducible refine asp_nmk (fun _ => ?_) (fun _ => ?_) | with_reducible refine asp_mk (fun _ => ?_) (fun _ => ?_) | with_reducible refine And.intro (by first | omega | rfl | decide | with_unfolding_all rfl) ?_ | simp only [go_sem, Nat.reduceLT, Nat.reduceAdd, Nat.reduceSub, Nat.reduceMul, Nat.reduceLeDiff, ne_eq, Nat.reduceEqDiff, not_false_eq_true, Bool.and_true, Bool.true_and, Nat.succ_ne_self, and_true, Bool.not_true, Bool.not_false, Int.toNat_zero, Int.reduceToNat, Nat.mul_one, Int.toNat_one, decide_true, decide_false, Int.reduceEq, Int.cast_ofNat_Int, Bool.false_eq_true, Bool.not_true, Bool.not_false]
  refine cwp_loop [false, false, false, false, false, true, true, true, true, true, true, true, true, true, true, true, true, true, true, true, true, true, true, true, true, true, true, true, true, true, true, true, true, true, true, true, true, true, true, true, true, false, false, false, false, false, false, false] [5, 6, 7] (fun n xs => ∃ j : Nat, j ≤ l.length ∧ j + n = l.length ∧ xs = [.own 9 1 ((putT s (l.take j)).1.map str), tru (putT s (l.take j)).2, num j]) ⟨l.length, _, ⟨0, by omega, by omega, rfl⟩, ?_⟩ ?_
  · simp only [List.take_zero, putT, List.foldl_nil, List.map_nil, tru]
    simp only [hvm_t, hvm_f, hvm_nil, puts_cons, puts_nil, List.set_cons_zero, List.set_cons_succ, num]
    repeat first | exact Wk.nil | exact Wk.refl _ | refine wk_ownsl ?_ | refine wk_nilown ?_ | refine wk_nilsl ?_ | refine Wk.same ?_ | refine wk_any ?_
  · rintro n xs ⟨j, hjl, hn, rfl⟩
    have hol := putT_len s (l.take j)
    rw [List.length_take] at hol
    simp only [hvm_t, hvm_f, hvm_nil, puts_cons, puts_nil, List.set_cons_zero, List.set_cons_succ, num]
    rcases Nat.lt_or_ge j l.length with hlt | hge
    · have ej := eq_true (show (j : Int) < (l.length : Int) by omega)
      obtain ⟨x, hx, hd⟩ := drop_at hlt
      have hgx := strs_at hx
      have hw : IntKind.i64.wrap ((j : Int) + 1) = ((j + 1 : Nat) : Int) := wrap_succ (by omega)
      have hstep := putT_take (s := s) hx
      obtain ⟨o, ho⟩ : ∃ o, (putT s (l.take j)).1 = o := ⟨_, rfl⟩
      obtain ⟨d, hd⟩ : ∃ d, (putT s (l.take j)).2 = d := ⟨_, rfl⟩
      rw [show putT s (l.take j) = (o, d) from Prod.ext ho hd] at hol hstep ⊢
      simp only [putS] at hstep
      simp only [tru] at *
      have hol2 : o.length ≤ l.length + 1 := Nat.le_trans (Nat.le_add_right _ _) (Nat.le_trans hol (by omega))
      rcases Bool.eq_false_or_eq_true (leS s x) with hle | hle
      · have hle2 : (Op.bytesLess s x || s == x) = true := hle
        by_cases hxs : x = s
        · have hxe := eq_true hxs
          have ebx : (x == s) = true := by simp [hxs]
          cases d
          · repeat' first | with_reducible refine asq_dmk (fun _ => ?_) (fun _ => ?_) | with_reducible refine asq_ndmk (fun _ => ?_) (fun _ => ?_) | with_reducible refine asq_nmk (fun _ => ?_) (fun _ => ?_) | with_reducible refine asq_mk (fun _ => ?_) (fun _ => ?_) | with_reducible refine asp_dmk (fun _ => ?_) (fun _ => ?_) | with_reducible refine asp_ndmk (fun _ => ?_) (fun _ => ?_) | with_reducible refine asp_nmk (fun _ => ?_) (fun _ => ?_) | with_reducible refine asp_mk (fun _ => ?_) (fun _ => ?_) | with_reducible refine And.intro (by first | omega | rfl | decide | with_unfolding_all rfl) ?_ | simp only [go_sem, Nat.reduceLT, Nat.reduceAdd, Nat.reduceSub, Nat.reduceMul, Nat.reduceLeDiff, ne_eq, Nat.reduceEqDiff, not_false_eq_true, Bool.and_true, Bool.true_and, Nat.succ_ne_self, and_true, Bool.not_true, Bool.not_false, Int.toNat_zero, Int.reduceToNat, Nat.mul_one, Int.toNat_one, decide_true, decide_false, Int.reduceEq, Int.cast_ofNat_Int, Bool.false_eq_true, Bool.not_true, Bool.not_false, ej, hgx, hw, hle2, ebx, List.length_map, List.length_append, List.length_cons, List.length_nil]
            all_goals try (exfalso; omega)
            refine lend_mk (n - 1) [.own 9 1 ((putT s (l.take (j + 1))).1.map str), tru (putT s (l.take (j + 1))).2, num ((j + 1 : Nat) : Int)] (by omega) ⟨j + 1, by omega, by omega, rfl⟩ ?_
            rw [hstep]
            simp only [hle, hxe, Bool.not_true, Bool.not_false, Bool.and_true, Bool.true_and, Bool.false_and, Bool.and_false, Bool.or_true, Bool.true_or, Bool.or_false, Bool.false_or, Bool.false_eq_true, if_true, if_false, List.append_nil, List.map_append, List.map_cons, List.map_nil, str, tru]
            simp only [hvm_t, hvm_f, hvm_nil, puts_cons, puts_nil, List.set_cons_zero, List.set_cons_succ, num]
            repeat first | exact Wk.nil | refine Wk.same ?_ | refine wk_any ?_
          · repeat' first | with_reducible refine asq_dmk (fun _ => ?_) (fun _ => ?_) | with_reducible refine asq_ndmk (fun _ => ?_) (fun _ => ?_) | with_reducible refine asq_nmk (fun _ => ?_) (fun _ => ?_) | with_reducible refine asq_mk (fun _ => ?_) (fun _ => ?_) | with_reducible refine asp_dmk (fun _ => ?_) (fun _ => ?_) | with_reducible refine asp_ndmk (fun _ => ?_) (fun _ => ?_) | with_reducible refine asp_nmk (fun _ => ?_) (fun _ => ?_) | with_reducible refine asp_mk (fun _ => ?_) (fun _ => ?_) | with_reducible refine And.intro (by first | omega | rfl | decide | with_unfolding_all rfl) ?_ | simp only [go_sem, Nat.reduceLT, Nat.reduceAdd, Nat.reduceSub, Nat.reduceMul, Nat.reduceLeDiff, ne_eq, Nat.reduceEqDiff, not_false_eq_true, Bool.and_true, Bool.true_and, Nat.succ_ne_self, and_true, Bool.not_true, Bool.not_false, Int.toNat_zero, Int.reduceToNat, Nat.mul_one, Int.toNat_one, decide_true, decide_false, Int.reduceEq, Int.cast_ofNat_Int, Bool.false_eq_true, Bool.not_true, Bool.not_false, ej, hgx, hw, hle2, ebx, List.length_map, List.length_append, List.length_cons, List.length_nil]
            all_goals try (exfalso; omega)
            refine lend_mk (n - 1) [.own 9 1 ((putT s (l.take (j + 1))).1.map str), tru (putT s (l.take (j + 1))).2, num ((j + 1 : Nat) : Int)] (by omega) ⟨j + 1, by omega, by omega, rfl⟩ ?_
            rw [hstep]
            simp only [hle, hxe, Bool.not_true, Bool.not_false, Bool.and_true, Bool.true_and, Bool.false_and, Bool.and_false, Bool.or_true, Bool.true_or, Bool.or_false, Bool.false_or, Bool.false_eq_true, if_true, if_false, List.append_nil, List.map_append, List.map_cons, List.map_nil, str, tru]
            simp only [hvm_t, hvm_f, hvm_nil, puts_cons, puts_nil, List.set_cons_zero, List.set_cons_succ, num]
            repeat first | exact Wk.nil | refine Wk.same ?_ | refine wk_any ?_
        · have hxe := eq_false hxs
          have ebx : (x == s) = false := by simp [hxs]
          cases d
          · repeat' first | with_reducible refine asq_dmk (fun _ => ?_) (fun _ => ?_) | with_reducible refine asq_ndmk (fun _ => ?_) (fun _ => ?_) | with_reducible refine asq_nmk (fun _ => ?_) (fun _ => ?_) | with_reducible refine asq_mk (fun _ => ?_) (fun _ => ?_) | with_reducible refine asp_dmk (fun _ => ?_) (fun _ => ?_) | with_reducible refine asp_ndmk (fun _ => ?_) (fun _ => ?_) | with_reducible refine asp_nmk (fun _ => ?_) (fun _ => ?_) | with_reducible refine asp_mk (fun _ => ?_) (fun _ => ?_) | with_reducible refine And.intro (by first | omega | rfl | decide | with_unfolding_all rfl) ?_ | simp only [go_sem, Nat.reduceLT, Nat.reduceAdd, Nat.reduceSub, Nat.reduceMul, Nat.reduceLeDiff, ne_eq, Nat.reduceEqDiff, not_false_eq_true, Bool.and_true, Bool.true_and, Nat.succ_ne_self, and_true, Bool.not_true, Bool.not_false, Int.toNat_zero, Int.reduceToNat, Nat.mul_one, Int.toNat_one, decide_true, decide_false, Int.reduceEq, Int.cast_ofNat_Int, Bool.false_eq_true, Bool.not_true, Bool.not_false, ej, hgx, hw, hle2, ebx, List.length_map, List.length_append, List.length_cons, List.length_nil]
            all_goals try (exfalso; omega)
            refine lend_mk (n - 1) [.own 9 1 ((putT s (l.take (j + 1))).1.map str), tru (putT s (l.take (j + 1))).2, num ((j + 1 : Nat) : Int)] (by omega) ⟨j + 1, by omega, by omega, rfl⟩ ?_
            rw [hstep]
            simp only [hle, hxe, Bool.not_true, Bool.not_false, Bool.and_true, Bool.true_and, Bool.false_and, Bool.and_false, Bool.or_true, Bool.true_or, Bool.or_false, Bool.false_or, Bool.false_eq_true, if_true, if_false, List.append_nil, List.map_append, List.map_cons, List.map_nil, str, tru]
            simp only [hvm_t, hvm_f, hvm_nil, puts_cons, puts_nil, List.set_cons_zero, List.set_cons_succ, num]
            repeat first | exact Wk.nil | refine Wk.same ?_ | refine wk_any ?_
          · repeat' first | with_reducible refine asq_dmk (fun _ => ?_) (fun _ => ?_) | with_reducible refine asq_ndmk (fun _ => ?_) (fun _ => ?_) | with_reducible refine asq_nmk (fun _ => ?_) (fun _ => ?_) | with_reducible refine asq_mk (fun _ => ?_) (fun _ => ?_) | with_reducible refine asp_dmk (fun _ => ?_) (fun _ => ?_) | with_reducible refine asp_ndmk (fun _ => ?_) (fun _ => ?_) | with_reducible refine asp_nmk (fun _ => ?_) (fun _ => ?_) | with_reducible refine asp_mk (fun _ => ?_) (fun _ => ?_) | with_reducible refine And.intro (by first | omega | rfl | decide | with_unfolding_all rfl) ?_ | simp only [go_sem, Nat.reduceLT, Nat.reduceAdd, Nat.reduceSub, Nat.reduceMul, Nat.reduceLeDiff, ne_eq, Nat.reduceEqDiff, not_false_eq_true, Bool.and_true, Bool.true_and, Nat.succ_ne_self, and_true, Bool.not_true, Bool.not_false, Int.toNat_zero, Int.reduceToNat, Nat.mul_one, Int.toNat_one, decide_true, decide_false, Int.reduceEq, Int.cast_ofNat_Int, Bool.false_eq_true, Bool.not_true, Bool.not_false, ej, hgx, hw, hle2, ebx, List.length_map, List.length_append, List.length_cons, List.length_nil]
            all_goals try (exfalso; omega)
            refine lend_mk (n - 1) [.own 9 1 ((putT s (l.take (j + 1))).1.map str), tru (putT s (l.take (j + 1))).2, num ((j + 1 : Nat) : Int)] (by omega) ⟨j + 1, by omega, by omega, rfl⟩ ?_
            rw [hstep]
            simp only [hle, hxe, Bool.not_true, Bool.not_false, Bool.and_true, Bool.true_and, Bool.false_and, Bool.and_false, Bool.or_true, Bool.true_or, Bool.or_false, Bool.false_or, Bool.false_eq_true, if_true, if_false, List.append_nil, List.map_append, List.map_cons, List.map_nil, str, tru]
            simp only [hvm_t, hvm_f, hvm_nil, puts_cons, puts_nil, List.set_cons_zero, List.set_cons_succ, num]
            repeat first | exact Wk.nil | refine Wk.same ?_ | refine wk_any ?_
      · have hle2 : (Op.bytesLess s x || s == x) = false := hle
        by_cases hxs : x = s
        · have hxe := eq_true hxs
          have ebx : (x == s) = true := by simp [hxs]
          cases d
          · repeat' first | with_reducible refine asq_dmk (fun _ => ?_) (fun _ => ?_) | with_reducible refine asq_ndmk (fun _ => ?_) (fun _ => ?_) | with_reducible refine asq_nmk (fun _ => ?_) (fun _ => ?_) | with_reducible refine asq_mk (fun _ => ?_) (fun _ => ?_) | with_reducible refine asp_dmk (fun _ => ?_) (fun _ => ?_) | with_reducible refine asp_ndmk (fun _ => ?_) (fun _ => ?_) | with_reducible refine asp_nmk (fun _ => ?_) (fun _ => ?_) | with_reducible refine asp_mk (fun _ => ?_) (fun _ => ?_) | with_reducible refine And.intro (by first | omega | rfl | decide | with_unfolding_all rfl) ?_ | simp only [go_sem, Nat.reduceLT, Nat.reduceAdd, Nat.reduceSub, Nat.reduceMul, Nat.reduceLeDiff, ne_eq, Nat.reduceEqDiff, not_false_eq_true, Bool.and_true, Bool.true_and, Nat.succ_ne_self, and_true, Bool.not_true, Bool.not_false, Int.toNat_zero, Int.reduceToNat, Nat.mul_one, Int.toNat_one, decide_true, decide_false, Int.reduceEq, Int.cast_ofNat_Int, Bool.false_eq_true, Bool.not_true, Bool.not_false, ej, hgx, hw, hle2, ebx, List.length_map, List.length_append, List.length_cons, List.length_nil]
            all_goals try (exfalso; omega)
            refine lend_mk (n - 1) [.own 9 1 ((putT s (l.take (j + 1))).1.map str), tru (putT s (l.take (j + 1))).2, num ((j + 1 : Nat) : Int)] (by omega) ⟨j + 1, by omega, by omega, rfl⟩ ?_
            rw [hstep]
            simp only [hle, hxe, Bool.not_true, Bool.not_false, Bool.and_true, Bool.true_and, Bool.false_and, Bool.and_false, Bool.or_true, Bool.true_or, Bool.or_false, Bool.false_or, Bool.false_eq_true, if_true, if_false, List.append_nil, List.map_append, List.map_cons, List.map_nil, str, tru]
            simp only [hvm_t, hvm_f, hvm_nil, puts_cons, puts_nil, List.set_cons_zero, List.set_cons_succ, num]
            repeat first | exact Wk.nil | refine Wk.same ?_ | refine wk_any ?_
          · repeat' first | with_reducible refine asq_dmk (fun _ => ?_) (fun _ => ?_) | with_reducible refine asq_ndmk (fun _ => ?_) (fun _ => ?_) | with_reducible refine asq_nmk (fun _ => ?_) (fun _ => ?_) | with_reducible refine asq_mk (fun _ => ?_) (fun _ => ?_) | with_reducible refine asp_dmk (fun _ => ?_) (fun _ => ?_) | with_reducible refine asp_ndmk (fun _ => ?_) (fun _ => ?_) | with_reducible refine asp_nmk (fun _ => ?_) (fun _ => ?_) | with_reducible refine asp_mk (fun _ => ?_) (fun _ => ?_) | with_reducible refine And.intro (by first | omega | rfl | decide | with_unfolding_all rfl) ?_ | simp only [go_sem, Nat.reduceLT, Nat.reduceAdd, Nat.reduceSub, Nat.reduceMul, Nat.reduceLeDiff, ne_eq, Nat.reduceEqDiff, not_false_eq_true, Bool.and_true, Bool.true_and, Nat.succ_ne_self, and_true, Bool.not_true, Bool.not_false, Int.toNat_zero, Int.reduceToNat, Nat.mul_one, Int.toNat_one, decide_true, decide_false, Int.reduceEq, Int.cast_ofNat_Int, Bool.false_eq_true, Bool.not_true, Bool.not_false, ej, hgx, hw, hle2, ebx, List.length_map, List.length_append, List.length_cons, List.length_nil]
            all_goals try (exfalso; omega)
            refine lend_mk (n - 1) [.own 9 1 ((putT s (l.take (j + 1))).1.map str), tru (putT s (l.take (j + 1))).2, num ((j + 1 : Nat) : Int)] (by omega) ⟨j + 1, by omega, by omega, rfl⟩ ?_
            rw [hstep]
            simp only [hle, hxe, Bool.not_true, Bool.not_false, Bool.and_true, Bool.true_and, Bool.false_and, Bool.and_false, Bool.or_true, Bool.true_or, Bool.or_false, Bool.false_or, Bool.false_eq_true, if_true, if_false, List.append_nil, List.map_append, List.map_cons, List.map_nil, str, tru]
            simp only [hvm_t, hvm_f, hvm_nil, puts_cons, puts_nil, List.set_cons_zero, List.set_cons_succ, num]
            repeat first | exact Wk.nil | refine Wk.same ?_ | refine wk_any ?_
        · have hxe := eq_false hxs
          have ebx : (x == s) = false := by simp [hxs]
          cases d
          · repeat' first | with_reducible refine asq_dmk (fun _ => ?_) (fun _ => ?_) | with_reducible refine asq_ndmk (fun _ => ?_) (fun _ => ?_) | with_reducible refine asq_nmk (fun _ => ?_) (fun _ => ?_) | with_reducible refine asq_mk (fun _ => ?_) (fun _ => ?_) | with_reducible refine asp_dmk (fun _ => ?_) (fun _ => ?_) | with_reducible refine asp_ndmk (fun _ => ?_) (fun _ => ?_) | with_reducible refine asp_nmk (fun _ => ?_) (fun _ => ?_) | with_reducible refine asp_mk (fun _ => ?_) (fun _ => ?_) | with_reducible refine And.intro (by first | omega | rfl | decide | with_unfolding_all rfl) ?_ | simp only [go_sem, Nat.reduceLT, Nat.reduceAdd, Nat.reduceSub, Nat.reduceMul, Nat.reduceLeDiff, ne_eq, Nat.reduceEqDiff, not_false_eq_true, Bool.and_true, Bool.true_and, Nat.succ_ne_self, and_true, Bool.not_true, Bool.not_false, Int.toNat_zero, Int.reduceToNat, Nat.mul_one, Int.toNat_one, decide_true, decide_false, Int.reduceEq, Int.cast_ofNat_Int, Bool.false_eq_true, Bool.not_true, Bool.not_false, ej, hgx, hw, hle2, ebx, List.length_map, List.length_append, List.length_cons, List.length_nil]
            all_goals try (exfalso; omega)
            refine lend_mk (n - 1) [.own 9 1 ((putT s (l.take (j + 1))).1.map str), tru (putT s (l.take (j + 1))).2, num ((j + 1 : Nat) : Int)] (by omega) ⟨j + 1, by omega, by omega, rfl⟩ ?_
            rw [hstep]
            simp only [hle, hxe, Bool.not_true, Bool.not_false, Bool.and_true, Bool.true_and, Bool.false_and, Bool.and_false, Bool.or_true, Bool.true_or, Bool.or_false, Bool.false_or, Bool.false_eq_true, if_true, if_false, List.append_nil, List.map_append, List.map_cons, List.map_nil, str, tru]
            simp only [hvm_t, hvm_f, hvm_nil, puts_cons, puts_nil, List.set_cons_zero, List.set_cons_succ, num]
            repeat first | exact Wk.nil | refine Wk.same ?_ | refine wk_any ?_
          · repeat' first | with_reducible refine asq_dmk (fun _ => ?_) (fun _ => ?_) | with_reducible refine asq_ndmk (fun _ => ?_) (fun _ => ?_) | with_reducible refine asq_nmk (fun _ => ?_) (fun _ => ?_) | with_reducible refine asq_mk (fun _ => ?_) (fun _ => ?_) | with_reducible refine asp_dmk (fun _ => ?_) (fun _ => ?_) | with_reducible refine asp_ndmk (fun _ => ?_) (fun _ => ?_) | with_reducible refine asp_nmk (fun _ => ?_) (fun _ => ?_) | with_reducible refine asp_mk (fun _ => ?_) (fun _ => ?_) | with_reducible refine And.intro (by first | omega | rfl | decide | with_unfolding_all rfl) ?_ | simp only [go_sem, Nat.reduceLT, Nat.reduceAdd, Nat.reduceSub, Nat.reduceMul, Nat.reduceLeDiff, ne_eq, Nat.reduceEqDiff, not_false_eq_true, Bool.and_true, Bool.true_and, Nat.succ_ne_self, and_true, Bool.not_true, Bool.not_false, Int.toNat_zero, Int.reduceToNat, Nat.mul_one, Int.toNat_one, decide_true, decide_false, Int.reduceEq, Int.cast_ofNat_Int, Bool.false_eq_true, Bool.not_true, Bool.not_false, ej, hgx, hw, hle2, ebx, List.length_map, List.length_append, List.length_cons, List.length_nil]
            all_goals try (exfalso; omega)
            refine lend_mk (n - 1) [.own 9 1 ((putT s (l.take (j + 1))).1.map str), tru (putT s (l.take (j + 1))).2, num ((j + 1 : Nat) : Int)] (by omega) ⟨j + 1, by omega, by omega, rfl⟩ ?_
            rw [hstep]
            simp only [hle, hxe, Bool.not_true, Bool.not_false, Bool.and_true, Bool.true_and, Bool.false_and, Bool.and_false, Bool.or_true, Bool.true_or, Bool.or_false, Bool.false_or, Bool.false_eq_true, if_true, if_false, List.append_nil, List.map_append, List.map_cons, List.map_nil, str, tru]
            simp only [hvm_t, hvm_f, hvm_nil, puts_cons, puts_nil, List.set_cons_zero, List.set_cons_succ, num]
            repeat first | exact Wk.nil | refine Wk.same ?_ | refine wk_any ?_
    · have ej := eq_false (show ¬ (j : Int) < (l.length : Int) by omega)
      rw [List.take_of_length_le hge] at hol ⊢
      obtain ⟨o, ho⟩ : ∃ o, (putT s l).1 = o := ⟨_, rfl⟩
      obtain ⟨d, hd⟩ : ∃ d, (putT s l).2 = d := ⟨_, rfl⟩
      have hpl : putL l s = o ++ if d then [] else [s] := by rw [putL, ho, hd]
      rw [show putT s l = (o, d) from Prod.ext ho hd] at hol ⊢
      rw [hpl]
      have hol2 : o.length ≤ l.length + 1 := Nat.le_trans (Nat.le_add_right _ _) (Nat.le_trans hol (by omega))
      simp only [tru]
      cases d
      · repeat' first | with_reducible refine asq_dmk (fun _ => ?_) (fun _ => ?_) | with_reducible refine asq_ndmk (fun _ => ?_) (fun _ => ?_) | with_reducible refine asq_nmk (fun _ => ?_) (fun _ => ?_) | with_reducible refine asq_mk (fun _ => ?_) (fun _ => ?_) | with_reducible refine asp_dmk (fun _ => ?_) (fun _ => ?_) | with_reducible refine asp_ndmk (fun _ => ?_) (fun _ => ?_) | with_reducible refine asp_nmk (fun _ => ?_) (fun _ => ?_) | with_reducible refine asp_mk (fun _ => ?_) (fun _ => ?_) | with_reducible refine And.intro (by first | omega | rfl | decide | with_unfolding_all rfl) ?_ | simp only [go_sem, Nat.reduceLT, Nat.reduceAdd, Nat.reduceSub, Nat.reduceMul, Nat.reduceLeDiff, ne_eq, Nat.reduceEqDiff, not_false_eq_true, Bool.and_true, Bool.true_and, Nat.succ_ne_self, and_true, Bool.not_true, Bool.not_false, Int.toNat_zero, Int.reduceToNat, Nat.mul_one, Int.toNat_one, decide_true, decide_false, Int.reduceEq, Int.cast_ofNat_Int, Bool.false_eq_true, Bool.not_true, Bool.not_false, ej, List.length_map, List.length_append, List.length_cons, List.length_nil]
        simp only [Bool.false_eq_true, if_false, List.map_append, List.map_cons, List.map_nil, str]
      · repeat' first | with_reducible refine asq_dmk (fun _ => ?_) (fun _ => ?_) | with_reducible refine asq_ndmk (fun _ => ?_) (fun _ => ?_) | with_reducible refine asq_nmk (fun _ => ?_) (fun _ => ?_) | with_reducible refine asq_mk (fun _ => ?_) (fun _ => ?_) | with_reducible refine asp_dmk (fun _ => ?_) (fun _ => ?_) | with_reducible refine asp_ndmk (fun _ => ?_) (fun _ => ?_) | with_reducible refine asp_nmk (fun _ => ?_) (fun _ => ?_) | with_reducible refine asp_mk (fun _ => ?_) (fun _ => ?_) | with_reducible refine And.intro (by first | omega | rfl | decide | with_unfolding_all rfl) ?_ | simp only [go_sem, Nat.reduceLT, Nat.reduceAdd, Nat.reduceSub, Nat.reduceMul, Nat.reduceLeDiff, ne_eq, Nat.reduceEqDiff, not_false_eq_true, Bool.and_true, Bool.true_and, Nat.succ_ne_self, and_true, Bool.not_true, Bool.not_false, Int.toNat_zero, Int.reduceToNat, Nat.mul_one, Int.toNat_one, decide_true, decide_false, Int.reduceEq, Int.cast_ofNat_Int, Bool.false_eq_true, Bool.not_true, Bool.not_false, ej, List.length_map, List.length_append, List.length_cons, List.length_nil]
        all_goals simp only [if_true, List.append_nil]
end Go.Proofs.Ytgnclmmijijimaa
