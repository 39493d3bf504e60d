/- The reference: put, Topics, Authors, Common, Related. The reference: Topics, Authors, Common. The library over strings; distinct; Page, Topics, Authors. Topics, Authors. -/
import Derived.Test.YtkafbgdokgfjmaaGreatDoorT
import Derived.Test.YtkafbgdokgfjmaaGreatDoorA10
import Derived.Test.YtkafbgdokgfjmaaGreatDoorM2
import Derived.Test.YtkafbgdokgfjmaaGreatDoorP1
import Derived.Test.YtkafbgdokgfjmaaGreatDoorR6
import Derived.Test.YtkafbgdokgfjmaaGreatDoorS2
namespace Go.Proofs.YtkafbgdokgfjmaaGreatDoor
open Go.RowKit Go.Proofs
set_option linter.unusedSimpArgs false
set_option linter.unusedVariables false
set_option maxRecDepth 100000
set_option maxHeartbeats 4000000

def leS (s x : Str) : Bool := Op.bytesLess s x || s == x
theorem leS_iff {s x : Str} : leS s x = true ↔ s ≤ x := by
  simp only [leS, Bool.or_eq_true, bytesLess_eq, decide_eq_true_eq, beq_iff_eq]
  exact str_le.symm
def putS (s : Str) (o : List Str × Bool) (x : Str) : List Str × Bool := ((o.1 ++ if !o.2 && leS s x then [s] else []) ++ (if x = s then [] else [x]), o.2 || leS s x)
def putT (s : Str) (l : List Str) : List Str × Bool := l.foldl (putS s) ([], false)
def putL (l : List Str) (s : Str) : List Str := (putT s l).1 ++ if (putT s l).2 then [] else [s]
theorem putT_take {s : Str} {l : List Str} {j : Nat} {x : Str} (h : l[j]? = some x) : putT s (l.take (j + 1)) = putS s (putT s (l.take j)) x := by
  rw [List.take_add_one, h]; simp [putT, List.foldl_append]
theorem leS_self (s : Str) : leS s s = true := leS_iff.2 (List.le_refl _)
theorem putS_len (s x : Str) (o : List Str) (d : Bool) : (putS s (o, d) x).1.length + (if (putS s (o, d) x).2 = true then 0 else 1) ≤ o.length + (if d = true then 0 else 1) + 1 := by
  by_cases hx : x = s
  · subst hx; cases d <;> simp [putS, leS_self]
  · cases d <;> cases hb : leS s x <;> simp [putS, hb, hx]
theorem putT_len' (s : Str) : ∀ (l : List Str) (o : List Str) (d : Bool), (l.foldl (putS s) (o, d)).1.length + (if (l.foldl (putS s) (o, d)).2 = true then 0 else 1) ≤ o.length + (if d = true then 0 else 1) + l.length
  | [], o, d => Nat.le_refl _
  | x :: l, o, d => by
    have h1 := putT_len' s l (putS s (o, d) x).1 (putS s (o, d) x).2
    have h2 := putS_len s x o d
    simp only [List.foldl_cons, List.length_cons]
    refine Nat.le_trans h1 ?_
    omega
theorem putT_len (s : Str) (l : List Str) : (putT s l).1.length + (if (putT s l).2 = true then 0 else 1) ≤ l.length + 1 := by
  have := putT_len' s l [] false
  unfold putT
  simp only [List.length_nil, Bool.false_eq_true, if_false] at this
  omega
theorem putL_len (l : List Str) (s : Str) : (putL l s).length ≤ l.length + 1 := by
  have := putT_len s l
  unfold putL
  rw [List.length_append]
  split <;> rename_i h <;> simp [h] at this ⊢ <;> omega
theorem or_shuf {a b c : Prop} : ((a ∨ b) ∨ c) ∨ b ↔ a ∨ c ∨ b := by
  constructor
  · rintro (((h | h) | h) | h)
    · exact .inl h
    · exact .inr (.inr h)
    · exact .inr (.inl h)
    · exact .inr (.inr h)
  · rintro (h | h | h)
    · exact .inl (.inl (.inl h))
    · exact .inl (.inr h)
    · exact .inr h
theorem putT_spec {s : Str} : ∀ {l : List Str}, l.Pairwise (· < ·) → ∀ (o : List Str) (d : Bool), (o.Pairwise (· < ·)) → (∀ x ∈ o, ∀ y ∈ l, x < y ∨ x = y ∧ x = s) → (d = true → s ∈ o) → (d = false → ∀ x ∈ o, x < s) →
    ((l.foldl (putS s) (o, d)).1 ++ if (l.foldl (putS s) (o, d)).2 then [] else [s]).Pairwise (· < ·) ∧ ∀ x, x ∈ ((l.foldl (putS s) (o, d)).1 ++ if (l.foldl (putS s) (o, d)).2 then [] else [s]) ↔ x ∈ o ∨ x ∈ l ∨ x = s
  | [], _, o, d, ho, _, h1, h2 => by
    cases d with
    | true => refine ⟨by simpa using ho, fun x => ?_⟩; simp; intro h; subst h; exact h1 rfl
    | false =>
      refine ⟨?_, fun x => by simp⟩
      simp only [List.foldl_nil, Bool.false_eq_true, if_false]
      exact List.pairwise_append.2 ⟨ho, by simp, fun x hx y hy => by rw [List.mem_singleton] at hy; subst hy; exact h2 rfl x hx⟩
  | y :: l, hl, o, d, ho, hol, h1, h2 => by
    rw [List.pairwise_cons] at hl
    have ho' : ∀ x ∈ o, x ≠ s → x < y := fun x hx hne => by rcases hol x hx y (by simp) with h | h
                                                            · exact h
                                                            · exact absurd h.2 hne
    have key : ∀ (o2 : List Str) (d2 : Bool), putS s (o, d) y = (o2, d2) → o2.Pairwise (· < ·) → (∀ x ∈ o2, ∀ z ∈ l, x < z ∨ x = z ∧ x = s) → (d2 = true → s ∈ o2) → (d2 = false → ∀ x ∈ o2, x < s) → (∀ x, x ∈ o2 ∨ x = s ↔ x ∈ o ∨ x = y ∨ x = s) →
        (((y :: l).foldl (putS s) (o, d)).1 ++ if ((y :: l).foldl (putS s) (o, d)).2 then [] else [s]).Pairwise (· < ·) ∧ ∀ x, x ∈ (((y :: l).foldl (putS s) (o, d)).1 ++ if ((y :: l).foldl (putS s) (o, d)).2 then [] else [s]) ↔ x ∈ o ∨ x ∈ y :: l ∨ x = s := by
      intro o2 d2 he g1 g2 g3 g4 g5
      rw [List.foldl_cons, he]
      obtain ⟨k1, k2⟩ := putT_spec hl.2 o2 d2 g1 g2 g3 g4
      refine ⟨k1, fun x => ?_⟩
      have := g5 x
      rw [k2]
      simp only [List.mem_cons]
      constructor
      · rintro (h | h | h)
        · rcases this.1 (.inl h) with h | h | h
          · exact .inl h
          · exact .inr (.inl (.inl h))
          · exact .inr (.inr h)
        · exact .inr (.inl (.inr h))
        · exact .inr (.inr h)
      · rintro (h | (h | h) | h)
        · rcases this.2 (.inl h) with h | h
          · exact .inl h
          · exact .inr (.inr h)
        · rcases this.2 (.inr (.inl h)) with h | h
          · exact .inl h
          · exact .inr (.inr h)
        · exact .inr (.inl h)
        · exact .inr (.inr h)
    have hy : ∀ z ∈ l, y < z := fun z hz => hl.1 z hz
    by_cases hys : y = s
    · subst hys
      have hle : leS y y = true := leS_iff.2 (List.le_refl _)
      cases d with
      | true =>
        refine key o true (by simp [putS]) ho (fun x hx z hz => ?_) (fun _ => h1 rfl) (fun h => by cases h) (fun x => by simp)
        rcases hol x hx y (by simp) with h | h
        · exact .inl (str_trans _ _ _ h (hy z hz))
        · rw [h.1]; exact .inl (hy z hz)
      | false =>
        refine key (o ++ [y]) true (by simp [putS, hle]) (List.pairwise_append.2 ⟨ho, by simp, fun x hx z hz => ?_⟩) (fun x hx z hz => ?_) (fun _ => by simp) (fun h => by cases h) (fun x => by simp)
        · rw [List.mem_singleton] at hz; subst hz; exact h2 rfl x hx
        · rcases List.mem_append.1 hx with hx | hx
          · exact .inl (str_trans _ _ _ (h2 rfl x hx) (hy z hz))
          · rw [List.mem_singleton] at hx; subst hx; exact .inl (hy z hz)
    · cases hle : leS s y with
      | true =>
        have hsy : s < y := by rcases str_le.1 (leS_iff.1 hle) with h | h
                               · exact h
                               · exact absurd h.symm hys
        cases d with
        | true =>
          refine key (o ++ [y]) true (by simp [putS, hys]) (List.pairwise_append.2 ⟨ho, by simp, fun x hx z hz => ?_⟩) (fun x hx z hz => ?_) (fun _ => by simp [h1 rfl]) (fun h => by cases h) (fun x => by simp only [List.mem_append, List.mem_singleton, or_assoc])
          · rw [List.mem_singleton] at hz; subst hz
            by_cases hx2 : x = s
            · subst hx2; exact hsy
            · exact ho' x hx hx2
          · rcases List.mem_append.1 hx with hx | hx
            · by_cases hx2 : x = s
              · subst hx2; exact .inl (str_trans _ _ _ hsy (hy z hz))
              · exact .inl (str_trans _ _ _ (ho' x hx hx2) (hy z hz))
            · rw [List.mem_singleton] at hx; subst hx; exact .inl (hy z hz)
        | false =>
          refine key (o ++ [s] ++ [y]) true (by simp [putS, hle, hys]) (List.pairwise_append.2 ⟨List.pairwise_append.2 ⟨ho, by simp, fun x hx z hz => ?_⟩, by simp, fun x hx z hz => ?_⟩) (fun x hx z hz => ?_) (fun _ => by simp) (fun h => by cases h) (fun x => by simp only [List.mem_append, List.mem_singleton]; exact or_shuf)
          · rw [List.mem_singleton] at hz; subst hz; exact h2 rfl x hx
          · rw [List.mem_singleton] at hz; subst hz
            rcases List.mem_append.1 hx with hx | hx
            · exact str_trans _ _ _ (h2 rfl x hx) hsy
            · rw [List.mem_singleton] at hx; subst hx; exact hsy
          · rcases List.mem_append.1 hx with hx | hx
            · rcases List.mem_append.1 hx with hx | hx
              · exact .inl (str_trans _ _ _ (str_trans _ _ _ (h2 rfl x hx) hsy) (hy z hz))
              · rw [List.mem_singleton] at hx; subst hx; exact .inl (str_trans _ _ _ hsy (hy z hz))
            · rw [List.mem_singleton] at hx; subst hx; exact .inl (hy z hz)
      | false =>
        have hlt : y < s := by
          have : ¬ s ≤ y := fun h => by rw [leS_iff.2 h] at hle; cases hle
          exact List.not_le.1 this
        have hd : d = false := by
          cases d with
          | false => rfl
          | true =>
            rcases hol s (h1 rfl) y (by simp) with h | h
            · exact absurd (str_trans _ _ _ h hlt) (str_irr _)
            · exact absurd h.1.symm hys
        subst hd
        refine key (o ++ [y]) false (by simp [putS, hle, hys]) (List.pairwise_append.2 ⟨ho, by simp, fun x hx z hz => ?_⟩) (fun x hx z hz => ?_) (fun h => by cases h) (fun _ x hx => ?_) (fun x => by simp [or_assoc])
        · rw [List.mem_singleton] at hz; subst hz
          exact ho' x hx (fun h => by subst h; exact absurd (h2 rfl _ hx) (str_irr _))
        · rcases List.mem_append.1 hx with hx | hx
          · exact .inl (str_trans _ _ _ (ho' x hx (fun h => by subst h; exact absurd (h2 rfl _ hx) (str_irr _))) (hy z hz))
          · rw [List.mem_singleton] at hx; subst hx; exact .inl (hy z hz)
        · rcases List.mem_append.1 hx with hx | hx
          · exact h2 rfl x hx
          · rw [List.mem_singleton] at hx; subst hx; exact hlt
theorem putL_spec {l : List Str} (s : Str) (h : l.Pairwise (· < ·)) : (putL l s).Pairwise (· < ·) ∧ ∀ x, x ∈ putL l s ↔ x ∈ l ∨ x = s := by
  obtain ⟨h1, h2⟩ := putT_spec (s := s) h [] false (by simp) (by simp) (by simp) (by simp)
  refine ⟨h1, fun x => ?_⟩
  have := (h2 x).trans (show x ∈ [] ∨ x ∈ l ∨ x = s ↔ x ∈ l ∨ x = s by simp)
  exact this
theorem putsF_spec : ∀ (m : List Str) {l : List Str}, l.Pairwise (· < ·) → (m.foldl putL l).Pairwise (· < ·) ∧ ∀ x, x ∈ m.foldl putL l ↔ x ∈ l ∨ x ∈ m
  | [], l, h => ⟨h, by simp⟩
  | s :: m, l, h => by
    obtain ⟨h1, h2⟩ := putL_spec s h
    obtain ⟨h3, h4⟩ := putsF_spec m h1
    refine ⟨h3, fun x => ?_⟩
    rw [List.foldl_cons, h4, h2, List.mem_cons, or_assoc]
theorem putsF_eq (m : List Str) : m.foldl putL [] = dst m := by
  obtain ⟨h1, h2⟩ := putsF_spec m (l := []) (by simp)
  exact (dst_of h1 (fun x => by rw [h2]; simp)).symm
theorem putsF_len : ∀ (m l : List Str), (m.foldl putL l).length ≤ l.length + m.length
  | [], l => by simp
  | s :: m, l => by
    have := putsF_len m (putL l s)
    have := putL_len l s
    simp only [List.foldl_cons, List.length_cons]; omega
theorem foldl_at {α β : Type} {f : β → α → β} {l : List α} {j : Nat} {x : α} {b : β} (h : l[j]? = some x) : (l.take (j + 1)).foldl f b = f ((l.take j).foldl f b) x := by
  rw [List.take_add_one, h]; simp [List.foldl_append]
theorem put44 (l : List Str) (s : Str) (hl : l.length ≤ 10000000) : ACalls Tryz.prog 70 [.sl 1 (l.map str), str s] (fun r => r = .own 9 1 ((putL l s).map str)) := by
  refine calls_short [] ttok hmix Tryz.func70 (by decide) (by decide +kernel) (by simp only [Tryz.f70, Option.bind_some, comp, cops, cguard, gslot, List.getElem?_toArray, List.getElem?_cons_succ, List.getElem?_cons_zero, vlook, tlook, cutAt_nil, cutAt, firstReg, isCut, mkSeq, Nat.reduceAdd, Nat.reduceEqDiff, reduceIte]; rfl) Tryz.ntmps70 Tryz.results70 ⟨_, rfl⟩ rfl ?_
  simp only [List.length_cons, List.length_nil, Nat.reduceAdd, Nat.reduceSub, List.replicate_succ, List.replicate_zero, List.cons_append, List.nil_append, num, str, tru]
  repeat' first|refine Spl.on (fun _=>?_) (fun _=>?_)|with_reducible refine gd ?_|simp only [go_sem, Int.reduceEq, Int.cast_ofNat_Int, Bool.false_eq_true]
  refine cwp_loop [false, false, false, false, false, true, true, true, true, true, true, true, true, true, true, true, true, true, true, true, true, true, true, true, true, true, true, true, true, true, true, true, true, true, true, true, true, true, true, true, true, false, false, false, false, false, false, false] [5, 6, 7] (fun n xs => ∃ j : Nat, j ≤ l.length ∧ j + n = l.length ∧ xs = [.own 9 1 ((putT s (l.take j)).1.map str), tru (putT s (l.take j)).2, num j]) ⟨l.length, _, ⟨0, by omega, by omega, rfl⟩, ?_⟩ ?_
  · simp only [List.take_zero, putT, List.foldl_nil, List.map_nil, tru]
    simp only [hvm_t, hvm_f, hvm_nil, puts_cons, puts_nil, List.set_cons_zero, List.set_cons_succ, num]
    repeat first | exact Wk.nil | exact Wk.refl _ | refine wk_ownsl ?_ | refine wk_nilown ?_ | refine wk_nilsl ?_ | refine Wk.same ?_ | refine wk_any ?_
  · rintro n xs ⟨j, hjl, hn, rfl⟩
    have hol := putT_len s (l.take j)
    rw [List.length_take] at hol
    simp only [hvm_t, hvm_f, hvm_nil, puts_cons, puts_nil, List.set_cons_zero, List.set_cons_succ, num]
    rcases Nat.lt_or_ge j l.length with hlt | hge
    · have ej := eq_true (show (j : Int) < (l.length : Int) by omega)
      obtain ⟨x, hx, hd⟩ := drop_at hlt
      have hgx := strs_at hx
      have hw : IntKind.i64.wrap ((j : Int) + 1) = ((j + 1 : Nat) : Int) := wrap_succ (by omega)
      have hstep := putT_take (s := s) hx
      obtain ⟨o, ho⟩ : ∃ o, (putT s (l.take j)).1 = o := ⟨_, rfl⟩
      obtain ⟨d, hd⟩ : ∃ d, (putT s (l.take j)).2 = d := ⟨_, rfl⟩
      rw [show putT s (l.take j) = (o, d) from Prod.ext ho hd] at hol hstep ⊢
      simp only [putS] at hstep
      simp only [tru] at *
      have hol2 : o.length ≤ l.length + 1 := Nat.le_trans (Nat.le_add_right _ _) (Nat.le_trans hol (by omega))
      rcases Bool.eq_false_or_eq_true (leS s x) with hle | hle
      · have hle2 : (Op.bytesLess s x || s == x) = true := hle
        by_cases hxs : x = s
        · have hxe := eq_true hxs
          have ebx : (x == s) = true := by simp [hxs]
          cases d
          · repeat' first|refine Spl.on (fun _=>?_) (fun _=>?_)|with_reducible refine gd ?_|simp only [go_sem, Int.reduceEq, Int.cast_ofNat_Int, Bool.false_eq_true, ej, hgx, hw, hle2, ebx, List.length_map, List.length_append, List.length_cons, List.length_nil]
            all_goals try (exfalso; omega)
            refine lend_mk (n - 1) [.own 9 1 ((putT s (l.take (j + 1))).1.map str), tru (putT s (l.take (j + 1))).2, num ((j + 1 : Nat) : Int)] (by omega) ⟨j + 1, by omega, by omega, rfl⟩ ?_
            rw [hstep]
            simp only [hle, hxe, Bool.not_true, Bool.not_false, Bool.and_true, Bool.true_and, Bool.false_and, Bool.and_false, Bool.or_true, Bool.true_or, Bool.or_false, Bool.false_or, Bool.false_eq_true, if_true, if_false, List.append_nil, List.map_append, List.map_cons, List.map_nil, str, tru]
            simp only [hvm_t, hvm_f, hvm_nil, puts_cons, puts_nil, List.set_cons_zero, List.set_cons_succ, num]
            repeat first | exact Wk.nil | refine Wk.same ?_ | refine wk_any ?_
          · repeat' first|refine Spl.on (fun _=>?_) (fun _=>?_)|with_reducible refine gd ?_|simp only [go_sem, Int.reduceEq, Int.cast_ofNat_Int, Bool.false_eq_true, ej, hgx, hw, hle2, ebx, List.length_map, List.length_append, List.length_cons, List.length_nil]
            all_goals try (exfalso; omega)
            refine lend_mk (n - 1) [.own 9 1 ((putT s (l.take (j + 1))).1.map str), tru (putT s (l.take (j + 1))).2, num ((j + 1 : Nat) : Int)] (by omega) ⟨j + 1, by omega, by omega, rfl⟩ ?_
            rw [hstep]
            simp only [hle, hxe, Bool.not_true, Bool.not_false, Bool.and_true, Bool.true_and, Bool.false_and, Bool.and_false, Bool.or_true, Bool.true_or, Bool.or_false, Bool.false_or, Bool.false_eq_true, if_true, if_false, List.append_nil, List.map_append, List.map_cons, List.map_nil, str, tru]
            simp only [hvm_t, hvm_f, hvm_nil, puts_cons, puts_nil, List.set_cons_zero, List.set_cons_succ, num]
            repeat first | exact Wk.nil | refine Wk.same ?_ | refine wk_any ?_
        · have hxe := eq_false hxs
          have ebx : (x == s) = false := by simp [hxs]
          cases d
          · repeat' first|refine Spl.on (fun _=>?_) (fun _=>?_)|with_reducible refine gd ?_|simp only [go_sem, Int.reduceEq, Int.cast_ofNat_Int, Bool.false_eq_true, ej, hgx, hw, hle2, ebx, List.length_map, List.length_append, List.length_cons, List.length_nil]
            all_goals try (exfalso; omega)
            refine lend_mk (n - 1) [.own 9 1 ((putT s (l.take (j + 1))).1.map str), tru (putT s (l.take (j + 1))).2, num ((j + 1 : Nat) : Int)] (by omega) ⟨j + 1, by omega, by omega, rfl⟩ ?_
            rw [hstep]
            simp only [hle, hxe, Bool.not_true, Bool.not_false, Bool.and_true, Bool.true_and, Bool.false_and, Bool.and_false, Bool.or_true, Bool.true_or, Bool.or_false, Bool.false_or, Bool.false_eq_true, if_true, if_false, List.append_nil, List.map_append, List.map_cons, List.map_nil, str, tru]
            simp only [hvm_t, hvm_f, hvm_nil, puts_cons, puts_nil, List.set_cons_zero, List.set_cons_succ, num]
            repeat first | exact Wk.nil | refine Wk.same ?_ | refine wk_any ?_
          · repeat' first|refine Spl.on (fun _=>?_) (fun _=>?_)|with_reducible refine gd ?_|simp only [go_sem, Int.reduceEq, Int.cast_ofNat_Int, Bool.false_eq_true, ej, hgx, hw, hle2, ebx, List.length_map, List.length_append, List.length_cons, List.length_nil]
            all_goals try (exfalso; omega)
            refine lend_mk (n - 1) [.own 9 1 ((putT s (l.take (j + 1))).1.map str), tru (putT s (l.take (j + 1))).2, num ((j + 1 : Nat) : Int)] (by omega) ⟨j + 1, by omega, by omega, rfl⟩ ?_
            rw [hstep]
            simp only [hle, hxe, Bool.not_true, Bool.not_false, Bool.and_true, Bool.true_and, Bool.false_and, Bool.and_false, Bool.or_true, Bool.true_or, Bool.or_false, Bool.false_or, Bool.false_eq_true, if_true, if_false, List.append_nil, List.map_append, List.map_cons, List.map_nil, str, tru]
            simp only [hvm_t, hvm_f, hvm_nil, puts_cons, puts_nil, List.set_cons_zero, List.set_cons_succ, num]
            repeat first | exact Wk.nil | refine Wk.same ?_ | refine wk_any ?_
      · have hle2 : (Op.bytesLess s x || s == x) = false := hle
        by_cases hxs : x = s
        · have hxe := eq_true hxs
          have ebx : (x == s) = true := by simp [hxs]
          cases d
          · repeat' first|refine Spl.on (fun _=>?_) (fun _=>?_)|with_reducible refine gd ?_|simp only [go_sem, Int.reduceEq, Int.cast_ofNat_Int, Bool.false_eq_true, ej, hgx, hw, hle2, ebx, List.length_map, List.length_append, List.length_cons, List.length_nil]
            all_goals try (exfalso; omega)
            refine lend_mk (n - 1) [.own 9 1 ((putT s (l.take (j + 1))).1.map str), tru (putT s (l.take (j + 1))).2, num ((j + 1 : Nat) : Int)] (by omega) ⟨j + 1, by omega, by omega, rfl⟩ ?_
            rw [hstep]
            simp only [hle, hxe, Bool.not_true, Bool.not_false, Bool.and_true, Bool.true_and, Bool.false_and, Bool.and_false, Bool.or_true, Bool.true_or, Bool.or_false, Bool.false_or, Bool.false_eq_true, if_true, if_false, List.append_nil, List.map_append, List.map_cons, List.map_nil, str, tru]
            simp only [hvm_t, hvm_f, hvm_nil, puts_cons, puts_nil, List.set_cons_zero, List.set_cons_succ, num]
            repeat first | exact Wk.nil | refine Wk.same ?_ | refine wk_any ?_
          · repeat' first|refine Spl.on (fun _=>?_) (fun _=>?_)|with_reducible refine gd ?_|simp only [go_sem, Int.reduceEq, Int.cast_ofNat_Int, Bool.false_eq_true, ej, hgx, hw, hle2, ebx, List.length_map, List.length_append, List.length_cons, List.length_nil]
            all_goals try (exfalso; omega)
            refine lend_mk (n - 1) [.own 9 1 ((putT s (l.take (j + 1))).1.map str), tru (putT s (l.take (j + 1))).2, num ((j + 1 : Nat) : Int)] (by omega) ⟨j + 1, by omega, by omega, rfl⟩ ?_
            rw [hstep]
            simp only [hle, hxe, Bool.not_true, Bool.not_false, Bool.and_true, Bool.true_and, Bool.false_and, Bool.and_false, Bool.or_true, Bool.true_or, Bool.or_false, Bool.false_or, Bool.false_eq_true, if_true, if_false, List.append_nil, List.map_append, List.map_cons, List.map_nil, str, tru]
            simp only [hvm_t, hvm_f, hvm_nil, puts_cons, puts_nil, List.set_cons_zero, List.set_cons_succ, num]
            repeat first | exact Wk.nil | refine Wk.same ?_ | refine wk_any ?_
        · have hxe := eq_false hxs
          have ebx : (x == s) = false := by simp [hxs]
          cases d
          · repeat' first|refine Spl.on (fun _=>?_) (fun _=>?_)|with_reducible refine gd ?_|simp only [go_sem, Int.reduceEq, Int.cast_ofNat_Int, Bool.false_eq_true, ej, hgx, hw, hle2, ebx, List.length_map, List.length_append, List.length_cons, List.length_nil]
            all_goals try (exfalso; omega)
            refine lend_mk (n - 1) [.own 9 1 ((putT s (l.take (j + 1))).1.map str), tru (putT s (l.take (j + 1))).2, num ((j + 1 : Nat) : Int)] (by omega) ⟨j + 1, by omega, by omega, rfl⟩ ?_
            rw [hstep]
            simp only [hle, hxe, Bool.not_true, Bool.not_false, Bool.and_true, Bool.true_and, Bool.false_and, Bool.and_false, Bool.or_true, Bool.true_or, Bool.or_false, Bool.false_or, Bool.false_eq_true, if_true, if_false, List.append_nil, List.map_append, List.map_cons, List.map_nil, str, tru]
            simp only [hvm_t, hvm_f, hvm_nil, puts_cons, puts_nil, List.set_cons_zero, List.set_cons_succ, num]
            repeat first | exact Wk.nil | refine Wk.same ?_ | refine wk_any ?_
          · repeat' first|refine Spl.on (fun _=>?_) (fun _=>?_)|with_reducible refine gd ?_|simp only [go_sem, Int.reduceEq, Int.cast_ofNat_Int, Bool.false_eq_true, ej, hgx, hw, hle2, ebx, List.length_map, List.length_append, List.length_cons, List.length_nil]
            all_goals try (exfalso; omega)
            refine lend_mk (n - 1) [.own 9 1 ((putT s (l.take (j + 1))).1.map str), tru (putT s (l.take (j + 1))).2, num ((j + 1 : Nat) : Int)] (by omega) ⟨j + 1, by omega, by omega, rfl⟩ ?_
            rw [hstep]
            simp only [hle, hxe, Bool.not_true, Bool.not_false, Bool.and_true, Bool.true_and, Bool.false_and, Bool.and_false, Bool.or_true, Bool.true_or, Bool.or_false, Bool.false_or, Bool.false_eq_true, if_true, if_false, List.append_nil, List.map_append, List.map_cons, List.map_nil, str, tru]
            simp only [hvm_t, hvm_f, hvm_nil, puts_cons, puts_nil, List.set_cons_zero, List.set_cons_succ, num]
            repeat first | exact Wk.nil | refine Wk.same ?_ | refine wk_any ?_
    · have ej := eq_false (show ¬ (j : Int) < (l.length : Int) by omega)
      rw [List.take_of_length_le hge] at hol ⊢
      obtain ⟨o, ho⟩ : ∃ o, (putT s l).1 = o := ⟨_, rfl⟩
      obtain ⟨d, hd⟩ : ∃ d, (putT s l).2 = d := ⟨_, rfl⟩
      have hpl : putL l s = o ++ if d then [] else [s] := by rw [putL, ho, hd]
      rw [show putT s l = (o, d) from Prod.ext ho hd] at hol ⊢
      rw [hpl]
      have hol2 : o.length ≤ l.length + 1 := Nat.le_trans (Nat.le_add_right _ _) (Nat.le_trans hol (by omega))
      simp only [tru]
      cases d
      · repeat' first|refine Spl.on (fun _=>?_) (fun _=>?_)|with_reducible refine gd ?_|simp only [go_sem, Int.reduceEq, Int.cast_ofNat_Int, Bool.false_eq_true, ej, List.length_map, List.length_append, List.length_cons, List.length_nil]
        simp only [Bool.false_eq_true, if_false, List.map_append, List.map_cons, List.map_nil, str]
      · repeat' first|refine Spl.on (fun _=>?_) (fun _=>?_)|with_reducible refine gd ?_|simp only [go_sem, Int.reduceEq, Int.cast_ofNat_Int, Bool.false_eq_true, ej, List.length_map, List.length_append, List.length_cons, List.length_nil]
        all_goals simp only [if_true, List.append_nil]
end Go.Proofs.YtkafbgdokgfjmaaGreatDoor
namespace Go.Proofs.YtkafbgdokgfjmaaGreatDoor
open Go.RowKit Go.Proofs
set_option linter.unusedSimpArgs false
set_option linter.unusedVariables false
set_option maxRecDepth 100000
set_option maxHeartbeats 4000000

def topF (o : List Str) (s : Sto) : List Str := if lstd s then s.tp.foldl putL o else o
def topR (L : List Sto) : List Str := L.foldl topF []
def autF (o : List Str) (s : Sto) : List Str := if lstd s then putL o s.au else o
def autR (L : List Sto) : List Str := L.foldl autF []
theorem topF_len : ∀ (L : List Sto) (o : List Str), (∀ s ∈ L, s.tp.length ≤ 1000) → (L.foldl topF o).length ≤ o.length + 1000 * L.length
  | [], o, _ => by simp
  | s :: L, o, h => by
    have h1 := topF_len L (topF o s) (fun y hy => h y (by simp [hy]))
    have h2 : (topF o s).length ≤ o.length + 1000 := by
      unfold topF; split
      · have := putsF_len s.tp o; have := h s (by simp); omega
      · omega
    simp only [List.foldl_cons, List.length_cons]; omega
theorem autF_len : ∀ (L : List Sto) (o : List Str), (L.foldl autF o).length ≤ o.length + L.length
  | [], o => by simp
  | s :: L, o => by
    have h1 := autF_len L (autF o s)
    have h2 : (autF o s).length ≤ o.length + 1 := by
      unfold autF; split
      · exact putL_len _ _
      · omega
    simp only [List.foldl_cons, List.length_cons]; omega
theorem topR_len {L : List Sto} (h : ∀ s ∈ L, s.tp.length ≤ 1000) (i : Nat) : (topR (L.take i)).length ≤ 1000 * i := by
  have := topF_len (L.take i) [] (fun s hs => h s (List.mem_of_mem_take hs))
  rw [List.length_take] at this
  simp only [List.length_nil] at this
  unfold topR; omega
theorem autR_len (L : List Sto) (i : Nat) : (autR (L.take i)).length ≤ i := by
  have := autF_len (L.take i) []
  rw [List.length_take] at this
  simp only [List.length_nil] at this
  unfold autR; omega
theorem refTopics24 (L : List Sto) (tm : List AV) (hl : L.length ≤ 10000) (hs : ∀ s ∈ L, StOk s) (ht : ∀ s ∈ L, s.tp.length ≤ 1000) : ACalls Tryz.prog 45 [stA L tm] (fun r => r = .own 9 1 ((topR L).map str)) := by
  simp only [stA]
  refine calls_short [] ttok hmix Tryz.func45 (by decide) (by decide +kernel) (by simp only [Tryz.f45, Option.bind_some, comp, cops, cguard, gslot, List.getElem?_toArray, List.getElem?_cons_succ, List.getElem?_cons_zero, vlook, tlook, cutAt_nil, cutAt, firstReg, isCut, mkSeq, Nat.reduceAdd, Nat.reduceEqDiff, reduceIte]; rfl) Tryz.ntmps45 Tryz.results45 ⟨_, rfl⟩ rfl ?_
  simp only [List.length_cons, List.length_nil, Nat.reduceAdd, Nat.reduceSub, List.replicate_succ, List.replicate_zero, List.cons_append, List.nil_append, num, str, tru]
  repeat' first|refine Spl.on (fun _=>?_) (fun _=>?_)|with_reducible refine gd ?_|simp only [go_sem, Int.reduceEq, Int.cast_ofNat_Int, Bool.false_eq_true]
  refine cwp_loop [false, false, false, true, true, true, true, true, true, true, true, true, true, true, true, true, true, true, true, true, true, true, true, true, true, true, true, true, true, true, true, true, true, true, true, true, true, true, true, false] [3, 4] (fun n xs => ∃ i : Nat, i ≤ L.length ∧ i + n = L.length ∧ xs = [.own 9 1 ((topR (L.take i)).map str), num i]) ⟨L.length, _, ⟨0, by omega, by omega, rfl⟩, ?_⟩ ?_
  · simp only [List.take_zero, topR, List.foldl_nil, List.map_nil]
    simp only [hvm_t, hvm_f, hvm_nil, puts_cons, puts_nil, List.set_cons_zero, List.set_cons_succ, num]
    repeat first | exact Wk.nil | exact Wk.refl _ | refine wk_ownsl ?_ | refine wk_nilown ?_ | refine wk_nilsl ?_ | refine Wk.same ?_ | refine wk_any ?_
  · rintro n xs ⟨i, hil, hn, rfl⟩
    have hol := topR_len ht i
    simp only [hvm_t, hvm_f, hvm_nil, puts_cons, puts_nil, List.set_cons_zero, List.set_cons_succ, num]
    rcases Nat.lt_or_ge i L.length with hlt | hge
    · have ej := eq_true (show (i : Int) < (L.length : Int) by omega)
      obtain ⟨s, hx, hd⟩ := drop_at hlt
      have hso := hs s (List.mem_of_getElem? hx)
      have hst := ht s (List.mem_of_getElem? hx)
      have hgx := sto_at hx
      simp only [num, str, tru] at hgx
      have hw : IntKind.i64.wrap ((i : Int) + 1) = ((i + 1 : Nat) : Int) := wrap_succ (by omega)
      have hstep : topR (L.take (i + 1)) = topF (topR (L.take i)) s := foldl_at hx
      obtain ⟨o, ho⟩ : ∃ o, topR (L.take i) = o := ⟨_, rfl⟩
      rw [ho] at hol hstep ⊢
      repeat' first|refine Spl.on (fun _=>?_) (fun _=>?_)|with_reducible refine gd ?_|simp only [go_sem, Int.reduceEq, Int.cast_ofNat_Int, Bool.false_eq_true, ej, hgx, hw, List.length_map, List.length_append, List.length_cons, List.length_nil]
      refine ((Listed43 s hso.2).wk ?_).mono ?_
      · simp only [sto, stoC, num, str, tru]
        repeat first | exact Wk.nil | exact Wk.refl _ | refine wk_agg ?_ ?_ | refine wk_ownsl ?_ | refine wk_nilsl ?_ | refine Wk.same ?_
      rintro r rfl
      simp only [tru]
      cases hls : lstd s
      · have hstep2 : topR (L.take (i + 1)) = o := by rw [hstep, topF, hls]; rfl
        repeat' first|refine Spl.on (fun _=>?_) (fun _=>?_)|with_reducible refine gd ?_|simp only [go_sem, Int.reduceEq, Int.cast_ofNat_Int, Bool.false_eq_true, ej, hgx, hw, List.length_map, List.length_append, List.length_cons, List.length_nil]
        refine cwp_loop [false, false, false, true, false, false, false, true, false, false, false, false, false, false, false, false, false, false, false, false, false, false, true, true, true, true, true, true, true, true, true, true, true, true, true, true, true, true, true, false] [3, 7] (fun n2 xs => xs = [.own 9 1 (o.map str), num 0]) ⟨0, _, rfl, ?_⟩ ?_
        · simp only [hvm_t, hvm_f, hvm_nil, puts_cons, puts_nil, List.set_cons_zero, List.set_cons_succ, num]
          repeat first | exact Wk.nil | exact Wk.refl _ | refine wk_ownsl ?_ | refine wk_nilown ?_ | refine wk_nilsl ?_ | refine Wk.same ?_ | refine wk_any ?_
        · rintro n2 xs rfl
          simp only [hvm_t, hvm_f, hvm_nil, puts_cons, puts_nil, List.set_cons_zero, List.set_cons_succ, num]
          repeat' first|refine Spl.on (fun _=>?_) (fun _=>?_)|with_reducible refine gd ?_|simp only [go_sem, Int.reduceEq, Int.cast_ofNat_Int, Bool.false_eq_true, ej, hgx, hw, List.length_map, List.length_append, List.length_cons, List.length_nil]
          refine lend_mk (n - 1) [.own 9 1 ((topR (L.take (i + 1))).map str), num ((i + 1 : Nat) : Int)] (by omega) ⟨i + 1, by omega, by omega, rfl⟩ ?_
          rw [hstep2]
          simp only [hvm_t, hvm_f, hvm_nil, puts_cons, puts_nil, List.set_cons_zero, List.set_cons_succ, num]
          repeat first | exact Wk.nil | refine Wk.same ?_ | refine wk_any ?_
      · have hstep2 : topR (L.take (i + 1)) = s.tp.foldl putL o := by rw [hstep, topF, hls]; rfl
        repeat' first|refine Spl.on (fun _=>?_) (fun _=>?_)|with_reducible refine gd ?_|simp only [go_sem, Int.reduceEq, Int.cast_ofNat_Int, Bool.false_eq_true, ej, hgx, hw, List.length_map, List.length_append, List.length_cons, List.length_nil]
        refine cwp_loop [false, false, false, true, false, false, false, true, false, false, false, false, false, false, false, false, false, false, false, false, false, false, true, true, true, true, true, true, true, true, true, true, true, true, true, true, true, true, true, false] [3, 7] (fun n2 xs => ∃ k : Nat, k ≤ s.tp.length ∧ k + n2 = s.tp.length ∧ xs = [.own 9 1 (((s.tp.take k).foldl putL o).map str), num k]) ⟨s.tp.length, _, ⟨0, by omega, by omega, rfl⟩, ?_⟩ ?_
        · simp only [List.take_zero, List.foldl_nil]
          simp only [hvm_t, hvm_f, hvm_nil, puts_cons, puts_nil, List.set_cons_zero, List.set_cons_succ, num]
          repeat first | exact Wk.nil | exact Wk.refl _ | refine wk_ownsl ?_ | refine wk_nilown ?_ | refine wk_nilsl ?_ | refine Wk.same ?_ | refine wk_any ?_
        · rintro n2 xs ⟨k, hkl, hn2, rfl⟩
          have hol2 := putsF_len (s.tp.take k) o
          rw [List.length_take] at hol2
          simp only [hvm_t, hvm_f, hvm_nil, puts_cons, puts_nil, List.set_cons_zero, List.set_cons_succ, num]
          rcases Nat.lt_or_ge k s.tp.length with hkt | hkg
          · have ek := eq_true (show (k : Int) < (s.tp.length : Int) by omega)
            obtain ⟨t, htx, htd⟩ := drop_at hkt
            have hgt := strs_at htx
            have hwk : IntKind.i64.wrap ((k : Int) + 1) = ((k + 1 : Nat) : Int) := wrap_succ (by omega)
            have hstp : (s.tp.take (k + 1)).foldl putL o = putL ((s.tp.take k).foldl putL o) t := foldl_at htx
            obtain ⟨o2, ho2⟩ : ∃ o2, (s.tp.take k).foldl putL o = o2 := ⟨_, rfl⟩
            rw [ho2] at hol2 hstp ⊢
            repeat' first|refine Spl.on (fun _=>?_) (fun _=>?_)|with_reducible refine gd ?_|simp only [go_sem, Int.reduceEq, Int.cast_ofNat_Int, Bool.false_eq_true, ek, hgt, hwk, ej, hgx, hw, List.length_map, List.length_append, List.length_cons, List.length_nil]
            refine ((put44 o2 t (by omega)).wk ?_).mono ?_
            · simp only [str]
              repeat first | exact Wk.nil | exact Wk.refl _ | refine wk_agg ?_ ?_ | refine wk_ownsl ?_ | refine wk_nilsl ?_ | refine Wk.same ?_
            rintro r rfl
            repeat' first|refine Spl.on (fun _=>?_) (fun _=>?_)|with_reducible refine gd ?_|simp only [go_sem, Int.reduceEq, Int.cast_ofNat_Int, Bool.false_eq_true, ek, hgt, hwk, ej, hgx, hw, List.length_map, List.length_append, List.length_cons, List.length_nil]
            refine lend_mk (n2 - 1) [.own 9 1 (((s.tp.take (k + 1)).foldl putL o).map str), num ((k + 1 : Nat) : Int)] (by omega) ⟨k + 1, by omega, by omega, rfl⟩ ?_
            rw [hstp]
            simp only [hvm_t, hvm_f, hvm_nil, puts_cons, puts_nil, List.set_cons_zero, List.set_cons_succ, num]
            repeat first | exact Wk.nil | refine Wk.same ?_ | refine wk_any ?_
          · have ek := eq_false (show ¬ (k : Int) < (s.tp.length : Int) by omega)
            rw [List.take_of_length_le hkg, ← hstep2]
            repeat' first|refine Spl.on (fun _=>?_) (fun _=>?_)|with_reducible refine gd ?_|simp only [go_sem, Int.reduceEq, Int.cast_ofNat_Int, Bool.false_eq_true, ek, ej, hgx, hw, List.length_map, List.length_append, List.length_cons, List.length_nil]
            refine lend_mk (n - 1) [.own 9 1 ((topR (L.take (i + 1))).map str), num ((i + 1 : Nat) : Int)] (by omega) ⟨i + 1, by omega, by omega, rfl⟩ ?_
            simp only [hvm_t, hvm_f, hvm_nil, puts_cons, puts_nil, List.set_cons_zero, List.set_cons_succ, num]
            repeat first | exact Wk.nil | refine Wk.same ?_ | refine wk_any ?_
    · have ej := eq_false (show ¬ (i : Int) < (L.length : Int) by omega)
      rw [List.take_of_length_le hge]
      repeat' first|refine Spl.on (fun _=>?_) (fun _=>?_)|with_reducible refine gd ?_|simp only [go_sem, Int.reduceEq, Int.cast_ofNat_Int, Bool.false_eq_true, ej, List.length_map]
theorem refAuthors26 (L : List Sto) (tm : List AV) (hl : L.length ≤ 10000) (hs : ∀ s ∈ L, StOk s) : ACalls Tryz.prog 47 [stA L tm] (fun r => r = .own 9 1 ((autR L).map str)) := by
  simp only [stA]
  refine calls_short [] ttok hmix Tryz.func47 (by decide) (by decide +kernel) (by simp only [Tryz.f47, Option.bind_some, comp, cops, cguard, gslot, List.getElem?_toArray, List.getElem?_cons_succ, List.getElem?_cons_zero, vlook, tlook, cutAt_nil, cutAt, firstReg, isCut, mkSeq, Nat.reduceAdd, Nat.reduceEqDiff, reduceIte]; rfl) Tryz.ntmps47 Tryz.results47 ⟨_, rfl⟩ rfl ?_
  simp only [List.length_cons, List.length_nil, Nat.reduceAdd, Nat.reduceSub, List.replicate_succ, List.replicate_zero, List.cons_append, List.nil_append, num, str, tru]
  repeat' first|refine Spl.on (fun _=>?_) (fun _=>?_)|with_reducible refine gd ?_|simp only [go_sem, Int.reduceEq, Int.cast_ofNat_Int, Bool.false_eq_true]
  refine cwp_loop [false, false, false, true, true, true, true, true, true, true, true, true, true, true, true, true, true, true, true, true, true, true, true, true, true, true, true, true, false] [3, 4] (fun n xs => ∃ i : Nat, i ≤ L.length ∧ i + n = L.length ∧ xs = [.own 9 1 ((autR (L.take i)).map str), num i]) ⟨L.length, _, ⟨0, by omega, by omega, rfl⟩, ?_⟩ ?_
  · simp only [List.take_zero, autR, List.foldl_nil, List.map_nil]
    simp only [hvm_t, hvm_f, hvm_nil, puts_cons, puts_nil, List.set_cons_zero, List.set_cons_succ, num]
    repeat first | exact Wk.nil | exact Wk.refl _ | refine wk_ownsl ?_ | refine wk_nilown ?_ | refine wk_nilsl ?_ | refine Wk.same ?_ | refine wk_any ?_
  · rintro n xs ⟨i, hil, hn, rfl⟩
    have hol := autR_len L i
    simp only [hvm_t, hvm_f, hvm_nil, puts_cons, puts_nil, List.set_cons_zero, List.set_cons_succ, num]
    rcases Nat.lt_or_ge i L.length with hlt | hge
    · have ej := eq_true (show (i : Int) < (L.length : Int) by omega)
      obtain ⟨s, hx, hd⟩ := drop_at hlt
      have hso := hs s (List.mem_of_getElem? hx)
      have hgx := sto_at hx
      simp only [num, str, tru] at hgx
      have hw : IntKind.i64.wrap ((i : Int) + 1) = ((i + 1 : Nat) : Int) := wrap_succ (by omega)
      have hstep : autR (L.take (i + 1)) = autF (autR (L.take i)) s := foldl_at hx
      obtain ⟨o, ho⟩ : ∃ o, autR (L.take i) = o := ⟨_, rfl⟩
      rw [ho] at hol hstep ⊢
      repeat' first|refine Spl.on (fun _=>?_) (fun _=>?_)|with_reducible refine gd ?_|simp only [go_sem, Int.reduceEq, Int.cast_ofNat_Int, Bool.false_eq_true, ej, hgx, hw, List.length_map, List.length_append, List.length_cons, List.length_nil]
      refine ((Listed43 s hso.2).wk ?_).mono ?_
      · simp only [sto, stoC, num, str, tru]
        repeat first | exact Wk.nil | exact Wk.refl _ | refine wk_agg ?_ ?_ | refine wk_ownsl ?_ | refine wk_nilsl ?_ | refine Wk.same ?_
      rintro r rfl
      simp only [tru]
      cases hls : lstd s
      · have hstep2 : autR (L.take (i + 1)) = o := by rw [hstep, autF, hls]; rfl
        repeat' first|refine Spl.on (fun _=>?_) (fun _=>?_)|with_reducible refine gd ?_|simp only [go_sem, Int.reduceEq, Int.cast_ofNat_Int, Bool.false_eq_true, ej, hgx, hw, List.length_map, List.length_append, List.length_cons, List.length_nil]
        refine lend_mk (n - 1) [.own 9 1 ((autR (L.take (i + 1))).map str), num ((i + 1 : Nat) : Int)] (by omega) ⟨i + 1, by omega, by omega, rfl⟩ ?_
        rw [hstep2]
        simp only [hvm_t, hvm_f, hvm_nil, puts_cons, puts_nil, List.set_cons_zero, List.set_cons_succ, num]
        repeat first | exact Wk.nil | refine Wk.same ?_ | refine wk_any ?_
      · have hstep2 : autR (L.take (i + 1)) = putL o s.au := by rw [hstep, autF, hls]; rfl
        repeat' first|refine Spl.on (fun _=>?_) (fun _=>?_)|with_reducible refine gd ?_|simp only [go_sem, Int.reduceEq, Int.cast_ofNat_Int, Bool.false_eq_true, ej, hgx, hw, List.length_map, List.length_append, List.length_cons, List.length_nil]
        refine ((put44 o s.au (by omega)).wk ?_).mono ?_
        · simp only [str]
          repeat first | exact Wk.nil | exact Wk.refl _ | refine wk_agg ?_ ?_ | refine wk_ownsl ?_ | refine wk_nilsl ?_ | refine Wk.same ?_
        rintro r rfl
        repeat' first|refine Spl.on (fun _=>?_) (fun _=>?_)|with_reducible refine gd ?_|simp only [go_sem, Int.reduceEq, Int.cast_ofNat_Int, Bool.false_eq_true, ej, hgx, hw, List.length_map, List.length_append, List.length_cons, List.length_nil]
        refine lend_mk (n - 1) [.own 9 1 ((autR (L.take (i + 1))).map str), num ((i + 1 : Nat) : Int)] (by omega) ⟨i + 1, by omega, by omega, rfl⟩ ?_
        rw [hstep2]
        simp only [hvm_t, hvm_f, hvm_nil, puts_cons, puts_nil, List.set_cons_zero, List.set_cons_succ, num]
        repeat first | exact Wk.nil | refine Wk.same ?_ | refine wk_any ?_
    · have ej := eq_false (show ¬ (i : Int) < (L.length : Int) by omega)
      rw [List.take_of_length_le hge]
      repeat' first|refine Spl.on (fun _=>?_) (fun _=>?_)|with_reducible refine gd ?_|simp only [go_sem, Int.reduceEq, Int.cast_ofNat_Int, Bool.false_eq_true, ej, List.length_map]
def commF (b : List Str) : List Str → List Str → Nat
  | _, [] => 0
  | seen, x :: r => (if x ∉ seen ∧ x ∈ b then 1 else 0) + commF b (seen ++ [x]) r
theorem commF_app (b : List Str) : ∀ (l seen : List Str) (x : Str), commF b seen (l ++ [x]) = commF b seen l + if x ∉ seen ++ l ∧ x ∈ b then 1 else 0
  | [], seen, x => by simp [commF]
  | y :: l, seen, x => by
    have := commF_app b l (seen ++ [y]) x
    simp only [List.cons_append, commF, this, List.append_assoc, List.nil_append]
    omega
theorem commF_at {b l : List Str} {j : Nat} {x : Str} (h : l[j]? = some x) : commF b [] (l.take (j + 1)) = commF b [] (l.take j) + if x ∉ l.take j ∧ x ∈ b then 1 else 0 := by
  rw [List.take_add_one, h]
  exact commF_app b (l.take j) [] x
theorem commF_le (b : List Str) : ∀ (l seen : List Str), commF b seen l ≤ l.length
  | [], _ => by simp [commF]
  | x :: l, seen => by
    have := commF_le b l (seen ++ [x])
    simp only [commF, List.length_cons]; split <;> omega
def cmn (s t : Sto) : Nat := commF t.tp [] s.tp
end Go.Proofs.YtkafbgdokgfjmaaGreatDoor
namespace Go.Proofs.YtkafbgdokgfjmaaGreatDoor
open Go.RowKit Go.Proofs
set_option linter.unusedSimpArgs false
set_option linter.unusedVariables false
set_option maxRecDepth 100000
set_option maxHeartbeats 4000000

theorem encS_one : ∀ a : Str, (encStr a).oneCell' = true := fun _ => rfl
theorem raws_str (zs : List Str) : rawsA encStr zs = zs.map str := rfl
theorem sort66 (zs : List Str) (h : zs.length ≤ 10000000) : RCalls Tryz.prog 42 (.row 9 1 (zs.map str)) [] (fun r y => r = .tup [] ∧ y = .row 9 1 ((zs.mergeSort fun x y => decide (x ≤ y)).map str)) :=
  sort_raw ⟨_, _, Tryz.func42, rfl, by decide⟩ encS_one (fun l => l.mergeSort fun x y => decide (x ≤ y)) (fun l => List.length_mergeSort l) zs Tryz.slices_Sort_string_none
    (fun b cap w hH hb => Tryz.slices_Sort_string b 0 cap zs w hH hb (by omega))
theorem compact67 (zs : List Str) (h : zs.length ≤ 10000000) : ACalls Tryz.prog 43 [.mine 9 1 (zs.map str)] (fun r => r = .own 9 1 ((Lib.compact zs).map str)) :=
  compact_raw ⟨_, _, Tryz.func43, rfl, by decide⟩ encS_one Lib.compact (fun l => Lib.compact_length_le l) [] zs Tryz.slices_Compact_string_empty
    (fun b cap w hH hc => Tryz.slices_Compact_string b 0 cap zs w hH (by omega) hc)
theorem clone65' (zs : List Str) (h : zs.length ≤ 1000000000) : ACalls Tryz.prog 121 [.sl 1 (zs.map str)] (fun r => r = .nil ∧ zs = [] ∨ r = .mine 9 1 (zs.map str)) := by
  refine calls_short [] ttok hmix Tryz.func121 (by decide) (by decide +kernel) (by simp only [Tryz.f121, Option.bind_some, comp, isLend, lendOf, lendX, lendC, lendH, Nat.reduceLeDiff, Nat.reduceSub, ne_eq, not_false_eq_true, and_self, cops, cguard, gslot, List.getElem?_toArray, List.getElem?_cons_succ, List.getElem?_cons_zero, vlook, tlook, cutAt_nil, cutAt, firstReg, isCut, mkSeq, Nat.reduceAdd, Nat.reduceEqDiff, reduceIte]; rfl) Tryz.ntmps121 Tryz.results121 ⟨_, .inr rfl⟩ rfl ?_
  simp only [List.length_cons, List.length_nil, Nat.reduceAdd, Nat.reduceSub, List.replicate_succ, List.replicate_zero, List.cons_append, List.nil_append, num, str, tru]
  repeat' first|refine Spl.on (fun _=>?_) (fun _=>?_)|with_reducible refine gd ?_|simp only [go_sem, Int.reduceEq, Int.cast_ofNat_Int, Bool.false_eq_true, List.length_map]
  refine ⟨fun h0 => ?_, ?_⟩
  · have hz : zs = [] := List.eq_nil_of_length_eq_zero h0
    repeat' first|refine Spl.on (fun _=>?_) (fun _=>?_)|with_reducible refine gd ?_|simp only [go_sem, Int.reduceEq, Int.cast_ofNat_Int, Bool.false_eq_true, List.length_map]
    exact .inl hz
  · repeat' first|refine Spl.on (fun _=>?_) (fun _=>?_)|with_reducible refine gd ?_|simp only [go_sem, Int.reduceEq, Int.cast_ofNat_Int, Bool.false_eq_true, List.length_map, List.nil_append]
    first | exact .inr rfl | exact .inr trivial
theorem clone65 (zs : List Str) (h : zs.length ≤ 1000000000) : ACalls Tryz.prog 121 [.sl 1 (zs.map str)] (fun r => r = .mine 9 1 (zs.map str)) := by
  refine (clone65' zs h).wkr ?_
  rintro r (⟨rfl, rfl⟩ | rfl)
  · exact ⟨_, W1.nilmine 9 1, rfl, rfl⟩
  · exact ⟨_, W1.refl _, rfl, rfl⟩
theorem distinct42 (zs : List Str) (h : zs.length ≤ 10000000) : ACalls Tryz.prog 90 [.sl 1 (zs.map str)] (fun r => r = .own 9 1 ((dst zs).map str)) := by
  refine calls_short [(2,[100003],[]),(3,[100003],[])] ttok hmix Tryz.func90 (by decide) (by decide +kernel) (by simp only [Tryz.f90, Option.bind_some, comp, isLend, lendOf, lendX, lendC, lendH, Nat.reduceLeDiff, Nat.reduceSub, ne_eq, not_false_eq_true, and_self, cops, cguard, gslot, List.getElem?_toArray, List.getElem?_cons_succ, List.getElem?_cons_zero, vlook, tlook, cutAt_nil, cutAt, firstReg, isCut, mkSeq, Nat.reduceAdd, Nat.reduceEqDiff, reduceIte]; rfl) Tryz.ntmps90 Tryz.results90 ⟨_, rfl⟩ rfl ?_
  simp only [List.length_cons, List.length_nil, Nat.reduceAdd, Nat.reduceSub, List.replicate_succ, List.replicate_zero, List.cons_append, List.nil_append, num, str, tru]
  repeat' first|refine Spl.on (fun _=>?_) (fun _=>?_)|with_reducible refine gd ?_|simp only [go_sem, Int.reduceEq, Int.cast_ofNat_Int, Bool.false_eq_true]
  refine (clone65 zs (by omega)).mono ?_
  rintro r rfl
  repeat' first|refine Spl.on (fun _=>?_) (fun _=>?_)|with_reducible refine gd ?_|simp only [go_sem, Int.reduceEq, Int.cast_ofNat_Int, Bool.false_eq_true]
  refine RCalls.mono (sort66 zs h) ?_
  rintro r y ⟨rfl, rfl⟩
  repeat' first|refine Spl.on (fun _=>?_) (fun _=>?_)|with_reducible refine gd ?_|simp only [go_sem, Int.reduceEq, Int.cast_ofNat_Int, Bool.false_eq_true]
  refine (compact67 _ (by rw [List.length_mergeSort]; exact h)).mono ?_
  rintro r rfl
  repeat' first|refine Spl.on (fun _=>?_) (fun _=>?_)|with_reducible refine gd ?_|simp only [go_sem, Int.reduceEq, Int.cast_ofNat_Int, Bool.false_eq_true]
  rfl
theorem reverse40 (XS : List (Sto × Nat)) (hl : XS.length ≤ 1000000) : RCalls Tryz.prog 51 (.row 88 9 (XS.map qY)) [] (fun r y => r = .tup [] ∧ y = .row 88 9 (XS.reverse.map qY)) := by
  rw [List.map_reverse]
  refine reverse_row Tryz.laysSlE035_f51 9 (by decide) Tryz.isAgg88 Tryz.sizeOf88 ⟨_, _, Tryz.func51, rfl, by decide⟩ (XS.map qY) (fun x hx => ?_) (by simpa using hl)
  obtain ⟨y, _, rfl⟩ := List.mem_map.1 hx
  exact ⟨_, rfl, rfl⟩
theorem newest32M (L : List Sto) (tm : List AV) (cs : List Cnd) (hl : L.length ≤ 1000000) (hs : ∀ s ∈ L, StOk s) (hcl : cs.length ≤ 1000000) (hc : ∀ c ∈ cs, CndOk c) : ACalls Tryz.prog 48 [stA L tm, .sl 1 (cs.map cloA)] (fun r => r = .mine 88 9 ((newP (selF (holdsB cs) 0 L)).map qY)) := by
  simp only [stA]
  refine calls_short [(2,[100005],[]),(3,[100005],[])] ttok hmix Tryz.func48 (by decide) (by decide +kernel) (by simp only [Tryz.f48, Option.bind_some, comp, isLend, lendOf, lendX, lendC, lendH, Nat.reduceLeDiff, Nat.reduceSub, ne_eq, not_false_eq_true, and_self, cops, cguard, gslot, List.getElem?_toArray, List.getElem?_cons_succ, List.getElem?_cons_zero, vlook, tlook, cutAt_nil, cutAt, firstReg, isCut, mkSeq, Nat.reduceAdd, Nat.reduceEqDiff, reduceIte]; rfl) Tryz.ntmps48 Tryz.results48 ⟨_, rfl⟩ rfl ?_
  simp only [List.length_cons, List.length_nil, Nat.reduceAdd, Nat.reduceSub, List.replicate_succ, List.replicate_zero, List.cons_append, List.nil_append, num, str, tru]
  repeat' first|refine Spl.on (fun _=>?_) (fun _=>?_)|with_reducible refine gd ?_|simp only [go_sem, Int.reduceEq, Int.cast_ofNat_Int, Bool.false_eq_true]
  refine ((each41 L tm cs).wk ?_).mono ?_
  · simp only [stA]
    repeat first | exact Wk.nil | exact Wk.refl _ | refine wk_agg ?_ ?_ | refine wk_ownsl ?_ | refine wk_nilsl ?_ | refine Wk.same ?_
  rintro r rfl
  simp only [stA]
  repeat' first|refine Spl.on (fun _=>?_) (fun _=>?_)|with_reducible refine gd ?_|simp only [go_sem, Int.reduceEq, Int.cast_ofNat_Int, Bool.false_eq_true]
  refine (collect59 (selF (holdsB cs) 0 L) (by have := selF_len (p := holdsB cs) L 0; omega) (each64 L tm cs hl hs hcl hc)).mono ?_
  rintro r rfl
  repeat' first|refine Spl.on (fun _=>?_) (fun _=>?_)|with_reducible refine gd ?_|simp only [go_sem, Int.reduceEq, Int.cast_ofNat_Int, Bool.false_eq_true]
  refine RCalls.mono (sort60 (selF (holdsB cs) 0 L) (by have := selF_len (p := holdsB cs) L 0; omega) (selF_asc L 0)) ?_
  rintro r y ⟨rfl, rfl⟩
  repeat' first|refine Spl.on (fun _=>?_) (fun _=>?_)|with_reducible refine gd ?_|simp only [go_sem, Int.reduceEq, Int.cast_ofNat_Int, Bool.false_eq_true]
theorem W1.tup {xs ys : List AV} (h : Wk xs ys) : W1 (.tup xs) (.tup ys) := fun w S v c hr => by
  cases hr with
  | tup h1 h' hc =>
    cases h' with
    | nil hz =>
      obtain ⟨c', h2, hle⟩ := h.rep h1
      exact ⟨c', .tup h2 (.nil zc0) (fun b => by simp), fun b => by rw [hc]; have := hle b; omega⟩
theorem page20' (L : List Sto) (tm : List AV) (v : List UInt8) (p : Int) (hp : I64 p) (hl : L.length ≤ 100000) (hs : ∀ s ∈ L, StOk s) : ACalls Tryz.prog 28 [stA L tm, str v, num p] (fun r => r = .tup [.nil, num (((newL v L).length + 4) / 5 : Nat)] ∧ pgL ((newL v L).reverse.map (·.id)) p = [] ∨ r = .tup [.own 3 1 (nums (pgL ((newL v L).reverse.map (·.id)) p)), num (((newL v L).length + 4) / 5 : Nat)]) := by
  simp only [stA]
  refine calls_short [(1,[4],[]),(2,[100008],[]),(3,[8],[])] ttok hmix Tryz.func28 (by decide) (by decide +kernel) (by simp only [Tryz.f28, Option.bind_some, comp, isLend, lendOf, lendX, lendC, lendH, Nat.reduceLeDiff, Nat.reduceSub, ne_eq, not_false_eq_true, and_self, cops, cguard, gslot, List.getElem?_toArray, List.getElem?_cons_succ, List.getElem?_cons_zero, vlook, tlook, cutAt_nil, cutAt, firstReg, isCut, mkSeq, Nat.reduceAdd, Nat.reduceEqDiff, reduceIte]; rfl) Tryz.ntmps28 Tryz.results28 ⟨_, .inr rfl⟩ rfl ?_
  simp only [List.length_cons, List.length_nil, Nat.reduceAdd, Nat.reduceSub, List.replicate_succ, List.replicate_zero, List.cons_append, List.nil_append, num, str, tru]
  repeat' first|refine Spl.on (fun _=>?_) (fun _=>?_)|with_reducible refine gd ?_|simp only [go_sem, Int.reduceEq, Int.cast_ofNat_Int, Bool.false_eq_true]
  refine ((newest32M L tm [cLat v 49] (by omega) hs (by simp) (fun c hc s a ho => ?_)).wk ?_).mono ?_
  · rw [List.mem_singleton] at hc
    subst hc
    exact page39 s a v ho.1
  · simp only [stA, List.map_cons, List.map_nil, cloA, cLat, cBy, num, str, tru]
    repeat first | exact Wk.nil | exact Wk.refl _ | refine wk_agg ?_ ?_ | refine wk_ownsl ?_ | refine wk_nilsl ?_ | refine Wk.same ?_
  rintro r rfl
  rw [holds_lat]
  have hXl : (newP (selF (fun s _ => hasB s v) 0 L)).length ≤ L.length := by rw [newP_len]; exact selF_len L 0
  have hM := newP_map v L
  obtain ⟨XS, hX⟩ : ∃ XS, newP (selF (fun s _ => hasB s v) 0 L) = XS := ⟨_, rfl⟩
  rw [hX] at hXl hM ⊢
  obtain ⟨M, hMM⟩ : ∃ M, newL v L = M := ⟨_, rfl⟩
  rw [hMM] at hM ⊢
  have hMl : M.length = XS.length := by rw [← hM, List.length_map]
  repeat' first|refine Spl.on (fun _=>?_) (fun _=>?_)|with_reducible refine gd ?_|simp only [go_sem, Int.reduceEq, Int.cast_ofNat_Int, Bool.false_eq_true]
  refine RCalls.mono (reverse40 XS (by omega)) ?_
  rintro r y ⟨rfl, rfl⟩
  have hids : M.reverse.map (·.id) = XS.reverse.map (·.1.id) := by rw [← hM, List.map_reverse, List.map_reverse, List.map_map]; rfl
  rw [hids]
  obtain ⟨O, hO⟩ : ∃ O, XS.reverse = O := ⟨_, rfl⟩
  have hOl : O.length = M.length := by rw [← hO, List.length_reverse, hMl]
  rw [hO, ← hOl]
  obtain ⟨p1, p2⟩ := hp
  have hq : (O.length : Int).tdiv 5 = ((O.length / 5 : Nat) : Int) := (Int.ofNat_tdiv O.length 5).symm
  have hm : (O.length : Int).tmod 5 = ((O.length % 5 : Nat) : Int) := tmod_nat (n := 5) (by omega)
  have hwq : IntKind.i64.wrap ((O.length / 5 : Nat) : Int) = ((O.length / 5 : Nat) : Int) := wrap_in (by omega) (by omega)
  have hwm : IntKind.i64.wrap ((O.length % 5 : Nat) : Int) = ((O.length % 5 : Nat) : Int) := wrap_in (by omega) (by omega)
  obtain ⟨np, hnp⟩ : ∃ np, (O.length + 4) / 5 = np := ⟨_, rfl⟩
  rw [hnp]
  by_cases h5 : 0 < O.length % 5
  · have e5 := eq_true (show (0 : Int) < ((O.length % 5 : Nat) : Int) by omega)
    have hwp : IntKind.i64.wrap (((O.length / 5 : Nat) : Int) + 1) = (np : Int) := by rw [wrap_in (by omega) (by omega)]; omega
    have hwn : IntKind.i64.wrap (np : Int) = (np : Int) := wrap_in (by omega) (by omega)
    by_cases h1 : p < 1
    · have e1 := eq_true h1
      repeat' first|refine Spl.on (fun _=>?_) (fun _=>?_)|with_reducible refine gd ?_|simp only [go_sem, Int.reduceEq, Int.cast_ofNat_Int, Bool.false_eq_true, hq, hm, hwq, hwm, e5, hwp, hwn, List.length_map, e1]
      have hp0 : pgL (O.map (·.1.id)) p = [] := by rw [pgL, if_neg (by omega)]
      first | exact .inl ⟨rfl, hp0⟩ | exact .inl hp0
    have e1 := eq_false h1
    by_cases h2 : (np : Int) < p
    · have e2 := eq_true h2
      repeat' first|refine Spl.on (fun _=>?_) (fun _=>?_)|with_reducible refine gd ?_|simp only [go_sem, Int.reduceEq, Int.cast_ofNat_Int, Bool.false_eq_true, hq, hm, hwq, hwm, e5, hwp, hwn, List.length_map, e1, e2]
      have hp0 : pgL (O.map (·.1.id)) p = [] := by rw [pgL, if_pos (by omega), List.drop_of_length_le (by rw [List.length_map]; omega), List.take_nil]
      first | exact .inl ⟨rfl, hp0⟩ | exact .inl hp0
    have e2 := eq_false h2
    have hw1 : IntKind.i64.wrap (p - 1) = p - 1 := wrap_in (by omega) (by omega)
    have hw2 : IntKind.i64.wrap ((p - 1) * 5) = (p - 1) * 5 := wrap_in (by omega) (by omega)
    have hdr : List.take (O.length - ((p - 1) * 5).toNat) (List.drop ((p - 1) * 5).toNat (O.map qY)) = (O.drop ((p - 1) * 5).toNat).map qY := by
      rw [← List.map_drop, List.take_of_length_le (by simp)]
    repeat' first|refine Spl.on (fun _=>?_) (fun _=>?_)|with_reducible refine gd ?_|simp only [go_sem, Int.reduceEq, Int.cast_ofNat_Int, Bool.false_eq_true, hq, hm, hwq, hwm, e5, hwp, hwn, List.length_map, e1, e2, hw1, hw2, hdr, Int.toNat_natCast]
    refine ((convert35 (O.drop ((p - 1) * 5).toNat) 5 (by rw [List.length_drop]; omega)).wk ?_).mono ?_
    · simp only [num, str, tru]
      repeat first | exact Wk.nil | exact Wk.refl _ | refine wk_agg ?_ ?_ | refine wk_ownsl ?_ | refine wk_nilsl ?_ | refine Wk.same ?_
    rintro r rfl
    repeat' first|refine Spl.on (fun _=>?_) (fun _=>?_)|with_reducible refine gd ?_|simp only [go_sem, Int.reduceEq, Int.cast_ofNat_Int, Bool.false_eq_true, hq, hm, hwq, hwm, e5, hwp, hwn, List.length_map, e1, e2]
    have hpg : pgL (O.map (·.1.id)) p = ((O.drop ((p - 1) * 5).toNat).map (·.1.id)).take 5 := by
      rw [pgL, if_pos (by omega), List.map_drop, show 5 * (p - 1).toNat = ((p - 1) * 5).toNat by omega]
    all_goals rw [hpg]
    all_goals first | exact .inr rfl | rfl
  · have e5 := eq_false (show ¬ (0 : Int) < ((O.length % 5 : Nat) : Int) by omega)
    have hwp : ((O.length / 5 : Nat) : Int) = (np : Int) := by omega
    have hwn : IntKind.i64.wrap (np : Int) = (np : Int) := wrap_in (by omega) (by omega)
    by_cases h1 : p < 1
    · have e1 := eq_true h1
      repeat' first|refine Spl.on (fun _=>?_) (fun _=>?_)|with_reducible refine gd ?_|simp only [go_sem, Int.reduceEq, Int.cast_ofNat_Int, Bool.false_eq_true, hq, hm, hwq, hwm, e5, hwp, hwn, List.length_map, e1]
      have hp0 : pgL (O.map (·.1.id)) p = [] := by rw [pgL, if_neg (by omega)]
      first | exact .inl ⟨rfl, hp0⟩ | exact .inl hp0
    have e1 := eq_false h1
    by_cases h2 : (np : Int) < p
    · have e2 := eq_true h2
      repeat' first|refine Spl.on (fun _=>?_) (fun _=>?_)|with_reducible refine gd ?_|simp only [go_sem, Int.reduceEq, Int.cast_ofNat_Int, Bool.false_eq_true, hq, hm, hwq, hwm, e5, hwp, hwn, List.length_map, e1, e2]
      have hp0 : pgL (O.map (·.1.id)) p = [] := by rw [pgL, if_pos (by omega), List.drop_of_length_le (by rw [List.length_map]; omega), List.take_nil]
      first | exact .inl ⟨rfl, hp0⟩ | exact .inl hp0
    have e2 := eq_false h2
    have hw1 : IntKind.i64.wrap (p - 1) = p - 1 := wrap_in (by omega) (by omega)
    have hw2 : IntKind.i64.wrap ((p - 1) * 5) = (p - 1) * 5 := wrap_in (by omega) (by omega)
    have hdr : List.take (O.length - ((p - 1) * 5).toNat) (List.drop ((p - 1) * 5).toNat (O.map qY)) = (O.drop ((p - 1) * 5).toNat).map qY := by
      rw [← List.map_drop, List.take_of_length_le (by simp)]
    repeat' first|refine Spl.on (fun _=>?_) (fun _=>?_)|with_reducible refine gd ?_|simp only [go_sem, Int.reduceEq, Int.cast_ofNat_Int, Bool.false_eq_true, hq, hm, hwq, hwm, e5, hwp, hwn, List.length_map, e1, e2, hw1, hw2, hdr, Int.toNat_natCast]
    refine ((convert35 (O.drop ((p - 1) * 5).toNat) 5 (by rw [List.length_drop]; omega)).wk ?_).mono ?_
    · simp only [num, str, tru]
      repeat first | exact Wk.nil | exact Wk.refl _ | refine wk_agg ?_ ?_ | refine wk_ownsl ?_ | refine wk_nilsl ?_ | refine Wk.same ?_
    rintro r rfl
    repeat' first|refine Spl.on (fun _=>?_) (fun _=>?_)|with_reducible refine gd ?_|simp only [go_sem, Int.reduceEq, Int.cast_ofNat_Int, Bool.false_eq_true, hq, hm, hwq, hwm, e5, hwp, hwn, List.length_map, e1, e2]
    have hpg : pgL (O.map (·.1.id)) p = ((O.drop ((p - 1) * 5).toNat).map (·.1.id)).take 5 := by
      rw [pgL, if_pos (by omega), List.map_drop, show 5 * (p - 1).toNat = ((p - 1) * 5).toNat by omega]
    all_goals rw [hpg]
    all_goals first | exact .inr rfl | rfl
theorem page20 (L : List Sto) (tm : List AV) (v : List UInt8) (p : Int) (hp : I64 p) (hl : L.length ≤ 100000) (hs : ∀ s ∈ L, StOk s) : ACalls Tryz.prog 28 [stA L tm, str v, num p] (fun r => r = .tup [.own 3 1 (nums (pgL ((newL v L).reverse.map (·.id)) p)), num (((newL v L).length + 4) / 5 : Nat)]) := by
  refine (page20' L tm v p hp hl hs).wkr ?_
  rintro r (⟨rfl, h⟩ | rfl)
  · refine ⟨_, W1.tup (wk_nilown (e := 3) (k := 1) (.same .nil)), rfl, by rw [h]; rfl⟩
  · exact ⟨_, W1.refl _, rfl, rfl⟩
end Go.Proofs.YtkafbgdokgfjmaaGreatDoor
namespace Go.Proofs.YtkafbgdokgfjmaaGreatDoor
open Go.RowKit Go.Proofs
set_option linter.unusedSimpArgs false
set_option linter.unusedVariables false
set_option maxRecDepth 100000
set_option maxHeartbeats 4000000

theorem holds_nil : holdsB [] = fun _ _ => true := by funext s a; simp [holdsB]
theorem selF_all : ∀ (L : List Sto) (i : Nat), (selF (fun _ _ => true) i L).map (·.1) = L.filter lstd
  | [], i => rfl
  | s :: L, i => by
    have := selF_all L (i + 1)
    unfold selF
    by_cases h : lstd s = true
    · rw [if_pos (by simp [h]), List.filter_cons, if_pos h, List.map_cons, this]
    · rw [if_neg (by simp [h]), List.filter_cons, if_neg h, this]
theorem topF_flat : ∀ (L : List Sto) (o : List Str), L.foldl topF o = ((L.filter lstd).flatMap (·.tp)).foldl putL o
  | [], o => rfl
  | s :: L, o => by
    rw [List.foldl_cons, topF_flat L, topF]
    by_cases h : lstd s = true
    · rw [if_pos h, List.filter_cons, if_pos h, List.flatMap_cons, List.foldl_append]
    · rw [if_neg h, List.filter_cons, if_neg h]
theorem topR_dst (L : List Sto) : topR L = dst ((L.filter lstd).flatMap (·.tp)) := by rw [topR, topF_flat, putsF_eq]
theorem autF_flat : ∀ (L : List Sto) (o : List Str), L.foldl autF o = ((L.filter lstd).map (·.au)).foldl putL o
  | [], o => rfl
  | s :: L, o => by
    rw [List.foldl_cons, autF_flat L, autF]
    by_cases h : lstd s = true
    · rw [if_pos h, List.filter_cons, if_pos h, List.map_cons, List.foldl_cons]
    · rw [if_neg h, List.filter_cons, if_neg h]
theorem autR_dst (L : List Sto) : autR L = dst ((L.filter lstd).map (·.au)) := by rw [autR, autF_flat, putsF_eq]
theorem flat_len1000 {XS : List (Sto × Nat)} (h : ∀ x ∈ XS, x.1.tp.length ≤ 1000) (k : Nat) : ((XS.take k).flatMap (·.1.tp)).length ≤ 1000 * k := by
  induction k with
  | zero => simp
  | succ k ih =>
    rw [List.take_add_one, List.flatMap_append, List.length_append]
    have hlast : ((XS[k]?.toList).flatMap (·.1.tp)).length ≤ 1000 := by
      cases hx : XS[k]? with
      | none => simp
      | some x => simpa using h x (List.mem_of_getElem? hx)
    omega
theorem topics23 (L : List Sto) (tm : List AV) (hl : L.length ≤ 10000) (hs : ∀ s ∈ L, StOk s) (ht : ∀ s ∈ L, s.tp.length ≤ 1000) : ACalls Tryz.prog 65 [stA L tm] (fun r => r = .own 9 1 ((topR L).map str)) := by
  have hlen := selF_len (p := fun _ _ => true) L 0
  simp only [stA]
  refine calls_shortG [] [] [4,7,8,9,10,11,12] ttok hmix Tryz.func65 (by decide) (by decide +kernel) (by simp only [Tryz.f65, Option.bind_some, compG, ylook, compY, comp, isLend, lendOf, lendX, lendC, lendH, Nat.reduceLeDiff, Nat.reduceSub, ne_eq, not_false_eq_true, and_self, cops, cguard, gslot, List.getElem?_toArray, List.getElem?_cons_succ, List.getElem?_cons_zero, vlook, tlook, List.take_succ_cons, List.take_zero, List.drop_succ_cons, List.drop_zero, Option.map_some, Nat.reduceEqDiff, if_true, if_false, Nat.succ_ne_self, Nat.reduceAdd, reduceIte, reduceCtorEq, Bool.false_eq_true, cutAt_nil, cutAt, firstReg, isCut, mkSeq, mkSeqG]; rfl) Tryz.ntmps65 Tryz.results65 ⟨_, rfl⟩ rfl ?_
  skip
  simp only [List.length_cons, List.length_nil, Nat.reduceAdd, Nat.reduceSub, List.replicate_succ, List.replicate_zero, List.cons_append, List.nil_append, num, str, tru]
  repeat' first|refine Spl.on (fun _=>?_) (fun _=>?_)|with_reducible refine gd ?_|simp only [go_sem, Int.reduceEq, Int.cast_ofNat_Int, Bool.false_eq_true]
  refine ((each41 L tm []).wk ?_).mono ?_
  · simp only [stA, List.map_nil]
    repeat first | exact Wk.nil | exact Wk.refl _ | refine wk_ownsl ?_ | refine wk_nilown ?_ | refine wk_nilmine ?_ | refine wk_nilsl ?_ | refine Wk.same ?_ | refine wk_any ?_
  rintro r rfl
  repeat' first|refine Spl.on (fun _=>?_) (fun _=>?_)|with_reducible refine gd ?_|simp only [go_sem, Int.reduceEq, Int.cast_ofNat_Int, Bool.false_eq_true]
  have hi := each64 L tm [] (by omega) hs (by simp) (fun c hc => by simp at hc)
  rw [holds_nil] at hi
  obtain ⟨XS, hX⟩ : ∃ XS, selF (fun _ _ => true) 0 L = XS := ⟨_, rfl⟩
  have hXm : ∀ x ∈ XS, x.1.tp.length ≤ 1000 := fun x hx => ht x.1 (by rw [← hX] at hx; exact (selF_ge L 0 x hx).2)
  have hXt : XS.flatMap (·.1.tp) = (L.filter lstd).flatMap (·.tp) := by rw [← selF_all L 0, hX, List.flatMap_map]
  have hYX : selY (fun _ _ => true) L = fun k args => ∃ x, XS[k]? = some x ∧ args = [qY x] := by funext k args; simp only [selY, hX]
  rw [hYX] at hi
  rw [hX] at hi hlen
  refine cwpG_range [false, false, false, true, true, false, false, true, true, true, true, true, true, false, false] [3] (fun k xs => xs = [.box 41 [.own 9 1 (((XS.take k).flatMap (·.1.tp)).map str)]]) (Nat.le_refl 15) ?_ hi ?_ ?_ ?_
  · exact .inl rfl
  · refine ⟨_, rfl, ?_⟩
    simp only [hvm_t, hvm_f, hvm_nil, puts_cons, puts_nil, List.set_cons_zero, List.set_cons_succ, num]
    simp only [List.take_zero, List.flatMap_nil, List.map_nil]
    repeat first | exact Wk.nil | exact Wk.refl _ | refine Wk.box (W1.box ?_) ?_ | refine wk_agg ?_ ?_ | refine wk_ownsl ?_ | refine wk_nilown ?_ | refine wk_nilmine ?_ | refine wk_nilsl ?_ | refine Wk.same ?_ | refine wk_any ?_
  · rintro k args xs ⟨x, hk, rfl⟩ rfl
    refine ⟨rfl, rfl, ?_⟩
    have hlk : k < XS.length := (List.getElem?_eq_some_iff.1 hk).1
    have hfl := flat_len1000 hXm k
    have hxl := hXm x (List.mem_of_getElem? hk)
    have hsn : ((XS.take k).flatMap (·.1.tp)).map str ++ x.1.tp.map str = ((XS.take (k + 1)).flatMap (·.1.tp)).map str := by
      rw [List.take_add_one, hk]; simp
    obtain ⟨s, i⟩ := x
    simp only at hsn hxl
    obtain ⟨F, hF⟩ : ∃ F, (XS.take k).flatMap (·.1.tp) = F := ⟨_, rfl⟩
    rw [hF] at hfl hsn ⊢
    simp only [qY, qst, num, str, tru] at hsn ⊢
    simp only [hvm_t, hvm_f, hvm_nil, puts_cons, puts_nil, List.set_cons_zero, List.set_cons_succ, num]
    repeat' first|refine Spl.on (fun _=>?_) (fun _=>?_)|with_reducible refine gd ?_|simp only [go_sem, Int.reduceEq, Int.cast_ofNat_Int, Bool.false_eq_true, hsn, List.length_map]
    refine rend_mk _ rfl ?_
    simp only [hvm_t, hvm_f, hvm_nil, puts_cons, puts_nil, List.set_cons_zero, List.set_cons_succ, num]
    repeat first | exact Wk.nil | exact Wk.refl _ | refine Wk.box (W1.box ?_) ?_ | refine wk_agg ?_ ?_ | refine wk_ownsl ?_ | refine wk_nilown ?_ | refine wk_nilmine ?_ | refine wk_nilsl ?_ | refine Wk.same ?_ | refine wk_any ?_
  · rintro xs rfl
    simp only [hvm_t, hvm_f, hvm_nil, puts_cons, puts_nil, List.set_cons_zero, List.set_cons_succ, num]
    simp only [List.take_length, hXt]
    have hfl := flat_len1000 hXm XS.length
    rw [List.take_length, hXt] at hfl
    repeat' first|refine Spl.on (fun _=>?_) (fun _=>?_)|with_reducible refine gd ?_|simp only [go_sem, Int.reduceEq, Int.cast_ofNat_Int, Bool.false_eq_true]
    refine ((distinct42 ((L.filter lstd).flatMap (·.tp)) (by omega)).wk ?_).mono ?_
    · repeat first | exact Wk.nil | exact Wk.refl _ | refine wk_ownsl ?_ | refine wk_nilown ?_ | refine wk_nilmine ?_ | refine wk_nilsl ?_ | refine Wk.same ?_ | refine wk_any ?_
    rintro r rfl
    rw [topR_dst]
    repeat' first|refine Spl.on (fun _=>?_) (fun _=>?_)|with_reducible refine gd ?_|simp only [go_sem, Int.reduceEq, Int.cast_ofNat_Int, Bool.false_eq_true]
theorem authors25 (L : List Sto) (tm : List AV) (hl : L.length ≤ 10000) (hs : ∀ s ∈ L, StOk s) : ACalls Tryz.prog 66 [stA L tm] (fun r => r = .own 9 1 ((autR L).map str)) := by
  have hlen := selF_len (p := fun _ _ => true) L 0
  simp only [stA]
  refine calls_shortG [] [] [4,7,8,9,10,11,12,13] ttok hmix Tryz.func66 (by decide) (by decide +kernel) (by simp only [Tryz.f66, Option.bind_some, compG, ylook, compY, comp, isLend, lendOf, lendX, lendC, lendH, Nat.reduceLeDiff, Nat.reduceSub, ne_eq, not_false_eq_true, and_self, cops, cguard, gslot, List.getElem?_toArray, List.getElem?_cons_succ, List.getElem?_cons_zero, vlook, tlook, List.take_succ_cons, List.take_zero, List.drop_succ_cons, List.drop_zero, Option.map_some, Nat.reduceEqDiff, if_true, if_false, Nat.succ_ne_self, Nat.reduceAdd, reduceIte, reduceCtorEq, Bool.false_eq_true, cutAt_nil, cutAt, firstReg, isCut, mkSeq, mkSeqG]; rfl) Tryz.ntmps66 Tryz.results66 ⟨_, rfl⟩ rfl ?_
  skip
  simp only [List.length_cons, List.length_nil, Nat.reduceAdd, Nat.reduceSub, List.replicate_succ, List.replicate_zero, List.cons_append, List.nil_append, num, str, tru]
  repeat' first|refine Spl.on (fun _=>?_) (fun _=>?_)|with_reducible refine gd ?_|simp only [go_sem, Int.reduceEq, Int.cast_ofNat_Int, Bool.false_eq_true]
  refine ((each41 L tm []).wk ?_).mono ?_
  · simp only [stA, List.map_nil]
    repeat first | exact Wk.nil | exact Wk.refl _ | refine wk_ownsl ?_ | refine wk_nilown ?_ | refine wk_nilmine ?_ | refine wk_nilsl ?_ | refine Wk.same ?_ | refine wk_any ?_
  rintro r rfl
  repeat' first|refine Spl.on (fun _=>?_) (fun _=>?_)|with_reducible refine gd ?_|simp only [go_sem, Int.reduceEq, Int.cast_ofNat_Int, Bool.false_eq_true]
  have hi := each64 L tm [] (by omega) hs (by simp) (fun c hc => by simp at hc)
  rw [holds_nil] at hi
  obtain ⟨XS, hX⟩ : ∃ XS, selF (fun _ _ => true) 0 L = XS := ⟨_, rfl⟩
  have hXt : XS.map (·.1.au) = (L.filter lstd).map (·.au) := by rw [← selF_all L 0, hX, List.map_map]; rfl
  have hYX : selY (fun _ _ => true) L = fun k args => ∃ x, XS[k]? = some x ∧ args = [qY x] := by funext k args; simp only [selY, hX]
  rw [hYX] at hi
  rw [hX] at hi hlen
  refine cwpG_range [false, false, false, true, true, false, false, true, true, true, true, true, true, true, false, false] [3] (fun k xs => xs = [.box 41 [.own 9 1 (((XS.take k).map (·.1.au)).map str)]]) (Nat.le_refl 16) ?_ hi ?_ ?_ ?_
  · exact .inl rfl
  · refine ⟨_, rfl, ?_⟩
    simp only [hvm_t, hvm_f, hvm_nil, puts_cons, puts_nil, List.set_cons_zero, List.set_cons_succ, num]
    simp only [List.take_zero, List.map_nil]
    repeat first | exact Wk.nil | exact Wk.refl _ | refine Wk.box (W1.box ?_) ?_ | refine wk_agg ?_ ?_ | refine wk_ownsl ?_ | refine wk_nilown ?_ | refine wk_nilmine ?_ | refine wk_nilsl ?_ | refine Wk.same ?_ | refine wk_any ?_
  · rintro k args xs ⟨x, hk, rfl⟩ rfl
    refine ⟨rfl, rfl, ?_⟩
    have hlk : k < XS.length := (List.getElem?_eq_some_iff.1 hk).1
    have hsn : ((XS.take k).map (·.1.au)).map str ++ [str x.1.au] = ((XS.take (k + 1)).map (·.1.au)).map str := by
      rw [List.take_add_one, hk]; simp
    have hfl : ((XS.take k).map (·.1.au)).length = k := by simp; omega
    obtain ⟨s, i⟩ := x
    simp only at hsn
    obtain ⟨F, hF⟩ : ∃ F, (XS.take k).map (·.1.au) = F := ⟨_, rfl⟩
    rw [hF] at hfl hsn ⊢
    simp only [qY, qst, num, str, tru] at hsn ⊢
    simp only [hvm_t, hvm_f, hvm_nil, puts_cons, puts_nil, List.set_cons_zero, List.set_cons_succ, num]
    repeat' first|refine Spl.on (fun _=>?_) (fun _=>?_)|with_reducible refine gd ?_|simp only [go_sem, Int.reduceEq, Int.cast_ofNat_Int, Bool.false_eq_true, hsn, List.length_map]
    refine rend_mk _ rfl ?_
    simp only [hvm_t, hvm_f, hvm_nil, puts_cons, puts_nil, List.set_cons_zero, List.set_cons_succ, num]
    repeat first | exact Wk.nil | exact Wk.refl _ | refine Wk.box (W1.box ?_) ?_ | refine wk_agg ?_ ?_ | refine wk_ownsl ?_ | refine wk_nilown ?_ | refine wk_nilmine ?_ | refine wk_nilsl ?_ | refine Wk.same ?_ | refine wk_any ?_
  · rintro xs rfl
    simp only [hvm_t, hvm_f, hvm_nil, puts_cons, puts_nil, List.set_cons_zero, List.set_cons_succ, num]
    simp only [List.take_length, hXt]
    repeat' first|refine Spl.on (fun _=>?_) (fun _=>?_)|with_reducible refine gd ?_|simp only [go_sem, Int.reduceEq, Int.cast_ofNat_Int, Bool.false_eq_true]
    refine ((distinct42 ((L.filter lstd).map (·.au)) (by rw [← hXt, List.length_map]; omega)).wk ?_).mono ?_
    · repeat first | exact Wk.nil | exact Wk.refl _ | refine wk_ownsl ?_ | refine wk_nilown ?_ | refine wk_nilmine ?_ | refine wk_nilsl ?_ | refine Wk.same ?_ | refine wk_any ?_
    rintro r rfl
    rw [autR_dst]
    repeat' first|refine Spl.on (fun _=>?_) (fun _=>?_)|with_reducible refine gd ?_|simp only [go_sem, Int.reduceEq, Int.cast_ofNat_Int, Bool.false_eq_true]
end Go.Proofs.YtkafbgdokgfjmaaGreatDoor
