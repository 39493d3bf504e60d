/- The iterator scan$1. -/
import Derived.Test.YtibdijaacolhkaaT
import Derived.Test.YtibdijaacolhkaaA10
import Derived.Test.YtibdijaacolhkaaX4
namespace Go.Proofs.Ytibdijaacolhkaa
open Go.RowKit Go.Proofs
set_option linter.unusedSimpArgs false
set_option linter.unusedVariables false
set_option maxRecDepth 100000
set_option maxHeartbeats 4000000
structure Tk where
  k : Int
  t : List UInt8
  a : Nat
def tk (t : Tk) : AV := tokA t.k t.t t.a
def wsp (c : UInt8) : Bool := decide (((c.toNat : Nat) : Int) = 32) || decide (((c.toNat : Nat) : Int) = 10)
def scanF : Nat → List UInt8 → Nat → Option Nat → List Tk
  | 0, _, _, _ => []
  | f + 1, [], at_, none => []
  | f + 1, c :: r, at_, none => if opn (c :: r) then ⟨6, [123], at_⟩ :: scanF f r (at_ + 1) (some at_)
    else if (litL (c :: r)).2.2 then [⟨0, [], at_ + (litL (c :: r)).2.1⟩] else ⟨1, (litL (c :: r)).1, at_⟩ :: scanF f ((c :: r).drop (litL (c :: r)).2.1) (at_ + (litL (c :: r)).2.1) none
  | f + 1, [], at_, some g => [⟨0, [], g⟩]
  | f + 1, c :: r, at_, some g => if wsp c then scanF f r (at_ + 1) (some g)
    else match partL (c :: r) with
      | none => [⟨0, [], at_⟩]
      | some (k, t, n) => ⟨k, t, at_⟩ :: scanF f ((c :: r).drop n) (at_ + n) (if k = 7 then none else some g)
def toks (s : List UInt8) : List Tk := scanF (s.length + 1) s 0 none
def tokY (s : List UInt8) (k : Nat) (args : List AV) : Prop := ∃ t, (toks s)[k]? = some t ∧ args = [tk t]
def tagI : Option Nat → Int
  | none => -1
  | some g => (g : Int)
theorem tagI_none : tagI none = -1 := rfl
theorem tagI_some (g : Nat) : tagI (some g) = (g : Int) := rfl
theorem tokget {s : List UInt8} {pre rest : List Tk} {t : Tk} {k : Nat} (he : toks s = pre ++ t :: rest) (hk : pre.length = k) : (toks s)[k]? = some t := by
  rw [he]; subst hk; simp
theorem toksnext {s : List UInt8} {pre rest : List Tk} {t : Tk} (he : toks s = pre ++ t :: rest) : toks s = (pre ++ [t]) ++ rest := by
  rw [he]; simp
theorem tokslast {s : List UInt8} {pre : List Tk} {t : Tk} {k : Nat} (he : toks s = pre ++ [t]) (hk : pre.length = k) : k + 1 = (toks s).length := by
  rw [he]; subst hk; simp
theorem litL_pos : ∀ {u : List UInt8} {c : UInt8} {r : List UInt8}, u = c :: r → opn u = false → (litL u).2.2 = false → 0 < (litL u).2.1 := by
  intro u c r hu ho hb
  subst hu
  cases hbad : badc c with
  | true => rw [litL_bad ho hbad] at hb; cases hb
  | false =>
    cases hl : lb c with
    | false => rw [litL_one ho hbad hl]; simp
    | true =>
      cases r with
      | nil => simp only [opn] at ho; rw [ho] at hl; cases hl
      | cons d r => rw [litL_two ho hbad hl]; simp
theorem litL_le : ∀ (n : Nat) (u : List UInt8), u.length ≤ n → (litL u).2.1 ≤ u.length ∧ (litL u).1.length ≤ (litL u).2.1
  | _, [], _ => by simp [litL]
  | 0, c :: r, h => by simp at h
  | n + 1, c :: r, h => by
    cases ho : opn (c :: r) with
    | true => rw [litL_opn ho]; simp
    | false =>
      cases hb : badc c with
      | true => rw [litL_bad ho hb]; simp
      | false =>
        cases hl : lb c with
        | false =>
          rw [litL_one ho hb hl]
          have := litL_le n r (by simp at h; omega)
          simp; omega
        | true =>
          cases r with
          | nil => simp only [opn] at ho; rw [ho] at hl; cases hl
          | cons d r =>
            rw [litL_two ho hb hl]
            have := litL_le n r (by simp at h; omega)
            simp; omega
theorem partL_spec {u : List UInt8} {k : Int} {t : List UInt8} {n : Nat} (h : partL u = some (k, t, n)) : 0 < n ∧ n ≤ u.length ∧ k ≠ 0 ∧ k ≠ 6 ∧ k ≠ 1 := by
  cases u with
  | nil => cases h
  | cons c r =>
    simp only [partL] at h
    split at h
    · rename_i hl
      split at h
      · cases h
      · injection h with h
        simp only [Prod.mk.injEq] at h
        obtain ⟨rfl, rfl, rfl⟩ := h
        have := runI_le nmI (c :: r)
        refine ⟨?_, this, by decide, by decide, by decide⟩
        have : nmI (c.toNat : Int) = true := by simp [nmI, hl]
        simp [runI, this]
    · split at h
      · rename_i hl
        split at h
        · cases h
        · injection h with h
          simp only [Prod.mk.injEq] at h
          obtain ⟨rfl, rfl, rfl⟩ := h
          have := runI_le digI (c :: r)
          refine ⟨?_, this, by decide, by decide, by decide⟩
          simp [runI, hl]
      · split at h
        · split at h
          · rename_i d r' hr
            split at h
            · injection h with h
              simp only [Prod.mk.injEq] at h
              obtain ⟨rfl, rfl, rfl⟩ := h
              have := congrArg List.length hr
              simp at this
              exact ⟨by omega, by simp; omega, by decide, by decide, by decide⟩
            · cases h
          · cases h
        · split at h
          · injection h with h
            simp only [Prod.mk.injEq] at h
            obtain ⟨rfl, rfl, rfl⟩ := h
            exact ⟨by omega, by simp, by decide, by decide, by decide⟩
          · split at h
            · injection h with h
              simp only [Prod.mk.injEq] at h
              obtain ⟨rfl, rfl, rfl⟩ := h
              exact ⟨by omega, by simp, by decide, by decide, by decide⟩
            · cases h
theorem scan22 (s : List UInt8) (hs : s.length ≤ 1000000) : AIter Try.prog 22 [.elt (.agg [str s])] (toks s).length (tokY s) := by
  refine iter_short [] [(15, 2)] [] ttok hmix Try.func22 (by decide) (by decide +kernel) (by simp only [Try.f22, Option.bind_some, compG, ylook, compY, comp, isLend, lendOf, lendX, lendC, lendH, Nat.reduceLeDiff, Nat.reduceSub, ne_eq, not_false_eq_true, and_self, cops, cguard, gslot, List.getElem?_toArray, List.getElem?_cons_succ, List.getElem?_cons_zero, vlook, tlook, List.take_succ_cons, List.take_zero, List.drop_succ_cons, List.drop_zero, Option.map_some, Nat.reduceEqDiff, if_true, if_false, Nat.succ_ne_self, Nat.reduceAdd, reduceIte, reduceCtorEq, Bool.false_eq_true, cutAt_nil, cutAt, firstReg, isCut, mkSeq, mkSeqG]; rfl) Try.ntmps22 Try.results22 rfl ?_
  intro l
  simp only [List.length_cons, List.length_nil, Nat.reduceAdd, Nat.reduceSub, List.replicate_succ, List.replicate_zero, List.cons_append, List.nil_append, num, str, tru]
  simp only [go_sem, Nat.reduceLT, Nat.reduceAdd, Nat.reduceSub, Nat.reduceMul, Nat.reduceLeDiff, ne_eq, Nat.reduceEqDiff, not_false_eq_true, Bool.and_true, Bool.true_and, Nat.succ_ne_self, and_true, Bool.not_true, Bool.not_false, Int.toNat_zero, Int.reduceToNat, Nat.mul_one, Int.toNat_one]
  refine cwpG_loop [false, false, false, true, true, true, true, true, true, true, true, true, true, true, true, true, true, true, true, true, true, true, true, true, true, true, true, true, true, true, true, true, true, true, true, true, true, true, true, true, true, true, true, true, true, true, true, true, true, true, true, true, true, true, true, true, true, true, true, true, true, true, true, true, true, true, true, true, true, true, true, true, true, true, true, true, true] [3, 4] (fun n st xs => ∃ (k j : Nat) (tg : Option Nat) (pre : List Tk), st = some k ∧ j ≤ s.length ∧ s.length - j < n ∧ toks s = pre ++ scanF n (s.drop j) j tg ∧ pre.length = k ∧ xs = [num j, num (tagI tg)]) ⟨s.length + 1, _, ⟨0, 0, none, [], rfl, by omega, by omega, rfl, rfl, rfl⟩, ?_⟩ ?_
  · simp only [hvm_t, hvm_f, hvm_nil, puts_cons, puts_nil, List.set_cons_zero, List.set_cons_succ, num]
    repeat first | exact Wk.nil | refine Wk.same ?_ | refine wk_any ?_
  · rintro n st xs ⟨k, j, tg, pre, rfl, hjl, hn, he, hk, rfl⟩
    obtain ⟨m, rfl⟩ : ∃ m, n = m + 1 := ⟨n - 1, by omega⟩
    have hw1 : IntKind.i64.wrap ((j : Int) + 1) = ((j + 1 : Nat) : Int) := wrap_succ (by omega)
    simp only [hvm_t, hvm_f, hvm_nil, puts_cons, puts_nil, List.set_cons_zero, List.set_cons_succ, num]
    cases tg with
    | none =>
      simp only [tagI_none]
      repeat' first | with_reducible refine asq_dmk (fun _ => ?_) (fun _ => ?_) | with_reducible refine asq_ndmk (fun _ => ?_) (fun _ => ?_) | with_reducible refine asq_nmk (fun _ => ?_) (fun _ => ?_) | with_reducible refine asq_mk (fun _ => ?_) (fun _ => ?_) | with_reducible refine asp_dmk (fun _ => ?_) (fun _ => ?_) | with_reducible refine asp_ndmk (fun _ => ?_) (fun _ => ?_) | with_reducible refine asp_nmk (fun _ => ?_) (fun _ => ?_) | with_reducible refine asp_mk (fun _ => ?_) (fun _ => ?_) | with_reducible refine And.intro (by first | omega | rfl | decide | with_unfolding_all rfl) ?_ | simp only [go_sem, Nat.reduceLT, Nat.reduceAdd, Nat.reduceSub, Nat.reduceMul, Nat.reduceLeDiff, ne_eq, Nat.reduceEqDiff, not_false_eq_true, Bool.and_true, Bool.true_and, Nat.succ_ne_self, and_true, Bool.not_true, Bool.not_false, Int.toNat_zero, Int.reduceToNat, Nat.mul_one, Int.toNat_one, Int.reduceEq, Int.reduceNeg, decide_true, eq_self]
      · rename_i hj
        refine .inl ?_
        have : j = s.length := by omega
        subst this
        rw [he, List.drop_length, List.length_append, hk]
        simp [scanF]
      · rename_i hj
        have hj' : j < s.length := by omega
        obtain ⟨c, hc, hd⟩ := drop_cons hj'
        refine (opens23 s j hj' hs).mono ?_
        rintro r rfl
        cases hop : opn (s.drop j) with
        | true =>
          simp only [tru]
          repeat' first | with_reducible refine asq_dmk (fun _ => ?_) (fun _ => ?_) | with_reducible refine asq_ndmk (fun _ => ?_) (fun _ => ?_) | with_reducible refine asq_nmk (fun _ => ?_) (fun _ => ?_) | with_reducible refine asq_mk (fun _ => ?_) (fun _ => ?_) | with_reducible refine asp_dmk (fun _ => ?_) (fun _ => ?_) | with_reducible refine asp_ndmk (fun _ => ?_) (fun _ => ?_) | with_reducible refine asp_nmk (fun _ => ?_) (fun _ => ?_) | with_reducible refine asp_mk (fun _ => ?_) (fun _ => ?_) | with_reducible refine And.intro (by first | omega | rfl | decide | with_unfolding_all rfl) ?_ | simp only [go_sem, Nat.reduceLT, Nat.reduceAdd, Nat.reduceSub, Nat.reduceMul, Nat.reduceLeDiff, ne_eq, Nat.reduceEqDiff, not_false_eq_true, Bool.and_true, Bool.true_and, Nat.succ_ne_self, and_true, Bool.not_true, Bool.not_false, Int.toNat_zero, Int.reduceToNat, Nat.mul_one, Int.toNat_one, Int.reduceEq, Int.reduceNeg, decide_true, eq_self, hw1]
          have he2 : toks s = pre ++ ⟨6, [123], j⟩ :: scanF m (s.drop (j + 1)) (j + 1) (some j) := by
            rw [he, hd]; rw [hd] at hop; simp only [scanF, hop, if_true]
          refine yc_mk ⟨_, tokget he2 hk, rfl⟩ ?_ ?_
          · repeat' first | with_reducible refine asq_dmk (fun _ => ?_) (fun _ => ?_) | with_reducible refine asq_ndmk (fun _ => ?_) (fun _ => ?_) | with_reducible refine asq_nmk (fun _ => ?_) (fun _ => ?_) | with_reducible refine asq_mk (fun _ => ?_) (fun _ => ?_) | with_reducible refine asp_dmk (fun _ => ?_) (fun _ => ?_) | with_reducible refine asp_ndmk (fun _ => ?_) (fun _ => ?_) | with_reducible refine asp_nmk (fun _ => ?_) (fun _ => ?_) | with_reducible refine asp_mk (fun _ => ?_) (fun _ => ?_) | with_reducible refine And.intro (by first | omega | rfl | decide | with_unfolding_all rfl) ?_ | simp only [go_sem, Nat.reduceLT, Nat.reduceAdd, Nat.reduceSub, Nat.reduceMul, Nat.reduceLeDiff, ne_eq, Nat.reduceEqDiff, not_false_eq_true, Bool.and_true, Bool.true_and, Nat.succ_ne_self, and_true, Bool.not_true, Bool.not_false, Int.toNat_zero, Int.reduceToNat, Nat.mul_one, Int.toNat_one, Int.reduceEq, Int.reduceNeg, decide_true, eq_self, hw1]
            refine lendG_mk m _ (by omega) ⟨k + 1, j + 1, some j, _, rfl, by omega, by omega, toksnext he2, by simp [hk], rfl⟩ ?_
            simp only [hvm_t, hvm_f, hvm_nil, puts_cons, puts_nil, List.set_cons_zero, List.set_cons_succ, num]
            repeat first | exact Wk.nil | refine Wk.same ?_ | refine wk_any ?_
          · repeat' first | with_reducible refine asq_dmk (fun _ => ?_) (fun _ => ?_) | with_reducible refine asq_ndmk (fun _ => ?_) (fun _ => ?_) | with_reducible refine asq_nmk (fun _ => ?_) (fun _ => ?_) | with_reducible refine asq_mk (fun _ => ?_) (fun _ => ?_) | with_reducible refine asp_dmk (fun _ => ?_) (fun _ => ?_) | with_reducible refine asp_ndmk (fun _ => ?_) (fun _ => ?_) | with_reducible refine asp_nmk (fun _ => ?_) (fun _ => ?_) | with_reducible refine asp_mk (fun _ => ?_) (fun _ => ?_) | with_reducible refine And.intro (by first | omega | rfl | decide | with_unfolding_all rfl) ?_ | simp only [go_sem, Nat.reduceLT, Nat.reduceAdd, Nat.reduceSub, Nat.reduceMul, Nat.reduceLeDiff, ne_eq, Nat.reduceEqDiff, not_false_eq_true, Bool.and_true, Bool.true_and, Nat.succ_ne_self, and_true, Bool.not_true, Bool.not_false, Int.toNat_zero, Int.reduceToNat, Nat.mul_one, Int.toNat_one, Int.reduceEq, Int.reduceNeg, decide_true, eq_self, hw1]
            all_goals first | exact .inr rfl | exact .inr trivial
        | false =>
          simp only [tru]
          repeat' first | with_reducible refine asq_dmk (fun _ => ?_) (fun _ => ?_) | with_reducible refine asq_ndmk (fun _ => ?_) (fun _ => ?_) | with_reducible refine asq_nmk (fun _ => ?_) (fun _ => ?_) | with_reducible refine asq_mk (fun _ => ?_) (fun _ => ?_) | with_reducible refine asp_dmk (fun _ => ?_) (fun _ => ?_) | with_reducible refine asp_ndmk (fun _ => ?_) (fun _ => ?_) | with_reducible refine asp_nmk (fun _ => ?_) (fun _ => ?_) | with_reducible refine asp_mk (fun _ => ?_) (fun _ => ?_) | with_reducible refine And.intro (by first | omega | rfl | decide | with_unfolding_all rfl) ?_ | simp only [go_sem, Nat.reduceLT, Nat.reduceAdd, Nat.reduceSub, Nat.reduceMul, Nat.reduceLeDiff, ne_eq, Nat.reduceEqDiff, not_false_eq_true, Bool.and_true, Bool.true_and, Nat.succ_ne_self, and_true, Bool.not_true, Bool.not_false, Int.toNat_zero, Int.reduceToNat, Nat.mul_one, Int.toNat_one, Int.reduceEq, Int.reduceNeg, decide_true, eq_self, hw1]
          refine (literal24 s j hjl hs).mono ?_
          rintro r rfl
          rw [hd] at hop
          have h1 := litL_le (s.drop j).length (s.drop j) (Nat.le_refl _)
          rw [List.length_drop] at h1
          obtain ⟨⟨lt, ln, lbad⟩, hx⟩ : ∃ x, litL (s.drop j) = x := ⟨_, rfl⟩
          rw [hx] at h1 ⊢
          have h2 : ln ≤ s.length - j := h1.1
          clear h1
          cases lbad with
          | true =>
            simp only [litR, if_true, tokA, str, num]
            repeat' first | with_reducible refine asq_dmk (fun _ => ?_) (fun _ => ?_) | with_reducible refine asq_ndmk (fun _ => ?_) (fun _ => ?_) | with_reducible refine asq_nmk (fun _ => ?_) (fun _ => ?_) | with_reducible refine asq_mk (fun _ => ?_) (fun _ => ?_) | with_reducible refine asp_dmk (fun _ => ?_) (fun _ => ?_) | with_reducible refine asp_ndmk (fun _ => ?_) (fun _ => ?_) | with_reducible refine asp_nmk (fun _ => ?_) (fun _ => ?_) | with_reducible refine asp_mk (fun _ => ?_) (fun _ => ?_) | with_reducible refine And.intro (by first | omega | rfl | decide | with_unfolding_all rfl) ?_ | simp only [go_sem, Nat.reduceLT, Nat.reduceAdd, Nat.reduceSub, Nat.reduceMul, Nat.reduceLeDiff, ne_eq, Nat.reduceEqDiff, not_false_eq_true, Bool.and_true, Bool.true_and, Nat.succ_ne_self, and_true, Bool.not_true, Bool.not_false, Int.toNat_zero, Int.reduceToNat, Nat.mul_one, Int.toNat_one, Int.reduceEq, Int.reduceNeg, decide_true, eq_self, hw1]
            have he2 : toks s = pre ++ [⟨0, [], j + ln⟩] := by
              rw [he, hd]; rw [hd] at hx; simp only [scanF, hop, hx, if_true, Bool.false_eq_true, if_false]
            refine yc_mk ⟨_, tokget he2 hk, rfl⟩ ?_ ?_
            · repeat' first | with_reducible refine asq_dmk (fun _ => ?_) (fun _ => ?_) | with_reducible refine asq_ndmk (fun _ => ?_) (fun _ => ?_) | with_reducible refine asq_nmk (fun _ => ?_) (fun _ => ?_) | with_reducible refine asq_mk (fun _ => ?_) (fun _ => ?_) | with_reducible refine asp_dmk (fun _ => ?_) (fun _ => ?_) | with_reducible refine asp_ndmk (fun _ => ?_) (fun _ => ?_) | with_reducible refine asp_nmk (fun _ => ?_) (fun _ => ?_) | with_reducible refine asp_mk (fun _ => ?_) (fun _ => ?_) | with_reducible refine And.intro (by first | omega | rfl | decide | with_unfolding_all rfl) ?_ | simp only [go_sem, Nat.reduceLT, Nat.reduceAdd, Nat.reduceSub, Nat.reduceMul, Nat.reduceLeDiff, ne_eq, Nat.reduceEqDiff, not_false_eq_true, Bool.and_true, Bool.true_and, Nat.succ_ne_self, and_true, Bool.not_true, Bool.not_false, Int.toNat_zero, Int.reduceToNat, Nat.mul_one, Int.toNat_one, Int.reduceEq, Int.reduceNeg, decide_true, eq_self, hw1]
              all_goals exact .inl (congrArg some (tokslast he2 hk))
            · repeat' first | with_reducible refine asq_dmk (fun _ => ?_) (fun _ => ?_) | with_reducible refine asq_ndmk (fun _ => ?_) (fun _ => ?_) | with_reducible refine asq_nmk (fun _ => ?_) (fun _ => ?_) | with_reducible refine asq_mk (fun _ => ?_) (fun _ => ?_) | with_reducible refine asp_dmk (fun _ => ?_) (fun _ => ?_) | with_reducible refine asp_ndmk (fun _ => ?_) (fun _ => ?_) | with_reducible refine asp_nmk (fun _ => ?_) (fun _ => ?_) | with_reducible refine asp_mk (fun _ => ?_) (fun _ => ?_) | with_reducible refine And.intro (by first | omega | rfl | decide | with_unfolding_all rfl) ?_ | simp only [go_sem, Nat.reduceLT, Nat.reduceAdd, Nat.reduceSub, Nat.reduceMul, Nat.reduceLeDiff, ne_eq, Nat.reduceEqDiff, not_false_eq_true, Bool.and_true, Bool.true_and, Nat.succ_ne_self, and_true, Bool.not_true, Bool.not_false, Int.toNat_zero, Int.reduceToNat, Nat.mul_one, Int.toNat_one, Int.reduceEq, Int.reduceNeg, decide_true, eq_self, hw1]
              all_goals first | exact .inr rfl | exact .inr trivial
          | false =>
            simp only [litR, Bool.false_eq_true, if_false, tokA, str, num]
            have hp : 0 < ln := by
              have := litL_pos hd (by rw [hd]; exact hop)
              rw [hx] at this; exact this rfl
            repeat' first | with_reducible refine asq_dmk (fun _ => ?_) (fun _ => ?_) | with_reducible refine asq_ndmk (fun _ => ?_) (fun _ => ?_) | with_reducible refine asq_nmk (fun _ => ?_) (fun _ => ?_) | with_reducible refine asq_mk (fun _ => ?_) (fun _ => ?_) | with_reducible refine asp_dmk (fun _ => ?_) (fun _ => ?_) | with_reducible refine asp_ndmk (fun _ => ?_) (fun _ => ?_) | with_reducible refine asp_nmk (fun _ => ?_) (fun _ => ?_) | with_reducible refine asp_mk (fun _ => ?_) (fun _ => ?_) | with_reducible refine And.intro (by first | omega | rfl | decide | with_unfolding_all rfl) ?_ | simp only [go_sem, Nat.reduceLT, Nat.reduceAdd, Nat.reduceSub, Nat.reduceMul, Nat.reduceLeDiff, ne_eq, Nat.reduceEqDiff, not_false_eq_true, Bool.and_true, Bool.true_and, Nat.succ_ne_self, and_true, Bool.not_true, Bool.not_false, Int.toNat_zero, Int.reduceToNat, Nat.mul_one, Int.toNat_one, Int.reduceEq, Int.reduceNeg, decide_true, eq_self, hw1]
            have he2 : toks s = pre ++ ⟨1, lt, j⟩ :: scanF m (s.drop (j + ln)) (j + ln) none := by
              rw [he, hd]; rw [hd] at hx; simp only [scanF, hop, hx, if_true, Bool.false_eq_true, if_false]; rw [← hd, List.drop_drop]
            refine yc_mk ⟨_, tokget he2 hk, rfl⟩ ?_ ?_
            · repeat' first | with_reducible refine asq_dmk (fun _ => ?_) (fun _ => ?_) | with_reducible refine asq_ndmk (fun _ => ?_) (fun _ => ?_) | with_reducible refine asq_nmk (fun _ => ?_) (fun _ => ?_) | with_reducible refine asq_mk (fun _ => ?_) (fun _ => ?_) | with_reducible refine asp_dmk (fun _ => ?_) (fun _ => ?_) | with_reducible refine asp_ndmk (fun _ => ?_) (fun _ => ?_) | with_reducible refine asp_nmk (fun _ => ?_) (fun _ => ?_) | with_reducible refine asp_mk (fun _ => ?_) (fun _ => ?_) | with_reducible refine And.intro (by first | omega | rfl | decide | with_unfolding_all rfl) ?_ | simp only [go_sem, Nat.reduceLT, Nat.reduceAdd, Nat.reduceSub, Nat.reduceMul, Nat.reduceLeDiff, ne_eq, Nat.reduceEqDiff, not_false_eq_true, Bool.and_true, Bool.true_and, Nat.succ_ne_self, and_true, Bool.not_true, Bool.not_false, Int.toNat_zero, Int.reduceToNat, Nat.mul_one, Int.toNat_one, Int.reduceEq, Int.reduceNeg, decide_true, eq_self, hw1]
              refine lendG_mk m _ (by omega) ⟨k + 1, j + ln, none, _, rfl, by omega, by omega, toksnext he2, by simp [hk], rfl⟩ ?_
              simp only [hvm_t, hvm_f, hvm_nil, puts_cons, puts_nil, List.set_cons_zero, List.set_cons_succ, num]
              repeat first | exact Wk.nil | refine Wk.same ?_ | refine wk_any ?_
            · repeat' first | with_reducible refine asq_dmk (fun _ => ?_) (fun _ => ?_) | with_reducible refine asq_ndmk (fun _ => ?_) (fun _ => ?_) | with_reducible refine asq_nmk (fun _ => ?_) (fun _ => ?_) | with_reducible refine asq_mk (fun _ => ?_) (fun _ => ?_) | with_reducible refine asp_dmk (fun _ => ?_) (fun _ => ?_) | with_reducible refine asp_ndmk (fun _ => ?_) (fun _ => ?_) | with_reducible refine asp_nmk (fun _ => ?_) (fun _ => ?_) | with_reducible refine asp_mk (fun _ => ?_) (fun _ => ?_) | with_reducible refine And.intro (by first | omega | rfl | decide | with_unfolding_all rfl) ?_ | simp only [go_sem, Nat.reduceLT, Nat.reduceAdd, Nat.reduceSub, Nat.reduceMul, Nat.reduceLeDiff, ne_eq, Nat.reduceEqDiff, not_false_eq_true, Bool.and_true, Bool.true_and, Nat.succ_ne_self, and_true, Bool.not_true, Bool.not_false, Int.toNat_zero, Int.reduceToNat, Nat.mul_one, Int.toNat_one, Int.reduceEq, Int.reduceNeg, decide_true, eq_self, hw1]
              all_goals first | exact .inr rfl | exact .inr trivial
    | some g =>
      simp only [tagI_some]
      have hg : ((g : Int) = -1) = False := by simp
      repeat' first | with_reducible refine asq_dmk (fun _ => ?_) (fun _ => ?_) | with_reducible refine asq_ndmk (fun _ => ?_) (fun _ => ?_) | with_reducible refine asq_nmk (fun _ => ?_) (fun _ => ?_) | with_reducible refine asq_mk (fun _ => ?_) (fun _ => ?_) | with_reducible refine asp_dmk (fun _ => ?_) (fun _ => ?_) | with_reducible refine asp_ndmk (fun _ => ?_) (fun _ => ?_) | with_reducible refine asp_nmk (fun _ => ?_) (fun _ => ?_) | with_reducible refine asp_mk (fun _ => ?_) (fun _ => ?_) | with_reducible refine And.intro (by first | omega | rfl | decide | with_unfolding_all rfl) ?_ | simp only [go_sem, Nat.reduceLT, Nat.reduceAdd, Nat.reduceSub, Nat.reduceMul, Nat.reduceLeDiff, ne_eq, Nat.reduceEqDiff, not_false_eq_true, Bool.and_true, Bool.true_and, Nat.succ_ne_self, and_true, Bool.not_true, Bool.not_false, Int.toNat_zero, Int.reduceToNat, Nat.mul_one, Int.toNat_one, Int.reduceEq, Int.reduceNeg, decide_true, eq_self, hw1, hg, decide_false, xblkG_exit3]
      · rename_i hj
        have : j = s.length := by omega
        subst this
        have he2 : toks s = pre ++ [⟨0, [], g⟩] := by
          rw [he, List.drop_length]; simp only [scanF]
        refine yc_mk ⟨_, tokget he2 hk, rfl⟩ ?_ ?_
        · repeat' first | with_reducible refine asq_dmk (fun _ => ?_) (fun _ => ?_) | with_reducible refine asq_ndmk (fun _ => ?_) (fun _ => ?_) | with_reducible refine asq_nmk (fun _ => ?_) (fun _ => ?_) | with_reducible refine asq_mk (fun _ => ?_) (fun _ => ?_) | with_reducible refine asp_dmk (fun _ => ?_) (fun _ => ?_) | with_reducible refine asp_ndmk (fun _ => ?_) (fun _ => ?_) | with_reducible refine asp_nmk (fun _ => ?_) (fun _ => ?_) | with_reducible refine asp_mk (fun _ => ?_) (fun _ => ?_) | with_reducible refine And.intro (by first | omega | rfl | decide | with_unfolding_all rfl) ?_ | simp only [go_sem, Nat.reduceLT, Nat.reduceAdd, Nat.reduceSub, Nat.reduceMul, Nat.reduceLeDiff, ne_eq, Nat.reduceEqDiff, not_false_eq_true, Bool.and_true, Bool.true_and, Nat.succ_ne_self, and_true, Bool.not_true, Bool.not_false, Int.toNat_zero, Int.reduceToNat, Nat.mul_one, Int.toNat_one, Int.reduceEq, Int.reduceNeg, decide_true, eq_self, hw1]
          all_goals exact .inl (congrArg some (tokslast he2 hk))
        · repeat' first | with_reducible refine asq_dmk (fun _ => ?_) (fun _ => ?_) | with_reducible refine asq_ndmk (fun _ => ?_) (fun _ => ?_) | with_reducible refine asq_nmk (fun _ => ?_) (fun _ => ?_) | with_reducible refine asq_mk (fun _ => ?_) (fun _ => ?_) | with_reducible refine asp_dmk (fun _ => ?_) (fun _ => ?_) | with_reducible refine asp_ndmk (fun _ => ?_) (fun _ => ?_) | with_reducible refine asp_nmk (fun _ => ?_) (fun _ => ?_) | with_reducible refine asp_mk (fun _ => ?_) (fun _ => ?_) | with_reducible refine And.intro (by first | omega | rfl | decide | with_unfolding_all rfl) ?_ | simp only [go_sem, Nat.reduceLT, Nat.reduceAdd, Nat.reduceSub, Nat.reduceMul, Nat.reduceLeDiff, ne_eq, Nat.reduceEqDiff, not_false_eq_true, Bool.and_true, Bool.true_and, Nat.succ_ne_self, and_true, Bool.not_true, Bool.not_false, Int.toNat_zero, Int.reduceToNat, Nat.mul_one, Int.toNat_one, Int.reduceEq, Int.reduceNeg, decide_true, eq_self, hw1]
          all_goals first | exact .inr rfl | exact .inr trivial
      · rename_i hj hw32
        have hj' : j < s.length := by omega
        obtain ⟨c, hc, hd⟩ := drop_cons hj'
        have he2 : toks s = pre ++ scanF m (s.drop (j + 1)) (j + 1) (some g) := by
          rw [he, hd]; simp only [scanF, wsp, ← hc, hw32, decide_true, Bool.or_true, Bool.true_or, if_true]
        refine lendG_mk m _ (by omega) ⟨k, j + 1, some g, _, rfl, by omega, by omega, he2, hk, rfl⟩ ?_
        simp only [hvm_t, hvm_f, hvm_nil, puts_cons, puts_nil, List.set_cons_zero, List.set_cons_succ, num]
        repeat first | exact Wk.nil | refine Wk.same ?_ | refine wk_any ?_
      · rename_i hj hw0 hw32
        have hj' : j < s.length := by omega
        obtain ⟨c, hc, hd⟩ := drop_cons hj'
        have he2 : toks s = pre ++ scanF m (s.drop (j + 1)) (j + 1) (some g) := by
          rw [he, hd]; simp only [scanF, wsp, ← hc, hw32, decide_true, Bool.or_true, Bool.true_or, if_true]
        refine lendG_mk m _ (by omega) ⟨k, j + 1, some g, _, rfl, by omega, by omega, he2, hk, rfl⟩ ?_
        simp only [hvm_t, hvm_f, hvm_nil, puts_cons, puts_nil, List.set_cons_zero, List.set_cons_succ, num]
        repeat first | exact Wk.nil | refine Wk.same ?_ | refine wk_any ?_
      · rename_i hj hw0 hw1
        have hj' : j < s.length := by omega
        obtain ⟨c, hc, hd⟩ := drop_cons hj'
        have hws : wsp c = false := by simp only [wsp, ← hc, hw0, hw1, decide_false, Bool.or_false]
        refine (part25 s j hj' hs).mono ?_
        rintro r rfl
        obtain ⟨o, ho⟩ : ∃ o, partL (s.drop j) = o := ⟨_, rfl⟩
        rw [ho]
        cases o with
        | none =>
          simp only [partR, tokA, str, num]
          repeat' first | with_reducible refine asq_dmk (fun _ => ?_) (fun _ => ?_) | with_reducible refine asq_ndmk (fun _ => ?_) (fun _ => ?_) | with_reducible refine asq_nmk (fun _ => ?_) (fun _ => ?_) | with_reducible refine asq_mk (fun _ => ?_) (fun _ => ?_) | with_reducible refine asp_dmk (fun _ => ?_) (fun _ => ?_) | with_reducible refine asp_ndmk (fun _ => ?_) (fun _ => ?_) | with_reducible refine asp_nmk (fun _ => ?_) (fun _ => ?_) | with_reducible refine asp_mk (fun _ => ?_) (fun _ => ?_) | with_reducible refine And.intro (by first | omega | rfl | decide | with_unfolding_all rfl) ?_ | simp only [go_sem, Nat.reduceLT, Nat.reduceAdd, Nat.reduceSub, Nat.reduceMul, Nat.reduceLeDiff, ne_eq, Nat.reduceEqDiff, not_false_eq_true, Bool.and_true, Bool.true_and, Nat.succ_ne_self, and_true, Bool.not_true, Bool.not_false, Int.toNat_zero, Int.reduceToNat, Nat.mul_one, Int.toNat_one, Int.reduceEq, Int.reduceNeg, decide_true, eq_self, hw1, hg, decide_false, xblkG_exit3]
          have he2 : toks s = pre ++ [⟨0, [], j⟩] := by
            rw [he, hd]; rw [hd] at ho; simp only [scanF, hws, ho, Bool.false_eq_true, if_false]
          refine yc_mk ⟨_, tokget he2 hk, rfl⟩ ?_ ?_
          · repeat' first | with_reducible refine asq_dmk (fun _ => ?_) (fun _ => ?_) | with_reducible refine asq_ndmk (fun _ => ?_) (fun _ => ?_) | with_reducible refine asq_nmk (fun _ => ?_) (fun _ => ?_) | with_reducible refine asq_mk (fun _ => ?_) (fun _ => ?_) | with_reducible refine asp_dmk (fun _ => ?_) (fun _ => ?_) | with_reducible refine asp_ndmk (fun _ => ?_) (fun _ => ?_) | with_reducible refine asp_nmk (fun _ => ?_) (fun _ => ?_) | with_reducible refine asp_mk (fun _ => ?_) (fun _ => ?_) | with_reducible refine And.intro (by first | omega | rfl | decide | with_unfolding_all rfl) ?_ | simp only [go_sem, Nat.reduceLT, Nat.reduceAdd, Nat.reduceSub, Nat.reduceMul, Nat.reduceLeDiff, ne_eq, Nat.reduceEqDiff, not_false_eq_true, Bool.and_true, Bool.true_and, Nat.succ_ne_self, and_true, Bool.not_true, Bool.not_false, Int.toNat_zero, Int.reduceToNat, Nat.mul_one, Int.toNat_one, Int.reduceEq, Int.reduceNeg, decide_true, eq_self, hw1]
            all_goals exact .inl (congrArg some (tokslast he2 hk))
          · repeat' first | with_reducible refine asq_dmk (fun _ => ?_) (fun _ => ?_) | with_reducible refine asq_ndmk (fun _ => ?_) (fun _ => ?_) | with_reducible refine asq_nmk (fun _ => ?_) (fun _ => ?_) | with_reducible refine asq_mk (fun _ => ?_) (fun _ => ?_) | with_reducible refine asp_dmk (fun _ => ?_) (fun _ => ?_) | with_reducible refine asp_ndmk (fun _ => ?_) (fun _ => ?_) | with_reducible refine asp_nmk (fun _ => ?_) (fun _ => ?_) | with_reducible refine asp_mk (fun _ => ?_) (fun _ => ?_) | with_reducible refine And.intro (by first | omega | rfl | decide | with_unfolding_all rfl) ?_ | simp only [go_sem, Nat.reduceLT, Nat.reduceAdd, Nat.reduceSub, Nat.reduceMul, Nat.reduceLeDiff, ne_eq, Nat.reduceEqDiff, not_false_eq_true, Bool.and_true, Bool.true_and, Nat.succ_ne_self, and_true, Bool.not_true, Bool.not_false, Int.toNat_zero, Int.reduceToNat, Nat.mul_one, Int.toNat_one, Int.reduceEq, Int.reduceNeg, decide_true, eq_self, hw1]
            all_goals first | exact .inr rfl | exact .inr trivial
        | some x =>
          obtain ⟨q, t, n⟩ := x
          have hp := partL_spec ho
          rw [List.length_drop] at hp
          obtain ⟨hn0, hnl, hq0, hq6, hq1⟩ := hp
          simp only [partR, tokA, str, num]
          replace hq0 : (q = 0) = False := by simp [hq0]
          repeat' first | with_reducible refine asq_dmk (fun _ => ?_) (fun _ => ?_) | with_reducible refine asq_ndmk (fun _ => ?_) (fun _ => ?_) | with_reducible refine asq_nmk (fun _ => ?_) (fun _ => ?_) | with_reducible refine asq_mk (fun _ => ?_) (fun _ => ?_) | with_reducible refine asp_dmk (fun _ => ?_) (fun _ => ?_) | with_reducible refine asp_ndmk (fun _ => ?_) (fun _ => ?_) | with_reducible refine asp_nmk (fun _ => ?_) (fun _ => ?_) | with_reducible refine asp_mk (fun _ => ?_) (fun _ => ?_) | with_reducible refine And.intro (by first | omega | rfl | decide | with_unfolding_all rfl) ?_ | simp only [go_sem, Nat.reduceLT, Nat.reduceAdd, Nat.reduceSub, Nat.reduceMul, Nat.reduceLeDiff, ne_eq, Nat.reduceEqDiff, not_false_eq_true, Bool.and_true, Bool.true_and, Nat.succ_ne_self, and_true, Bool.not_true, Bool.not_false, Int.toNat_zero, Int.reduceToNat, Nat.mul_one, Int.toNat_one, Int.reduceEq, Int.reduceNeg, decide_true, eq_self, hw1, hg, decide_false, xblkG_exit3]
          · rename_i h7
            have he2 : toks s = pre ++ ⟨q, t, j⟩ :: scanF m (s.drop (j + n)) (j + n) none := by
              rw [he, hd]; rw [hd] at ho; simp only [scanF, hws, ho, h7, Bool.false_eq_true, if_false, if_true]; rw [← hd, List.drop_drop]
            refine yc_mk ⟨_, tokget he2 hk, rfl⟩ ?_ ?_
            · repeat' first | with_reducible refine asq_dmk (fun _ => ?_) (fun _ => ?_) | with_reducible refine asq_ndmk (fun _ => ?_) (fun _ => ?_) | with_reducible refine asq_nmk (fun _ => ?_) (fun _ => ?_) | with_reducible refine asq_mk (fun _ => ?_) (fun _ => ?_) | with_reducible refine asp_dmk (fun _ => ?_) (fun _ => ?_) | with_reducible refine asp_ndmk (fun _ => ?_) (fun _ => ?_) | with_reducible refine asp_nmk (fun _ => ?_) (fun _ => ?_) | with_reducible refine asp_mk (fun _ => ?_) (fun _ => ?_) | with_reducible refine And.intro (by first | omega | rfl | decide | with_unfolding_all rfl) ?_ | simp only [go_sem, Nat.reduceLT, Nat.reduceAdd, Nat.reduceSub, Nat.reduceMul, Nat.reduceLeDiff, ne_eq, Nat.reduceEqDiff, not_false_eq_true, Bool.and_true, Bool.true_and, Nat.succ_ne_self, and_true, Bool.not_true, Bool.not_false, Int.toNat_zero, Int.reduceToNat, Nat.mul_one, Int.toNat_one, Int.reduceEq, Int.reduceNeg, decide_true, eq_self, hw1, hg, decide_false, xblkG_exit3, hq0]
              refine lendG_mk m _ (by omega) ⟨k + 1, j + n, none, _, rfl, by omega, by omega, toksnext he2, by simp [hk], rfl⟩ ?_
              simp only [hvm_t, hvm_f, hvm_nil, puts_cons, puts_nil, List.set_cons_zero, List.set_cons_succ, num]
              repeat first | exact Wk.nil | refine Wk.same ?_ | refine wk_any ?_
            · repeat' first | with_reducible refine asq_dmk (fun _ => ?_) (fun _ => ?_) | with_reducible refine asq_ndmk (fun _ => ?_) (fun _ => ?_) | with_reducible refine asq_nmk (fun _ => ?_) (fun _ => ?_) | with_reducible refine asq_mk (fun _ => ?_) (fun _ => ?_) | with_reducible refine asp_dmk (fun _ => ?_) (fun _ => ?_) | with_reducible refine asp_ndmk (fun _ => ?_) (fun _ => ?_) | with_reducible refine asp_nmk (fun _ => ?_) (fun _ => ?_) | with_reducible refine asp_mk (fun _ => ?_) (fun _ => ?_) | with_reducible refine And.intro (by first | omega | rfl | decide | with_unfolding_all rfl) ?_ | simp only [go_sem, Nat.reduceLT, Nat.reduceAdd, Nat.reduceSub, Nat.reduceMul, Nat.reduceLeDiff, ne_eq, Nat.reduceEqDiff, not_false_eq_true, Bool.and_true, Bool.true_and, Nat.succ_ne_self, and_true, Bool.not_true, Bool.not_false, Int.toNat_zero, Int.reduceToNat, Nat.mul_one, Int.toNat_one, Int.reduceEq, Int.reduceNeg, decide_true, eq_self, hw1, hg, decide_false, xblkG_exit3, hq0]
              all_goals first | exact .inr rfl | exact .inr trivial
          · rename_i h7
            have he2 : toks s = pre ++ ⟨q, t, j⟩ :: scanF m (s.drop (j + n)) (j + n) (some g) := by
              rw [he, hd]; rw [hd] at ho; simp only [scanF, hws, ho, h7, Bool.false_eq_true, if_false, if_true]; rw [← hd, List.drop_drop]
            refine yc_mk ⟨_, tokget he2 hk, rfl⟩ ?_ ?_
            · repeat' first | with_reducible refine asq_dmk (fun _ => ?_) (fun _ => ?_) | with_reducible refine asq_ndmk (fun _ => ?_) (fun _ => ?_) | with_reducible refine asq_nmk (fun _ => ?_) (fun _ => ?_) | with_reducible refine asq_mk (fun _ => ?_) (fun _ => ?_) | with_reducible refine asp_dmk (fun _ => ?_) (fun _ => ?_) | with_reducible refine asp_ndmk (fun _ => ?_) (fun _ => ?_) | with_reducible refine asp_nmk (fun _ => ?_) (fun _ => ?_) | with_reducible refine asp_mk (fun _ => ?_) (fun _ => ?_) | with_reducible refine And.intro (by first | omega | rfl | decide | with_unfolding_all rfl) ?_ | simp only [go_sem, Nat.reduceLT, Nat.reduceAdd, Nat.reduceSub, Nat.reduceMul, Nat.reduceLeDiff, ne_eq, Nat.reduceEqDiff, not_false_eq_true, Bool.and_true, Bool.true_and, Nat.succ_ne_self, and_true, Bool.not_true, Bool.not_false, Int.toNat_zero, Int.reduceToNat, Nat.mul_one, Int.toNat_one, Int.reduceEq, Int.reduceNeg, decide_true, eq_self, hw1, hg, decide_false, xblkG_exit3, hq0]
              refine lendG_mk m _ (by omega) ⟨k + 1, j + n, (some g), _, rfl, by omega, by omega, toksnext he2, by simp [hk], rfl⟩ ?_
              simp only [hvm_t, hvm_f, hvm_nil, puts_cons, puts_nil, List.set_cons_zero, List.set_cons_succ, num]
              repeat first | exact Wk.nil | refine Wk.same ?_ | refine wk_any ?_
            · repeat' first | with_reducible refine asq_dmk (fun _ => ?_) (fun _ => ?_) | with_reducible refine asq_ndmk (fun _ => ?_) (fun _ => ?_) | with_reducible refine asq_nmk (fun _ => ?_) (fun _ => ?_) | with_reducible refine asq_mk (fun _ => ?_) (fun _ => ?_) | with_reducible refine asp_dmk (fun _ => ?_) (fun _ => ?_) | with_reducible refine asp_ndmk (fun _ => ?_) (fun _ => ?_) | with_reducible refine asp_nmk (fun _ => ?_) (fun _ => ?_) | with_reducible refine asp_mk (fun _ => ?_) (fun _ => ?_) | with_reducible refine And.intro (by first | omega | rfl | decide | with_unfolding_all rfl) ?_ | simp only [go_sem, Nat.reduceLT, Nat.reduceAdd, Nat.reduceSub, Nat.reduceMul, Nat.reduceLeDiff, ne_eq, Nat.reduceEqDiff, not_false_eq_true, Bool.and_true, Bool.true_and, Nat.succ_ne_self, and_true, Bool.not_true, Bool.not_false, Int.toNat_zero, Int.reduceToNat, Nat.mul_one, Int.toNat_one, Int.reduceEq, Int.reduceNeg, decide_true, eq_self, hw1, hg, decide_false, xblkG_exit3, hq0]
              all_goals first | exact .inr rfl | exact .inr trivial
end Go.Proofs.Ytibdijaacolhkaa
