/- escaped; the law LexerText. -/
import Derived.Test.YtibdijaacolhkaaT
import Derived.Test.YtibdijaacolhkaaA10
import Derived.Test.YtibdijaacolhkaaX13
namespace Go.Proofs.Ytibdijaacolhkaa
open Go.RowKit Go.Proofs
set_option linter.unusedSimpArgs false
set_option linter.unusedVariables false
set_option maxRecDepth 100000
set_option maxHeartbeats 4000000
theorem aconv2_bytes_sl {T : Tab} {K : AV → Prop} (s d : TI) (l : List UInt8) : aconv2 T s d (.sl 1 (bytesA l)) K = (d.td.str = true ∧ uel s.td.elem T ∧ K (.raw (.string ⟨l.toArray⟩))) := by
  refine propext ⟨?_, ?_⟩
  · rintro ⟨h1, h2, l', h3, h4⟩
    rw [bytesA_inj h3]
    exact ⟨h1, h2, h4⟩
  · rintro ⟨h1, h2, h3⟩
    exact ⟨h1, h2, l, rfl, h3⟩
attribute [go_sem] aconv2_bytes_sl
def escL : List UInt8 → List UInt8
  | [] => []
  | c :: r => if lb c then c :: c :: escL r else c :: escL r
theorem escL_len : ∀ (l : List UInt8), (escL l).length ≤ 2 * l.length
  | [] => by simp [escL]
  | c :: r => by
    have := escL_len r
    simp only [escL]; split <;> simp only [List.length_cons] <;> omega
theorem escL_len' : ∀ (l : List UInt8), l.length ≤ (escL l).length
  | [] => by simp [escL]
  | c :: r => by
    have := escL_len' r
    simp only [escL]; split <;> simp only [List.length_cons] <;> omega
theorem escL_app : ∀ (l m : List UInt8), escL (l ++ m) = escL l ++ escL m
  | [], m => rfl
  | c :: r, m => by
    have := escL_app r m
    simp only [escL, List.cons_append]; split <;> simp only [this, List.cons_append]
theorem take_snoc {s : List UInt8} {j : Nat} {c : UInt8} (hd : s.drop j = c :: s.drop (j + 1)) : s.take (j + 1) = s.take j ++ [c] := by
  have hj : j < s.length := by
    rcases Nat.lt_or_ge j s.length with h | h
    · exact h
    · rw [List.drop_of_length_le h] at hd; cases hd
  rw [List.drop_eq_getElem_cons hj] at hd
  injection hd with h1 _
  rw [List.take_add_one, List.getElem?_eq_getElem hj, h1]
  rfl
theorem escaped14 (s : List UInt8) (hs : s.length ≤ 1000000) : ACalls Try.prog 14 [str s] (fun r => r = str (escL s)) := by
  refine calls_short [] ttok hmix Try.func14 (by decide) (by decide +kernel) (by simp only [Try.f14, Option.bind_some, comp, isLend, lendOf, lendX, lendC, lendH, Nat.reduceLeDiff, Nat.reduceSub, ne_eq, not_false_eq_true, and_self, cops, cguard, gslot, List.getElem?_toArray, List.getElem?_cons_succ, List.getElem?_cons_zero, vlook, tlook, cutAt_nil, cutAt, firstReg, isCut, mkSeq, Nat.reduceAdd, Nat.reduceEqDiff, reduceIte]; rfl) Try.ntmps14 Try.results14 ⟨_, rfl⟩ rfl ?_
  simp only [List.length_cons, List.length_nil, Nat.reduceAdd, Nat.reduceSub, List.replicate_succ, List.replicate_zero, List.cons_append, List.nil_append, num, str, tru]
  simp only [go_sem, Nat.reduceLT, Nat.reduceAdd, Nat.reduceSub, Nat.reduceMul, Nat.reduceLeDiff, ne_eq, Nat.reduceEqDiff, not_false_eq_true, Bool.and_true, Bool.true_and, Nat.succ_ne_self, and_true, Bool.not_true, Bool.not_false, Int.toNat_zero, Int.reduceToNat, Nat.mul_one, Int.toNat_one, str, num]
  refine cwp_loop [false, false, false, true, true, true, true, true, true, true, true, true, true, true, true, true, true, true, true, true, true, true, true, true, true, true, true, false, false] [3, 4] (fun n xs => ∃ (j : Nat), j ≤ s.length ∧ j + n = s.length ∧ xs = [.own 5 1 (bytesA (escL (s.take j))), num j]) ⟨s.length, _, ⟨0, by omega, by omega, rfl⟩, ?_⟩ ?_
  · simp only [hvm_t, hvm_f, hvm_nil, puts_cons, puts_nil, List.set_cons_zero, List.set_cons_succ, num]
    simp only [List.take_zero, escL, bytesA_nil]
    repeat first | exact Wk.nil | refine Wk.same ?_ | refine wk_any ?_ | refine wk_nilown ?_
  · rintro n xs ⟨j, hjl, hn, rfl⟩
    have hel := escL_len (s.take j)
    rw [List.length_take] at hel
    simp only [hvm_t, hvm_f, hvm_nil, puts_cons, puts_nil, List.set_cons_zero, List.set_cons_succ, num]
    rcases Nat.lt_or_ge j s.length with hlt | hge
    · have ej := eq_true (show (j : Int) < (s.length : Int) by omega)
      obtain ⟨c, hc0, hd⟩ := drop_cons hlt
      have hw : IntKind.i64.wrap ((j : Int) + 1) = ((j + 1 : Nat) : Int) := wrap_succ (by omega)
      have hsn := bytesA_snoc (escL (s.take j)) c
      have hsn2 := bytesA_snoc (escL (s.take j) ++ [c]) c
      by_cases h123 : ((c.toNat : Nat) : Int) = 123
      · have e123 := eq_true h123
        repeat' first | with_reducible refine asq_dmk (fun _ => ?_) (fun _ => ?_) | with_reducible refine asq_ndmk (fun _ => ?_) (fun _ => ?_) | with_reducible refine asq_nmk (fun _ => ?_) (fun _ => ?_) | with_reducible refine asq_mk (fun _ => ?_) (fun _ => ?_) | with_reducible refine asp_dmk (fun _ => ?_) (fun _ => ?_) | with_reducible refine asp_ndmk (fun _ => ?_) (fun _ => ?_) | with_reducible refine asp_nmk (fun _ => ?_) (fun _ => ?_) | with_reducible refine asp_mk (fun _ => ?_) (fun _ => ?_) | with_reducible refine And.intro (by first | omega | rfl | decide | with_unfolding_all rfl) ?_ | simp only [go_sem, Nat.reduceLT, Nat.reduceAdd, Nat.reduceSub, Nat.reduceMul, Nat.reduceLeDiff, ne_eq, Nat.reduceEqDiff, not_false_eq_true, Bool.and_true, Bool.true_and, Nat.succ_ne_self, and_true, Bool.not_true, Bool.not_false, Int.toNat_zero, Int.reduceToNat, Nat.mul_one, Int.toNat_one, hc0, hw, ej, e123, hsn, hsn2, List.length_append, decide_true, decide_false]
        all_goals try (exfalso; omega)
        refine lend_mk (n - 1) [.own 5 1 (bytesA (escL (s.take (j + 1)))), num ((j + 1 : Nat) : Int)] (by omega) ⟨j + 1, by omega, by omega, rfl⟩ ?_
        rw [take_snoc hd, escL_app]
        simp only [escL, lb, h123, decide_true, if_true]
        simp only [List.append_assoc, List.cons_append, List.nil_append]
        simp only [hvm_t, hvm_f, hvm_nil, puts_cons, puts_nil, List.set_cons_zero, List.set_cons_succ, num]
        repeat first | exact Wk.nil | refine Wk.same ?_ | refine wk_any ?_
      · have e123 := eq_false h123
        repeat' first | with_reducible refine asq_dmk (fun _ => ?_) (fun _ => ?_) | with_reducible refine asq_ndmk (fun _ => ?_) (fun _ => ?_) | with_reducible refine asq_nmk (fun _ => ?_) (fun _ => ?_) | with_reducible refine asq_mk (fun _ => ?_) (fun _ => ?_) | with_reducible refine asp_dmk (fun _ => ?_) (fun _ => ?_) | with_reducible refine asp_ndmk (fun _ => ?_) (fun _ => ?_) | with_reducible refine asp_nmk (fun _ => ?_) (fun _ => ?_) | with_reducible refine asp_mk (fun _ => ?_) (fun _ => ?_) | with_reducible refine And.intro (by first | omega | rfl | decide | with_unfolding_all rfl) ?_ | simp only [go_sem, Nat.reduceLT, Nat.reduceAdd, Nat.reduceSub, Nat.reduceMul, Nat.reduceLeDiff, ne_eq, Nat.reduceEqDiff, not_false_eq_true, Bool.and_true, Bool.true_and, Nat.succ_ne_self, and_true, Bool.not_true, Bool.not_false, Int.toNat_zero, Int.reduceToNat, Nat.mul_one, Int.toNat_one, hc0, hw, ej, e123, hsn, hsn2, List.length_append, decide_true, decide_false]
        all_goals try (exfalso; omega)
        refine lend_mk (n - 1) [.own 5 1 (bytesA (escL (s.take (j + 1)))), num ((j + 1 : Nat) : Int)] (by omega) ⟨j + 1, by omega, by omega, rfl⟩ ?_
        rw [take_snoc hd, escL_app]
        simp only [escL, lb, h123, decide_false, Bool.false_eq_true, if_false]
        simp only [hvm_t, hvm_f, hvm_nil, puts_cons, puts_nil, List.set_cons_zero, List.set_cons_succ, num]
        repeat first | exact Wk.nil | refine Wk.same ?_ | refine wk_any ?_
    · have ej := eq_false (show ¬ (j : Int) < (s.length : Int) by omega)
      repeat' first | with_reducible refine asq_dmk (fun _ => ?_) (fun _ => ?_) | with_reducible refine asq_ndmk (fun _ => ?_) (fun _ => ?_) | with_reducible refine asq_nmk (fun _ => ?_) (fun _ => ?_) | with_reducible refine asq_mk (fun _ => ?_) (fun _ => ?_) | with_reducible refine asp_dmk (fun _ => ?_) (fun _ => ?_) | with_reducible refine asp_ndmk (fun _ => ?_) (fun _ => ?_) | with_reducible refine asp_nmk (fun _ => ?_) (fun _ => ?_) | with_reducible refine asp_mk (fun _ => ?_) (fun _ => ?_) | with_reducible refine And.intro (by first | omega | rfl | decide | with_unfolding_all rfl) ?_ | simp only [go_sem, Nat.reduceLT, Nat.reduceAdd, Nat.reduceSub, Nat.reduceMul, Nat.reduceLeDiff, ne_eq, Nat.reduceEqDiff, not_false_eq_true, Bool.and_true, Bool.true_and, Nat.succ_ne_self, and_true, Bool.not_true, Bool.not_false, Int.toNat_zero, Int.reduceToNat, Nat.mul_one, Int.toNat_one, ej, decide_true, decide_false]
      rw [List.take_of_length_le hge]
def okc8 (c : UInt8) : Bool := !badc c
theorem litL_esc : ∀ (b rest : List UInt8), (∀ c ∈ b, badc c = false) → litL rest = ([], 0, false) → litL (escL b ++ rest) = (b, (escL b).length, false)
  | [], rest, _, hr => by simpa [escL] using hr
  | c :: r, rest, hb, hr => by
    have ih := litL_esc r rest (fun c h => hb c (by simp [h])) hr
    have hc := hb c (by simp)
    cases hl : lb c with
    | true =>
      simp only [escL, hl, if_true, List.cons_append]
      rw [litL_two (by simp [opn, hl]) hc hl, ih]
      simp
    | false =>
      simp only [escL, hl, Bool.false_eq_true, if_false, List.cons_append]
      rw [litL_one (by cases escL r ++ rest <;> simp [opn, hl]) hc hl, ih]
      simp
theorem opn_esc : ∀ (b rest : List UInt8), b ≠ [] → opn (escL b ++ rest) = false
  | [], _, h => absurd rfl h
  | c :: r, rest, _ => by
    cases hl : lb c with
    | true => simp [escL, hl, opn]
    | false =>
      simp only [escL, hl, Bool.false_eq_true, if_false, List.cons_append]
      cases escL r ++ rest <;> simp [opn, hl]
theorem escL_nil {b : List UInt8} (h : escL b = []) : b = [] := by
  cases b with
  | nil => rfl
  | cons c r => simp only [escL] at h; split at h <;> cases h
/-- A text, then what is no text. -/
theorem sc_esc {b rest : List UInt8} {a : Nat} (h0 : b ≠ []) (hb : ∀ c ∈ b, badc c = false) (hr : litL rest = ([], 0, false)) : sc (escL b ++ rest) a none = ⟨1, b, a⟩ :: sc rest (a + (escL b).length) none := by
  obtain ⟨c, r, he⟩ : ∃ c r, escL b ++ rest = c :: r := by
    cases h : escL b ++ rest with
    | nil => exact absurd (escL_nil (List.append_eq_nil_iff.1 h).1) h0
    | cons c r => exact ⟨c, r, rfl⟩
  have ho := opn_esc b rest h0
  have hl := litL_esc b rest hb hr
  rw [he] at ho hl ⊢
  rw [sc_text ho (by rw [hl]), hl, ← he, List.drop_left]
theorem toks_esc (b : List UInt8) (hb : ∀ c ∈ b, badc c = false) : toks (escL b) = if b = [] then [] else [⟨1, b, 0⟩] := by
  rw [toks_sc]
  split
  · rename_i h; subst h; rfl
  · rename_i h
    have := sc_esc (rest := []) (a := 0) h hb rfl
    rw [List.append_nil] at this
    rw [this, sc_nil]
/-- What passes. -/
def goodL (s : List UInt8) : List UInt8 := s.filter fun c => !badc c
theorem goodL_good (s : List UInt8) : ∀ c ∈ goodL s, badc c = false := by
  intro c hc
  simp only [goodL, List.mem_filter, Bool.not_eq_eq_eq_not, Bool.not_true] at hc
  exact hc.2
theorem tokL_esc (b : List UInt8) (hb : ∀ c ∈ b, badc c = false) (hl : b.length ≤ 500) : tokL (escL b) = (if b = [] then [] else [⟨1, b, 0⟩], 0, 0) := by
  have := escL_len b
  unfold tokL
  rw [if_neg (by omega), toks_esc b hb]
  by_cases h : b = [] <;> simp [h]
theorem goodL_snoc (s : List UInt8) (c : UInt8) : goodL (s ++ [c]) = if badc c then goodL s else goodL s ++ [c] := by
  simp only [goodL, List.filter_append]
  cases h : badc c <;> simp [h]
theorem badc_f {c : UInt8} (h : ((c.toNat : Nat) : Int) = 10 ∨ (32 ≤ ((c.toNat : Nat) : Int) ∧ ((c.toNat : Nat) : Int) ≤ 126)) : badc c = false := by
  simp only [badc, plnI, Bool.and_eq_false_iff, Bool.not_eq_eq_eq_not, Bool.not_false, Bool.and_eq_true, decide_eq_true_eq]
  exact h
theorem badc_t {c : UInt8} (h : ¬ ((c.toNat : Nat) : Int) = 10) (h2 : ¬ (32 ≤ ((c.toNat : Nat) : Int) ∧ ((c.toNat : Nat) : Int) ≤ 126)) : badc c = true := by
  simp only [badc, plnI, h, decide_false, Bool.not_false, Bool.true_and, Bool.not_eq_eq_eq_not, Bool.not_true, Bool.and_eq_false_iff, decide_eq_false_iff_not]
  omega
theorem law6 (s : List UInt8) (hs : s.length ≤ 9223372036854775807) : ACalls Try.prog 6 [str s] (fun r => r = tru true) := by
  refine calls_short [] ttok hmix Try.func6 (by decide) (by decide +kernel) (by simp only [Try.f6, Option.bind_some, comp, isLend, lendOf, lendX, lendC, lendH, Nat.reduceLeDiff, Nat.reduceSub, ne_eq, not_false_eq_true, and_self, cops, cguard, gslot, List.getElem?_toArray, List.getElem?_cons_succ, List.getElem?_cons_zero, vlook, tlook, cutAt_nil, cutAt, firstReg, isCut, mkSeq, Nat.reduceAdd, Nat.reduceEqDiff, reduceIte]; rfl) Try.ntmps6 Try.results6 ⟨_, rfl⟩ rfl ?_
  simp only [List.length_cons, List.length_nil, Nat.reduceAdd, Nat.reduceSub, List.replicate_succ, List.replicate_zero, List.cons_append, List.nil_append, num, str, tru]
  simp (decide := true) only [mkd_eq [6] [] [] [[], [64], [64], [64], [64], [68], [6, 68], [68], [68], [68], [73], [74, 73, 6], [74, 73], [73], [73], [73], [73], [73], [73], []], List.zip_cons_cons, List.zip_nil_left, List.zip_nil_right]
  repeat' first | with_reducible refine asq_dmk (fun _ => ?_) (fun _ => ?_) | with_reducible refine asq_ndmk (fun _ => ?_) (fun _ => ?_) | with_reducible refine asq_nmk (fun _ => ?_) (fun _ => ?_) | with_reducible refine asq_mk (fun _ => ?_) (fun _ => ?_) | with_reducible refine asp_dmk (fun _ => ?_) (fun _ => ?_) | with_reducible refine asp_ndmk (fun _ => ?_) (fun _ => ?_) | with_reducible refine asp_nmk (fun _ => ?_) (fun _ => ?_) | with_reducible refine asp_mk (fun _ => ?_) (fun _ => ?_) | with_reducible refine And.intro (by first | omega | rfl | decide | with_unfolding_all rfl) ?_ | simp only [go_sem, Nat.reduceLT, Nat.reduceAdd, Nat.reduceSub, Nat.reduceMul, Nat.reduceLeDiff, ne_eq, Nat.reduceEqDiff, not_false_eq_true, Bool.and_true, Bool.true_and, Nat.succ_ne_self, and_true, Bool.not_true, Bool.not_false, Int.toNat_zero, Int.reduceToNat, Nat.mul_one, Int.toNat_one]
  refine sane9.mono ?_
  rintro r rfl
  simp only [tru]
  repeat' first | with_reducible refine asq_dmk (fun _ => ?_) (fun _ => ?_) | with_reducible refine asq_ndmk (fun _ => ?_) (fun _ => ?_) | with_reducible refine asq_nmk (fun _ => ?_) (fun _ => ?_) | with_reducible refine asq_mk (fun _ => ?_) (fun _ => ?_) | with_reducible refine asp_dmk (fun _ => ?_) (fun _ => ?_) | with_reducible refine asp_ndmk (fun _ => ?_) (fun _ => ?_) | with_reducible refine asp_nmk (fun _ => ?_) (fun _ => ?_) | with_reducible refine asp_mk (fun _ => ?_) (fun _ => ?_) | with_reducible refine And.intro (by first | omega | rfl | decide | with_unfolding_all rfl) ?_ | simp only [go_sem, Nat.reduceLT, Nat.reduceAdd, Nat.reduceSub, Nat.reduceMul, Nat.reduceLeDiff, ne_eq, Nat.reduceEqDiff, not_false_eq_true, Bool.and_true, Bool.true_and, Nat.succ_ne_self, and_true, Bool.not_true, Bool.not_false, Int.toNat_zero, Int.reduceToNat, Nat.mul_one, Int.toNat_one]
  refine cwp_loop [false, false, false, false, true, true, false, false, false, false, true, true, true, true, true, true, true, true, true, true, true, true, true, true, true, true, true, true, true, true, true, true, true, true, true, true, true, true, true, true, true, true, false, false, false, false, false, false, false, false, false, false, false, false, false, false, false, false, false, false, false, false, false, false, false, false, false, false, false, false, false, false, false, false, false, false, false, false, false, false, false, false] [4, 5] (fun n xs => ∃ (j : Nat), j ≤ s.length ∧ j ≤ 400 ∧ j + n = s.length ∧ xs = [.own 5 1 (bytesA (goodL (s.take j))), num j]) ⟨s.length, _, ⟨0, by omega, by omega, by omega, rfl⟩, ?_⟩ ?_
  · simp only [hvm_t, hvm_f, hvm_nil, puts_cons, puts_nil, List.set_cons_zero, List.set_cons_succ, num]
    simp only [List.take_zero, goodL, List.filter_nil, bytesA_nil]
    repeat first | exact Wk.nil | refine Wk.same ?_ | refine wk_any ?_ | refine wk_nilown ?_
  · rintro n xs ⟨j, hjl, hj4, hn, rfl⟩
    have hgl : (goodL (s.take j)).length ≤ j := by
      have := List.length_filter_le (fun c => !badc c) (s.take j)
      rw [List.length_take] at this
      simp only [goodL]; omega
    have hgood := goodL_good (s.take j)
    simp only [hvm_t, hvm_f, hvm_nil, puts_cons, puts_nil, List.set_cons_zero, List.set_cons_succ, num]
    by_cases hlt : j < s.length ∧ j < 400
    · have ej := eq_true (show (j : Int) < (s.length : Int) by omega)
      have ej4 := eq_true (show (j : Int) < 400 by omega)
      obtain ⟨c, hc0, hd⟩ := drop_cons hlt.1
      have hw : IntKind.i64.wrap ((j : Int) + 1) = ((j + 1 : Nat) : Int) := wrap_succ (by omega)
      have hsn := bytesA_snoc (goodL (s.take j)) c
      have htk := take_snoc hd
      repeat' first | with_reducible refine asq_dmk (fun _ => ?_) (fun _ => ?_) | with_reducible refine asq_ndmk (fun _ => ?_) (fun _ => ?_) | with_reducible refine asq_nmk (fun _ => ?_) (fun _ => ?_) | with_reducible refine asq_mk (fun _ => ?_) (fun _ => ?_) | with_reducible refine asp_dmk (fun _ => ?_) (fun _ => ?_) | with_reducible refine asp_ndmk (fun _ => ?_) (fun _ => ?_) | with_reducible refine asp_nmk (fun _ => ?_) (fun _ => ?_) | with_reducible refine asp_mk (fun _ => ?_) (fun _ => ?_) | with_reducible refine And.intro (by first | omega | rfl | decide | with_unfolding_all rfl) ?_ | simp only [go_sem, Nat.reduceLT, Nat.reduceAdd, Nat.reduceSub, Nat.reduceMul, Nat.reduceLeDiff, ne_eq, Nat.reduceEqDiff, not_false_eq_true, Bool.and_true, Bool.true_and, Nat.succ_ne_self, and_true, Bool.not_true, Bool.not_false, Int.toNat_zero, Int.reduceToNat, Nat.mul_one, Int.toNat_one, hc0, hw, ej, ej4, hsn, decide_true, decide_false]
      all_goals try (exfalso; omega)
      all_goals first
        | (have hb : badc c = false := badc_f (by omega)
           refine lend_mk (n - 1) [.own 5 1 (bytesA (goodL (s.take (j + 1)))), num ((j + 1 : Nat) : Int)] (by omega) ⟨j + 1, by omega, by omega, by omega, rfl⟩ ?_
           rw [htk, goodL_snoc, hb, if_neg (by decide)]
           simp only [hvm_t, hvm_f, hvm_nil, puts_cons, puts_nil, List.set_cons_zero, List.set_cons_succ, num]
           repeat first | exact Wk.nil | refine Wk.same ?_ | refine wk_any ?_
           done)
        | (have hb : badc c = true := badc_t (by omega) (by omega)
           refine lend_mk (n - 1) [.own 5 1 (bytesA (goodL (s.take (j + 1)))), num ((j + 1 : Nat) : Int)] (by omega) ⟨j + 1, by omega, by omega, by omega, rfl⟩ ?_
           rw [htk, goodL_snoc, hb, if_pos rfl]
           simp only [hvm_t, hvm_f, hvm_nil, puts_cons, puts_nil, List.set_cons_zero, List.set_cons_succ, num]
           repeat first | exact Wk.nil | refine Wk.same ?_ | refine wk_any ?_
           done)
    · generalize goodL (s.take j) = b at hgl hgood
      have hel := escL_len b
      rcases Nat.lt_or_ge j s.length with hjs | hjs
      · have ej := eq_true (show (j : Int) < (s.length : Int) by omega)
        have ej4 := eq_false (show ¬ (j : Int) < 400 by omega)
        repeat' first | with_reducible refine asq_dmk (fun _ => ?_) (fun _ => ?_) | with_reducible refine asq_ndmk (fun _ => ?_) (fun _ => ?_) | with_reducible refine asq_nmk (fun _ => ?_) (fun _ => ?_) | with_reducible refine asq_mk (fun _ => ?_) (fun _ => ?_) | with_reducible refine asp_dmk (fun _ => ?_) (fun _ => ?_) | with_reducible refine asp_ndmk (fun _ => ?_) (fun _ => ?_) | with_reducible refine asp_nmk (fun _ => ?_) (fun _ => ?_) | with_reducible refine asp_mk (fun _ => ?_) (fun _ => ?_) | with_reducible refine And.intro (by first | omega | rfl | decide | with_unfolding_all rfl) ?_ | simp only [go_sem, Nat.reduceLT, Nat.reduceAdd, Nat.reduceSub, Nat.reduceMul, Nat.reduceLeDiff, ne_eq, Nat.reduceEqDiff, not_false_eq_true, Bool.and_true, Bool.true_and, Nat.succ_ne_self, and_true, Bool.not_true, Bool.not_false, Int.toNat_zero, Int.reduceToNat, Nat.mul_one, Int.toNat_one, ej, ej4, decide_true, decide_false]
        refine (escaped14 b (by omega)).mono ?_
        rintro r rfl
        simp only [str]
        repeat' first | with_reducible refine asq_dmk (fun _ => ?_) (fun _ => ?_) | with_reducible refine asq_ndmk (fun _ => ?_) (fun _ => ?_) | with_reducible refine asq_nmk (fun _ => ?_) (fun _ => ?_) | with_reducible refine asq_mk (fun _ => ?_) (fun _ => ?_) | with_reducible refine asp_dmk (fun _ => ?_) (fun _ => ?_) | with_reducible refine asp_ndmk (fun _ => ?_) (fun _ => ?_) | with_reducible refine asp_nmk (fun _ => ?_) (fun _ => ?_) | with_reducible refine asp_mk (fun _ => ?_) (fun _ => ?_) | with_reducible refine And.intro (by first | omega | rfl | decide | with_unfolding_all rfl) ?_ | simp only [go_sem, Nat.reduceLT, Nat.reduceAdd, Nat.reduceSub, Nat.reduceMul, Nat.reduceLeDiff, ne_eq, Nat.reduceEqDiff, not_false_eq_true, Bool.and_true, Bool.true_and, Nat.succ_ne_self, and_true, Bool.not_true, Bool.not_false, Int.toNat_zero, Int.reduceToNat, Nat.mul_one, Int.toNat_one]
        refine (tokW10 (escL b) (by omega)).mono ?_
        rintro r rfl
        simp only [tokensW, tokL_esc b hgood (by omega), num]
        cases hb : b with
        | nil =>
          simp only [if_true, List.map_nil]
          repeat' first | with_reducible refine asq_dmk (fun _ => ?_) (fun _ => ?_) | with_reducible refine asq_ndmk (fun _ => ?_) (fun _ => ?_) | with_reducible refine asq_nmk (fun _ => ?_) (fun _ => ?_) | with_reducible refine asq_mk (fun _ => ?_) (fun _ => ?_) | with_reducible refine asp_dmk (fun _ => ?_) (fun _ => ?_) | with_reducible refine asp_ndmk (fun _ => ?_) (fun _ => ?_) | with_reducible refine asp_nmk (fun _ => ?_) (fun _ => ?_) | with_reducible refine asp_mk (fun _ => ?_) (fun _ => ?_) | with_reducible refine And.intro (by first | omega | rfl | decide | with_unfolding_all rfl) ?_ | simp only [go_sem, Nat.reduceLT, Nat.reduceAdd, Nat.reduceSub, Nat.reduceMul, Nat.reduceLeDiff, ne_eq, Nat.reduceEqDiff, not_false_eq_true, Bool.and_true, Bool.true_and, Nat.succ_ne_self, and_true, Bool.not_true, Bool.not_false, Int.toNat_zero, Int.reduceToNat, Nat.mul_one, Int.toNat_one, decide_true, decide_false, List.length_nil, bytesA_len, Nat.reduceLT, Int.cast_ofNat_Int, Int.reduceEq]
        | cons c r =>
          have hne : ¬ (((c :: r).length : Nat) : Int) = 0 := by rw [List.length_cons]; omega
          have e0 := eq_false hne
          simp only [reduceCtorEq, if_false, List.map_cons, List.map_nil, tk, tokA, num, str]
          repeat' first | with_reducible refine asq_dmk (fun _ => ?_) (fun _ => ?_) | with_reducible refine asq_ndmk (fun _ => ?_) (fun _ => ?_) | with_reducible refine asq_nmk (fun _ => ?_) (fun _ => ?_) | with_reducible refine asq_mk (fun _ => ?_) (fun _ => ?_) | with_reducible refine asp_dmk (fun _ => ?_) (fun _ => ?_) | with_reducible refine asp_ndmk (fun _ => ?_) (fun _ => ?_) | with_reducible refine asp_nmk (fun _ => ?_) (fun _ => ?_) | with_reducible refine asp_mk (fun _ => ?_) (fun _ => ?_) | with_reducible refine And.intro (by first | omega | rfl | decide | with_unfolding_all rfl) ?_ | simp only [go_sem, Nat.reduceLT, Nat.reduceAdd, Nat.reduceSub, Nat.reduceMul, Nat.reduceLeDiff, ne_eq, Nat.reduceEqDiff, not_false_eq_true, Bool.and_true, Bool.true_and, Nat.succ_ne_self, and_true, Bool.not_true, Bool.not_false, Int.toNat_zero, Int.reduceToNat, Nat.mul_one, Int.toNat_one, decide_true, decide_false, e0, bytesA_len, Nat.reduceLT, Int.cast_ofNat_Int, Int.reduceEq]
          all_goals first | omega | (exfalso; omega)
      · have ej := eq_false (show ¬ (j : Int) < (s.length : Int) by omega)
        repeat' first | with_reducible refine asq_dmk (fun _ => ?_) (fun _ => ?_) | with_reducible refine asq_ndmk (fun _ => ?_) (fun _ => ?_) | with_reducible refine asq_nmk (fun _ => ?_) (fun _ => ?_) | with_reducible refine asq_mk (fun _ => ?_) (fun _ => ?_) | with_reducible refine asp_dmk (fun _ => ?_) (fun _ => ?_) | with_reducible refine asp_ndmk (fun _ => ?_) (fun _ => ?_) | with_reducible refine asp_nmk (fun _ => ?_) (fun _ => ?_) | with_reducible refine asp_mk (fun _ => ?_) (fun _ => ?_) | with_reducible refine And.intro (by first | omega | rfl | decide | with_unfolding_all rfl) ?_ | simp only [go_sem, Nat.reduceLT, Nat.reduceAdd, Nat.reduceSub, Nat.reduceMul, Nat.reduceLeDiff, ne_eq, Nat.reduceEqDiff, not_false_eq_true, Bool.and_true, Bool.true_and, Nat.succ_ne_self, and_true, Bool.not_true, Bool.not_false, Int.toNat_zero, Int.reduceToNat, Nat.mul_one, Int.toNat_one, ej, decide_true, decide_false]
        refine (escaped14 b (by omega)).mono ?_
        rintro r rfl
        simp only [str]
        repeat' first | with_reducible refine asq_dmk (fun _ => ?_) (fun _ => ?_) | with_reducible refine asq_ndmk (fun _ => ?_) (fun _ => ?_) | with_reducible refine asq_nmk (fun _ => ?_) (fun _ => ?_) | with_reducible refine asq_mk (fun _ => ?_) (fun _ => ?_) | with_reducible refine asp_dmk (fun _ => ?_) (fun _ => ?_) | with_reducible refine asp_ndmk (fun _ => ?_) (fun _ => ?_) | with_reducible refine asp_nmk (fun _ => ?_) (fun _ => ?_) | with_reducible refine asp_mk (fun _ => ?_) (fun _ => ?_) | with_reducible refine And.intro (by first | omega | rfl | decide | with_unfolding_all rfl) ?_ | simp only [go_sem, Nat.reduceLT, Nat.reduceAdd, Nat.reduceSub, Nat.reduceMul, Nat.reduceLeDiff, ne_eq, Nat.reduceEqDiff, not_false_eq_true, Bool.and_true, Bool.true_and, Nat.succ_ne_self, and_true, Bool.not_true, Bool.not_false, Int.toNat_zero, Int.reduceToNat, Nat.mul_one, Int.toNat_one]
        refine (tokW10 (escL b) (by omega)).mono ?_
        rintro r rfl
        simp only [tokensW, tokL_esc b hgood (by omega), num]
        cases hb : b with
        | nil =>
          simp only [if_true, List.map_nil]
          repeat' first | with_reducible refine asq_dmk (fun _ => ?_) (fun _ => ?_) | with_reducible refine asq_ndmk (fun _ => ?_) (fun _ => ?_) | with_reducible refine asq_nmk (fun _ => ?_) (fun _ => ?_) | with_reducible refine asq_mk (fun _ => ?_) (fun _ => ?_) | with_reducible refine asp_dmk (fun _ => ?_) (fun _ => ?_) | with_reducible refine asp_ndmk (fun _ => ?_) (fun _ => ?_) | with_reducible refine asp_nmk (fun _ => ?_) (fun _ => ?_) | with_reducible refine asp_mk (fun _ => ?_) (fun _ => ?_) | with_reducible refine And.intro (by first | omega | rfl | decide | with_unfolding_all rfl) ?_ | simp only [go_sem, Nat.reduceLT, Nat.reduceAdd, Nat.reduceSub, Nat.reduceMul, Nat.reduceLeDiff, ne_eq, Nat.reduceEqDiff, not_false_eq_true, Bool.and_true, Bool.true_and, Nat.succ_ne_self, and_true, Bool.not_true, Bool.not_false, Int.toNat_zero, Int.reduceToNat, Nat.mul_one, Int.toNat_one, decide_true, decide_false, List.length_nil, bytesA_len, Nat.reduceLT, Int.cast_ofNat_Int, Int.reduceEq]
        | cons c r =>
          have hne : ¬ (((c :: r).length : Nat) : Int) = 0 := by rw [List.length_cons]; omega
          have e0 := eq_false hne
          simp only [reduceCtorEq, if_false, List.map_cons, List.map_nil, tk, tokA, num, str]
          repeat' first | with_reducible refine asq_dmk (fun _ => ?_) (fun _ => ?_) | with_reducible refine asq_ndmk (fun _ => ?_) (fun _ => ?_) | with_reducible refine asq_nmk (fun _ => ?_) (fun _ => ?_) | with_reducible refine asq_mk (fun _ => ?_) (fun _ => ?_) | with_reducible refine asp_dmk (fun _ => ?_) (fun _ => ?_) | with_reducible refine asp_ndmk (fun _ => ?_) (fun _ => ?_) | with_reducible refine asp_nmk (fun _ => ?_) (fun _ => ?_) | with_reducible refine asp_mk (fun _ => ?_) (fun _ => ?_) | with_reducible refine And.intro (by first | omega | rfl | decide | with_unfolding_all rfl) ?_ | simp only [go_sem, Nat.reduceLT, Nat.reduceAdd, Nat.reduceSub, Nat.reduceMul, Nat.reduceLeDiff, ne_eq, Nat.reduceEqDiff, not_false_eq_true, Bool.and_true, Bool.true_and, Nat.succ_ne_self, and_true, Bool.not_true, Bool.not_false, Int.toNat_zero, Int.reduceToNat, Nat.mul_one, Int.toNat_one, decide_true, decide_false, e0, bytesA_len, Nat.reduceLT, Int.cast_ofNat_Int, Int.reduceEq]
          all_goals first | omega | (exfalso; omega)
theorem lawA6 (xs : List AV) (h : OfA Try.prog [9] xs) : ACalls Try.prog 6 xs (fun r => r = tru true) := by
  obtain ⟨_, y, _, rfl, h1, h⟩ := OfA_cons h
  obtain rfl := OfA_nil h
  obtain ⟨s, rfl, hs⟩ := OfE_str Try.underlying9 h1
  exact law6 s hs
end Go.Proofs.Ytibdijaacolhkaa
