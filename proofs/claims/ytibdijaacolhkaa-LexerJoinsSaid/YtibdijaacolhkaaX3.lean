/- literal. -/
import Derived.Test.YtibdijaacolhkaaT
import Derived.Test.YtibdijaacolhkaaA10
import Derived.Test.YtibdijaacolhkaaX2
namespace Go.Proofs.Ytibdijaacolhkaa
open Go.RowKit Go.Proofs
set_option linter.unusedSimpArgs false
set_option linter.unusedVariables false
set_option maxRecDepth 100000
set_option maxHeartbeats 4000000
def tokA (k : Int) (t : List UInt8) (a : Int) : AV := .agg [num k, str t, num a]
section
variable {T : Tab} {K : AV → Prop}
def uel (o : Option Nat) (T : Tab) : Prop := match o with
  | some e => (match T e with
    | some j => j.td.ik = some .u8
    | none => False)
  | none => False
def uel2 (o : Option TI) : Prop := match o with
  | some j => j.td.ik = some .u8
  | none => False
theorem uel_some (e : Nat) : uel (some e) T = uel2 (T e) := (rfl)
theorem uel2_some (j : TI) : uel2 (some j) = (j.td.ik = some .u8) := (rfl)
theorem aconv2_bytes (s d : TI) (e : Nat) (l : List UInt8) : aconv2 T s d (.own e 1 (bytesA l)) K = (d.td.str = true ∧ uel s.td.elem T ∧ K (.raw (.string ⟨l.toArray⟩))) := by
  refine propext ⟨?_, ?_⟩
  · rintro ⟨h1, h2, l', h3, h4⟩
    rw [bytesA_inj h3]
    exact ⟨h1, h2, h4⟩
  · rintro ⟨h1, h2, h3⟩
    exact ⟨h1, h2, l, rfl, h3⟩
end
theorem bytesA_len (l : List UInt8) : (bytesA l).length = l.length := by simp [bytesA]
attribute [go_sem] uel_some uel2_some aconv2_bytes bytesA_snoc bytesA_len
def badc (c : UInt8) : Bool := !decide (((c.toNat : Nat) : Int) = 10) && !plnI (c.toNat : Int)
def litL : List UInt8 → List UInt8 × Nat × Bool
  | [] => ([], 0, false)
  | [c] => if lb c then ([], 0, false) else if badc c then ([], 0, true) else ([c], 1, false)
  | c :: d :: r =>
    if lb c && !lb d then ([], 0, false) else if badc c then ([], 0, true)
    else if lb c then (c :: (litL r).1, (litL r).2.1 + 2, (litL r).2.2)
    else (c :: (litL (d :: r)).1, (litL (d :: r)).2.1 + 1, (litL (d :: r)).2.2)
theorem litL_opn {u : List UInt8} (h : opn u = true) : litL u = ([], 0, false) := by
  match u with
  | [] => rfl
  | [c] => simp only [opn] at h; simp [litL, h]
  | c :: d :: r => simp only [opn] at h; simp only [litL, h, if_true]
theorem litL_bad {c : UInt8} {r : List UInt8} (h : opn (c :: r) = false) (hb : badc c = true) : litL (c :: r) = ([], 0, true) := by
  match r with
  | [] => simp only [opn] at h; simp [litL, h, hb]
  | d :: r => simp only [opn] at h; simp only [litL, h, hb, Bool.false_eq_true, if_false, if_true]
theorem litL_one {c : UInt8} {r : List UInt8} (h : opn (c :: r) = false) (hb : badc c = false) (hl : lb c = false) : litL (c :: r) = (c :: (litL r).1, (litL r).2.1 + 1, (litL r).2.2) := by
  match r with
  | [] => simp only [opn] at h; simp [litL, h, hb]
  | d :: r => simp only [opn] at h; simp only [litL, hl, Bool.false_and, hb, Bool.false_eq_true, if_false]
theorem litL_two {c d : UInt8} {r : List UInt8} (h : opn (c :: d :: r) = false) (hb : badc c = false) (hl : lb c = true) : litL (c :: d :: r) = (c :: (litL r).1, (litL r).2.1 + 2, (litL r).2.2) := by
  simp only [opn, hl, Bool.true_and] at h
  simp only [litL, hl, Bool.true_and, h, hb, Bool.false_eq_true, if_false, if_true]
def litR (i : Nat) (x : List UInt8 × Nat × Bool) : AV := if x.2.2 then .tup [tokA 0 [] (i + x.2.1 : Nat), num 0] else .tup [tokA 1 x.1 i, num (i + x.2.1 : Nat)]
theorem literal24 (s : List UInt8) (i : Nat) (hi : i ≤ s.length) (hs : s.length ≤ 1000000) : ACalls Try.prog 24 [str s, num i] (fun r => r = litR i (litL (s.drop i))) := by
  refine calls_short [] ttok hmix Try.func24 (by decide) (by decide +kernel) (by simp only [Try.f24, Option.bind_some, comp, isLend, lendOf, lendX, lendC, lendH, Nat.reduceLeDiff, Nat.reduceSub, ne_eq, not_false_eq_true, and_self, cops, cguard, gslot, List.getElem?_toArray, List.getElem?_cons_succ, List.getElem?_cons_zero, vlook, tlook, cutAt_nil, cutAt, firstReg, isCut, mkSeq, Nat.reduceAdd, Nat.reduceEqDiff, reduceIte]; rfl) Try.ntmps24 Try.results24 ⟨_, rfl⟩ rfl ?_
  simp only [List.length_cons, List.length_nil, Nat.reduceAdd, Nat.reduceSub, List.replicate_succ, List.replicate_zero, List.cons_append, List.nil_append, num, str, tru]
  simp only [go_sem, Nat.reduceLT, Nat.reduceAdd, Nat.reduceSub, Nat.reduceMul, Nat.reduceLeDiff, ne_eq, Nat.reduceEqDiff, not_false_eq_true, Bool.and_true, Bool.true_and, Nat.succ_ne_self, and_true, Bool.not_true, Bool.not_false, Int.toNat_zero, Int.reduceToNat, Nat.mul_one, Int.toNat_one, str, num]
  refine cwp_loop [false, false, false, false, false, false, true, true, true, true, true, true, true, true, true, true, true, true, true, true, true, true, true, true, true, true, true, true, true, true, true, true, true, true, true, true, true, true, true, true, true, true, false, false, false, false, false] [6, 7] (fun n xs => ∃ (j : Nat) (t : List UInt8), i ≤ j ∧ j ≤ s.length ∧ j + n = s.length ∧ t.length ≤ j ∧ xs = [.own 5 1 (bytesA t), num j] ∧ litL (s.drop i) = (t ++ (litL (s.drop j)).1, (j - i) + (litL (s.drop j)).2.1, (litL (s.drop j)).2.2)) ⟨s.length - i, _, ⟨i, [], by omega, hi, by omega, by simp, rfl, by simp⟩, ?_⟩ ?_
  · simp only [hvm_t, hvm_f, hvm_nil, puts_cons, puts_nil, List.set_cons_zero, List.set_cons_succ, num]
    simp only [bytesA_nil]
    repeat first | exact Wk.nil | refine Wk.same ?_ | refine wk_any ?_ | refine wk_nilown ?_
  · rintro n xs ⟨j, t, hij, hjl, hn, htl, rfl, he⟩
    simp only [hvm_t, hvm_f, hvm_nil, puts_cons, puts_nil, List.set_cons_zero, List.set_cons_succ, num]
    simp only [go_sem, Nat.reduceLT, Nat.reduceAdd, Nat.reduceSub, Nat.reduceMul, Nat.reduceLeDiff, ne_eq, Nat.reduceEqDiff, not_false_eq_true, Bool.and_true, Bool.true_and, Nat.succ_ne_self, and_true, Bool.not_true, Bool.not_false, Int.toNat_zero, Int.reduceToNat, Nat.mul_one, Int.toNat_one]
    repeat' first | with_reducible refine asq_dmk (fun _ => ?_) (fun _ => ?_) | with_reducible refine asq_ndmk (fun _ => ?_) (fun _ => ?_) | with_reducible refine asq_nmk (fun _ => ?_) (fun _ => ?_) | with_reducible refine asq_mk (fun _ => ?_) (fun _ => ?_) | with_reducible refine asp_dmk (fun _ => ?_) (fun _ => ?_) | with_reducible refine asp_ndmk (fun _ => ?_) (fun _ => ?_) | with_reducible refine asp_nmk (fun _ => ?_) (fun _ => ?_) | with_reducible refine asp_mk (fun _ => ?_) (fun _ => ?_) | with_reducible refine And.intro (by first | omega | rfl | decide | with_unfolding_all rfl) ?_ | simp only [go_sem, Nat.reduceLT, Nat.reduceAdd, Nat.reduceSub, Nat.reduceMul, Nat.reduceLeDiff, ne_eq, Nat.reduceEqDiff, not_false_eq_true, Bool.and_true, Bool.true_and, Nat.succ_ne_self, and_true, Bool.not_true, Bool.not_false, Int.toNat_zero, Int.reduceToNat, Nat.mul_one, Int.toNat_one]
    · rename_i hlt
      have hlt' : j < s.length := by omega
      obtain ⟨c, hc0, hd⟩ := drop_cons hlt'
      have hw : IntKind.i64.wrap ((j : Int) + 1) = ((j + 1 : Nat) : Int) := wrap_succ (by omega)
      have hw2 : IntKind.i64.wrap (((j + 1 : Nat) : Int) + 1) = ((j + 2 : Nat) : Int) := by rw [wrap_in (by omega) (by omega)]; omega
      refine (opens23 s j hlt' hs).mono ?_
      rintro r rfl
      simp only [tru]
      cases ho : opn (s.drop j)
      · rw [hd] at ho
        have hsn := bytesA_snoc t c
        repeat' first | with_reducible refine asq_dmk (fun _ => ?_) (fun _ => ?_) | with_reducible refine asq_ndmk (fun _ => ?_) (fun _ => ?_) | with_reducible refine asq_nmk (fun _ => ?_) (fun _ => ?_) | with_reducible refine asq_mk (fun _ => ?_) (fun _ => ?_) | with_reducible refine asp_dmk (fun _ => ?_) (fun _ => ?_) | with_reducible refine asp_ndmk (fun _ => ?_) (fun _ => ?_) | with_reducible refine asp_nmk (fun _ => ?_) (fun _ => ?_) | with_reducible refine asp_mk (fun _ => ?_) (fun _ => ?_) | with_reducible refine And.intro (by first | omega | rfl | decide | with_unfolding_all rfl) ?_ | simp only [go_sem, Nat.reduceLT, Nat.reduceAdd, Nat.reduceSub, Nat.reduceMul, Nat.reduceLeDiff, ne_eq, Nat.reduceEqDiff, not_false_eq_true, Bool.and_true, Bool.true_and, Nat.succ_ne_self, and_true, Bool.not_true, Bool.not_false, Int.toNat_zero, Int.reduceToNat, Nat.mul_one, Int.toNat_one, hc0, hw, hsn]
        · rename_i h10
          refine (printable29 _).mono ?_
          rintro r rfl
          simp only [tru]
          cases hp : plnI (c.toNat : Int)
          · repeat' first | with_reducible refine asq_dmk (fun _ => ?_) (fun _ => ?_) | with_reducible refine asq_ndmk (fun _ => ?_) (fun _ => ?_) | with_reducible refine asq_nmk (fun _ => ?_) (fun _ => ?_) | with_reducible refine asq_mk (fun _ => ?_) (fun _ => ?_) | with_reducible refine asp_dmk (fun _ => ?_) (fun _ => ?_) | with_reducible refine asp_ndmk (fun _ => ?_) (fun _ => ?_) | with_reducible refine asp_nmk (fun _ => ?_) (fun _ => ?_) | with_reducible refine asp_mk (fun _ => ?_) (fun _ => ?_) | with_reducible refine And.intro (by first | omega | rfl | decide | with_unfolding_all rfl) ?_ | simp only [go_sem, Nat.reduceLT, Nat.reduceAdd, Nat.reduceSub, Nat.reduceMul, Nat.reduceLeDiff, ne_eq, Nat.reduceEqDiff, not_false_eq_true, Bool.and_true, Bool.true_and, Nat.succ_ne_self, and_true, Bool.not_true, Bool.not_false, Int.toNat_zero, Int.reduceToNat, Nat.mul_one, Int.toNat_one]
            have hb : badc c = true := by simp [badc, hp, h10]
            rw [hd, litL_bad ho hb] at he
            rw [he]
            simp only [litR, if_true, tokA, str, num]
            have : i + (j - i + 0) = j := by omega
            rw [this]
          · have hb : badc c = false := by simp [badc, hp]
            repeat' first | with_reducible refine asq_dmk (fun _ => ?_) (fun _ => ?_) | with_reducible refine asq_ndmk (fun _ => ?_) (fun _ => ?_) | with_reducible refine asq_nmk (fun _ => ?_) (fun _ => ?_) | with_reducible refine asq_mk (fun _ => ?_) (fun _ => ?_) | with_reducible refine asp_dmk (fun _ => ?_) (fun _ => ?_) | with_reducible refine asp_ndmk (fun _ => ?_) (fun _ => ?_) | with_reducible refine asp_nmk (fun _ => ?_) (fun _ => ?_) | with_reducible refine asp_mk (fun _ => ?_) (fun _ => ?_) | with_reducible refine And.intro (by first | omega | rfl | decide | with_unfolding_all rfl) ?_ | simp only [go_sem, Nat.reduceLT, Nat.reduceAdd, Nat.reduceSub, Nat.reduceMul, Nat.reduceLeDiff, ne_eq, Nat.reduceEqDiff, not_false_eq_true, Bool.and_true, Bool.true_and, Nat.succ_ne_self, and_true, Bool.not_true, Bool.not_false, Int.toNat_zero, Int.reduceToNat, Nat.mul_one, Int.toNat_one, hw, hsn]
            · rename_i h123
              have hl : lb c = true := by simp only [lb, decide_eq_true_eq]; exact h123
              obtain ⟨d, r, hr⟩ : ∃ d r, s.drop (j + 1) = d :: r := by
                cases hr : s.drop (j + 1) with
                | nil => rw [hr] at ho; simp only [opn] at ho; rw [hl] at ho; cases ho
                | cons d r => exact ⟨d, r, rfl⟩
              have hr2 : s.drop (j + 2) = r := by
                have := congrArg (List.drop 1) hr
                simpa [List.drop_drop, Nat.add_comm, Nat.add_left_comm] using this
              have hj2 : j + 2 ≤ s.length := by
                have := congrArg List.length hr
                simp at this; omega
              repeat' first | with_reducible refine asq_dmk (fun _ => ?_) (fun _ => ?_) | with_reducible refine asq_ndmk (fun _ => ?_) (fun _ => ?_) | with_reducible refine asq_nmk (fun _ => ?_) (fun _ => ?_) | with_reducible refine asq_mk (fun _ => ?_) (fun _ => ?_) | with_reducible refine asp_dmk (fun _ => ?_) (fun _ => ?_) | with_reducible refine asp_ndmk (fun _ => ?_) (fun _ => ?_) | with_reducible refine asp_nmk (fun _ => ?_) (fun _ => ?_) | with_reducible refine asp_mk (fun _ => ?_) (fun _ => ?_) | with_reducible refine And.intro (by first | omega | rfl | decide | with_unfolding_all rfl) ?_ | simp only [go_sem, Nat.reduceLT, Nat.reduceAdd, Nat.reduceSub, Nat.reduceMul, Nat.reduceLeDiff, ne_eq, Nat.reduceEqDiff, not_false_eq_true, Bool.and_true, Bool.true_and, Nat.succ_ne_self, and_true, Bool.not_true, Bool.not_false, Int.toNat_zero, Int.reduceToNat, Nat.mul_one, Int.toNat_one, hw2]
              refine lend_mk (n - 2) [.own 5 1 (bytesA (t ++ [c])), num ((j + 2 : Nat) : Int)] (by omega) ⟨j + 2, t ++ [c], by omega, by omega, by omega, by simp; omega, rfl, ?_⟩ ?_
              · rw [he, hd, hr, litL_two (by rw [← hr]; exact ho) hb hl, hr2]
                simp only [List.append_assoc, List.cons_append, List.nil_append]
                congr 2
                omega
              · simp only [hvm_t, hvm_f, hvm_nil, puts_cons, puts_nil, List.set_cons_zero, List.set_cons_succ, num]
                repeat first | exact Wk.nil | refine Wk.same ?_ | refine wk_any ?_
            · rename_i h123
              have hl : lb c = false := by simp only [lb, decide_eq_false_iff_not]; exact h123
              refine lend_mk (n - 1) [.own 5 1 (bytesA (t ++ [c])), num ((j + 1 : Nat) : Int)] (by omega) ⟨j + 1, t ++ [c], by omega, by omega, by omega, by simp; omega, rfl, ?_⟩ ?_
              · rw [he, hd, litL_one ho hb hl]
                simp only [List.append_assoc, List.cons_append, List.nil_append]
                congr 2
                omega
              · simp only [hvm_t, hvm_f, hvm_nil, puts_cons, puts_nil, List.set_cons_zero, List.set_cons_succ, num]
                repeat first | exact Wk.nil | refine Wk.same ?_ | refine wk_any ?_
        · exfalso; rename_i h10 h123; omega
        · rename_i h10 h123
          have hb : badc c = false := by simp only [badc, h10, decide_true, Bool.not_true, Bool.false_and]
          have hl : lb c = false := by simp only [lb, decide_eq_false_iff_not]; exact h123
          refine lend_mk (n - 1) [.own 5 1 (bytesA (t ++ [c])), num ((j + 1 : Nat) : Int)] (by omega) ⟨j + 1, t ++ [c], by omega, by omega, by omega, by simp; omega, rfl, ?_⟩ ?_
          · rw [he, hd, litL_one ho hb hl]
            simp only [List.append_assoc, List.cons_append, List.nil_append]
            congr 2
            omega
          · simp only [hvm_t, hvm_f, hvm_nil, puts_cons, puts_nil, List.set_cons_zero, List.set_cons_succ, num]
            repeat first | exact Wk.nil | refine Wk.same ?_ | refine wk_any ?_
      · repeat' first | with_reducible refine asq_dmk (fun _ => ?_) (fun _ => ?_) | with_reducible refine asq_ndmk (fun _ => ?_) (fun _ => ?_) | with_reducible refine asq_nmk (fun _ => ?_) (fun _ => ?_) | with_reducible refine asq_mk (fun _ => ?_) (fun _ => ?_) | with_reducible refine asp_dmk (fun _ => ?_) (fun _ => ?_) | with_reducible refine asp_ndmk (fun _ => ?_) (fun _ => ?_) | with_reducible refine asp_nmk (fun _ => ?_) (fun _ => ?_) | with_reducible refine asp_mk (fun _ => ?_) (fun _ => ?_) | with_reducible refine And.intro (by first | omega | rfl | decide | with_unfolding_all rfl) ?_ | simp only [go_sem, Nat.reduceLT, Nat.reduceAdd, Nat.reduceSub, Nat.reduceMul, Nat.reduceLeDiff, ne_eq, Nat.reduceEqDiff, not_false_eq_true, Bool.and_true, Bool.true_and, Nat.succ_ne_self, and_true, Bool.not_true, Bool.not_false, Int.toNat_zero, Int.reduceToNat, Nat.mul_one, Int.toNat_one]
        rw [litL_opn ho] at he
        rw [he]
        simp only [litR, Bool.false_eq_true, if_false, tokA, str, num, List.append_nil]
        have : i + (j - i + 0) = j := by omega
        rw [this]
    · rename_i hge
      have hj : j = s.length := by omega
      have : s.drop j = [] := by simp; omega
      rw [this] at he
      rw [he]
      simp only [litR, litL, Bool.false_eq_true, if_false, tokA, str, num, List.append_nil]
      have : i + (j - i + 0) = j := by omega
      rw [this]
end Go.Proofs.Ytibdijaacolhkaa
