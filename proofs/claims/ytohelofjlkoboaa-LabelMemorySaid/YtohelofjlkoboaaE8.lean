/- pick and Make. -/
import Derived.Test.YtohelofjlkoboaaT
import Derived.Test.YtohelofjlkoboaaA10
import Derived.Test.YtohelofjlkoboaaA11
import Derived.Test.YtohelofjlkoboaaE7
namespace Go.Proofs.Ytohelofjlkoboaa
open Go.RowKit Go.Proofs
set_option linter.unusedSimpArgs false
set_option linter.unusedVariables false
set_option maxRecDepth 100000
set_option maxHeartbeats 4000000
def I64 (n : Int) : Prop := -9223372036854775808 ≤ n ∧ n ≤ 9223372036854775807
def absP (c : Int) : Int := if c < 0 then -(c + 1) else c
def pickF (c n : Int) : Int := absP c % n
theorem absP_nn {c : Int} : 0 ≤ absP c := by unfold absP; split <;> omega
theorem pickF_lt {c n : Int} (hn : 0 < n) : 0 ≤ pickF c n ∧ pickF c n < n := ⟨Int.emod_nonneg _ (by omega), Int.emod_lt_of_pos _ hn⟩
theorem pick27 (c n : Int) (hc : I64 c) (hn : 0 < n) : ACalls Try.prog 27 [num c, num n] (fun r => r = num (pickF c n)) := by
  obtain ⟨h1, h2⟩ := hc
  refine calls_short [] ttok hmix Try.func27 (by decide) (by decide +kernel) (by simp only [Try.f27, Option.bind_some, comp, isLend, lendOf, lendX, lendC, lendH, Nat.reduceLeDiff, Nat.reduceSub, ne_eq, not_false_eq_true, and_self, cops, cguard, gslot, List.getElem?_toArray, List.getElem?_cons_succ, List.getElem?_cons_zero, vlook, tlook, cutAt_nil, cutAt, firstReg, isCut, mkSeq, Nat.reduceAdd, Nat.reduceEqDiff, reduceIte]; rfl) Try.ntmps27 Try.results27 ⟨_, rfl⟩ rfl ?_
  simp only [List.length_cons, List.length_nil, Nat.reduceAdd, Nat.reduceSub, List.replicate_succ, List.replicate_zero, List.cons_append, List.nil_append, num, str, tru]
  simp only [go_sem, num, tru]
  refine asq_dmk (fun h => ?_) (fun h => ?_)
  · simp only [go_sem]
    have e1 : IntKind.i64.wrap (c + 1) = c + 1 := wrap_in (by omega) (by omega)
    have e2 : IntKind.i64.wrap (0 - (c + 1)) = -(c + 1) := by rw [wrap_in (by omega) (by omega)]; omega
    simp only [e1, e2]
    repeat with_reducible refine ⟨by first | rfl | assumption | omega | decide | (simp; done), ?_⟩
    have : absP c = -(c + 1) := by simp [absP, h]
    rw [pickF, this, Int.tmod_eq_emod_of_nonneg (by omega)]
  · simp only [go_sem]
    repeat with_reducible refine ⟨by first | rfl | assumption | omega | decide | (simp; done), ?_⟩
    have : absP c = c := by simp [absP, h]
    rw [pickF, this, Int.tmod_eq_emod_of_nonneg (by omega)]
def tst (x : Int) (i : Int) : Bool := decide (IntKind.u64.wrap ((BitVec.ofInt IntKind.u64.bits ((IntKind.u64.wrap x).fdiv (2 ^ (min (i - 1).toNat IntKind.u64.bits)))) &&& (BitVec.ofInt IntKind.u64.bits 1)).toNat = 1)
def makeL (a b c d : Int) : Lb := ⟨pickF a 1000000001, ids.filter (tst b), pickF c 6, pickF d 16⟩
theorem ids_take {k : Nat} (hk : k < 64) : ids.take (k + 1) = ids.take k ++ [(k : Int) + 1] := by
  have hl : k < ids.length := by simp [ids, hk]
  rw [List.take_add_one, List.getElem?_eq_getElem hl]
  simp [ids]
theorem asc_mono : ∀ {p q : Int} {l : List Int}, p ≤ q → asc q l = true → asc p l = true
  | p, q, [], _, _ => rfl
  | p, q, x :: l, h, hh => by
    simp only [asc, Bool.and_eq_true, decide_eq_true_eq] at hh ⊢
    exact ⟨⟨by omega, hh.1.2⟩, hh.2⟩
theorem make14 (a b c d : Int) (ha : I64 a) (hc : I64 c) (hd : I64 d) : ACalls Try.prog 14 [.agg [num a, num b, num c, num d]] (fun r => r = labO (makeL a b c d)) := by
  refine calls_short [] ttok hmix Try.func14 (by decide) (by decide +kernel) (by simp only [Try.f14, Option.bind_some, comp, isLend, lendOf, lendX, lendC, lendH, Nat.reduceLeDiff, Nat.reduceSub, ne_eq, not_false_eq_true, and_self, cops, cguard, gslot, List.getElem?_toArray, List.getElem?_cons_succ, List.getElem?_cons_zero, vlook, tlook, cutAt_nil, cutAt, firstReg, isCut, mkSeq, Nat.reduceAdd, Nat.reduceEqDiff, reduceIte]; rfl) Try.ntmps14 Try.results14 ⟨_, rfl⟩ rfl ?_
  simp only [List.length_cons, List.length_nil, Nat.reduceAdd, Nat.reduceSub, List.replicate_succ, List.replicate_zero, List.cons_append, List.nil_append, num, str, tru]
  simp (decide := true) only [mkd_eq [1] [1100001, 800001, 500001] [3] [[1], [1], [], [1], [1], [], [1], [1], [], [], [], []], List.zip_cons_cons, List.zip_nil_left, List.zip_nil_right]
  simp only [go_sem, num, tru]
  repeat' first|refine Spl.on (fun _=>?_) (fun _=>?_)|with_reducible refine gd ?_|simp only [go_sem]
  refine (pick27 a 1000000001 ha (by decide)).mono ?_
  rintro r rfl
  simp only [num]
  repeat' first|refine Spl.on (fun _=>?_) (fun _=>?_)|with_reducible refine gd ?_|simp only [go_sem]
  refine (pick27 c 6 hc (by decide)).mono ?_
  rintro r rfl
  simp only [num]
  repeat' first|refine Spl.on (fun _=>?_) (fun _=>?_)|with_reducible refine gd ?_|simp only [go_sem]
  refine (pick27 d 16 hd (by decide)).mono ?_
  rintro r rfl
  simp only [num]
  repeat' first|refine Spl.on (fun _=>?_) (fun _=>?_)|with_reducible refine gd ?_|simp only [go_sem]
  refine cwp_loop [false, false, false, true, true, false, false, false, false, false, false, false, false, false, false, true, true, true, true, true, true, true, true, true, true, true, true, true, true, true, true, true, true, false] [3, 4] (fun n xs => ∃ i : Nat, i + n = 64 ∧ xs = [.box 26 [num (pickF a 1000000001), .own 3 1 (nums ((ids.take i).filter (tst b))), num (pickF c 6), num (pickF d 16)], num ((i : Int) + 1)]) ⟨64, _, ⟨0, rfl, rfl⟩, ?_⟩ ?_
  · simp only [hvm_t, hvm_f, hvm_nil, puts_cons, puts_nil, List.set_cons_zero, List.set_cons_succ, num]
    repeat first | exact Wk.nil | refine Wk.same ?_ | refine wk_any ?_ | refine Wk.box (W1.box (Wk.same (wk_nilown (Wk.same (Wk.same Wk.nil))))) ?_
  · rintro n xs ⟨i, hi, rfl⟩
    simp only [hvm_t, hvm_f, hvm_nil, puts_cons, puts_nil, List.set_cons_zero, List.set_cons_succ, num]
    simp only [go_sem]
    refine asq_dmk (fun h1 => ?_) (fun h1 => ?_)
    · have hw : IntKind.i64.wrap ((i : Int) + 1 - 1) = (i : Int) + 1 - 1 := wrap_in (by omega) (by omega)
      have hw2 : IntKind.i64.wrap ((i : Int) + 1 + 1) = ((i + 1 : Nat) : Int) + 1 := by rw [wrap_in (by omega) (by omega)]; omega
      have hlen : ((ids.take i).filter (tst b)).length ≤ i := Nat.le_trans (List.length_filter_le ..) (by simp; omega)
      repeat' first|refine Spl.on (fun _=>?_) (fun _=>?_)|with_reducible refine gd ?_|simp only [go_sem, hw, hw2]
      · rename_i h2
        have ht : tst b ((i : Int) + 1) = true := decide_eq_true h2
        have e : nums ((ids.take (i + 1)).filter (tst b)) = nums ((ids.take i).filter (tst b)) ++ [.raw (.int .i64 ((i : Int) + 1))] := by
          rw [ids_take (by omega), List.filter_append]
          simp [ht, nums, num]
        repeat with_reducible refine ⟨by first | rfl | assumption | omega | decide | (simp; done), ?_⟩
        refine lend_mk (n - 1) [.box 26 [num (pickF a 1000000001), .own 3 1 (nums ((ids.take (i + 1)).filter (tst b))), num (pickF c 6), num (pickF d 16)], num (((i + 1 : Nat) : Int) + 1)] (by omega) ⟨i + 1, by omega, rfl⟩ ?_
        rw [e]
        simp only [hvm_t, hvm_f, hvm_nil, puts_cons, puts_nil, List.set_cons_zero, List.set_cons_succ, num]
        repeat first | exact Wk.nil | refine Wk.same ?_ | refine wk_any ?_
      · rename_i h2
        have ht : tst b ((i : Int) + 1) = false := decide_eq_false h2
        have e : nums ((ids.take (i + 1)).filter (tst b)) = nums ((ids.take i).filter (tst b)) := by
          rw [ids_take (by omega), List.filter_append]
          simp [ht, nums, num]
        refine lend_mk (n - 1) [.box 26 [num (pickF a 1000000001), .own 3 1 (nums ((ids.take (i + 1)).filter (tst b))), num (pickF c 6), num (pickF d 16)], num (((i + 1 : Nat) : Int) + 1)] (by omega) ⟨i + 1, by omega, rfl⟩ ?_
        rw [e]
        simp only [hvm_t, hvm_f, hvm_nil, puts_cons, puts_nil, List.set_cons_zero, List.set_cons_succ, num]
        repeat first | exact Wk.nil | refine Wk.same ?_ | refine wk_any ?_
    · repeat' first|refine Spl.on (fun _=>?_) (fun _=>?_)|with_reducible refine gd ?_|simp only [go_sem]
      have : i = 64 := by omega
      subst this
      have e : ids.take 64 = ids := List.take_of_length_le (by simp [ids])
      rw [e]
      rfl
theorem asc_filter : ∀ (p : Int) (l : List Int) (q : Int → Bool), asc p l = true → asc p (l.filter q) = true
  | p, [], q, _ => rfl
  | p, x :: l, q, h => by
    have hh := h
    simp only [asc, Bool.and_eq_true, decide_eq_true_eq] at hh
    have h1 := asc_filter x l q hh.2
    rw [List.filter_cons]
    split
    · simp only [asc, Bool.and_eq_true, decide_eq_true_eq]; exact ⟨hh.1, h1⟩
    · exact asc_mono (by omega) h1
theorem asc_ids : asc 0 ids = true := by decide +kernel
theorem ok_make (a b c d : Int) : okL (makeL a b c d) = true := by
  have h1 := pickF_lt (c := a) (n := 1000000001) (by decide)
  have h2 := pickF_lt (c := c) (n := 6) (by decide)
  have h3 := pickF_lt (c := d) (n := 16) (by decide)
  have h4 := asc_filter 0 ids (tst b) asc_ids
  have e1 : (makeL a b c d).a = ids.filter (tst b) := rfl
  have e2 : (makeL a b c d).u = pickF a 1000000001 := rfl
  have e3 : (makeL a b c d).n = pickF c 6 := rfl
  have e4 : (makeL a b c d).d = pickF d 16 := rfl
  rw [okL, e1, e2, e3, e4, h4]
  simp only [Bool.and_true, Bool.and_eq_true, decide_eq_true_eq]
  exact ⟨⟨⟨by omega, by omega⟩, by omega, by omega⟩, by omega, by omega⟩
theorem ok_join {a b : Lb} (ha : okL a = true) (hb : okL b = true) : okL (joinL a b) = true := by
  have h1 := okL_u ha
  have h2 := okL_u hb
  have h3 := okL_n ha
  have h4 := okL_n hb
  have h6 : asc 0 (joinA a.a b.a) = true := asc_filter 0 ids _ asc_ids
  have h7 : 0 ≤ or4 a.d b.d ∧ or4 a.d b.d ≤ 15 := by unfold or4; split <;> split <;> split <;> split <;> omega
  simp only [joinL, ha, hb, Bool.and_self, if_true]
  simp only [okL, h6, Bool.and_true, Bool.and_eq_true, decide_eq_true_eq]
  omega
end Go.Proofs.Ytohelofjlkoboaa
