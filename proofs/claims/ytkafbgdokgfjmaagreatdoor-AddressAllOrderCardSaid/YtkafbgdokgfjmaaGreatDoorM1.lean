/- Stories, and small functions on them. Comparisons, topics. The literals of package query. each: the iterator over a state. each, Collect. Lists compared; names. -/
import Derived.Test.YtkafbgdokgfjmaaGreatDoorT
import Derived.Test.YtkafbgdokgfjmaaGreatDoorA10
import Derived.Test.YtkafbgdokgfjmaaGreatDoorA11
import Derived.Test.YtkafbgdokgfjmaaGreatDoorG9
namespace Go.Proofs.YtkafbgdokgfjmaaGreatDoor
open Go.RowKit Go.Proofs
set_option linter.unusedSimpArgs false
set_option linter.unusedVariables false
set_option maxRecDepth 100000
set_option maxHeartbeats 4000000
set_option linter.unusedSectionVars false
variable [Env]
structure Sto where
  id : Int
  au : List UInt8
  tp : List (List UInt8)
  ed : List AV
  pu : Int
  re : Bool
  tk : Bool
def stoC (s : Sto) : List AV := [num s.id, str s.au, .sl 1 (s.tp.map str), .sl 5 s.ed, num s.pu, .nil, tru s.re, tru s.tk]
def sto (s : Sto) : AV := .agg (stoC s)
def qst (s : Sto) (a : Int) : AV := .agg [num s.id, str s.au, .sl 1 (s.tp.map str), .sl 5 s.ed, num s.pu, .nil, tru s.re, tru s.tk, num a]
def rel (s : Sto) (a c : Int) : AV := .agg [num s.id, str s.au, .sl 1 (s.tp.map str), .sl 5 s.ed, num s.pu, .nil, tru s.re, tru s.tk, num a, num c]
def lstd (s : Sto) : Bool := !s.re && !s.tk && decide (0 < s.ed.length)
theorem tru_f {b : Bool} (h : b = false) : AV.raw (.bool false) = tru b := by rw [h]; rfl
theorem tru_t {b : Bool} (h : b = true) : AV.raw (.bool true) = tru b := by rw [h]; rfl
theorem tru_e {a b : Bool} (h : a = b) : AV.raw (.bool a) = tru b := by rw [h]; rfl
def pickN (a : Int) (n : Nat) : Nat := (if a < 0 then -(a + 1) else a).toNat % n
theorem pickN_lt {a : Int} {n : Nat} (h : 0 < n) : pickN a n < n := Nat.mod_lt _ h
theorem tmod_nat {x : Int} {n : Nat} (h : 0 ≤ x) : x.tmod (n : Int) = ((x.toNat % n : Nat) : Int) := by
  obtain ⟨m, rfl⟩ := Int.eq_ofNat_of_zero_le h
  rw [Int.toNat_natCast]
  exact Int.ofNat_tmod m n
def I64 (a : Int) : Prop := -9223372036854775808 ≤ a ∧ a ≤ 9223372036854775807
theorem pick31 (a : Int) (h : I64 a) (n : Nat) (hn : 0 < n) (hn2 : n ≤ 1000000) : ACalls Tryz.prog 27 [num a, num n] (fun r => r = num (pickN a n : Nat)) := by
  obtain ⟨h1, h2⟩ := h
  refine calls_short [] ttok hmix Tryz.func27 (by decide) (by decide +kernel) (by simp only [Tryz.f27, Option.bind_some, comp, cops, cguard, gslot, List.getElem?_toArray, List.getElem?_cons_succ, List.getElem?_cons_zero, vlook, tlook, cutAt_nil, cutAt, firstReg, isCut, mkSeq, Nat.reduceAdd, Nat.reduceEqDiff, reduceIte]; rfl) Tryz.ntmps27 Tryz.results27 ⟨_, rfl⟩ rfl ?_
  simp only [List.length_cons, List.length_nil, Nat.reduceAdd, Nat.reduceSub, List.replicate_succ, List.replicate_zero, List.cons_append, List.nil_append, num, str, tru]
  have hn0 : ¬ (n : Int) = 0 := by omega
  by_cases ha : a < 0
  · have ea := eq_true ha
    have hw1 : IntKind.i64.wrap (a + 1) = a + 1 := wrap_in (by omega) (by omega)
    have hw2 : IntKind.i64.wrap (0 - (a + 1)) = -(a + 1) := by rw [wrap_in (by omega) (by omega)]; omega
    have hm := tmod_nat (x := -(a + 1)) (n := n) (by omega)
    repeat' first|refine Spl.on (fun _=>?_) (fun _=>?_)|with_reducible refine gd ?_|simp only [go_sem, ea, hw1, hw2, hm]
    simp only [pickN, ea, if_true]
  · have ea := eq_false ha
    have hm := tmod_nat (x := a) (n := n) (by omega)
    repeat' first|refine Spl.on (fun _=>?_) (fun _=>?_)|with_reducible refine gd ?_|simp only [go_sem, ea, hm]
    simp only [pickN, ea, if_false]
theorem Listed43 (s : Sto) (hs : s.ed.length ≤ 9223372036854775807) : ACalls Tryz.prog 69 [sto s] (fun r => r = tru (lstd s)) := by
  simp only [sto, stoC, qst]
  refine calls_short [] ttok hmix Tryz.func69 (by decide) (by decide +kernel) (by simp only [Tryz.f69, Option.bind_some, comp, cops, cguard, gslot, List.getElem?_toArray, List.getElem?_cons_succ, List.getElem?_cons_zero, vlook, tlook, cutAt_nil, cutAt, firstReg, isCut, mkSeq, Nat.reduceAdd, Nat.reduceEqDiff, reduceIte]; rfl) Tryz.ntmps69 Tryz.results69 ⟨_, rfl⟩ rfl ?_
  simp only [List.length_cons, List.length_nil, Nat.reduceAdd, Nat.reduceSub, List.replicate_succ, List.replicate_zero, List.cons_append, List.nil_append, num, str, tru]
  cases h1 : s.re
  · cases h2 : s.tk
    · by_cases h3 : 0 < s.ed.length
      · have e3 := eq_true (show (0 : Int) < (s.ed.length : Int) by omega)
        repeat' first|refine Spl.on (fun _=>?_) (fun _=>?_)|with_reducible refine gd ?_|simp only [go_sem, Int.reduceEq, Int.cast_ofNat_Int, Bool.false_eq_true, e3]
        exact tru_t (by simp [lstd, h1, h2, h3])
      · have e3 := eq_false (show ¬ (0 : Int) < (s.ed.length : Int) by omega)
        repeat' first|refine Spl.on (fun _=>?_) (fun _=>?_)|with_reducible refine gd ?_|simp only [go_sem, Int.reduceEq, Int.cast_ofNat_Int, Bool.false_eq_true, e3]
        exact tru_f (by simp [lstd, h1, h2, h3])
    · repeat' first|refine Spl.on (fun _=>?_) (fun _=>?_)|with_reducible refine gd ?_|simp only [go_sem, Int.reduceEq, Int.cast_ofNat_Int, Bool.false_eq_true]
      exact tru_f (by simp [lstd, h1, h2])
  · repeat' first|refine Spl.on (fun _=>?_) (fun _=>?_)|with_reducible refine gd ?_|simp only [go_sem, Int.reduceEq, Int.cast_ofNat_Int, Bool.false_eq_true]
    exact tru_f (by simp [lstd, h1])
theorem listed48 (s : Sto) (a : Int) (hs : s.ed.length ≤ 9223372036854775807) : ACalls Tryz.prog 106 [qst s a] (fun r => r = tru (lstd s)) := by
  simp only [sto, stoC, qst]
  refine calls_short [] ttok hmix Tryz.func106 (by decide) (by decide +kernel) (by simp only [Tryz.f106, Option.bind_some, comp, cops, cguard, gslot, List.getElem?_toArray, List.getElem?_cons_succ, List.getElem?_cons_zero, vlook, tlook, cutAt_nil, cutAt, firstReg, isCut, mkSeq, Nat.reduceAdd, Nat.reduceEqDiff, reduceIte]; rfl) Tryz.ntmps106 Tryz.results106 ⟨_, rfl⟩ rfl ?_
  simp only [List.length_cons, List.length_nil, Nat.reduceAdd, Nat.reduceSub, List.replicate_succ, List.replicate_zero, List.cons_append, List.nil_append, num, str, tru]
  cases h1 : s.re
  · cases h2 : s.tk
    · by_cases h3 : 0 < s.ed.length
      · have e3 := eq_true (show (0 : Int) < (s.ed.length : Int) by omega)
        repeat' first|refine Spl.on (fun _=>?_) (fun _=>?_)|with_reducible refine gd ?_|simp only [go_sem, Int.reduceEq, Int.cast_ofNat_Int, Bool.false_eq_true, e3]
        exact tru_t (by simp [lstd, h1, h2, h3])
      · have e3 := eq_false (show ¬ (0 : Int) < (s.ed.length : Int) by omega)
        repeat' first|refine Spl.on (fun _=>?_) (fun _=>?_)|with_reducible refine gd ?_|simp only [go_sem, Int.reduceEq, Int.cast_ofNat_Int, Bool.false_eq_true, e3]
        exact tru_f (by simp [lstd, h1, h2, h3])
    · repeat' first|refine Spl.on (fun _=>?_) (fun _=>?_)|with_reducible refine gd ?_|simp only [go_sem, Int.reduceEq, Int.cast_ofNat_Int, Bool.false_eq_true]
      exact tru_f (by simp [lstd, h1, h2])
  · repeat' first|refine Spl.on (fun _=>?_) (fun _=>?_)|with_reducible refine gd ?_|simp only [go_sem, Int.reduceEq, Int.cast_ofNat_Int, Bool.false_eq_true]
    exact tru_f (by simp [lstd, h1])
def cmpI (x y : Int) : Int := if x < y then -1 else if y < x then 1 else 0
theorem isNaN71 (x : Int) : ACalls Tryz.prog 136 [num x] (fun r => r = tru false) := by
  refine calls_short [] ttok hmix Tryz.func136 (by decide) (by decide +kernel) (by simp only [Tryz.f136, Option.bind_some, comp, cops, cguard, gslot, List.getElem?_toArray, List.getElem?_cons_succ, List.getElem?_cons_zero, vlook, tlook, cutAt_nil, cutAt, firstReg, isCut, mkSeq, Nat.reduceAdd, Nat.reduceEqDiff, reduceIte]; rfl) Tryz.ntmps136 Tryz.results136 ⟨_, rfl⟩ rfl ?_
  simp only [List.length_cons, List.length_nil, Nat.reduceAdd, Nat.reduceSub, List.replicate_succ, List.replicate_zero, List.cons_append, List.nil_append, num, str, tru]
  repeat' first|refine Spl.on (fun _=>?_) (fun _=>?_)|with_reducible refine gd ?_|simp only [go_sem, Int.reduceEq, Int.cast_ofNat_Int, Bool.false_eq_true]
theorem compare54 (x y : Int) : ACalls Tryz.prog 109 [num x, num y] (fun r => r = num (cmpI x y)) := by
  refine calls_short [] ttok hmix Tryz.func109 (by decide) (by decide +kernel) (by simp only [Tryz.f109, Option.bind_some, comp, cops, cguard, gslot, List.getElem?_toArray, List.getElem?_cons_succ, List.getElem?_cons_zero, vlook, tlook, cutAt_nil, cutAt, firstReg, isCut, mkSeq, Nat.reduceAdd, Nat.reduceEqDiff, reduceIte]; rfl) Tryz.ntmps109 Tryz.results109 ⟨_, rfl⟩ rfl ?_
  simp only [List.length_cons, List.length_nil, Nat.reduceAdd, Nat.reduceSub, List.replicate_succ, List.replicate_zero, List.cons_append, List.nil_append, num, str, tru]
  repeat' first|refine Spl.on (fun _=>?_) (fun _=>?_)|with_reducible refine gd ?_|simp only [go_sem, Int.reduceEq, Int.cast_ofNat_Int, Bool.false_eq_true]
  refine (isNaN71 x).mono ?_
  rintro r rfl
  simp only [tru]
  repeat' first|refine Spl.on (fun _=>?_) (fun _=>?_)|with_reducible refine gd ?_|simp only [go_sem, Int.reduceEq, Int.cast_ofNat_Int, Bool.false_eq_true]
  refine (isNaN71 y).mono ?_
  rintro r rfl
  simp only [tru]
  by_cases h1 : x < y
  · have e1 := eq_true h1
    repeat' first|refine Spl.on (fun _=>?_) (fun _=>?_)|with_reducible refine gd ?_|simp only [go_sem, Int.reduceEq, Int.cast_ofNat_Int, Bool.false_eq_true, e1]
    simp only [cmpI, e1, if_true]
  · have e1 := eq_false h1
    by_cases h2 : y < x
    · have e2 := eq_true h2
      repeat' first|refine Spl.on (fun _=>?_) (fun _=>?_)|with_reducible refine gd ?_|simp only [go_sem, Int.reduceEq, Int.cast_ofNat_Int, Bool.false_eq_true, e1, e2]
      simp only [cmpI, e1, e2, if_true, if_false]
    · have e2 := eq_false h2
      repeat' first|refine Spl.on (fun _=>?_) (fun _=>?_)|with_reducible refine gd ?_|simp only [go_sem, Int.reduceEq, Int.cast_ofNat_Int, Bool.false_eq_true, e1, e2]
      simp only [cmpI, e1, e2, if_true, if_false]
end Go.Proofs.YtkafbgdokgfjmaaGreatDoor
namespace Go.Proofs.YtkafbgdokgfjmaaGreatDoor
open Go.RowKit Go.Proofs
set_option linter.unusedSimpArgs false
set_option linter.unusedVariables false
set_option maxRecDepth 100000
set_option maxHeartbeats 4000000
set_option linter.unusedSectionVars false
variable [Env]
def orI : List Int → Int
  | [] => 0
  | x :: r => if x = 0 then orI r else x
theorem drop_at {α : Type} {l : List α} {j : Nat} (h : j < l.length) : ∃ x, l[j]? = some x ∧ l.drop j = x :: l.drop (j + 1) := ⟨l[j], List.getElem?_eq_getElem h, List.drop_eq_getElem_cons h⟩
theorem nums_at {l : List Int} {j : Nat} {x : Int} (h : l[j]? = some x) : (nums l).getD j .any = .raw (.int .i64 x) := by simp [nums, h, num]
theorem strs_at {l : List (List UInt8)} {j : Nat} {x : List UInt8} (h : l[j]? = some x) : (l.map str).getD j .any = .raw (.string ⟨x.toArray⟩) := by simp [h, str]
theorem or53 (xs : List Int) (hl : xs.length ≤ 1000000) : ACalls Tryz.prog 108 [.sl 1 (nums xs)] (fun r => r = num (orI xs)) := by
  refine calls_short [] ttok hmix Tryz.func108 (by decide) (by decide +kernel) (by simp only [Tryz.f108, Option.bind_some, comp, cops, cguard, gslot, List.getElem?_toArray, List.getElem?_cons_succ, List.getElem?_cons_zero, vlook, tlook, cutAt_nil, cutAt, firstReg, isCut, mkSeq, Nat.reduceAdd, Nat.reduceEqDiff, reduceIte]; rfl) Tryz.ntmps108 Tryz.results108 ⟨_, rfl⟩ rfl ?_
  simp only [List.length_cons, List.length_nil, Nat.reduceAdd, Nat.reduceSub, List.replicate_succ, List.replicate_zero, List.cons_append, List.nil_append, num, str, tru]
  repeat' first|refine Spl.on (fun _=>?_) (fun _=>?_)|with_reducible refine gd ?_|simp only [go_sem, Int.reduceEq, Int.cast_ofNat_Int, Bool.false_eq_true, nums_length]
  refine cwp_loop [false, false, false, false, false, true, false, false, true, true, true, true, true, true, true, true, true, false] [8] (fun n ys => ∃ (j : Nat), j ≤ xs.length ∧ j + n = xs.length ∧ orI xs = orI (xs.drop j) ∧ ys = [num j]) ⟨xs.length, _, ⟨0, by omega, by omega, rfl, rfl⟩, ?_⟩ ?_
  · simp only [hvm_t, hvm_f, hvm_nil, puts_cons, puts_nil, List.set_cons_zero, List.set_cons_succ, num]
    repeat first | exact Wk.nil | refine Wk.same ?_ | refine wk_any ?_
  · rintro n ys ⟨j, hjl, hn, he, rfl⟩
    simp only [hvm_t, hvm_f, hvm_nil, puts_cons, puts_nil, List.set_cons_zero, List.set_cons_succ, num]
    rcases Nat.lt_or_ge j xs.length with hlt | hge
    · have ej := eq_true (show (j : Int) < (xs.length : Int) by omega)
      obtain ⟨x, hx, hd⟩ := drop_at hlt
      have hgx := nums_at hx
      have hw : IntKind.i64.wrap ((j : Int) + 1) = ((j + 1 : Nat) : Int) := wrap_succ (by omega)
      by_cases h0 : x = 0
      · have e0 := eq_true h0
        repeat' first|refine Spl.on (fun _=>?_) (fun _=>?_)|with_reducible refine gd ?_|simp only [go_sem, Int.reduceEq, Int.cast_ofNat_Int, Bool.false_eq_true, ej, hgx, hw, e0, nums_length]
        refine lend_mk (n - 1) [num ((j + 1 : Nat) : Int)] (by omega) ⟨j + 1, by omega, by omega, ?_, rfl⟩ ?_
        · rw [he, hd, orI, if_pos h0]
        · simp only [hvm_t, hvm_f, hvm_nil, puts_cons, puts_nil, List.set_cons_zero, List.set_cons_succ, num]
          repeat first | exact Wk.nil | refine Wk.same ?_ | refine wk_any ?_
      · have e0 := eq_false h0
        repeat' first|refine Spl.on (fun _=>?_) (fun _=>?_)|with_reducible refine gd ?_|simp only [go_sem, Int.reduceEq, Int.cast_ofNat_Int, Bool.false_eq_true, ej, hgx, hw, e0, nums_length]
        rw [he, hd, orI, if_neg h0]
    · have ej := eq_false (show ¬ (j : Int) < (xs.length : Int) by omega)
      repeat' first|refine Spl.on (fun _=>?_) (fun _=>?_)|with_reducible refine gd ?_|simp only [go_sem, Int.reduceEq, Int.cast_ofNat_Int, Bool.false_eq_true, ej, nums_length]
      rw [he, List.drop_of_length_le hge]
      rfl
def cmpS (s : Sto) (a : Int) (t : Sto) (b : Int) : Int := orI [cmpI s.pu t.pu, cmpI s.id t.id, cmpI a b]
theorem compare55 (s t : Sto) (a b : Int) : ACalls Tryz.prog 76 [qst s a, qst t b] (fun r => r = num (cmpS s a t b)) := by
  simp only [qst]
  refine calls_short [] ttok hmix Tryz.func76 (by decide) (by decide +kernel) (by simp only [Tryz.f76, Option.bind_some, comp, cops, cguard, gslot, List.getElem?_toArray, List.getElem?_cons_succ, List.getElem?_cons_zero, vlook, tlook, cutAt_nil, cutAt, firstReg, isCut, mkSeq, Nat.reduceAdd, Nat.reduceEqDiff, reduceIte]; rfl) Tryz.ntmps76 Tryz.results76 ⟨_, rfl⟩ rfl ?_
  simp only [List.length_cons, List.length_nil, Nat.reduceAdd, Nat.reduceSub, List.replicate_succ, List.replicate_zero, List.cons_append, List.nil_append, num, str, tru]
  simp (decide := true) only [mkd_eq [3, 2] [2100003, 1900002, 1600003, 1500003, 1300002, 1200002, 900003, 800003, 600002, 500002] [] [[5, 2], [5, 2], [2], [8, 3], [8, 3], [3], [], [12, 2], [12, 2], [2], [15, 3], [15, 3], [3], [], [2], [2], [3], [3], [], [], [], []], List.zip_cons_cons, List.zip_nil_left, List.zip_nil_right]
  repeat' first|refine Spl.on (fun _=>?_) (fun _=>?_)|with_reducible refine gd ?_|simp only [go_sem, Int.reduceEq, Int.cast_ofNat_Int, Bool.false_eq_true]
  refine (compare54 s.pu t.pu).mono ?_
  rintro r rfl
  simp only [num]
  repeat' first|refine Spl.on (fun _=>?_) (fun _=>?_)|with_reducible refine gd ?_|simp only [go_sem, Int.reduceEq, Int.cast_ofNat_Int, Bool.false_eq_true]
  refine (compare54 s.id t.id).mono ?_
  rintro r rfl
  simp only [num]
  repeat' first|refine Spl.on (fun _=>?_) (fun _=>?_)|with_reducible refine gd ?_|simp only [go_sem, Int.reduceEq, Int.cast_ofNat_Int, Bool.false_eq_true]
  refine (compare54 a b).mono ?_
  rintro r rfl
  simp only [num]
  repeat' first|refine Spl.on (fun _=>?_) (fun _=>?_)|with_reducible refine gd ?_|simp only [go_sem, Int.reduceEq, Int.cast_ofNat_Int, Bool.false_eq_true]
  refine ((or53 [cmpI s.pu t.pu, cmpI s.id t.id, cmpI a b] (by simp)).wk ?_).mono ?_
  · simp only [nums, List.map_cons, List.map_nil, num]
    repeat first | exact Wk.nil | exact Wk.refl _ | refine wk_agg ?_ ?_ | refine wk_ownsl ?_ | refine wk_nilsl ?_ | refine Wk.same ?_
  rintro r rfl
  simp only [num]
  repeat' first|refine Spl.on (fun _=>?_) (fun _=>?_)|with_reducible refine gd ?_|simp only [go_sem, Int.reduceEq, Int.cast_ofNat_Int, Bool.false_eq_true]
  rfl
theorem newest61 (s t : Sto) (a b : Int) : ACalls Tryz.prog 75 [qst s a, qst t b] (fun r => r = num (cmpS t b s a)) := by
  simp only [qst]
  refine calls_short [] ttok hmix Tryz.func75 (by decide) (by decide +kernel) (by simp only [Tryz.f75, Option.bind_some, comp, cops, cguard, gslot, List.getElem?_toArray, List.getElem?_cons_succ, List.getElem?_cons_zero, vlook, tlook, cutAt_nil, cutAt, firstReg, isCut, mkSeq, Nat.reduceAdd, Nat.reduceEqDiff, reduceIte]; rfl) Tryz.ntmps75 Tryz.results75 ⟨_, rfl⟩ rfl ?_
  simp only [List.length_cons, List.length_nil, Nat.reduceAdd, Nat.reduceSub, List.replicate_succ, List.replicate_zero, List.cons_append, List.nil_append, num, str, tru]
  repeat' first|refine Spl.on (fun _=>?_) (fun _=>?_)|with_reducible refine gd ?_|simp only [go_sem, Int.reduceEq, Int.cast_ofNat_Int, Bool.false_eq_true]
  refine (compare55 t s b a).mono ?_
  rintro r rfl
  simp only [num]
  repeat' first|refine Spl.on (fun _=>?_) (fun _=>?_)|with_reducible refine gd ?_|simp only [go_sem, Int.reduceEq, Int.cast_ofNat_Int, Bool.false_eq_true]
theorem index68 (l : List (List UInt8)) (v : List UInt8) (hl : l.length ≤ 9223372036854775807) : ACalls Tryz.prog 110 [.sl 1 (l.map str), str v] (fun r => ∃ i : Int, (0 ≤ i ↔ v ∈ l) ∧ r = num i) := by
  refine calls_short [] ttok hmix Tryz.func110 (by decide) (by decide +kernel) (by simp only [Tryz.f110, Option.bind_some, comp, cops, cguard, gslot, List.getElem?_toArray, List.getElem?_cons_succ, List.getElem?_cons_zero, vlook, tlook, cutAt_nil, cutAt, firstReg, isCut, mkSeq, Nat.reduceAdd, Nat.reduceEqDiff, reduceIte]; rfl) Tryz.ntmps110 Tryz.results110 ⟨num (if v ∈ l then 0 else -1), _, by split <;> simp [*], rfl⟩ rfl ?_
  simp only [List.length_cons, List.length_nil, Nat.reduceAdd, Nat.reduceSub, List.replicate_succ, List.replicate_zero, List.cons_append, List.nil_append, num, str, tru]
  repeat' first|refine Spl.on (fun _=>?_) (fun _=>?_)|with_reducible refine gd ?_|simp only [go_sem, Int.reduceEq, Int.cast_ofNat_Int, Bool.false_eq_true, List.length_map]
  refine cwp_loop [false, false, false, false, false, true, false, false, true, true, true, true, true, true, true, true, true, true, true] [8] (fun n ys => ∃ (j : Nat), j ≤ l.length ∧ j + n = l.length ∧ v ∉ l.take j ∧ ys = [num j]) ⟨l.length, _, ⟨0, by omega, by omega, by simp, rfl⟩, ?_⟩ ?_
  · simp only [hvm_t, hvm_f, hvm_nil, puts_cons, puts_nil, List.set_cons_zero, List.set_cons_succ, num]
    repeat first | exact Wk.nil | refine Wk.same ?_ | refine wk_any ?_
  · rintro n ys ⟨j, hjl, hn, he, rfl⟩
    simp only [hvm_t, hvm_f, hvm_nil, puts_cons, puts_nil, List.set_cons_zero, List.set_cons_succ, num]
    rcases Nat.lt_or_ge j l.length with hlt | hge
    · have ej := eq_true (show (j : Int) < (l.length : Int) by omega)
      obtain ⟨x, hx, hd⟩ := drop_at hlt
      have hgx := strs_at hx
      have hw : IntKind.i64.wrap ((j : Int) + 1) = ((j + 1 : Nat) : Int) := wrap_succ (by omega)
      by_cases h0 : v = x
      · have e0 : (v == x) = true := by simp [h0]
        repeat' first|refine Spl.on (fun _=>?_) (fun _=>?_)|with_reducible refine gd ?_|simp only [go_sem, Int.reduceEq, Int.cast_ofNat_Int, Bool.false_eq_true, ej, hgx, hw, e0, List.length_map]
        exact ⟨j, ⟨fun _ => h0 ▸ List.mem_of_getElem? hx, fun _ => by omega⟩, rfl⟩
      · have e0 : (v == x) = false := by simp [h0]
        repeat' first|refine Spl.on (fun _=>?_) (fun _=>?_)|with_reducible refine gd ?_|simp only [go_sem, Int.reduceEq, Int.cast_ofNat_Int, Bool.false_eq_true, ej, hgx, hw, e0, List.length_map]
        refine lend_mk (n - 1) [num ((j + 1 : Nat) : Int)] (by omega) ⟨j + 1, by omega, by omega, ?_, rfl⟩ ?_
        · rw [List.take_add_one, hx]
          simp only [Option.toList_some, List.mem_append, List.mem_singleton, not_or]
          exact ⟨he, h0⟩
        · simp only [hvm_t, hvm_f, hvm_nil, puts_cons, puts_nil, List.set_cons_zero, List.set_cons_succ, num]
          repeat first | exact Wk.nil | refine Wk.same ?_ | refine wk_any ?_
    · have ej := eq_false (show ¬ (j : Int) < (l.length : Int) by omega)
      rw [List.take_of_length_le hge] at he
      repeat' first|refine Spl.on (fun _=>?_) (fun _=>?_)|with_reducible refine gd ?_|simp only [go_sem, Int.reduceEq, Int.cast_ofNat_Int, Bool.false_eq_true, ej, List.length_map]
      exact ⟨-1, ⟨fun h => by omega, fun h => absurd h he⟩, rfl⟩
theorem contains50 (l : List (List UInt8)) (v : List UInt8) (hl : l.length ≤ 9223372036854775807) : ACalls Tryz.prog 77 [.sl 1 (l.map str), str v] (fun r => r = tru (decide (v ∈ l))) := by
  refine calls_short [] ttok hmix Tryz.func77 (by decide) (by decide +kernel) (by simp only [Tryz.f77, Option.bind_some, comp, cops, cguard, gslot, List.getElem?_toArray, List.getElem?_cons_succ, List.getElem?_cons_zero, vlook, tlook, cutAt_nil, cutAt, firstReg, isCut, mkSeq, Nat.reduceAdd, Nat.reduceEqDiff, reduceIte]; rfl) Tryz.ntmps77 Tryz.results77 ⟨_, rfl⟩ rfl ?_
  simp only [List.length_cons, List.length_nil, Nat.reduceAdd, Nat.reduceSub, List.replicate_succ, List.replicate_zero, List.cons_append, List.nil_append, num, str, tru]
  repeat' first|refine Spl.on (fun _=>?_) (fun _=>?_)|with_reducible refine gd ?_|simp only [go_sem, Int.reduceEq, Int.cast_ofNat_Int, Bool.false_eq_true]
  refine (index68 l v hl).mono ?_
  rintro r ⟨i, hi, rfl⟩
  simp only [num]
  repeat' first|refine Spl.on (fun _=>?_) (fun _=>?_)|with_reducible refine gd ?_|simp only [go_sem, Int.reduceEq, Int.cast_ofNat_Int, Bool.false_eq_true]
  exact tru_e (by simp [hi])
theorem in62 (l : List (List UInt8)) (v : List UInt8) (hl : l.length ≤ 9223372036854775807) : ACalls Tryz.prog 102 [.sl 1 (l.map str), str v] (fun r => r = tru (decide (v ∈ l))) := by
  refine calls_short [] ttok hmix Tryz.func102 (by decide) (by decide +kernel) (by simp only [Tryz.f102, Option.bind_some, comp, cops, cguard, gslot, List.getElem?_toArray, List.getElem?_cons_succ, List.getElem?_cons_zero, vlook, tlook, cutAt_nil, cutAt, firstReg, isCut, mkSeq, Nat.reduceAdd, Nat.reduceEqDiff, reduceIte]; rfl) Tryz.ntmps102 Tryz.results102 ⟨_, rfl⟩ rfl ?_
  simp only [List.length_cons, List.length_nil, Nat.reduceAdd, Nat.reduceSub, List.replicate_succ, List.replicate_zero, List.cons_append, List.nil_append, num, str, tru]
  repeat' first|refine Spl.on (fun _=>?_) (fun _=>?_)|with_reducible refine gd ?_|simp only [go_sem, Int.reduceEq, Int.cast_ofNat_Int, Bool.false_eq_true, List.length_map]
  refine cwp_loop [false, false, false, false, true, true, true, true, true, true, true, true, true, true, true, true, true, true] [5] (fun n ys => ∃ (j : Nat), j ≤ l.length ∧ j + n = l.length ∧ v ∉ l.take j ∧ ys = [num j]) ⟨l.length, _, ⟨0, by omega, by omega, by simp, rfl⟩, ?_⟩ ?_
  · simp only [hvm_t, hvm_f, hvm_nil, puts_cons, puts_nil, List.set_cons_zero, List.set_cons_succ, num]
    repeat first | exact Wk.nil | refine Wk.same ?_ | refine wk_any ?_
  · rintro n ys ⟨j, hjl, hn, he, rfl⟩
    simp only [hvm_t, hvm_f, hvm_nil, puts_cons, puts_nil, List.set_cons_zero, List.set_cons_succ, num]
    rcases Nat.lt_or_ge j l.length with hlt | hge
    · have ej := eq_true (show (j : Int) < (l.length : Int) by omega)
      obtain ⟨x, hx, hd⟩ := drop_at hlt
      have hgx := strs_at hx
      have hw : IntKind.i64.wrap ((j : Int) + 1) = ((j + 1 : Nat) : Int) := wrap_succ (by omega)
      by_cases h0 : x = v
      · have e0 : (x == v) = true := by simp [h0]
        repeat' first|refine Spl.on (fun _=>?_) (fun _=>?_)|with_reducible refine gd ?_|simp only [go_sem, Int.reduceEq, Int.cast_ofNat_Int, Bool.false_eq_true, ej, hgx, hw, e0, List.length_map]
        exact tru_t (by simp only [decide_eq_true_eq]; exact h0 ▸ List.mem_of_getElem? hx)
      · have e0 : (x == v) = false := by simp [h0]
        repeat' first|refine Spl.on (fun _=>?_) (fun _=>?_)|with_reducible refine gd ?_|simp only [go_sem, Int.reduceEq, Int.cast_ofNat_Int, Bool.false_eq_true, ej, hgx, hw, e0, List.length_map]
        refine lend_mk (n - 1) [num ((j + 1 : Nat) : Int)] (by omega) ⟨j + 1, by omega, by omega, ?_, rfl⟩ ?_
        · rw [List.take_add_one, hx]
          simp only [Option.toList_some, List.mem_append, List.mem_singleton, not_or]
          exact ⟨he, fun h => h0 h.symm⟩
        · simp only [hvm_t, hvm_f, hvm_nil, puts_cons, puts_nil, List.set_cons_zero, List.set_cons_succ, num]
          repeat first | exact Wk.nil | refine Wk.same ?_ | refine wk_any ?_
    · have ej := eq_false (show ¬ (j : Int) < (l.length : Int) by omega)
      rw [List.take_of_length_le hge] at he
      repeat' first|refine Spl.on (fun _=>?_) (fun _=>?_)|with_reducible refine gd ?_|simp only [go_sem, Int.reduceEq, Int.cast_ofNat_Int, Bool.false_eq_true, ej, List.length_map]
      exact tru_f (by simp only [decide_eq_false_iff_not]; exact he)
def aheadB (s t : Sto) : Bool := if s.pu ≠ t.pu then decide (s.pu < t.pu) else decide (s.id ≤ t.id)
theorem ahead63 (s t : Sto) : ACalls Tryz.prog 103 [sto s, sto t] (fun r => r = tru (aheadB s t)) := by
  simp only [sto, stoC]
  refine calls_short [] ttok hmix Tryz.func103 (by decide) (by decide +kernel) (by simp only [Tryz.f103, Option.bind_some, comp, cops, cguard, gslot, List.getElem?_toArray, List.getElem?_cons_succ, List.getElem?_cons_zero, vlook, tlook, cutAt_nil, cutAt, firstReg, isCut, mkSeq, Nat.reduceAdd, Nat.reduceEqDiff, reduceIte]; rfl) Tryz.ntmps103 Tryz.results103 ⟨_, rfl⟩ rfl ?_
  simp only [List.length_cons, List.length_nil, Nat.reduceAdd, Nat.reduceSub, List.replicate_succ, List.replicate_zero, List.cons_append, List.nil_append, num, str, tru]
  by_cases h : s.pu = t.pu
  · have e := eq_true h
    repeat' first|refine Spl.on (fun _=>?_) (fun _=>?_)|with_reducible refine gd ?_|simp only [go_sem, Int.reduceEq, Int.cast_ofNat_Int, Bool.false_eq_true, e]
    exact tru_e (by simp [aheadB, h])
  · have e := eq_false h
    repeat' first|refine Spl.on (fun _=>?_) (fun _=>?_)|with_reducible refine gd ?_|simp only [go_sem, Int.reduceEq, Int.cast_ofNat_Int, Bool.false_eq_true, e]
    exact tru_e (by simp [aheadB, h])
def hasB (s : Sto) (v : List UInt8) : Bool := decide (v = []) || decide (v ∈ s.tp)
theorem has34 (s : Sto) (a : Int) (v : List UInt8) (hl : s.tp.length ≤ 9223372036854775807) : ACalls Tryz.prog 50 [qst s a, str v] (fun r => r = tru (hasB s v)) := by
  simp only [qst]
  refine calls_short [] ttok hmix Tryz.func50 (by decide) (by decide +kernel) (by simp only [Tryz.f50, Option.bind_some, comp, cops, cguard, gslot, List.getElem?_toArray, List.getElem?_cons_succ, List.getElem?_cons_zero, vlook, tlook, cutAt_nil, cutAt, firstReg, isCut, mkSeq, Nat.reduceAdd, Nat.reduceEqDiff, reduceIte]; rfl) Tryz.ntmps50 Tryz.results50 ⟨_, rfl⟩ rfl ?_
  simp only [List.length_cons, List.length_nil, Nat.reduceAdd, Nat.reduceSub, List.replicate_succ, List.replicate_zero, List.cons_append, List.nil_append, num, str, tru]
  by_cases h : v = []
  · have e : (v == []) = true := by simp [h]
    repeat' first|refine Spl.on (fun _=>?_) (fun _=>?_)|with_reducible refine gd ?_|simp only [go_sem, Int.reduceEq, Int.cast_ofNat_Int, Bool.false_eq_true, e]
    exact tru_t (by simp [hasB, h])
  · have e : (v == []) = false := by simp [h]
    repeat' first|refine Spl.on (fun _=>?_) (fun _=>?_)|with_reducible refine gd ?_|simp only [go_sem, Int.reduceEq, Int.cast_ofNat_Int, Bool.false_eq_true, e]
    refine ((contains50 s.tp v hl).wk ?_).mono ?_
    · simp only [str]
      repeat first | exact Wk.nil | exact Wk.refl _ | refine wk_agg ?_ ?_ | refine wk_ownsl ?_ | refine wk_nilsl ?_ | refine Wk.same ?_
    rintro r rfl
    simp only [tru]
    repeat' first|refine Spl.on (fun _=>?_) (fun _=>?_)|with_reducible refine gd ?_|simp only [go_sem, Int.reduceEq, Int.cast_ofNat_Int, Bool.false_eq_true]
    exact tru_e (by simp [hasB, h])
end Go.Proofs.YtkafbgdokgfjmaaGreatDoor
namespace Go.Proofs.YtkafbgdokgfjmaaGreatDoor
open Go.RowKit Go.Proofs
set_option linter.unusedSimpArgs false
set_option linter.unusedVariables false
set_option maxRecDepth 100000
set_option maxHeartbeats 4000000
instance envZ : Env := ⟨False, [(0, fun v : Value => v = .nilIface ∨ ∃ te pe, v = .iface te pe), (1, fun v : Value => v = .nilIface ∨ ∃ te pe, v = .iface te pe), (2, fun v : Value => ∃ m, v = .int .i64 m)]⟩
theorem page39 (s : Sto) (a : Int) (v : List UInt8) (hl : s.tp.length ≤ 9223372036854775807) : ACalls Tryz.prog 49 [qst s a, .elt (.agg [str v])] (fun r => r = tru (hasB s v)) := by
  simp only [qst]
  refine calls_short [] ttok hmix Tryz.func49 (by decide) (by decide +kernel) (by simp only [Tryz.f49, Option.bind_some, comp, cops, cguard, gslot, List.getElem?_toArray, List.getElem?_cons_succ, List.getElem?_cons_zero, vlook, tlook, cutAt_nil, cutAt, firstReg, isCut, mkSeq, Nat.reduceAdd, Nat.reduceEqDiff, reduceIte]; rfl) Tryz.ntmps49 Tryz.results49 ⟨_, rfl⟩ rfl ?_
  simp only [List.length_cons, List.length_nil, Nat.reduceAdd, Nat.reduceSub, List.replicate_succ, List.replicate_zero, List.cons_append, List.nil_append, num, str, tru]
  repeat' first|refine Spl.on (fun _=>?_) (fun _=>?_)|with_reducible refine gd ?_|simp only [go_sem, Int.reduceEq, Int.cast_ofNat_Int, Bool.false_eq_true]
  refine ((has34 s a v hl).wk ?_).mono ?_
  · simp only [qst, num, str, tru]
    repeat first | exact Wk.nil | exact Wk.refl _ | refine wk_agg ?_ ?_ | refine wk_ownsl ?_ | refine wk_nilsl ?_ | refine Wk.same ?_
  rintro r rfl
  simp only [tru]
  repeat' first|refine Spl.on (fun _=>?_) (fun _=>?_)|with_reducible refine gd ?_|simp only [go_sem, Int.reduceEq, Int.cast_ofNat_Int, Bool.false_eq_true]
theorem by38 (s : Sto) (a : Int) (v : List UInt8) : ACalls Tryz.prog 54 [qst s a, .elt (.agg [str v])] (fun r => r = tru (decide (s.au = v))) := by
  simp only [qst]
  refine calls_short [] ttok hmix Tryz.func54 (by decide) (by decide +kernel) (by simp only [Tryz.f54, Option.bind_some, comp, cops, cguard, gslot, List.getElem?_toArray, List.getElem?_cons_succ, List.getElem?_cons_zero, vlook, tlook, cutAt_nil, cutAt, firstReg, isCut, mkSeq, Nat.reduceAdd, Nat.reduceEqDiff, reduceIte]; rfl) Tryz.ntmps54 Tryz.results54 ⟨_, rfl⟩ rfl ?_
  simp only [List.length_cons, List.length_nil, Nat.reduceAdd, Nat.reduceSub, List.replicate_succ, List.replicate_zero, List.cons_append, List.nil_append, num, str, tru]
  repeat' first|refine Spl.on (fun _=>?_) (fun _=>?_)|with_reducible refine gd ?_|simp only [go_sem, Int.reduceEq, Int.cast_ofNat_Int, Bool.false_eq_true]
  exact tru_e (by by_cases h : s.au = v <;> simp [h])
theorem identity36 (s : Sto) (a : Int) : ACalls Tryz.prog 53 [qst s a] (fun r => r = num s.id) := by
  simp only [qst]
  refine calls_short [] ttok hmix Tryz.func53 (by decide) (by decide +kernel) (by simp only [Tryz.f53, Option.bind_some, comp, cops, cguard, gslot, List.getElem?_toArray, List.getElem?_cons_succ, List.getElem?_cons_zero, vlook, tlook, cutAt_nil, cutAt, firstReg, isCut, mkSeq, Nat.reduceAdd, Nat.reduceEqDiff, reduceIte]; rfl) Tryz.ntmps53 Tryz.results53 ⟨_, rfl⟩ rfl ?_
  simp only [List.length_cons, List.length_nil, Nat.reduceAdd, Nat.reduceSub, List.replicate_succ, List.replicate_zero, List.cons_append, List.nil_append, num, str, tru]
  repeat' first|refine Spl.on (fun _=>?_) (fun _=>?_)|with_reducible refine gd ?_|simp only [go_sem, Int.reduceEq, Int.cast_ofNat_Int, Bool.false_eq_true]
def cmpR (s : Sto) (a c : Int) (t : Sto) (b d : Int) : Int := orI [cmpI d c, cmpS t b s a]
end Go.Proofs.YtkafbgdokgfjmaaGreatDoor
namespace Go.Proofs.YtkafbgdokgfjmaaGreatDoor
open Go.RowKit Go.Proofs
set_option linter.unusedSimpArgs false
set_option linter.unusedVariables false
set_option maxRecDepth 100000
set_option maxHeartbeats 4000000
abbrev Cnd := Nat × List AV × (Sto → Int → Bool)
def cloA (c : Cnd) : AV := .clo c.1 c.2.1
def holdsB (cs : List Cnd) (s : Sto) (i : Int) : Bool := cs.all fun c => c.2.2 s i
def selF (p : Sto → Int → Bool) : Nat → List Sto → List (Sto × Nat)
  | _, [] => []
  | i, s :: r => if lstd s && p s i then (s, i) :: selF p (i + 1) r else selF p (i + 1) r
theorem selF_app (p : Sto → Int → Bool) : ∀ (i : Nat) (l m : List Sto), selF p i (l ++ m) = selF p i l ++ selF p (i + l.length) m
  | i, [], m => by simp [selF]
  | i, s :: l, m => by
    have := selF_app p (i + 1) l m
    simp only [List.cons_append, selF, this, List.length_cons]
    have e : i + 1 + l.length = i + (l.length + 1) := by omega
    split <;> simp [e]
theorem selF_take {p : Sto → Int → Bool} {l : List Sto} {i : Nat} {s : Sto} (hx : l[i]? = some s) : (selF p 0 (l.take (i + 1))).length = (selF p 0 (l.take i)).length + if lstd s && p s i then 1 else 0 := by
  have hi := (List.getElem?_eq_some_iff.1 hx).1
  rw [List.take_add_one, hx, selF_app, List.length_append, List.length_take, Nat.min_eq_left (by omega), Nat.zero_add]
  simp only [Option.toList_some, selF]
  split <;> simp
theorem selF_get {p : Sto → Int → Bool} {l : List Sto} {i : Nat} {s : Sto} (hx : l[i]? = some s) (hp : (lstd s && p s i) = true) : (selF p 0 l)[(selF p 0 (l.take i)).length]? = some (s, i) := by
  have hi := (List.getElem?_eq_some_iff.1 hx).1
  have hd : l.drop i = s :: l.drop (i + 1) := by
    rw [List.drop_eq_getElem_cons hi]; congr 1; exact (List.getElem?_eq_some_iff.1 hx).2
  have : selF p 0 l = selF p 0 (l.take i) ++ (s, i) :: selF p (i + 1) (l.drop (i + 1)) := by
    rw [← List.take_append_drop i l, selF_app, List.take_append_drop, List.length_take, Nat.min_eq_left (by omega), Nat.zero_add, hd, selF, if_pos hp]
  rw [this]; simp
def StOk (s : Sto) : Prop := s.tp.length ≤ 9223372036854775807 ∧ s.ed.length ≤ 9223372036854775807
def CndOk (c : Cnd) : Prop := ∀ (s : Sto) (a : Int), StOk s → ACalls Tryz.prog c.1 (qst s a :: c.2.1) (fun r => r = tru (c.2.2 s a))
def qY (x : Sto × Nat) : AV := qst x.1 (x.2 : Nat)
def selY (p : Sto → Int → Bool) (l : List Sto) (k : Nat) (args : List AV) : Prop := ∃ x, (selF p 0 l)[k]? = some x ∧ args = [qY x]
theorem sto_at {l : List Sto} {j : Nat} {x : Sto} (h : l[j]? = some x) : (l.map sto).getD j .any = .agg [num x.id, str x.au, .sl 1 (x.tp.map str), .sl 5 x.ed, num x.pu, .nil, tru x.re, tru x.tk] := by simp [h, sto, stoC]
theorem clo_at {l : List Cnd} {j : Nat} {x : Cnd} (h : l[j]? = some x) : (l.map cloA).getD j .any = .clo x.1 x.2.1 := by simp [h, cloA]
theorem each64 (L : List Sto) (tm : List AV) (cs : List Cnd) (hl : L.length ≤ 1000000) (hs : ∀ s ∈ L, StOk s) (hcl : cs.length ≤ 1000000) (hc : ∀ c ∈ cs, CndOk c) :
    AIter Tryz.prog 105 [.elt (.agg [.sl 8 (L.map sto), .sl 2 tm]), .elt (.agg [.sl 1 (cs.map cloA)])] (selF (holdsB cs) 0 L).length (selY (holdsB cs) L) := by
  refine iter_short [] [(10, 2)] [] ttok hmix Tryz.func105 (by decide) (by decide +kernel) (by simp only [Tryz.f105, Option.bind_some, compG, ylook, compY, comp, cops, cguard, gslot, List.getElem?_toArray, List.getElem?_cons_succ, List.getElem?_cons_zero, vlook, tlook, List.take_succ_cons, List.take_zero, List.drop_succ_cons, List.drop_zero, Option.map_some, Nat.reduceEqDiff, if_true, if_false, Nat.succ_ne_self, Nat.reduceAdd, reduceIte, reduceCtorEq, Bool.false_eq_true, cutAt_nil, cutAt, firstReg, isCut, mkSeq, mkSeqG]; rfl) Tryz.ntmps105 Tryz.results105 rfl ?_
  intro l
  simp only [List.length_cons, List.length_nil, Nat.reduceAdd, Nat.reduceSub, List.replicate_succ, List.replicate_zero, List.cons_append, List.nil_append, num, str, tru]
  repeat' first|refine Spl.on (fun _=>?_) (fun _=>?_)|with_reducible refine gd ?_|simp only [go_sem, Int.reduceEq, Int.cast_ofNat_Int, Bool.false_eq_true, xblkG_exit3, List.length_map]
  refine cwpG_loop [false, false, false, false, true, true, true, false, true, false, false, false, true, true, true, true, true, true, true, true, true, true, true, true, true, true, true, true, true, true, true, true, true, true, true, true, true, true, true] [12] (fun n st xs => ∃ (k i : Nat), st = some k ∧ i ≤ L.length ∧ i + n = L.length ∧ k = (selF (holdsB cs) 0 (L.take i)).length ∧ xs = [num i]) ⟨L.length, _, ⟨0, 0, rfl, by omega, by omega, rfl, rfl⟩, ?_⟩ ?_
  · simp only [hvm_t, hvm_f, hvm_nil, puts_cons, puts_nil, List.set_cons_zero, List.set_cons_succ, num]
    repeat first | exact Wk.nil | refine Wk.same ?_ | refine wk_any ?_
  · rintro n st xs ⟨k, i, rfl, hil, hn, he, rfl⟩
    simp only [hvm_t, hvm_f, hvm_nil, puts_cons, puts_nil, List.set_cons_zero, List.set_cons_succ, num]
    rcases Nat.lt_or_ge i L.length with hlt | hge
    · have ej := eq_true (show (i : Int) < (L.length : Int) by omega)
      obtain ⟨s, hx, hd⟩ := drop_at hlt
      have hso := hs s (List.mem_of_getElem? hx)
      have hgx := sto_at hx
      simp only [num, str, tru] at hgx
      have hw : IntKind.i64.wrap ((i : Int) + 1) = ((i + 1 : Nat) : Int) := wrap_succ (by omega)
      repeat' first|refine Spl.on (fun _=>?_) (fun _=>?_)|with_reducible refine gd ?_|simp only [go_sem, Int.reduceEq, Int.cast_ofNat_Int, Bool.false_eq_true, xblkG_exit3, ej, hgx, hw, List.length_map]
      refine ((listed48 s i hso.2).wk ?_).mono ?_
      · simp only [qst, num, str, tru]
        repeat first | exact Wk.nil | exact Wk.refl _ | refine wk_agg ?_ ?_ | refine wk_ownsl ?_ | refine wk_nilsl ?_ | refine Wk.same ?_
      rintro r rfl
      simp only [tru]
      cases hls : lstd s
      · repeat' first|refine Spl.on (fun _=>?_) (fun _=>?_)|with_reducible refine gd ?_|simp only [go_sem, Int.reduceEq, Int.cast_ofNat_Int, Bool.false_eq_true, xblkG_exit3, ej, hgx, hw, List.length_map]
        refine lendG_mk (n - 1) [num ((i + 1 : Nat) : Int)] (by omega) ⟨k, i + 1, rfl, by omega, by omega, ?_, rfl⟩ ?_
        · rw [he, selF_take hx, if_neg (by simp [hls])]
          simp
        · simp only [hvm_t, hvm_f, hvm_nil, puts_cons, puts_nil, List.set_cons_zero, List.set_cons_succ, num]
          repeat first | exact Wk.nil | refine Wk.same ?_ | refine wk_any ?_
      · repeat' first|refine Spl.on (fun _=>?_) (fun _=>?_)|with_reducible refine gd ?_|simp only [go_sem, Int.reduceEq, Int.cast_ofNat_Int, Bool.false_eq_true, xblkG_exit3, ej, hgx, hw, List.length_map]
        refine cwpG_loop [false, false, false, false, false, false, false, false, true, false, false, false, false, false, false, false, false, false, false, false, false, false, false, false, false, true, true, true, true, true, true, true, true, true, false, false, false, false, false] [25] (fun n2 st2 xs => ∃ j : Nat, st2 = some k ∧ j ≤ cs.length ∧ j + n2 = cs.length ∧ (∀ c ∈ cs.take j, c.2.2 s i = true) ∧ xs = [num j]) ⟨cs.length, _, ⟨0, rfl, by omega, by omega, by simp, rfl⟩, ?_⟩ ?_
        · simp only [hvm_t, hvm_f, hvm_nil, puts_cons, puts_nil, List.set_cons_zero, List.set_cons_succ, num]
          repeat first | exact Wk.nil | refine Wk.same ?_ | refine wk_any ?_
        · rintro n2 st2 xs ⟨j, rfl, hjl, hn2, hall, rfl⟩
          simp only [hvm_t, hvm_f, hvm_nil, puts_cons, puts_nil, List.set_cons_zero, List.set_cons_succ, num]
          rcases Nat.lt_or_ge j cs.length with hjt | hjg
          · have ek := eq_true (show (j : Int) < (cs.length : Int) by omega)
            obtain ⟨c, hcx, hcd⟩ := drop_at hjt
            have hgc := clo_at hcx
            have hwj : IntKind.i64.wrap ((j : Int) + 1) = ((j + 1 : Nat) : Int) := wrap_succ (by omega)
            repeat' first|refine Spl.on (fun _=>?_) (fun _=>?_)|with_reducible refine gd ?_|simp only [go_sem, Int.reduceEq, Int.cast_ofNat_Int, Bool.false_eq_true, xblkG_exit3, ek, hgc, hw, hwj, List.length_map]
            refine ((hc c (List.mem_of_getElem? hcx) s i hso).wk ?_).mono ?_
            · simp only [qst, num, str, tru]
              repeat first | exact Wk.nil | exact Wk.refl _ | refine wk_agg ?_ ?_ | refine wk_ownsl ?_ | refine wk_nilsl ?_ | refine Wk.same ?_
            rintro r rfl
            simp only [tru]
            cases hb : c.2.2 s i
            · repeat' first|refine Spl.on (fun _=>?_) (fun _=>?_)|with_reducible refine gd ?_|simp only [go_sem, Int.reduceEq, Int.cast_ofNat_Int, Bool.false_eq_true, xblkG_exit3, ek, hgc, hw, hwj, List.length_map]
              have hp : holdsB cs s i = false := by
                simp only [holdsB, List.all_eq_false]
                exact ⟨c, List.mem_of_getElem? hcx, by simp [hb]⟩
              refine lendG_mk (n - 1) [num ((i + 1 : Nat) : Int)] (by omega) ⟨k, i + 1, rfl, by omega, by omega, ?_, rfl⟩ ?_
              · rw [he, selF_take hx, if_neg (by simp [hp])]
                simp
              · simp only [hvm_t, hvm_f, hvm_nil, puts_cons, puts_nil, List.set_cons_zero, List.set_cons_succ, num]
                repeat first | exact Wk.nil | refine Wk.same ?_ | refine wk_any ?_
            · repeat' first|refine Spl.on (fun _=>?_) (fun _=>?_)|with_reducible refine gd ?_|simp only [go_sem, Int.reduceEq, Int.cast_ofNat_Int, Bool.false_eq_true, xblkG_exit3, ek, hgc, hw, hwj, List.length_map]
              refine lendG_mk (n2 - 1) [num ((j + 1 : Nat) : Int)] (by omega) ⟨j + 1, rfl, by omega, by omega, ?_, rfl⟩ ?_
              · intro d hd
                rw [List.take_add_one, hcx] at hd
                simp only [Option.toList_some, List.mem_append, List.mem_singleton] at hd
                rcases hd with hd | rfl
                · exact hall d hd
                · exact hb
              · simp only [hvm_t, hvm_f, hvm_nil, puts_cons, puts_nil, List.set_cons_zero, List.set_cons_succ, num]
                repeat first | exact Wk.nil | refine Wk.same ?_ | refine wk_any ?_
          · have ek := eq_false (show ¬ (j : Int) < (cs.length : Int) by omega)
            rw [List.take_of_length_le hjg] at hall
            have hp : holdsB cs s i = true := by
              simp only [holdsB, List.all_eq_true]
              exact hall
            repeat' first|refine Spl.on (fun _=>?_) (fun _=>?_)|with_reducible refine gd ?_|simp only [go_sem, Int.reduceEq, Int.cast_ofNat_Int, Bool.false_eq_true, xblkG_exit3, ek, hw, List.length_map]
            refine yc_mk ⟨(s, i), by rw [he]; exact selF_get hx (by simp [hls, hp]), rfl⟩ ?_ ?_
            · repeat' first|refine Spl.on (fun _=>?_) (fun _=>?_)|with_reducible refine gd ?_|simp only [go_sem, Int.reduceEq, Int.cast_ofNat_Int, Bool.false_eq_true, xblkG_exit3, ek, hw, List.length_map]
              refine lendG_mk (n - 1) [num ((i + 1 : Nat) : Int)] (by omega) ⟨k + 1, i + 1, rfl, by omega, by omega, ?_, rfl⟩ ?_
              · rw [he, selF_take hx, if_pos (by simp [hls, hp])]
              · simp only [hvm_t, hvm_f, hvm_nil, puts_cons, puts_nil, List.set_cons_zero, List.set_cons_succ, num]
                repeat first | exact Wk.nil | refine Wk.same ?_ | refine wk_any ?_
            · repeat' first|refine Spl.on (fun _=>?_) (fun _=>?_)|with_reducible refine gd ?_|simp only [go_sem, Int.reduceEq, Int.cast_ofNat_Int, Bool.false_eq_true, xblkG_exit3, ek, hw, List.length_map]
              all_goals first | exact .inr rfl | exact .inr trivial
    · have ej := eq_false (show ¬ (i : Int) < (L.length : Int) by omega)
      rw [List.take_of_length_le hge] at he
      repeat' first|refine Spl.on (fun _=>?_) (fun _=>?_)|with_reducible refine gd ?_|simp only [go_sem, Int.reduceEq, Int.cast_ofNat_Int, Bool.false_eq_true, xblkG_exit3, ej, List.length_map]
      exact .inl (by rw [he])
end Go.Proofs.YtkafbgdokgfjmaaGreatDoor
namespace Go.Proofs.YtkafbgdokgfjmaaGreatDoor
open Go.RowKit Go.Proofs
set_option linter.unusedSimpArgs false
set_option linter.unusedVariables false
set_option maxRecDepth 100000
set_option maxHeartbeats 4000000
def stA (L : List Sto) (tm : List AV) : AV := .agg [.sl 8 (L.map sto), .sl 2 tm]
theorem each41 (L : List Sto) (tm : List AV) (cs : List Cnd) : ACalls Tryz.prog 73 [stA L tm, .sl 1 (cs.map cloA)] (fun r => r = .clo 105 [.elt (stA L tm), .elt (.agg [.sl 1 (cs.map cloA)])]) := by
  simp only [stA]
  refine calls_short [(1,[2,3],[])] ttok hmix Tryz.func73 (by decide) (by decide +kernel) (by simp only [Tryz.f73, Option.bind_some, comp, cops, cguard, gslot, List.getElem?_toArray, List.getElem?_cons_succ, List.getElem?_cons_zero, vlook, tlook, cutAt_nil, cutAt, firstReg, isCut, mkSeq, Nat.reduceAdd, Nat.reduceEqDiff, reduceIte]; rfl) Tryz.ntmps73 Tryz.results73 ⟨_, rfl⟩ rfl ?_
  simp only [List.length_cons, List.length_nil, Nat.reduceAdd, Nat.reduceSub, List.replicate_succ, List.replicate_zero, List.cons_append, List.nil_append, num, str, tru]
  repeat' first|refine Spl.on (fun _=>?_) (fun _=>?_)|with_reducible refine gd ?_|simp only [go_sem, Int.reduceEq, Int.cast_ofNat_Int, Bool.false_eq_true]
theorem append72 (XS : List (Sto × Nat)) (hl : XS.length ≤ 1000000) {g : Nat} {cs : List AV} (hi : AIter Tryz.prog g cs XS.length (fun k args => ∃ x, XS[k]? = some x ∧ args = [qY x])) : ACalls Tryz.prog 104 [.mine 88 9 [], .clo g cs] (fun r => r = .mine 88 9 (XS.map qY)) := by
  refine calls_shortG [] [] [5,7,8,9,10,11] ttok hmix Tryz.func104 (by decide) (by decide +kernel) (by simp only [Tryz.f104, Option.bind_some, compG, ylook, compY, comp, cops, cguard, gslot, List.getElem?_toArray, List.getElem?_cons_succ, List.getElem?_cons_zero, vlook, tlook, List.take_succ_cons, List.take_zero, List.drop_succ_cons, List.drop_zero, Option.map_some, Nat.reduceEqDiff, if_true, if_false, Nat.succ_ne_self, Nat.reduceAdd, reduceIte, reduceCtorEq, Bool.false_eq_true, cutAt_nil, cutAt, firstReg, isCut, mkSeq, mkSeqG]; rfl) Tryz.ntmps104 Tryz.results104 ⟨_, rfl⟩ rfl ?_
  skip
  simp only [List.length_cons, List.length_nil, Nat.reduceAdd, Nat.reduceSub, List.replicate_succ, List.replicate_zero, List.cons_append, List.nil_append, num, str, tru]
  repeat' first|refine Spl.on (fun _=>?_) (fun _=>?_)|with_reducible refine gd ?_|simp only [go_sem, Int.reduceEq, Int.cast_ofNat_Int, Bool.false_eq_true]
  refine cwpG_range [false, false, true, false, false, true, false, true, true, true, true, true, false] [2] (fun k xs => xs = [.box 85 [.mine 88 9 ((XS.take k).map qY)]]) (Nat.le_refl 13) ?_ hi ?_ ?_ ?_
  · exact .inl rfl
  · refine ⟨_, rfl, ?_⟩
    simp only [hvm_t, hvm_f, hvm_nil, puts_cons, puts_nil, List.set_cons_zero, List.set_cons_succ, num]
    simp only [List.take_zero, List.map_nil]
    repeat first | exact Wk.nil | refine Wk.same ?_ | refine wk_any ?_
  · rintro k args xs ⟨x, hk, rfl⟩ rfl
    refine ⟨rfl, rfl, ?_⟩
    have hlk : k < XS.length := (List.getElem?_eq_some_iff.1 hk).1
    have hlt : ((XS.take k).map qY).length = k := by simp; omega
    have hsn : (XS.take k).map qY ++ [qY x] = (XS.take (k + 1)).map qY := by
      rw [List.take_add_one, hk]; simp
    obtain ⟨s, i⟩ := x
    simp only [qY, qst, num, str, tru] at hsn ⊢
    simp only [hvm_t, hvm_f, hvm_nil, puts_cons, puts_nil, List.set_cons_zero, List.set_cons_succ, num]
    repeat' first|refine Spl.on (fun _=>?_) (fun _=>?_)|with_reducible refine gd ?_|simp only [go_sem, Int.reduceEq, Int.cast_ofNat_Int, Bool.false_eq_true, hlt, hsn]
    refine rend_mk _ rfl ?_
    simp only [hvm_t, hvm_f, hvm_nil, puts_cons, puts_nil, List.set_cons_zero, List.set_cons_succ, num]
    repeat first | exact Wk.nil | refine Wk.same ?_ | refine wk_any ?_
  · rintro xs rfl
    simp only [hvm_t, hvm_f, hvm_nil, puts_cons, puts_nil, List.set_cons_zero, List.set_cons_succ, num]
    simp only [List.take_length]
    repeat' first|refine Spl.on (fun _=>?_) (fun _=>?_)|with_reducible refine gd ?_|simp only [go_sem, Int.reduceEq, Int.cast_ofNat_Int, Bool.false_eq_true]
theorem collect59 (XS : List (Sto × Nat)) (hl : XS.length ≤ 1000000) {g : Nat} {cs : List AV} (hi : AIter Tryz.prog g cs XS.length (fun k args => ∃ x, XS[k]? = some x ∧ args = [qY x])) : ACalls Tryz.prog 72 [.clo g cs] (fun r => r = .mine 88 9 (XS.map qY)) := by
  refine calls_short [] ttok hmix Tryz.func72 (by decide) (by decide +kernel) (by simp only [Tryz.f72, Option.bind_some, comp, cops, cguard, gslot, List.getElem?_toArray, List.getElem?_cons_succ, List.getElem?_cons_zero, vlook, tlook, cutAt_nil, cutAt, firstReg, isCut, mkSeq, Nat.reduceAdd, Nat.reduceEqDiff, reduceIte]; rfl) Tryz.ntmps72 Tryz.results72 ⟨_, rfl⟩ rfl ?_
  simp only [List.length_cons, List.length_nil, Nat.reduceAdd, Nat.reduceSub, List.replicate_succ, List.replicate_zero, List.cons_append, List.nil_append, num, str, tru]
  repeat' first|refine Spl.on (fun _=>?_) (fun _=>?_)|with_reducible refine gd ?_|simp only [go_sem, Int.reduceEq, Int.cast_ofNat_Int, Bool.false_eq_true]
  refine ((append72 XS hl hi).wk ?_).mono ?_
  · repeat first | exact Wk.nil | exact Wk.refl _ | refine wk_nilmine ?_ | refine Wk.same ?_
  rintro r rfl
  repeat' first|refine Spl.on (fun _=>?_) (fun _=>?_)|with_reducible refine gd ?_|simp only [go_sem, Int.reduceEq, Int.cast_ofNat_Int, Bool.false_eq_true]
end Go.Proofs.YtkafbgdokgfjmaaGreatDoor
namespace Go.Proofs.YtkafbgdokgfjmaaGreatDoor
open Go.RowKit Go.Proofs
set_option linter.unusedSimpArgs false
set_option linter.unusedVariables false
set_option maxRecDepth 100000
set_option maxHeartbeats 4000000
theorem same22 (a b : List (List UInt8)) (ha : a.length ≤ 1000000) (hb : b.length ≤ 1000000) : ACalls Tryz.prog 23 [.sl 1 (a.map str), .sl 1 (b.map str)] (fun r => r = tru (decide (a = b))) := by
  refine calls_short [] ttok hmix Tryz.func23 (by decide) (by decide +kernel) (by simp only [Tryz.f23, Option.bind_some, comp, cops, cguard, gslot, List.getElem?_toArray, List.getElem?_cons_succ, List.getElem?_cons_zero, vlook, tlook, cutAt_nil, cutAt, firstReg, isCut, mkSeq, Nat.reduceAdd, Nat.reduceEqDiff, reduceIte]; rfl) Tryz.ntmps23 Tryz.results23 ⟨_, rfl⟩ rfl ?_
  simp only [List.length_cons, List.length_nil, Nat.reduceAdd, Nat.reduceSub, List.replicate_succ, List.replicate_zero, List.cons_append, List.nil_append, num, str, tru]
  simp (decide := true) only [mkd_eq [5] [] [] [[17], [5], [17], [], [21], [5], [21], [], []], List.zip_cons_cons, List.zip_nil_left, List.zip_nil_right]
  by_cases hab : a.length = b.length
  · have eab := eq_true (show (a.length : Int) = (b.length : Int) by omega)
    repeat' first|refine Spl.on (fun _=>?_) (fun _=>?_)|with_reducible refine gd ?_|simp only [go_sem, Int.reduceEq, Int.cast_ofNat_Int, Bool.false_eq_true, eab, List.length_map]
    refine cwp_loop [false, false, false, false, true, true, false, false, false, false, false, true, true, true, true, true, true, true, true, true, true, true, true, true, true, true] [5] (fun n xs => ∃ (j : Nat), j ≤ a.length ∧ j + n = a.length ∧ a.take j = b.take j ∧ xs = [num j]) ⟨a.length, _, ⟨0, by omega, by omega, rfl, rfl⟩, ?_⟩ ?_
    · simp only [hvm_t, hvm_f, hvm_nil, puts_cons, puts_nil, List.set_cons_zero, List.set_cons_succ, num]
      repeat first | exact Wk.nil | refine Wk.same ?_ | refine wk_any ?_
    · rintro n xs ⟨j, hjl, hn, he, rfl⟩
      simp only [hvm_t, hvm_f, hvm_nil, puts_cons, puts_nil, List.set_cons_zero, List.set_cons_succ, num]
      rcases Nat.lt_or_ge j a.length with hlt | hge
      · have ej := eq_true (show (j : Int) < (a.length : Int) by omega)
        have ej2 := eq_true (show (j : Int) < (b.length : Int) by omega)
        obtain ⟨x, hx, hdx⟩ := drop_at hlt
        obtain ⟨y, hy, hdy⟩ := drop_at (l := b) (j := j) (by omega)
        have hgx := strs_at hx
        have hgy := strs_at hy
        have hw : IntKind.i64.wrap ((j : Int) + 1) = ((j + 1 : Nat) : Int) := wrap_succ (by omega)
        by_cases hxy : x = y
        · have exy : (x == y) = true := by simp [hxy]
          repeat' first|refine Spl.on (fun _=>?_) (fun _=>?_)|with_reducible refine gd ?_|simp only [go_sem, Int.reduceEq, Int.cast_ofNat_Int, Bool.false_eq_true, ej, hgx, hgy, hw, exy, List.length_map]
          all_goals try (exfalso; omega)
          refine lend_mk (n - 1) [num ((j + 1 : Nat) : Int)] (by omega) ⟨j + 1, by omega, by omega, ?_, rfl⟩ ?_
          · rw [List.take_add_one, List.take_add_one, he, hx, hy, hxy]
          · simp only [hvm_t, hvm_f, hvm_nil, puts_cons, puts_nil, List.set_cons_zero, List.set_cons_succ, num]
            repeat first | exact Wk.nil | refine Wk.same ?_ | refine wk_any ?_
        · have exy : (x == y) = false := by simp [hxy]
          repeat' first|refine Spl.on (fun _=>?_) (fun _=>?_)|with_reducible refine gd ?_|simp only [go_sem, Int.reduceEq, Int.cast_ofNat_Int, Bool.false_eq_true, ej, hgx, hgy, hw, exy, List.length_map]
          all_goals try (exfalso; omega)
          refine tru_f ?_
          simp only [decide_eq_false_iff_not]
          intro e
          subst e
          rw [hx] at hy
          injection hy with hy
          exact hxy hy
      · have ej := eq_false (show ¬ (j : Int) < (a.length : Int) by omega)
        repeat' first|refine Spl.on (fun _=>?_) (fun _=>?_)|with_reducible refine gd ?_|simp only [go_sem, Int.reduceEq, Int.cast_ofNat_Int, Bool.false_eq_true, ej, List.length_map]
        all_goals try (exfalso; omega)
        refine tru_t ?_
        rw [List.take_of_length_le hge, List.take_of_length_le (by omega)] at he
        simp [he]
  · have eab := eq_false (show ¬ (a.length : Int) = (b.length : Int) by omega)
    repeat' first|refine Spl.on (fun _=>?_) (fun _=>?_)|with_reducible refine gd ?_|simp only [go_sem, Int.reduceEq, Int.cast_ofNat_Int, Bool.false_eq_true, eab, List.length_map]
    refine tru_f ?_
    simp only [decide_eq_false_iff_not]
    intro e
    exact hab (by rw [e])
def nmsL : List (List UInt8) := [[], [97], [98], [99], [100], [108, 111, 110, 103, 45, 110, 97, 109, 101], [101]]
def nmsS : List (List UInt8) := [[], [97], [98], [99], [100], [108, 111, 110, 103, 45, 110, 97, 109, 101]]
end Go.Proofs.YtkafbgdokgfjmaaGreatDoor
