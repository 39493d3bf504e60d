/- Join. -/
import Derived.Test.YtohelofjlkoboaaT
import Derived.Test.YtohelofjlkoboaaA10
import Derived.Test.YtohelofjlkoboaaA11
import Derived.Test.YtohelofjlkoboaaA14
import Derived.Test.YtohelofjlkoboaaC1
import Derived.Test.YtohelofjlkoboaaE5
namespace Go.Proofs.Ytohelofjlkoboaa
open Go.RowKit Go.Proofs
set_option linter.unusedSimpArgs false
set_option linter.unusedVariables false
set_option maxRecDepth 100000
set_option maxHeartbeats 4000000
def inAny (a b : List Int) (x : Int) : Bool := decide (x ∈ a) || decide (x ∈ b)
def ids : List Int := (List.range 64).map fun i : Nat => (i : Int) + 1
def joinA (a b : List Int) : List Int := ids.filter (inAny a b)
def or4 (x y : Int) : Int := (if bitL x 0 || bitL y 0 then 1 else 0) + (if bitL x 1 || bitL y 1 then 2 else 0) + (if bitL x 2 || bitL y 2 then 4 else 0) + (if bitL x 3 || bitL y 3 then 8 else 0)
def zeroL : Lb := ⟨0, [], 0, 0⟩
def joinL (a b : Lb) : Lb := if okL a && okL b then ⟨max a.u b.u, joinA a.a b.a, max a.n b.n, or4 a.d b.d⟩ else zeroL
def labO (l : Lb) : AV := .agg [num l.u, .own 3 1 (nums l.a), num l.n, num l.d]
def labM (l : Lb) : AV := .agg [num l.u, .mine 3 1 (nums l.a), num l.n, num l.d]
theorem or_all : ∀ x y : Fin 16, IntKind.i64.wrap ((BitVec.ofInt IntKind.i64.bits (x.val : Int) ||| BitVec.ofInt IntKind.i64.bits (y.val : Int)).toNat) = or4 x.val y.val := by decide +kernel
theorem or_eq {x y : Int} (hx : 0 ≤ x ∧ x ≤ 15) (hy : 0 ≤ y ∧ y ≤ 15) : IntKind.i64.wrap ((BitVec.ofInt IntKind.i64.bits x ||| BitVec.ofInt IntKind.i64.bits y).toNat) = or4 x y := by
  obtain ⟨i, rfl⟩ := fin_of (n := 16) hx.1 (by omega)
  obtain ⟨j, rfl⟩ := fin_of (n := 16) hy.1 (by omega)
  exact or_all i j
theorem ext_lt : ∀ {l m : List Int}, l.Pairwise (· < ·) → m.Pairwise (· < ·) → (∀ x, x ∈ l ↔ x ∈ m) → l = m
  | [], [], _, _, _ => rfl
  | [], y :: m, _, _, h => absurd ((h y).2 (by simp)) (by simp)
  | x :: l, [], _, _, h => absurd ((h x).1 (by simp)) (by simp)
  | x :: l, y :: m, hl, hm, h => by
    have hl1 := fun z hz => List.rel_of_pairwise_cons hl (a' := z) hz
    have hm1 := fun z hz => List.rel_of_pairwise_cons hm (a' := z) hz
    have hxy : x = y := by
      rcases List.mem_cons.1 ((h x).1 (by simp)) with e | hx
      · exact e
      · rcases List.mem_cons.1 ((h y).2 (by simp)) with e | hy
        · exact e.symm
        · have := hl1 y hy; have := hm1 x hx; omega
    subst hxy
    rw [ext_lt (List.Pairwise.of_cons hl) (List.Pairwise.of_cons hm) fun z => ⟨fun hz => ?_, fun hz => ?_⟩]
    · rcases List.mem_cons.1 ((h z).1 (by simp [hz])) with e | hz'
      · have := hl1 z hz; omega
      · exact hz'
    · rcases List.mem_cons.1 ((h z).2 (by simp [hz])) with e | hz'
      · have := hm1 z hz; omega
      · exact hz'
theorem ids_pw : ids.Pairwise (· < ·) := by decide +kernel
theorem mem_ids {x : Int} : x ∈ ids ↔ 1 ≤ x ∧ x ≤ 64 := by
  simp only [ids, List.mem_map, List.mem_range]
  exact ⟨by rintro ⟨i, h, rfl⟩; omega, fun h => ⟨(x - 1).toNat, by omega, by omega⟩⟩
theorem compact_upto (d : Array Int) (hd : ∀ i j, i < j → j < d.size → d[i]! ≤ d[j]!) : ∀ m, m ≤ d.size → (Lib.compactUpTo d m).Pairwise (· < ·) ∧ (∀ x, x ∈ Lib.compactUpTo d m ↔ ∃ j, j < m ∧ d[j]! = x)
  | 0, _ => ⟨by simp [Lib.compactUpTo], by simp [Lib.compactUpTo]⟩
  | m + 1, hm => by
    obtain ⟨h1, h2⟩ := compact_upto d hd m (by omega)
    rw [Lib.compactUpTo_succ]
    by_cases hk : Lib.keeps d m = true
    · simp only [hk, if_true]
      have hk' : m = 0 ∨ d[m]! ≠ d[m - 1]! := by simpa [Lib.keeps] using hk
      refine ⟨List.pairwise_append.2 ⟨h1, by simp, fun x hx y hy => ?_⟩, fun x => ?_⟩
      · obtain ⟨j, hj, rfl⟩ := (h2 x).1 hx
        rw [List.mem_singleton] at hy
        subst hy
        have a1 : d[j]! ≤ d[m - 1]! := by
          rcases Nat.lt_or_ge j (m - 1) with h | h
          · exact hd j (m - 1) h (by omega)
          · have : j = m - 1 := by omega
            subst this; exact Int.le_refl _
        have a2 : d[m - 1]! ≤ d[m]! := hd (m - 1) m (by omega) (by omega)
        rcases hk' with h | h
        · omega
        · omega
      · rw [List.mem_append, h2, List.mem_singleton]
        constructor
        · rintro (⟨j, hj, rfl⟩ | rfl)
          · exact ⟨j, by omega, rfl⟩
          · exact ⟨m, by omega, rfl⟩
        · rintro ⟨j, hj, rfl⟩
          rcases Nat.lt_or_ge j m with h | h
          · exact .inl ⟨j, h, rfl⟩
          · have : j = m := by omega
            subst this; exact .inr rfl
    · have hk2 : Lib.keeps d m = false := by simpa using hk
      simp only [hk2, Bool.false_eq_true, if_false, List.append_nil]
      have hk' : m ≠ 0 ∧ d[m]! = d[m - 1]! := by simpa [Lib.keeps] using hk2
      refine ⟨h1, fun x => ?_⟩
      rw [h2]
      constructor
      · rintro ⟨j, hj, rfl⟩; exact ⟨j, by omega, rfl⟩
      · rintro ⟨j, hj, rfl⟩
        rcases Nat.lt_or_ge j m with h | h
        · exact ⟨j, h, rfl⟩
        · have : j = m := by omega
          subst this; exact ⟨j - 1, by omega, hk'.2.symm⟩
theorem compact_sorted {zs : List Int} (h : zs.Pairwise (· ≤ ·)) : (Lib.compact zs).Pairwise (· < ·) ∧ ∀ x, x ∈ Lib.compact zs ↔ x ∈ zs := by
  obtain ⟨h1, h2⟩ := compact_upto zs.toArray (fun i j hij hj => by
    have hj' : j < zs.length := by simpa using hj
    have := List.pairwise_iff_getElem.1 h i j (by omega) hj' hij
    simpa [getElem!_pos, hj', (by omega : i < zs.length)] using this) zs.length (by simp)
  refine ⟨h1, fun x => ?_⟩
  rw [show Lib.compact zs = Lib.compactUpTo zs.toArray zs.length from rfl, h2]
  constructor
  · rintro ⟨j, hj, rfl⟩
    have : zs.toArray[j]! = zs[j] := by simp [getElem!_pos, hj]
    rw [this]; exact List.getElem_mem hj
  · intro hx
    obtain ⟨j, hj, rfl⟩ := List.getElem_of_mem hx
    exact ⟨j, hj, by simp [getElem!_pos, hj]⟩
theorem mem_joinA {a b : List Int} (ha : asc 0 a = true) (hb : asc 0 b = true) {x : Int} : x ∈ joinA a b ↔ x ∈ a ∨ x ∈ b := by
  simp only [joinA, List.mem_filter, mem_ids, inAny, Bool.or_eq_true, decide_eq_true_eq]
  constructor
  · exact fun h => h.2
  · intro h
    refine ⟨?_, h⟩
    rcases h with h | h
    · have := (asc_pw ha).2 x h; omega
    · have := (asc_pw hb).2 x h; omega
theorem joinA_pw (a b : List Int) : (joinA a b).Pairwise (· < ·) := ids_pw.sublist List.filter_sublist
theorem join_sort {a b : List Int} (ha : asc 0 a = true) (hb : asc 0 b = true) : Lib.compact ((a ++ b).mergeSort fun x y => decide (x ≤ y)) = joinA a b := by
  have hs : ((a ++ b).mergeSort fun x y => decide (x ≤ y)).Pairwise (· ≤ ·) := by
    have := List.pairwise_mergeSort (le := fun x y : Int => decide (x ≤ y)) (fun a b c h1 h2 => by simp at *; omega) (fun a b => by simp; omega) (a ++ b)
    exact this.imp fun h => by simpa using h
  obtain ⟨h1, h2⟩ := compact_sorted hs
  refine ext_lt h1 (joinA_pw a b) fun x => ?_
  rw [h2, mem_joinA ha hb, List.mem_mergeSort, List.mem_append]
theorem nums_app (a b : List Int) : nums a ++ nums b = nums (a ++ b) := by simp [nums]
theorem asc_len' : ∀ {p : Int} {l : List Int}, p ≤ 64 → asc p l = true → (l.length : Int) ≤ 64 - p
  | p, [], hp, _ => by simp; omega
  | p, x :: l, hp, h => by
    simp only [asc, Bool.and_eq_true, decide_eq_true_eq] at h
    have := asc_len' h.1.2 h.2
    simp only [List.length_cons]; omega
theorem asc_len {l : List Int} (h : asc 0 l = true) : l.length ≤ 64 := by have := asc_len' (by decide) h; omega
def zeroR : AV := .agg [num 0, .nil, num 0, num 0]
theorem join22 (a b : Lb) (hla : a.a.length ≤ 1000000) (hlb : b.a.length ≤ 1000000) : ACalls Try.prog 22 [lab a, lab b] (fun r => r = bif okL a && okL b then labM (joinL a b) else zeroR) := by
  refine calls_short [(4, [5], []), (7, [100005], [])] ttok hmix Try.func22 (by decide) (by decide +kernel) (by simp only [Try.f22, Option.bind_some, comp, isLend, lendOf, lendX, lendC, lendH, Nat.reduceLeDiff, Nat.reduceSub, ne_eq, not_false_eq_true, and_self, cops, cguard, gslot, List.getElem?_toArray, List.getElem?_cons_succ, List.getElem?_cons_zero, vlook, tlook, cutAt_nil, cutAt, firstReg, isCut, mkSeq, Nat.reduceAdd, Nat.reduceEqDiff, reduceIte]; rfl) Try.ntmps22 Try.results22 ⟨_, rfl⟩ rfl ?_
  simp only [List.length_cons, List.length_nil, Nat.reduceAdd, Nat.reduceSub, List.replicate_succ, List.replicate_zero, List.cons_append, List.nil_append, num, str, tru]
  simp (decide := true) only [mkd_eq [3, 2] [4700003, 4500002, 4200003, 4000002, 3500003, 3300002] [] [[2], [2], [3], [3], [], [], [], [2], [2], [3], [3], [], [2], [2], [3], [3], [], [], []], List.zip_cons_cons, List.zip_nil_left, List.zip_nil_right]
  simp only [go_sem, lab, num, tru]
  repeat' first|refine Spl.on (fun _=>?_) (fun _=>?_)|with_reducible refine gd ?_|simp only [go_sem]
  refine (valid16 a hla).mono ?_
  rintro r rfl
  simp only [tru]
  repeat' first|refine Spl.on (fun _=>?_) (fun _=>?_)|with_reducible refine gd ?_|simp only [go_sem]
  · rename_i h1
    simp only [h1, Bool.false_and, cond_false]; rfl
  · rename_i h1
    refine (valid16 b hlb).mono ?_
    rintro r rfl
    simp only [tru]
    repeat' first|refine Spl.on (fun _=>?_) (fun _=>?_)|with_reducible refine gd ?_|simp only [go_sem]
    · rename_i h2
      simp only [h2, Bool.and_false, cond_false]; rfl
    · rename_i h2
      have hw : IntKind.i64.wrap ((a.a.length : Int) + (b.a.length : Int)) = ((a.a.length + b.a.length : Nat) : Int) := by rw [wrap_in (by omega) (by omega)]; omega
      simp only [hw]
      have la := asc_len (okL_a h1)
      have lb := asc_len (okL_a h2)
      repeat refine ⟨by first | rfl | assumption | omega | decide | exact .inl trivial | (simp; done), ?_⟩
      repeat' first|refine Spl.on (fun _=>?_) (fun _=>?_)|with_reducible refine gd ?_|simp only [go_sem]
      rw [nums_app]
      refine (sort33 (a.a ++ b.a) (by simp; omega)).mono ?_
      rintro r y ⟨rfl, rfl⟩
      repeat' first|refine Spl.on (fun _=>?_) (fun _=>?_)|with_reducible refine gd ?_|simp only [go_sem]
      refine (compact34m _ (by simp; omega)).mono ?_
      rintro r rfl
      rw [join_sort (okL_a h1) (okL_a h2)]
      repeat' first|refine Spl.on (fun _=>?_) (fun _=>?_)|with_reducible refine gd ?_|simp only [go_sem]
      have ho := or_eq (okL_d h1) (okL_d h2)
      simp only [h1, h2, Bool.and_self, cond_true, labM, joinL, if_true, num]
      exact congrArg (fun x => AV.agg [.raw (.int .i64 (max a.u b.u)), .mine 3 1 (nums (joinA a.a b.a)), .raw (.int .i64 (max a.n b.n)), .raw (.int .i64 x)]) ho
theorem W1.zeroR : W1 zeroR (labM zeroL) := W1.agg (.same (wk_nilmine (.same (.same .nil))))
theorem join22m (a b : Lb) (hla : a.a.length ≤ 1000000) (hlb : b.a.length ≤ 1000000) : ACalls Try.prog 22 [lab a, lab b] (fun r => r = labM (joinL a b)) := by
  refine (join22 a b hla hlb).wkr ?_
  rintro r rfl
  cases h : okL a && okL b with
  | true => exact ⟨_, W1.refl _, rfl, rfl⟩
  | false => exact ⟨_, W1.zeroR, rfl, by simp only [joinL, h, Bool.false_eq_true, if_false]⟩
theorem join22' (a b : Lb) (hla : a.a.length ≤ 1000000) (hlb : b.a.length ≤ 1000000) : ACalls Try.prog 22 [lab a, lab b] (fun r => r = labO (joinL a b)) :=
  ACalls.freezeAt (ps := [num (joinL a b).u]) (ys := [num (joinL a b).n, num (joinL a b).d]) (join22m a b hla hlb)
end Go.Proofs.Ytohelofjlkoboaa
