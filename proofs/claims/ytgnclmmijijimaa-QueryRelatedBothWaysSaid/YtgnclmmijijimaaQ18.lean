/- Related: its parts. -/
import Derived.Test.YtgnclmmijijimaaT
import Derived.Test.YtgnclmmijijimaaA10
import Derived.Test.YtgnclmmijijimaaQ17
namespace Go.Proofs.Ytgnclmmijijimaa
open Go.RowKit Go.Proofs
set_option linter.unusedSimpArgs false
set_option linter.unusedVariables false
set_option maxRecDepth 100000
set_option maxHeartbeats 4000000
open Go.Shelf
def idxI (p : Sto → Bool) (L : List Sto) : Int := if L.findIdx p < L.length then (L.findIdx p : Int) else -1
theorem idx_at {p : Sto → Bool} {L : List Sto} {i : Nat} {s : Sto} (hx : L[i]? = some s) (hno : ∀ y ∈ L.take i, p y = false) (h : p s = true) : L.findIdx p = i := by
  have hi := (List.getElem?_eq_some_iff.1 hx).1
  have hs := (List.getElem?_eq_some_iff.1 hx).2
  rw [List.findIdx_eq hi]
  refine ⟨by rw [hs]; exact h, fun j hj => ?_⟩
  have := hno L[j] (by rw [List.mem_take_iff_getElem]; exact ⟨j, by omega, rfl⟩)
  simpa using this
theorem idx_none {p : Sto → Bool} {L : List Sto} (hno : ∀ y ∈ L, p y = false) : ¬ L.findIdx p < L.length := by
  rw [List.findIdx_lt_length]
  rintro ⟨x, hx, h⟩
  rw [hno x hx] at h
  cases h
theorem indexFunc46 (L : List Sto) (g : Nat) (cs : List AV) (p : Sto → Bool) (hl : L.length ≤ 1000000) (hc : ∀ s ∈ L, ACalls Try.prog g (sto s :: cs) (fun r => r = tru (p s))) : ACalls Try.prog 46 [.sl 8 (L.map sto), .clo g cs] (fun r => r = num (idxI p L)) := by
  refine calls_short [] ttok hmix Try.func46 (by decide) (by decide +kernel) (by simp only [Try.f46, Option.bind_some, comp, isLend, lendOf, lendX, lendC, lendH, Nat.reduceLeDiff, Nat.reduceSub, ne_eq, not_false_eq_true, and_self, cops, cguard, gslot, List.getElem?_toArray, List.getElem?_cons_succ, List.getElem?_cons_zero, vlook, tlook, cutAt_nil, cutAt, firstReg, isCut, mkSeq, Nat.reduceAdd, Nat.reduceEqDiff, reduceIte]; rfl) Try.ntmps46 Try.results46 ⟨_, rfl⟩ rfl ?_
  simp only [List.length_cons, List.length_nil, Nat.reduceAdd, Nat.reduceSub, List.replicate_succ, List.replicate_zero, List.cons_append, List.nil_append, num, str, tru]
  repeat' first | with_reducible refine asq_dmk (fun _ => ?_) (fun _ => ?_) | with_reducible refine asq_ndmk (fun _ => ?_) (fun _ => ?_) | with_reducible refine asq_nmk (fun _ => ?_) (fun _ => ?_) | with_reducible refine asq_mk (fun _ => ?_) (fun _ => ?_) | with_reducible refine asp_dmk (fun _ => ?_) (fun _ => ?_) | with_reducible refine asp_ndmk (fun _ => ?_) (fun _ => ?_) | with_reducible refine asp_nmk (fun _ => ?_) (fun _ => ?_) | with_reducible refine asp_mk (fun _ => ?_) (fun _ => ?_) | with_reducible refine And.intro (by first | omega | rfl | decide | with_unfolding_all rfl) ?_ | simp only [go_sem, Nat.reduceLT, Nat.reduceAdd, Nat.reduceSub, Nat.reduceMul, Nat.reduceLeDiff, ne_eq, Nat.reduceEqDiff, not_false_eq_true, Bool.and_true, Bool.true_and, Nat.succ_ne_self, and_true, Bool.not_true, Bool.not_false, Int.toNat_zero, Int.reduceToNat, Nat.mul_one, Int.toNat_one, decide_true, decide_false, Int.reduceEq, Int.cast_ofNat_Int, Bool.false_eq_true, Bool.not_true, Bool.not_false, List.length_map]
  refine cwp_loop [false, false, false, false, false, true, false, false, true, true, true, true, true, true, true, true, true, true, true] [8] (fun n xs => ∃ i : Nat, i ≤ L.length ∧ i + n = L.length ∧ (∀ y ∈ L.take i, p y = false) ∧ xs = [num i]) ⟨L.length, _, ⟨0, by omega, by omega, by simp, rfl⟩, ?_⟩ ?_
  · simp only [hvm_t, hvm_f, hvm_nil, puts_cons, puts_nil, List.set_cons_zero, List.set_cons_succ, num]
    repeat first | exact Wk.nil | refine Wk.same ?_ | refine wk_any ?_
  · rintro n xs ⟨i, hil, hn, hno, rfl⟩
    simp only [hvm_t, hvm_f, hvm_nil, puts_cons, puts_nil, List.set_cons_zero, List.set_cons_succ, num]
    rcases Nat.lt_or_ge i L.length with hlt | hge
    · have ej := eq_true (show (i : Int) < (L.length : Int) by omega)
      obtain ⟨s, hx, hd⟩ := drop_at hlt
      have hgs := sto_at hx
      simp only [num, str, tru] at hgs
      have hw : IntKind.i64.wrap ((i : Int) + 1) = ((i + 1 : Nat) : Int) := wrap_succ (by omega)
      repeat' first | with_reducible refine asq_dmk (fun _ => ?_) (fun _ => ?_) | with_reducible refine asq_ndmk (fun _ => ?_) (fun _ => ?_) | with_reducible refine asq_nmk (fun _ => ?_) (fun _ => ?_) | with_reducible refine asq_mk (fun _ => ?_) (fun _ => ?_) | with_reducible refine asp_dmk (fun _ => ?_) (fun _ => ?_) | with_reducible refine asp_ndmk (fun _ => ?_) (fun _ => ?_) | with_reducible refine asp_nmk (fun _ => ?_) (fun _ => ?_) | with_reducible refine asp_mk (fun _ => ?_) (fun _ => ?_) | with_reducible refine And.intro (by first | omega | rfl | decide | with_unfolding_all rfl) ?_ | simp only [go_sem, Nat.reduceLT, Nat.reduceAdd, Nat.reduceSub, Nat.reduceMul, Nat.reduceLeDiff, ne_eq, Nat.reduceEqDiff, not_false_eq_true, Bool.and_true, Bool.true_and, Nat.succ_ne_self, and_true, Bool.not_true, Bool.not_false, Int.toNat_zero, Int.reduceToNat, Nat.mul_one, Int.toNat_one, decide_true, decide_false, Int.reduceEq, Int.cast_ofNat_Int, Bool.false_eq_true, Bool.not_true, Bool.not_false, ej, hgs, hw, List.length_map]
      refine ((hc s (List.mem_of_getElem? hx)).wk ?_).mono ?_
      · simp only [sto, stoC, num, str, tru]
        repeat first | exact Wk.nil | exact Wk.refl _ | refine wk_agg ?_ ?_ | refine wk_ownsl ?_ | refine wk_nilsl ?_ | refine Wk.same ?_
      rintro r rfl
      simp only [tru]
      cases hp : p s
      · repeat' first | with_reducible refine asq_dmk (fun _ => ?_) (fun _ => ?_) | with_reducible refine asq_ndmk (fun _ => ?_) (fun _ => ?_) | with_reducible refine asq_nmk (fun _ => ?_) (fun _ => ?_) | with_reducible refine asq_mk (fun _ => ?_) (fun _ => ?_) | with_reducible refine asp_dmk (fun _ => ?_) (fun _ => ?_) | with_reducible refine asp_ndmk (fun _ => ?_) (fun _ => ?_) | with_reducible refine asp_nmk (fun _ => ?_) (fun _ => ?_) | with_reducible refine asp_mk (fun _ => ?_) (fun _ => ?_) | with_reducible refine And.intro (by first | omega | rfl | decide | with_unfolding_all rfl) ?_ | simp only [go_sem, Nat.reduceLT, Nat.reduceAdd, Nat.reduceSub, Nat.reduceMul, Nat.reduceLeDiff, ne_eq, Nat.reduceEqDiff, not_false_eq_true, Bool.and_true, Bool.true_and, Nat.succ_ne_self, and_true, Bool.not_true, Bool.not_false, Int.toNat_zero, Int.reduceToNat, Nat.mul_one, Int.toNat_one, decide_true, decide_false, Int.reduceEq, Int.cast_ofNat_Int, Bool.false_eq_true, Bool.not_true, Bool.not_false, ej, hgs, hw, List.length_map]
        refine lend_mk (n - 1) [num ((i + 1 : Nat) : Int)] (by omega) ⟨i + 1, by omega, by omega, ?_, rfl⟩ ?_
        · intro y hy
          rw [List.take_add_one, hx] at hy
          simp only [Option.toList_some, List.mem_append, List.mem_singleton] at hy
          rcases hy with hy | rfl
          · exact hno y hy
          · exact hp
        · simp only [hvm_t, hvm_f, hvm_nil, puts_cons, puts_nil, List.set_cons_zero, List.set_cons_succ, num]
          repeat first | exact Wk.nil | refine Wk.same ?_ | refine wk_any ?_
      · have hidx : idxI p L = (i : Int) := by rw [idxI, idx_at hx hno hp, if_pos hlt]
        repeat' first | with_reducible refine asq_dmk (fun _ => ?_) (fun _ => ?_) | with_reducible refine asq_ndmk (fun _ => ?_) (fun _ => ?_) | with_reducible refine asq_nmk (fun _ => ?_) (fun _ => ?_) | with_reducible refine asq_mk (fun _ => ?_) (fun _ => ?_) | with_reducible refine asp_dmk (fun _ => ?_) (fun _ => ?_) | with_reducible refine asp_ndmk (fun _ => ?_) (fun _ => ?_) | with_reducible refine asp_nmk (fun _ => ?_) (fun _ => ?_) | with_reducible refine asp_mk (fun _ => ?_) (fun _ => ?_) | with_reducible refine And.intro (by first | omega | rfl | decide | with_unfolding_all rfl) ?_ | simp only [go_sem, Nat.reduceLT, Nat.reduceAdd, Nat.reduceSub, Nat.reduceMul, Nat.reduceLeDiff, ne_eq, Nat.reduceEqDiff, not_false_eq_true, Bool.and_true, Bool.true_and, Nat.succ_ne_self, and_true, Bool.not_true, Bool.not_false, Int.toNat_zero, Int.reduceToNat, Nat.mul_one, Int.toNat_one, decide_true, decide_false, Int.reduceEq, Int.cast_ofNat_Int, Bool.false_eq_true, Bool.not_true, Bool.not_false, ej, hgs, hw, List.length_map]
        rw [hidx]
    · have ej := eq_false (show ¬ (i : Int) < (L.length : Int) by omega)
      rw [List.take_of_length_le hge] at hno
      have hidx : idxI p L = -1 := by rw [idxI, if_neg (idx_none hno)]
      repeat' first | with_reducible refine asq_dmk (fun _ => ?_) (fun _ => ?_) | with_reducible refine asq_ndmk (fun _ => ?_) (fun _ => ?_) | with_reducible refine asq_nmk (fun _ => ?_) (fun _ => ?_) | with_reducible refine asq_mk (fun _ => ?_) (fun _ => ?_) | with_reducible refine asp_dmk (fun _ => ?_) (fun _ => ?_) | with_reducible refine asp_ndmk (fun _ => ?_) (fun _ => ?_) | with_reducible refine asp_nmk (fun _ => ?_) (fun _ => ?_) | with_reducible refine asp_mk (fun _ => ?_) (fun _ => ?_) | with_reducible refine And.intro (by first | omega | rfl | decide | with_unfolding_all rfl) ?_ | simp only [go_sem, Nat.reduceLT, Nat.reduceAdd, Nat.reduceSub, Nat.reduceMul, Nat.reduceLeDiff, ne_eq, Nat.reduceEqDiff, not_false_eq_true, Bool.and_true, Bool.true_and, Nat.succ_ne_self, and_true, Bool.not_true, Bool.not_false, Int.toNat_zero, Int.reduceToNat, Nat.mul_one, Int.toNat_one, decide_true, decide_false, Int.reduceEq, Int.cast_ofNat_Int, Bool.false_eq_true, Bool.not_true, Bool.not_false, ej, List.length_map]
      rw [hidx]
abbrev Rel := (Sto × Nat) × Nat
def rY (x : Rel) : AV := rel x.1.1 (x.1.2 : Nat) (x.2 : Nat)
theorem rY_at {l : List Rel} {j : Nat} {s : Sto} {i c : Nat} (h : l[j]? = some ((s, i), c)) : (l.map rY).getD j .any = .agg [num s.id, str s.au, .sl 1 (s.tp.map str), .sl 5 s.ed, num s.pu, .nil, tru s.re, tru s.tk, num (i : Int), num (c : Int)] := by simp [h, rY, rel]
theorem convert56 (XS : List Rel) (n : Int) (hl : XS.length ≤ 1000000) : ACalls Try.prog 56 [.mine 77 10 (XS.map rY), num n, .raw (.func (.func 57) #[] #[])] (fun r => r = .own 3 1 (nums ((XS.map (·.1.1.id)).take n.toNat))) := by
  refine calls_short [(1,[100000],[]),(2,[0],[])] ttok hmix Try.func56 (by decide) (by decide +kernel) (by simp only [Try.f56, Option.bind_some, comp, isLend, lendOf, lendX, lendC, lendH, Nat.reduceLeDiff, Nat.reduceSub, ne_eq, not_false_eq_true, and_self, cops, cguard, gslot, List.getElem?_toArray, List.getElem?_cons_succ, List.getElem?_cons_zero, vlook, tlook, cutAt_nil, cutAt, firstReg, isCut, mkSeq, Nat.reduceAdd, Nat.reduceEqDiff, reduceIte]; rfl) Try.ntmps56 Try.results56 ⟨_, rfl⟩ rfl ?_
  simp only [List.length_cons, List.length_nil, Nat.reduceAdd, Nat.reduceSub, List.replicate_succ, List.replicate_zero, List.cons_append, List.nil_append, num, str, tru]
  repeat' first | with_reducible refine asq_dmk (fun _ => ?_) (fun _ => ?_) | with_reducible refine asq_ndmk (fun _ => ?_) (fun _ => ?_) | with_reducible refine asq_nmk (fun _ => ?_) (fun _ => ?_) | with_reducible refine asq_mk (fun _ => ?_) (fun _ => ?_) | with_reducible refine asp_dmk (fun _ => ?_) (fun _ => ?_) | with_reducible refine asp_ndmk (fun _ => ?_) (fun _ => ?_) | with_reducible refine asp_nmk (fun _ => ?_) (fun _ => ?_) | with_reducible refine asp_mk (fun _ => ?_) (fun _ => ?_) | with_reducible refine And.intro (by first | omega | rfl | decide | with_unfolding_all rfl) ?_ | simp only [go_sem, Nat.reduceLT, Nat.reduceAdd, Nat.reduceSub, Nat.reduceMul, Nat.reduceLeDiff, ne_eq, Nat.reduceEqDiff, not_false_eq_true, Bool.and_true, Bool.true_and, Nat.succ_ne_self, and_true, Bool.not_true, Bool.not_false, Int.toNat_zero, Int.reduceToNat, Nat.mul_one, Int.toNat_one, decide_true, decide_false, Int.reduceEq, Int.cast_ofNat_Int, Bool.false_eq_true, Bool.not_true, Bool.not_false]
  refine cwp_loop [true, false, false, false, false, false, false, true, true, true, true, true, true, true, true, true, true, true, true, true, true, true, true, true, true, true, true, true, true, false] [0, 7, 8] (fun k xs => ∃ (j : Nat), j ≤ XS.length ∧ j ≤ n.toNat ∧ j + k = XS.length ∧ xs = [.sl 10 (XS.map rY), .own 3 1 (nums ((XS.map (·.1.1.id)).take j)), num j]) ⟨XS.length, _, ⟨0, by omega, by omega, by omega, rfl⟩, ?_⟩ ?_
  · simp only [List.take_zero, nums, List.map_nil]
    simp only [hvm_t, hvm_f, hvm_nil, puts_cons, puts_nil, List.set_cons_zero, List.set_cons_succ, num]
    repeat first | exact Wk.nil | exact Wk.refl _ | refine wk_ownsl ?_ | refine wk_nilown ?_ | refine wk_nilmine ?_ | refine wk_nilsl ?_ | refine Wk.same ?_ | refine wk_any ?_
  · rintro k xs ⟨j, hjl, hjn, hk, rfl⟩
    have hol : ((XS.map (·.1.1.id)).take j).length = j := by simp; omega
    simp only [hvm_t, hvm_f, hvm_nil, puts_cons, puts_nil, List.set_cons_zero, List.set_cons_succ, num]
    rcases Nat.lt_or_ge j n.toNat with hjt | hjg
    · have en := eq_true (show (j : Int) < n by omega)
      rcases Nat.lt_or_ge j XS.length with hlt | hge
      · have ej := eq_true (show (j : Int) < (XS.length : Int) by omega)
        obtain ⟨x, hx⟩ : ∃ x, XS[j]? = some x := ⟨_, List.getElem?_eq_getElem hlt⟩
        obtain ⟨⟨s, i⟩, c⟩ := x
        have hgx := rY_at hx
        simp only [num, str, tru] at hgx
        have hw : IntKind.i64.wrap ((j : Int) + 1) = ((j + 1 : Nat) : Int) := wrap_succ (by omega)
        have hsn : nums ((XS.map (·.1.1.id)).take j) ++ [AV.raw (.int .i64 s.id)] = nums ((XS.map (·.1.1.id)).take (j + 1)) := by
          rw [List.take_add_one, List.getElem?_map, hx]; simp [nums, num]
        repeat' first | with_reducible refine asq_dmk (fun _ => ?_) (fun _ => ?_) | with_reducible refine asq_ndmk (fun _ => ?_) (fun _ => ?_) | with_reducible refine asq_nmk (fun _ => ?_) (fun _ => ?_) | with_reducible refine asq_mk (fun _ => ?_) (fun _ => ?_) | with_reducible refine asp_dmk (fun _ => ?_) (fun _ => ?_) | with_reducible refine asp_ndmk (fun _ => ?_) (fun _ => ?_) | with_reducible refine asp_nmk (fun _ => ?_) (fun _ => ?_) | with_reducible refine asp_mk (fun _ => ?_) (fun _ => ?_) | with_reducible refine And.intro (by first | omega | rfl | decide | with_unfolding_all rfl) ?_ | simp only [go_sem, Nat.reduceLT, Nat.reduceAdd, Nat.reduceSub, Nat.reduceMul, Nat.reduceLeDiff, ne_eq, Nat.reduceEqDiff, not_false_eq_true, Bool.and_true, Bool.true_and, Nat.succ_ne_self, and_true, Bool.not_true, Bool.not_false, Int.toNat_zero, Int.reduceToNat, Nat.mul_one, Int.toNat_one, decide_true, decide_false, Int.reduceEq, Int.cast_ofNat_Int, Bool.false_eq_true, Bool.not_true, Bool.not_false, en, ej, hgx, hw, List.length_map]
        refine ((related57 s i c).wk ?_).mono ?_
        · simp only [rel, num, str, tru]
          repeat first | exact Wk.nil | exact Wk.refl _ | refine wk_agg ?_ ?_ | refine wk_ownsl ?_ | refine wk_nilsl ?_ | refine Wk.same ?_
        rintro r rfl
        simp only [num]
        repeat' first | with_reducible refine asq_dmk (fun _ => ?_) (fun _ => ?_) | with_reducible refine asq_ndmk (fun _ => ?_) (fun _ => ?_) | with_reducible refine asq_nmk (fun _ => ?_) (fun _ => ?_) | with_reducible refine asq_mk (fun _ => ?_) (fun _ => ?_) | with_reducible refine asp_dmk (fun _ => ?_) (fun _ => ?_) | with_reducible refine asp_ndmk (fun _ => ?_) (fun _ => ?_) | with_reducible refine asp_nmk (fun _ => ?_) (fun _ => ?_) | with_reducible refine asp_mk (fun _ => ?_) (fun _ => ?_) | with_reducible refine And.intro (by first | omega | rfl | decide | with_unfolding_all rfl) ?_ | simp only [go_sem, Nat.reduceLT, Nat.reduceAdd, Nat.reduceSub, Nat.reduceMul, Nat.reduceLeDiff, ne_eq, Nat.reduceEqDiff, not_false_eq_true, Bool.and_true, Bool.true_and, Nat.succ_ne_self, and_true, Bool.not_true, Bool.not_false, Int.toNat_zero, Int.reduceToNat, Nat.mul_one, Int.toNat_one, decide_true, decide_false, Int.reduceEq, Int.cast_ofNat_Int, Bool.false_eq_true, Bool.not_true, Bool.not_false, en, ej, hgx, hw, hol, hsn, nums_length, List.length_map]
        refine lend_mk (k - 1) [.sl 10 (XS.map rY), .own 3 1 (nums ((XS.map (·.1.1.id)).take (j + 1))), num ((j + 1 : Nat) : Int)] (by omega) ⟨j + 1, by omega, by omega, by omega, rfl⟩ ?_
        simp only [hvm_t, hvm_f, hvm_nil, puts_cons, puts_nil, List.set_cons_zero, List.set_cons_succ, num]
        repeat first | exact Wk.nil | refine Wk.same ?_ | refine wk_any ?_
      · have ej := eq_false (show ¬ (j : Int) < (XS.length : Int) by omega)
        repeat' first | with_reducible refine asq_dmk (fun _ => ?_) (fun _ => ?_) | with_reducible refine asq_ndmk (fun _ => ?_) (fun _ => ?_) | with_reducible refine asq_nmk (fun _ => ?_) (fun _ => ?_) | with_reducible refine asq_mk (fun _ => ?_) (fun _ => ?_) | with_reducible refine asp_dmk (fun _ => ?_) (fun _ => ?_) | with_reducible refine asp_ndmk (fun _ => ?_) (fun _ => ?_) | with_reducible refine asp_nmk (fun _ => ?_) (fun _ => ?_) | with_reducible refine asp_mk (fun _ => ?_) (fun _ => ?_) | with_reducible refine And.intro (by first | omega | rfl | decide | with_unfolding_all rfl) ?_ | simp only [go_sem, Nat.reduceLT, Nat.reduceAdd, Nat.reduceSub, Nat.reduceMul, Nat.reduceLeDiff, ne_eq, Nat.reduceEqDiff, not_false_eq_true, Bool.and_true, Bool.true_and, Nat.succ_ne_self, and_true, Bool.not_true, Bool.not_false, Int.toNat_zero, Int.reduceToNat, Nat.mul_one, Int.toNat_one, decide_true, decide_false, Int.reduceEq, Int.cast_ofNat_Int, Bool.false_eq_true, Bool.not_true, Bool.not_false, en, ej, List.length_map]
        rw [List.take_of_length_le (by simp; omega), List.take_of_length_le (by simp; omega)]
    · have en := eq_false (show ¬ (j : Int) < n by omega)
      repeat' first | with_reducible refine asq_dmk (fun _ => ?_) (fun _ => ?_) | with_reducible refine asq_ndmk (fun _ => ?_) (fun _ => ?_) | with_reducible refine asq_nmk (fun _ => ?_) (fun _ => ?_) | with_reducible refine asq_mk (fun _ => ?_) (fun _ => ?_) | with_reducible refine asp_dmk (fun _ => ?_) (fun _ => ?_) | with_reducible refine asp_ndmk (fun _ => ?_) (fun _ => ?_) | with_reducible refine asp_nmk (fun _ => ?_) (fun _ => ?_) | with_reducible refine asp_mk (fun _ => ?_) (fun _ => ?_) | with_reducible refine And.intro (by first | omega | rfl | decide | with_unfolding_all rfl) ?_ | simp only [go_sem, Nat.reduceLT, Nat.reduceAdd, Nat.reduceSub, Nat.reduceMul, Nat.reduceLeDiff, ne_eq, Nat.reduceEqDiff, not_false_eq_true, Bool.and_true, Bool.true_and, Nat.succ_ne_self, and_true, Bool.not_true, Bool.not_false, Int.toNat_zero, Int.reduceToNat, Nat.mul_one, Int.toNat_one, decide_true, decide_false, Int.reduceEq, Int.cast_ofNat_Int, Bool.false_eq_true, Bool.not_true, Bool.not_false, en, List.length_map]
      rw [show j = n.toNat by omega]
/-- How related stories are laid: those with most in common first, of these the newest first. -/
def cmpRP (x y : Rel) : Int := cmpR x.1.1 x.1.2 x.2 y.1.1 y.1.2 y.2
theorem cmpRP_lt {x y : Rel} : cmpRP x y < 0 ↔ y.2 < x.2 ∨ y.2 = x.2 ∧ cmpP x.1 y.1 < 0 := by
  unfold cmpRP cmpR
  show orI [cmpI y.2 x.2, cmpP x.1 y.1] < 0 ↔ _
  simp only [orI]
  split
  · rename_i h1
    have h1 := cmpI_eq.1 h1
    split
    · rename_i h2
      omega
    · omega
  · rename_i h1
    have h1' : ¬ (y.2 : Int) = x.2 := fun h => h1 (cmpI_eq.2 h)
    have := @cmpI_lt y.2 x.2; omega
def relP (NP : List (Sto × Nat)) (c : Sto → Nat) : Nat → List Rel
  | 0 => []
  | k + 1 => (NP.filter fun x => decide (c x.1 = k + 1)).map (fun x => (x, k + 1)) ++ relP NP c k
theorem relP_mem {NP : List (Sto × Nat)} {c : Sto → Nat} {x : Rel} : ∀ k, x ∈ relP NP c k ↔ x.1 ∈ NP ∧ x.2 = c x.1.1 ∧ 1 ≤ x.2 ∧ x.2 ≤ k
  | 0 => by simp [relP]; omega
  | k + 1 => by
    have ih := relP_mem (NP := NP) (c := c) (x := x) k
    rw [relP, List.mem_append, ih]
    simp only [List.mem_map, List.mem_filter, decide_eq_true_eq]
    constructor
    · rintro (⟨y, ⟨h1, h2⟩, rfl⟩ | ⟨h1, h2, h3, h4⟩)
      · exact ⟨h1, h2.symm, by omega, by simp⟩
      · exact ⟨h1, h2, h3, by omega⟩
    · rintro ⟨h1, h2, h3, h4⟩
      by_cases h : x.2 = k + 1
      · exact .inl ⟨x.1, ⟨h1, by omega⟩, by rw [← h]⟩
      · exact .inr ⟨h1, h2, h3, by omega⟩
theorem relP_sorted {NP : List (Sto × Nat)} {c : Sto → Nat} (h : NP.Pairwise fun a b => cmpP a b < 0) : ∀ k, (relP NP c k).Pairwise fun a b => cmpRP a b < 0
  | 0 => by simp [relP]
  | k + 1 => by
    rw [relP]
    refine List.pairwise_append.2 ⟨?_, relP_sorted h k, fun x hx y hy => ?_⟩
    · rw [List.pairwise_map]
      exact List.Pairwise.imp (R := fun a b => cmpP a b < 0) (S := fun a b => cmpRP (a, k + 1) (b, k + 1) < 0) (fun {a b} hab => cmpRP_lt.2 (.inr ⟨rfl, hab⟩)) (h.filter _)
    · obtain ⟨z, hz, rfl⟩ := List.mem_map.1 hx
      obtain ⟨_, _, _, h4⟩ := (relP_mem k).1 hy
      exact cmpRP_lt.2 (.inl (by simp; omega))
theorem relP_ids {NP : List (Sto × Nat)} {c : Sto → Nat} {M : List Sto} {s0 : Sto} {id : Int} (hM : NP.map (·.1) = M.filter (fun y => decide (y.id ≠ id))) (hc : ∀ y ∈ M, c y = cmn s0 y) : ∀ k, (relP NP c k).map (·.1.1.id) = relG M s0 id k
  | 0 => rfl
  | k + 1 => by
    rw [relP, List.map_append, relP_ids hM hc k, relG]
    congr 1
    have h1 : (NP.filter fun x => decide (c x.1 = k + 1)).map (·.1) = (NP.map (·.1)).filter fun y => decide (c y = k + 1) := by rw [List.filter_map]; rfl
    have h2 : ((NP.filter fun x => decide (c x.1 = k + 1)).map (fun x => ((x, k + 1) : Rel))).map (·.1.1.id) = ((NP.filter fun x => decide (c x.1 = k + 1)).map (·.1)).map (·.id) := by rw [List.map_map, List.map_map]; rfl
    rw [h2, h1, hM, List.filter_filter]
    congr 1
    apply List.filter_congr
    intro y hy
    rw [hc y hy, relQ, Bool.and_comm]
theorem sort51 (XR : List Rel) (ys : List Rel) (hl : XR.length ≤ 1000000) (hnd : XR.Nodup) (hp : XR.Perm ys) (hs : ys.Pairwise fun a b => cmpRP a b < 0) (hinj : ∀ x ∈ XR, ∀ y ∈ XR, x.1.2 = y.1.2 → x = y) : RCalls Try.prog 51 (.row 77 10 (XR.map rY)) [.raw (.func (.func 52) #[] #[])] (fun r y => r = .tup [] ∧ y = .row 77 10 (ys.map rY)) := by
  refine sortFunc_list Try.laysSlF06_f51 10 (by decide) Try.isAgg77 Try.sizeOf77 ⟨_, _, Try.func51, rfl, by decide⟩ (enters_of Try.func52 (by kernel_rfl) rfl) XR ys rY cmpRP (fun x _ => ⟨_, rfl, rfl⟩) hl ?_ ?_ ?_ hnd ?_ ?_ ?_
  · intro x _; rw [cmpRP_lt, cmpP_lt]; omega
  · intro x _ y _ z _ h1 h2
    rw [cmpRP_lt, cmpP_lt] at h1 h2 ⊢
    omega
  · intro x hx y hy
    by_cases h1 : cmpRP x y < 0
    · exact .inl h1
    by_cases h2 : cmpRP y x < 0
    · exact .inr (.inr h2)
    refine .inr (.inl (hinj x hx y hy ?_))
    rw [cmpRP_lt, cmpP_lt] at h1 h2
    omega
  · intro x _ y _
    exact related52 x.1.1 y.1.1 x.1.2 y.1.2 x.2 y.2
  · exact hp.symm
  · exact hs
def ded : List Str → List Str → List Str
  | _, [] => []
  | seen, x :: r => if x ∈ seen then ded (seen ++ [x]) r else x :: ded (seen ++ [x]) r
theorem ded_mem {y : Str} : ∀ (l seen : List Str), y ∈ ded seen l ↔ y ∈ l ∧ y ∉ seen
  | [], seen => by simp [ded]
  | x :: l, seen => by
    have ih := ded_mem (y := y) l (seen ++ [x])
    by_cases h : x ∈ seen
    · rw [ded, if_pos h, ih]
      simp only [List.mem_append, List.mem_cons, List.not_mem_nil, or_false, not_or]
      constructor
      · rintro ⟨h1, h2, h3⟩; exact ⟨.inr h1, h2⟩
      · rintro ⟨h1 | h1, h2⟩
        · subst h1; exact absurd h h2
        · exact ⟨h1, h2, fun h3 => h2 (by rw [h3]; exact h)⟩
    · rw [ded, if_neg h, List.mem_cons, ih]
      simp only [List.mem_append, List.mem_cons, List.not_mem_nil, or_false, not_or]
      constructor
      · rintro (h1 | ⟨h1, h2, h3⟩)
        · subst h1; exact ⟨.inl rfl, h⟩
        · exact ⟨.inr h1, h2⟩
      · rintro ⟨h1 | h1, h2⟩
        · exact .inl h1
        · by_cases h3 : y = x
          · exact .inl h3
          · exact .inr ⟨h1, h2, h3⟩
theorem ded_nodup : ∀ (l seen : List Str), (ded seen l).Nodup
  | [], _ => by simp [ded]
  | x :: l, seen => by
    have ih := ded_nodup l (seen ++ [x])
    by_cases h : x ∈ seen
    · rw [ded, if_pos h]; exact ih
    · rw [ded, if_neg h]
      refine List.nodup_cons.2 ⟨fun hm => ?_, ih⟩
      exact ((ded_mem l _).1 hm).2 (by simp)
theorem commF_ded (b : List Str) : ∀ (l seen : List Str), commF b seen l = ((ded seen l).filter fun x => decide (x ∈ b)).length
  | [], _ => rfl
  | x :: l, seen => by
    have ih := commF_ded b l (seen ++ [x])
    by_cases h : x ∈ seen
    · rw [ded, if_pos h, commF, ih]; simp [h]
    · rw [ded, if_neg h, commF, ih, List.filter_cons]
      by_cases hb : x ∈ b
      · simp [h, hb]; omega
      · simp [hb]
theorem cmn_dst (a b : List Str) : commF b [] a = ((dst a).filter fun x => decide (x ∈ b)).length := by
  rw [commF_ded]
  refine List.Perm.length_eq (List.Perm.filter _ ?_)
  refine (List.perm_ext_iff_of_nodup (ded_nodup a []) ?_).2 fun x => ?_
  · exact List.Pairwise.imp (fun h e => by subst e; exact str_irr _ h) (dst_spec a).1
  · rw [ded_mem, (dst_spec a).2]; simp
end Go.Proofs.Ytgnclmmijijimaa
