/- Related. -/
import Derived.Test.YtgnclmmijijimaaT
import Derived.Test.YtgnclmmijijimaaA10
import Derived.Test.YtgnclmmijijimaaQ18
namespace Go.Proofs.Ytgnclmmijijimaa
open Go.RowKit Go.Proofs
set_option linter.unusedSimpArgs false
set_option linter.unusedVariables false
set_option maxRecDepth 100000
set_option maxHeartbeats 4000000
open Go.Shelf
def relC (D : List Str) (s : Sto) : Nat := (D.filter fun x => decide (x ∈ s.tp)).length
def relX (D : List Str) (XS : List (Sto × Nat)) : List Rel := (XS.map fun x => (x, relC D x.1)).filter fun x => decide (0 < x.2)
theorem relX_at {D : List Str} {XS : List (Sto × Nat)} {k : Nat} {x : Sto × Nat} (h : XS[k]? = some x) : relX D (XS.take (k + 1)) = relX D (XS.take k) ++ if 0 < relC D x.1 then [(x, relC D x.1)] else [] := by
  rw [List.take_add_one, h]
  simp only [relX, Option.toList_some, List.map_append, List.map_cons, List.map_nil, List.filter_append, List.filter_cons, List.filter_nil, decide_eq_true_eq]
theorem relX_len (D : List Str) (XS : List (Sto × Nat)) (k : Nat) : (relX D (XS.take k)).length ≤ k := by
  have := List.length_filter_le (fun x : Rel => decide (0 < x.2)) ((XS.take k).map fun x => (x, relC D x.1))
  rw [List.length_map, List.length_take] at this
  unfold relX; omega
theorem relX_mem {D : List Str} {XS : List (Sto × Nat)} {x : Rel} : x ∈ relX D XS ↔ x.1 ∈ XS ∧ x.2 = relC D x.1.1 ∧ 0 < x.2 := by
  simp only [relX, List.mem_filter, List.mem_map, decide_eq_true_eq]
  constructor
  · rintro ⟨⟨y, h1, rfl⟩, h2⟩; exact ⟨h1, rfl, h2⟩
  · rintro ⟨h1, h2, h3⟩; exact ⟨⟨x.1, h1, by rw [← h2]⟩, h3⟩
theorem idxI_lt {p : Sto → Bool} {L : List Sto} (h : ¬ idxI p L < 0) : ∃ (i : Nat) (s : Sto), idxI p L = (i : Int) ∧ L[i]? = some s ∧ p s = true ∧ L.find? p = some s := by
  unfold idxI at h ⊢
  by_cases hi : L.findIdx p < L.length
  · rw [if_pos hi]
    refine ⟨_, L[L.findIdx p], rfl, List.getElem?_eq_getElem hi, List.findIdx_getElem, ?_⟩
    rw [List.find?_eq_some_iff_getElem]
    exact ⟨List.findIdx_getElem, L.findIdx p, hi, rfl, fun j hj => by simpa using List.not_of_lt_findIdx hj⟩
  · rw [if_neg hi] at h; omega
theorem idxI_neg {p : Sto → Bool} {L : List Sto} (h : idxI p L < 0) : L.find? p = none := by
  unfold idxI at h
  by_cases hi : L.findIdx p < L.length
  · rw [if_pos hi] at h; omega
  · rw [List.find?_eq_none]
    intro x hx hp
    exact hi (List.findIdx_lt_length.2 ⟨x, hx, hp⟩)
def cNe (id : Int) : Cnd := (49, [.elt (.agg [num id])], fun s _ => decide (s.id ≠ id))
theorem holds_ne (id : Int) : holdsB [cNe id] = fun s _ => decide (s.id ≠ id) := by funext s a; simp [holdsB, cNe]
theorem newP_ne (id : Int) (L : List Sto) : (newP (selF (fun s _ => decide (s.id ≠ id)) 0 L)).map (·.1) = (newL [] L).filter (fun y => decide (y.id ≠ id)) := by
  have h := selF_filter (fun s _ => decide (s.id ≠ id)) (fun s _ => hasB s []) L 0
  simp only [hasB_nil, Bool.true_and] at h
  rw [h, newP_filter _ _ (selF_asc L 0), ← newP_map]
  simp only [hasB_nil, List.filter_map]
  rfl
theorem related29' (L : List Sto) (tm : List AV) (id m : Int) (hl : L.length ≤ 10000) (hs : ∀ s ∈ L, StOk s) (ht : ∀ s ∈ L, s.tp.length ≤ 1000) : ACalls Try.prog 29 [stA L tm, num id, num m] (fun r => r = .nil ∧ relR L id m = [] ∨ r = .own 3 1 (nums (relR L id m))) := by
  simp only [stA]
  refine calls_shortG [(1,[4],[]),(20,[200010],[])] [] [11, 12, 13, 14, 39, 40, 41, 42, 43, 44, 45, 46, 47, 48, 49, 50, 51, 52, 53, 54, 55, 56, 57, 58, 59, 60, 61, 62, 63, 64, 65] ttok hmix Try.func29 (by decide) (by decide +kernel) (by simp only [Try.f29, Option.bind_some, compG, ylook, compY, comp, isLend, lendOf, lendX, lendC, lendH, Nat.reduceLeDiff, Nat.reduceSub, ne_eq, not_false_eq_true, and_self, cops, cguard, gslot, List.getElem?_toArray, List.getElem?_cons_succ, List.getElem?_cons_zero, vlook, tlook, List.take_succ_cons, List.take_zero, List.drop_succ_cons, List.drop_zero, Option.map_some, Nat.reduceEqDiff, if_true, if_false, Nat.succ_ne_self, Nat.reduceAdd, reduceIte, reduceCtorEq, Bool.false_eq_true, cutAt_nil, cutAt, firstReg, isCut, mkSeq, mkSeqG]; rfl) Try.ntmps29 Try.results29 ⟨_, .inr rfl⟩ rfl ?_
  skip
  simp only [List.length_cons, List.length_nil, Nat.reduceAdd, Nat.reduceSub, List.replicate_succ, List.replicate_zero, List.cons_append, List.nil_append, num, str, tru]
  repeat' first | with_reducible refine asq_dmk (fun _ => ?_) (fun _ => ?_) | with_reducible refine asq_ndmk (fun _ => ?_) (fun _ => ?_) | with_reducible refine asq_nmk (fun _ => ?_) (fun _ => ?_) | with_reducible refine asq_mk (fun _ => ?_) (fun _ => ?_) | with_reducible refine asp_dmk (fun _ => ?_) (fun _ => ?_) | with_reducible refine asp_ndmk (fun _ => ?_) (fun _ => ?_) | with_reducible refine asp_nmk (fun _ => ?_) (fun _ => ?_) | with_reducible refine asp_mk (fun _ => ?_) (fun _ => ?_) | with_reducible refine And.intro (by first | omega | rfl | decide | with_unfolding_all rfl) ?_ | simp only [go_sem, Nat.reduceLT, Nat.reduceAdd, Nat.reduceSub, Nat.reduceMul, Nat.reduceLeDiff, ne_eq, Nat.reduceEqDiff, not_false_eq_true, Bool.and_true, Bool.true_and, Nat.succ_ne_self, and_true, Bool.not_true, Bool.not_false, Int.toNat_zero, Int.reduceToNat, Nat.mul_one, Int.toNat_one, decide_true, decide_false, Int.reduceEq, Int.cast_ofNat_Int, Bool.false_eq_true, Bool.not_true, Bool.not_false]
  refine ((indexFunc46 L 47 [.elt (.agg [num id])] (fun s => decide (s.id = id)) (by omega) (fun s hs => related47 s id)).wk ?_).mono ?_
  · simp only [num]
    repeat first | exact Wk.nil | exact Wk.refl _ | refine wk_agg ?_ ?_ | refine wk_ownsl ?_ | refine wk_nilsl ?_ | refine Wk.same ?_
  rintro r rfl
  simp only [num]
  by_cases hneg : idxI (fun s => decide (s.id = id)) L < 0
  · have eneg := eq_true hneg
    have hfn := idxI_neg hneg
    repeat' first | with_reducible refine asq_dmk (fun _ => ?_) (fun _ => ?_) | with_reducible refine asq_ndmk (fun _ => ?_) (fun _ => ?_) | with_reducible refine asq_nmk (fun _ => ?_) (fun _ => ?_) | with_reducible refine asq_mk (fun _ => ?_) (fun _ => ?_) | with_reducible refine asp_dmk (fun _ => ?_) (fun _ => ?_) | with_reducible refine asp_ndmk (fun _ => ?_) (fun _ => ?_) | with_reducible refine asp_nmk (fun _ => ?_) (fun _ => ?_) | with_reducible refine asp_mk (fun _ => ?_) (fun _ => ?_) | with_reducible refine And.intro (by first | omega | rfl | decide | with_unfolding_all rfl) ?_ | simp only [go_sem, Nat.reduceLT, Nat.reduceAdd, Nat.reduceSub, Nat.reduceMul, Nat.reduceLeDiff, ne_eq, Nat.reduceEqDiff, not_false_eq_true, Bool.and_true, Bool.true_and, Nat.succ_ne_self, and_true, Bool.not_true, Bool.not_false, Int.toNat_zero, Int.reduceToNat, Nat.mul_one, Int.toNat_one, decide_true, decide_false, Int.reduceEq, Int.cast_ofNat_Int, Bool.false_eq_true, Bool.not_true, Bool.not_false, eneg]
    refine .inl ?_
    rw [relR, hfn]
  have eneg := eq_false hneg
  obtain ⟨i, s, hi, hx, hid, hfs⟩ := idxI_lt hneg
  have hid : s.id = id := by simpa using hid
  rw [hi] at eneg ⊢
  have hso := hs s (List.mem_of_getElem? hx)
  have hst := ht s (List.mem_of_getElem? hx)
  have hgs := sto_at hx
  simp only [num, str, tru] at hgs
  have hil := (List.getElem?_eq_some_iff.1 hx).1
  repeat' first | with_reducible refine asq_dmk (fun _ => ?_) (fun _ => ?_) | with_reducible refine asq_ndmk (fun _ => ?_) (fun _ => ?_) | with_reducible refine asq_nmk (fun _ => ?_) (fun _ => ?_) | with_reducible refine asq_mk (fun _ => ?_) (fun _ => ?_) | with_reducible refine asp_dmk (fun _ => ?_) (fun _ => ?_) | with_reducible refine asp_ndmk (fun _ => ?_) (fun _ => ?_) | with_reducible refine asp_nmk (fun _ => ?_) (fun _ => ?_) | with_reducible refine asp_mk (fun _ => ?_) (fun _ => ?_) | with_reducible refine And.intro (by first | omega | rfl | decide | with_unfolding_all rfl) ?_ | simp only [go_sem, Nat.reduceLT, Nat.reduceAdd, Nat.reduceSub, Nat.reduceMul, Nat.reduceLeDiff, ne_eq, Nat.reduceEqDiff, not_false_eq_true, Bool.and_true, Bool.true_and, Nat.succ_ne_self, and_true, Bool.not_true, Bool.not_false, Int.toNat_zero, Int.reduceToNat, Nat.mul_one, Int.toNat_one, decide_true, decide_false, Int.reduceEq, Int.cast_ofNat_Int, Bool.false_eq_true, Bool.not_true, Bool.not_false, eneg, hgs, List.length_map]
  refine ((listed48 s i hso.2).wk ?_).mono ?_
  · simp only [qst, num, str, tru]
    repeat first | exact Wk.nil | exact Wk.refl _ | refine wk_agg ?_ ?_ | refine wk_ownsl ?_ | refine wk_nilsl ?_ | refine Wk.same ?_
  rintro r rfl
  simp only [tru]
  cases hls : lstd s
  · repeat' first | with_reducible refine asq_dmk (fun _ => ?_) (fun _ => ?_) | with_reducible refine asq_ndmk (fun _ => ?_) (fun _ => ?_) | with_reducible refine asq_nmk (fun _ => ?_) (fun _ => ?_) | with_reducible refine asq_mk (fun _ => ?_) (fun _ => ?_) | with_reducible refine asp_dmk (fun _ => ?_) (fun _ => ?_) | with_reducible refine asp_ndmk (fun _ => ?_) (fun _ => ?_) | with_reducible refine asp_nmk (fun _ => ?_) (fun _ => ?_) | with_reducible refine asp_mk (fun _ => ?_) (fun _ => ?_) | with_reducible refine And.intro (by first | omega | rfl | decide | with_unfolding_all rfl) ?_ | simp only [go_sem, Nat.reduceLT, Nat.reduceAdd, Nat.reduceSub, Nat.reduceMul, Nat.reduceLeDiff, ne_eq, Nat.reduceEqDiff, not_false_eq_true, Bool.and_true, Bool.true_and, Nat.succ_ne_self, and_true, Bool.not_true, Bool.not_false, Int.toNat_zero, Int.reduceToNat, Nat.mul_one, Int.toNat_one, decide_true, decide_false, Int.reduceEq, Int.cast_ofNat_Int, Bool.false_eq_true, Bool.not_true, Bool.not_false, eneg, hgs, List.length_map]
    refine .inl ?_
    rw [relR, hfs]
    simp only [hls, Bool.false_eq_true, if_false]
  have hrel : relR L id m = (relG (newL [] L) s id s.tp.length).take m.toNat := by
    rw [relR, hfs]; simp only [hls, if_true]
  repeat' first | with_reducible refine asq_dmk (fun _ => ?_) (fun _ => ?_) | with_reducible refine asq_ndmk (fun _ => ?_) (fun _ => ?_) | with_reducible refine asq_nmk (fun _ => ?_) (fun _ => ?_) | with_reducible refine asq_mk (fun _ => ?_) (fun _ => ?_) | with_reducible refine asp_dmk (fun _ => ?_) (fun _ => ?_) | with_reducible refine asp_ndmk (fun _ => ?_) (fun _ => ?_) | with_reducible refine asp_nmk (fun _ => ?_) (fun _ => ?_) | with_reducible refine asp_mk (fun _ => ?_) (fun _ => ?_) | with_reducible refine And.intro (by first | omega | rfl | decide | with_unfolding_all rfl) ?_ | simp only [go_sem, Nat.reduceLT, Nat.reduceAdd, Nat.reduceSub, Nat.reduceMul, Nat.reduceLeDiff, ne_eq, Nat.reduceEqDiff, not_false_eq_true, Bool.and_true, Bool.true_and, Nat.succ_ne_self, and_true, Bool.not_true, Bool.not_false, Int.toNat_zero, Int.reduceToNat, Nat.mul_one, Int.toNat_one, decide_true, decide_false, Int.reduceEq, Int.cast_ofNat_Int, Bool.false_eq_true, Bool.not_true, Bool.not_false, eneg, hgs, List.length_map]
  refine ((distinct42 s.tp (by omega)).wk ?_).mono ?_
  · repeat first | exact Wk.nil | exact Wk.refl _ | refine wk_agg ?_ ?_ | refine wk_ownsl ?_ | refine wk_nilsl ?_ | refine Wk.same ?_
  rintro r rfl
  have hDl := dst_len s.tp
  obtain ⟨D, hD⟩ : ∃ D, dst s.tp = D := ⟨_, rfl⟩
  rw [hD] at hDl ⊢
  repeat' first | with_reducible refine asq_dmk (fun _ => ?_) (fun _ => ?_) | with_reducible refine asq_ndmk (fun _ => ?_) (fun _ => ?_) | with_reducible refine asq_nmk (fun _ => ?_) (fun _ => ?_) | with_reducible refine asq_mk (fun _ => ?_) (fun _ => ?_) | with_reducible refine asp_dmk (fun _ => ?_) (fun _ => ?_) | with_reducible refine asp_ndmk (fun _ => ?_) (fun _ => ?_) | with_reducible refine asp_nmk (fun _ => ?_) (fun _ => ?_) | with_reducible refine asp_mk (fun _ => ?_) (fun _ => ?_) | with_reducible refine And.intro (by first | omega | rfl | decide | with_unfolding_all rfl) ?_ | simp only [go_sem, Nat.reduceLT, Nat.reduceAdd, Nat.reduceSub, Nat.reduceMul, Nat.reduceLeDiff, ne_eq, Nat.reduceEqDiff, not_false_eq_true, Bool.and_true, Bool.true_and, Nat.succ_ne_self, and_true, Bool.not_true, Bool.not_false, Int.toNat_zero, Int.reduceToNat, Nat.mul_one, Int.toNat_one, decide_true, decide_false, Int.reduceEq, Int.cast_ofNat_Int, Bool.false_eq_true, Bool.not_true, Bool.not_false, eneg, hgs, List.length_map]
  refine ((each41 L tm [cNe id]).wk ?_).mono ?_
  · simp only [stA, List.map_cons, List.map_nil, cloA, cNe, num, str, tru]
    repeat first | exact Wk.nil | exact Wk.refl _ | refine wk_agg ?_ ?_ | refine wk_ownsl ?_ | refine wk_nilsl ?_ | refine Wk.same ?_
  rintro r rfl
  repeat' first | with_reducible refine asq_dmk (fun _ => ?_) (fun _ => ?_) | with_reducible refine asq_ndmk (fun _ => ?_) (fun _ => ?_) | with_reducible refine asq_nmk (fun _ => ?_) (fun _ => ?_) | with_reducible refine asq_mk (fun _ => ?_) (fun _ => ?_) | with_reducible refine asp_dmk (fun _ => ?_) (fun _ => ?_) | with_reducible refine asp_ndmk (fun _ => ?_) (fun _ => ?_) | with_reducible refine asp_nmk (fun _ => ?_) (fun _ => ?_) | with_reducible refine asp_mk (fun _ => ?_) (fun _ => ?_) | with_reducible refine And.intro (by first | omega | rfl | decide | with_unfolding_all rfl) ?_ | simp only [go_sem, Nat.reduceLT, Nat.reduceAdd, Nat.reduceSub, Nat.reduceMul, Nat.reduceLeDiff, ne_eq, Nat.reduceEqDiff, not_false_eq_true, Bool.and_true, Bool.true_and, Nat.succ_ne_self, and_true, Bool.not_true, Bool.not_false, Int.toNat_zero, Int.reduceToNat, Nat.mul_one, Int.toNat_one, decide_true, decide_false, Int.reduceEq, Int.cast_ofNat_Int, Bool.false_eq_true, Bool.not_true, Bool.not_false, eneg, hgs, List.length_map]
  have hit := each64 L tm [cNe id] (by omega) hs (by simp) (fun c hc s a ho => by rw [List.mem_singleton] at hc; subst hc; exact related49 s a id)
  rw [holds_ne] at hit
  have hlen := selF_len (p := fun s _ => decide (s.id ≠ id)) L 0
  have hnp := newP_ne id L
  have hXL : ∀ x ∈ selF (fun s _ => decide (s.id ≠ id)) 0 L, x.1 ∈ L := fun x hx => (selF_ge L 0 x hx).2
  have hasc := selF_asc (p := fun s _ => decide (s.id ≠ id)) L 0
  obtain ⟨XS, hX⟩ : ∃ XS, selF (fun s _ => decide (s.id ≠ id)) 0 L = XS := ⟨_, rfl⟩
  have hYX : selY (fun s _ => decide (s.id ≠ id)) L = fun k args => ∃ x, XS[k]? = some x ∧ args = [qY x] := by funext k args; simp only [selY, hX]
  rw [hYX] at hit
  rw [hX] at hit hlen hnp hXL hasc
  refine cwpG_range [false, false, false, false, false, false, false, false, false, true, true, true, true, true, true, false, false, false, false, false, false, false, false, false, false, false, false, false, false, false, false, false, false, false, false, false, false, false, false, true, true, true, true, true, true, true, true, true, true, true, true, true, true, true, true, true, true, true, true, true, true, true, true, true, true, true, false, false, false, false, false] [9, 10] (fun k xs => xs = [.box 38 [.sl 1 (D.map str)], .box 75 [.mine 77 10 ((relX D (XS.take k)).map rY)]]) (Nat.le_refl 71) ?_ hit ?_ ?_ ?_
  · exact .inl rfl
  · refine ⟨_, rfl, ?_⟩
    simp only [hvm_t, hvm_f, hvm_nil, puts_cons, puts_nil, List.set_cons_zero, List.set_cons_succ, num]
    simp only [List.take_zero, relX, List.map_nil, List.filter_nil]
    repeat first | exact Wk.nil | exact Wk.refl _ | refine Wk.box (W1.box ?_) ?_ | refine wk_agg ?_ ?_ | refine wk_ownsl ?_ | refine wk_nilown ?_ | refine wk_nilmine ?_ | refine wk_nilsl ?_ | refine Wk.same ?_ | refine wk_any ?_
  · rintro k args xs ⟨x, hk, rfl⟩ rfl
    refine ⟨rfl, rfl, ?_⟩
    have hlk : k < XS.length := (List.getElem?_eq_some_iff.1 hk).1
    have hstep := relX_at (D := D) hk
    have hrl := relX_len D XS k
    have hxL := hXL x (List.mem_of_getElem? hk)
    obtain ⟨t, a⟩ := x
    simp only at hstep hxL
    have hto := hs t hxL
    obtain ⟨F, hF⟩ : ∃ F, relX D (XS.take k) = F := ⟨_, rfl⟩
    rw [hF] at hrl hstep ⊢
    simp only [qY, qst, num, str, tru]
    simp only [hvm_t, hvm_f, hvm_nil, puts_cons, puts_nil, List.set_cons_zero, List.set_cons_succ, num]
    repeat' first | with_reducible refine asq_dmk (fun _ => ?_) (fun _ => ?_) | with_reducible refine asq_ndmk (fun _ => ?_) (fun _ => ?_) | with_reducible refine asq_nmk (fun _ => ?_) (fun _ => ?_) | with_reducible refine asq_mk (fun _ => ?_) (fun _ => ?_) | with_reducible refine asp_dmk (fun _ => ?_) (fun _ => ?_) | with_reducible refine asp_ndmk (fun _ => ?_) (fun _ => ?_) | with_reducible refine asp_nmk (fun _ => ?_) (fun _ => ?_) | with_reducible refine asp_mk (fun _ => ?_) (fun _ => ?_) | with_reducible refine And.intro (by first | omega | rfl | decide | with_unfolding_all rfl) ?_ | simp only [go_sem, Nat.reduceLT, Nat.reduceAdd, Nat.reduceSub, Nat.reduceMul, Nat.reduceLeDiff, ne_eq, Nat.reduceEqDiff, not_false_eq_true, Bool.and_true, Bool.true_and, Nat.succ_ne_self, and_true, Bool.not_true, Bool.not_false, Int.toNat_zero, Int.reduceToNat, Nat.mul_one, Int.toNat_one, decide_true, decide_false, Int.reduceEq, Int.cast_ofNat_Int, Bool.false_eq_true, Bool.not_true, Bool.not_false, List.length_map]
    refine cwp_loop [false, false, false, false, false, false, false, false, false, false, false, false, true, false, true, false, false, false, false, false, false, false, false, false, false, false, false, false, false, false, false, false, false, false, false, false, false, false, false, false, false, false, false, false, true, true, true, true, true, true, true, true, true, true, true, true, true, true, true, false, false, false, false, false, false, false, false, false, false, false, false] [12, 44] (fun n xs => ∃ j : Nat, j ≤ D.length ∧ j + n = D.length ∧ xs = [.box 77 [num t.id, str t.au, .sl 1 (t.tp.map str), .sl 5 t.ed, num t.pu, .nil, tru t.re, tru t.tk, num a, num (relC (D.take j) t : Nat)], num j]) ⟨D.length, _, ⟨0, by omega, by omega, rfl⟩, ?_⟩ ?_
    · simp only [List.take_zero, relC, List.filter_nil, List.length_nil, num, str, tru, Int.cast_ofNat_Int]
      simp only [hvm_t, hvm_f, hvm_nil, puts_cons, puts_nil, List.set_cons_zero, List.set_cons_succ, num]
      repeat first | exact Wk.nil | exact Wk.refl _ | refine Wk.box (W1.box ?_) ?_ | refine wk_agg ?_ ?_ | refine wk_ownsl ?_ | refine wk_nilown ?_ | refine wk_nilmine ?_ | refine wk_nilsl ?_ | refine Wk.same ?_ | refine wk_any ?_
    · rintro n xs ⟨j, hjl, hn, rfl⟩
      simp only [str, tru]
      simp only [hvm_t, hvm_f, hvm_nil, puts_cons, puts_nil, List.set_cons_zero, List.set_cons_succ, num]
      have hcl := List.length_filter_le (fun x => decide (x ∈ t.tp)) (D.take j)
      rw [List.length_take] at hcl
      have hcl : relC (D.take j) t ≤ j := by unfold relC; omega
      rcases Nat.lt_or_ge j D.length with hlt | hge
      · have ej := eq_true (show (j : Int) < (D.length : Int) by omega)
        obtain ⟨y, hyx, hyd⟩ := drop_at hlt
        have hgy := strs_at hyx
        have hw : IntKind.i64.wrap ((j : Int) + 1) = ((j + 1 : Nat) : Int) := wrap_succ (by omega)
        have hcs : relC (D.take (j + 1)) t = relC (D.take j) t + if y ∈ t.tp then 1 else 0 := by
          simp only [relC]
          rw [List.take_add_one, hyx, List.filter_append, List.length_append, Option.toList_some, List.filter_cons, List.filter_nil]
          by_cases h : y ∈ t.tp <;> simp [h]
        obtain ⟨c, hc⟩ : ∃ c, relC (D.take j) t = c := ⟨_, rfl⟩
        rw [hc] at hcl hcs ⊢
        have hwc : IntKind.i64.wrap ((c : Int) + 1) = ((c + 1 : Nat) : Int) := wrap_succ (by omega)
        repeat' first | with_reducible refine asq_dmk (fun _ => ?_) (fun _ => ?_) | with_reducible refine asq_ndmk (fun _ => ?_) (fun _ => ?_) | with_reducible refine asq_nmk (fun _ => ?_) (fun _ => ?_) | with_reducible refine asq_mk (fun _ => ?_) (fun _ => ?_) | with_reducible refine asp_dmk (fun _ => ?_) (fun _ => ?_) | with_reducible refine asp_ndmk (fun _ => ?_) (fun _ => ?_) | with_reducible refine asp_nmk (fun _ => ?_) (fun _ => ?_) | with_reducible refine asp_mk (fun _ => ?_) (fun _ => ?_) | with_reducible refine And.intro (by first | omega | rfl | decide | with_unfolding_all rfl) ?_ | simp only [go_sem, Nat.reduceLT, Nat.reduceAdd, Nat.reduceSub, Nat.reduceMul, Nat.reduceLeDiff, ne_eq, Nat.reduceEqDiff, not_false_eq_true, Bool.and_true, Bool.true_and, Nat.succ_ne_self, and_true, Bool.not_true, Bool.not_false, Int.toNat_zero, Int.reduceToNat, Nat.mul_one, Int.toNat_one, decide_true, decide_false, Int.reduceEq, Int.cast_ofNat_Int, Bool.false_eq_true, Bool.not_true, Bool.not_false, ej, hgy, hw, hwc, List.length_map]
        refine ((contains50 t.tp y hto.1).wk ?_).mono ?_
        · simp only [str]
          repeat first | exact Wk.nil | exact Wk.refl _ | refine wk_agg ?_ ?_ | refine wk_ownsl ?_ | refine wk_nilsl ?_ | refine Wk.same ?_
        rintro r rfl
        simp only [tru]
        by_cases hy : y ∈ t.tp
        · have ey : decide (y ∈ t.tp) = true := by simp [hy]
          repeat' first | with_reducible refine asq_dmk (fun _ => ?_) (fun _ => ?_) | with_reducible refine asq_ndmk (fun _ => ?_) (fun _ => ?_) | with_reducible refine asq_nmk (fun _ => ?_) (fun _ => ?_) | with_reducible refine asq_mk (fun _ => ?_) (fun _ => ?_) | with_reducible refine asp_dmk (fun _ => ?_) (fun _ => ?_) | with_reducible refine asp_ndmk (fun _ => ?_) (fun _ => ?_) | with_reducible refine asp_nmk (fun _ => ?_) (fun _ => ?_) | with_reducible refine asp_mk (fun _ => ?_) (fun _ => ?_) | with_reducible refine And.intro (by first | omega | rfl | decide | with_unfolding_all rfl) ?_ | simp only [go_sem, Nat.reduceLT, Nat.reduceAdd, Nat.reduceSub, Nat.reduceMul, Nat.reduceLeDiff, ne_eq, Nat.reduceEqDiff, not_false_eq_true, Bool.and_true, Bool.true_and, Nat.succ_ne_self, and_true, Bool.not_true, Bool.not_false, Int.toNat_zero, Int.reduceToNat, Nat.mul_one, Int.toNat_one, decide_true, decide_false, Int.reduceEq, Int.cast_ofNat_Int, Bool.false_eq_true, Bool.not_true, Bool.not_false, ej, hgy, hw, hwc, ey, List.length_map]
          refine lend_mk (n - 1) [.box 77 [num t.id, str t.au, .sl 1 (t.tp.map str), .sl 5 t.ed, num t.pu, .nil, tru t.re, tru t.tk, num a, num (relC (D.take (j + 1)) t : Nat)], num ((j + 1 : Nat) : Int)] (by omega) ⟨j + 1, by omega, by omega, rfl⟩ ?_
          rw [hcs]
          simp only [hy, if_true, if_false, Nat.add_zero, num, str, tru]
          simp only [hvm_t, hvm_f, hvm_nil, puts_cons, puts_nil, List.set_cons_zero, List.set_cons_succ, num]
          repeat first | exact Wk.nil | exact Wk.refl _ | refine Wk.box (W1.box ?_) ?_ | refine wk_agg ?_ ?_ | refine wk_ownsl ?_ | refine wk_nilown ?_ | refine wk_nilmine ?_ | refine wk_nilsl ?_ | refine Wk.same ?_ | refine wk_any ?_
        · have ey : decide (y ∈ t.tp) = false := by simp [hy]
          repeat' first | with_reducible refine asq_dmk (fun _ => ?_) (fun _ => ?_) | with_reducible refine asq_ndmk (fun _ => ?_) (fun _ => ?_) | with_reducible refine asq_nmk (fun _ => ?_) (fun _ => ?_) | with_reducible refine asq_mk (fun _ => ?_) (fun _ => ?_) | with_reducible refine asp_dmk (fun _ => ?_) (fun _ => ?_) | with_reducible refine asp_ndmk (fun _ => ?_) (fun _ => ?_) | with_reducible refine asp_nmk (fun _ => ?_) (fun _ => ?_) | with_reducible refine asp_mk (fun _ => ?_) (fun _ => ?_) | with_reducible refine And.intro (by first | omega | rfl | decide | with_unfolding_all rfl) ?_ | simp only [go_sem, Nat.reduceLT, Nat.reduceAdd, Nat.reduceSub, Nat.reduceMul, Nat.reduceLeDiff, ne_eq, Nat.reduceEqDiff, not_false_eq_true, Bool.and_true, Bool.true_and, Nat.succ_ne_self, and_true, Bool.not_true, Bool.not_false, Int.toNat_zero, Int.reduceToNat, Nat.mul_one, Int.toNat_one, decide_true, decide_false, Int.reduceEq, Int.cast_ofNat_Int, Bool.false_eq_true, Bool.not_true, Bool.not_false, ej, hgy, hw, hwc, ey, List.length_map]
          refine lend_mk (n - 1) [.box 77 [num t.id, str t.au, .sl 1 (t.tp.map str), .sl 5 t.ed, num t.pu, .nil, tru t.re, tru t.tk, num a, num (relC (D.take (j + 1)) t : Nat)], num ((j + 1 : Nat) : Int)] (by omega) ⟨j + 1, by omega, by omega, rfl⟩ ?_
          rw [hcs]
          simp only [hy, if_true, if_false, Nat.add_zero, num, str, tru]
          simp only [hvm_t, hvm_f, hvm_nil, puts_cons, puts_nil, List.set_cons_zero, List.set_cons_succ, num]
          repeat first | exact Wk.nil | exact Wk.refl _ | refine Wk.box (W1.box ?_) ?_ | refine wk_agg ?_ ?_ | refine wk_ownsl ?_ | refine wk_nilown ?_ | refine wk_nilmine ?_ | refine wk_nilsl ?_ | refine Wk.same ?_ | refine wk_any ?_
      · have ej := eq_false (show ¬ (j : Int) < (D.length : Int) by omega)
        rw [List.take_of_length_le hge] at hcl ⊢
        by_cases h0 : 0 < relC D t
        · have e0 := eq_true (show (0 : Int) < (relC D t : Nat) by omega)
          rw [if_pos h0] at hstep
          repeat' first | with_reducible refine asq_dmk (fun _ => ?_) (fun _ => ?_) | with_reducible refine asq_ndmk (fun _ => ?_) (fun _ => ?_) | with_reducible refine asq_nmk (fun _ => ?_) (fun _ => ?_) | with_reducible refine asq_mk (fun _ => ?_) (fun _ => ?_) | with_reducible refine asp_dmk (fun _ => ?_) (fun _ => ?_) | with_reducible refine asp_ndmk (fun _ => ?_) (fun _ => ?_) | with_reducible refine asp_nmk (fun _ => ?_) (fun _ => ?_) | with_reducible refine asp_mk (fun _ => ?_) (fun _ => ?_) | with_reducible refine And.intro (by first | omega | rfl | decide | with_unfolding_all rfl) ?_ | simp only [go_sem, Nat.reduceLT, Nat.reduceAdd, Nat.reduceSub, Nat.reduceMul, Nat.reduceLeDiff, ne_eq, Nat.reduceEqDiff, not_false_eq_true, Bool.and_true, Bool.true_and, Nat.succ_ne_self, and_true, Bool.not_true, Bool.not_false, Int.toNat_zero, Int.reduceToNat, Nat.mul_one, Int.toNat_one, decide_true, decide_false, Int.reduceEq, Int.cast_ofNat_Int, Bool.false_eq_true, Bool.not_true, Bool.not_false, ej, e0, List.length_map]
          refine rend_mk _ rfl ?_
          rw [hstep]
          simp only [List.map_append, List.map_cons, List.map_nil, List.append_nil, rY, rel, num, str, tru]
          simp only [hvm_t, hvm_f, hvm_nil, puts_cons, puts_nil, List.set_cons_zero, List.set_cons_succ, num]
          repeat first | exact Wk.nil | exact Wk.refl _ | refine Wk.box (W1.box ?_) ?_ | refine wk_agg ?_ ?_ | refine wk_ownsl ?_ | refine wk_nilown ?_ | refine wk_nilmine ?_ | refine wk_nilsl ?_ | refine Wk.same ?_ | refine wk_any ?_
        · have e0 := eq_false (show ¬ (0 : Int) < (relC D t : Nat) by omega)
          rw [if_neg h0] at hstep
          repeat' first | with_reducible refine asq_dmk (fun _ => ?_) (fun _ => ?_) | with_reducible refine asq_ndmk (fun _ => ?_) (fun _ => ?_) | with_reducible refine asq_nmk (fun _ => ?_) (fun _ => ?_) | with_reducible refine asq_mk (fun _ => ?_) (fun _ => ?_) | with_reducible refine asp_dmk (fun _ => ?_) (fun _ => ?_) | with_reducible refine asp_ndmk (fun _ => ?_) (fun _ => ?_) | with_reducible refine asp_nmk (fun _ => ?_) (fun _ => ?_) | with_reducible refine asp_mk (fun _ => ?_) (fun _ => ?_) | with_reducible refine And.intro (by first | omega | rfl | decide | with_unfolding_all rfl) ?_ | simp only [go_sem, Nat.reduceLT, Nat.reduceAdd, Nat.reduceSub, Nat.reduceMul, Nat.reduceLeDiff, ne_eq, Nat.reduceEqDiff, not_false_eq_true, Bool.and_true, Bool.true_and, Nat.succ_ne_self, and_true, Bool.not_true, Bool.not_false, Int.toNat_zero, Int.reduceToNat, Nat.mul_one, Int.toNat_one, decide_true, decide_false, Int.reduceEq, Int.cast_ofNat_Int, Bool.false_eq_true, Bool.not_true, Bool.not_false, ej, e0, List.length_map]
          refine rend_mk _ rfl ?_
          rw [hstep]
          simp only [List.map_append, List.map_cons, List.map_nil, List.append_nil, rY, rel, num, str, tru]
          simp only [hvm_t, hvm_f, hvm_nil, puts_cons, puts_nil, List.set_cons_zero, List.set_cons_succ, num]
          repeat first | exact Wk.nil | exact Wk.refl _ | refine Wk.box (W1.box ?_) ?_ | refine wk_agg ?_ ?_ | refine wk_ownsl ?_ | refine wk_nilown ?_ | refine wk_nilmine ?_ | refine wk_nilsl ?_ | refine Wk.same ?_ | refine wk_any ?_
  · rintro xs rfl
    simp only [hvm_t, hvm_f, hvm_nil, puts_cons, puts_nil, List.set_cons_zero, List.set_cons_succ, num]
    simp only [List.take_length]
    obtain ⟨C, hC⟩ : ∃ C, relC D = C := ⟨_, rfl⟩
    have hrl := relX_len D XS XS.length
    rw [List.take_length] at hrl
    have hNP := foldP_sorted XS [] (by simp) hasc (by simp)
    have hNPm : ∀ z, z ∈ newP XS ↔ z ∈ XS := fun z => by
      have := (foldP_perm XS []).mem_iff (a := z)
      rw [List.append_nil] at this
      exact this
    have hcle : ∀ y : Sto, relC D y ≤ s.tp.length := fun y => by
      have := List.length_filter_le (fun x => decide (x ∈ y.tp)) D
      unfold relC; omega
    have hnd : (relX D XS).Nodup := by
      refine List.Pairwise.filter _ ?_
      exact List.Pairwise.map _ (fun x y h e => h (by injection e)) (asc_nodup hasc)
    have hinj : ∀ x ∈ relX D XS, ∀ y ∈ relX D XS, x.1.2 = y.1.2 → x = y := fun x hx y hy h => by
      obtain ⟨g1, g2, _⟩ := relX_mem.1 hx
      obtain ⟨k1, k2, _⟩ := relX_mem.1 hy
      have := asc_inj hasc x.1 g1 y.1 k1 h
      exact Prod.ext this (by rw [g2, k2, this])
    have hrs := relP_sorted (c := relC D) hNP s.tp.length
    have hperm : (relX D XS).Perm (relP (newP XS) (relC D) s.tp.length) := by
      refine (List.perm_ext_iff_of_nodup hnd ?_).2 fun x => ?_
      · exact List.Pairwise.imp (fun h e => by subst e; rw [cmpRP_lt, cmpP_lt] at h; omega) hrs
      · rw [relX_mem, relP_mem, hNPm]
        constructor
        · rintro ⟨h1, h2, h3⟩; exact ⟨h1, h2, h3, by rw [h2]; exact hcle _⟩
        · rintro ⟨h1, h2, h3, _⟩; exact ⟨h1, h2, h3⟩
    have hids := relP_ids (c := relC D) (M := newL [] L) (s0 := s) (id := id) hnp (fun y _ => by rw [cmn, cmn_dst, hD]; rfl) s.tp.length
    repeat' first | with_reducible refine asq_dmk (fun _ => ?_) (fun _ => ?_) | with_reducible refine asq_ndmk (fun _ => ?_) (fun _ => ?_) | with_reducible refine asq_nmk (fun _ => ?_) (fun _ => ?_) | with_reducible refine asq_mk (fun _ => ?_) (fun _ => ?_) | with_reducible refine asp_dmk (fun _ => ?_) (fun _ => ?_) | with_reducible refine asp_ndmk (fun _ => ?_) (fun _ => ?_) | with_reducible refine asp_nmk (fun _ => ?_) (fun _ => ?_) | with_reducible refine asp_mk (fun _ => ?_) (fun _ => ?_) | with_reducible refine And.intro (by first | omega | rfl | decide | with_unfolding_all rfl) ?_ | simp only [go_sem, Nat.reduceLT, Nat.reduceAdd, Nat.reduceSub, Nat.reduceMul, Nat.reduceLeDiff, ne_eq, Nat.reduceEqDiff, not_false_eq_true, Bool.and_true, Bool.true_and, Nat.succ_ne_self, and_true, Bool.not_true, Bool.not_false, Int.toNat_zero, Int.reduceToNat, Nat.mul_one, Int.toNat_one, decide_true, decide_false, Int.reduceEq, Int.cast_ofNat_Int, Bool.false_eq_true, Bool.not_true, Bool.not_false]
    refine RCalls.mono (sort51 (relX D XS) _ (by omega) hnd hperm hrs hinj) ?_
    rintro r y ⟨rfl, rfl⟩
    repeat' first | with_reducible refine asq_dmk (fun _ => ?_) (fun _ => ?_) | with_reducible refine asq_ndmk (fun _ => ?_) (fun _ => ?_) | with_reducible refine asq_nmk (fun _ => ?_) (fun _ => ?_) | with_reducible refine asq_mk (fun _ => ?_) (fun _ => ?_) | with_reducible refine asp_dmk (fun _ => ?_) (fun _ => ?_) | with_reducible refine asp_ndmk (fun _ => ?_) (fun _ => ?_) | with_reducible refine asp_nmk (fun _ => ?_) (fun _ => ?_) | with_reducible refine asp_mk (fun _ => ?_) (fun _ => ?_) | with_reducible refine And.intro (by first | omega | rfl | decide | with_unfolding_all rfl) ?_ | simp only [go_sem, Nat.reduceLT, Nat.reduceAdd, Nat.reduceSub, Nat.reduceMul, Nat.reduceLeDiff, ne_eq, Nat.reduceEqDiff, not_false_eq_true, Bool.and_true, Bool.true_and, Nat.succ_ne_self, and_true, Bool.not_true, Bool.not_false, Int.toNat_zero, Int.reduceToNat, Nat.mul_one, Int.toNat_one, decide_true, decide_false, Int.reduceEq, Int.cast_ofNat_Int, Bool.false_eq_true, Bool.not_true, Bool.not_false]
    refine ((convert56 _ m (by rw [← hperm.length_eq]; omega)).wk ?_).mono ?_
    · simp only [num]
      repeat first | exact Wk.nil | exact Wk.refl _ | refine wk_agg ?_ ?_ | refine wk_ownsl ?_ | refine wk_nilsl ?_ | refine Wk.same ?_
    rintro r rfl
    rw [hids, ← hrel]
    repeat' first | with_reducible refine asq_dmk (fun _ => ?_) (fun _ => ?_) | with_reducible refine asq_ndmk (fun _ => ?_) (fun _ => ?_) | with_reducible refine asq_nmk (fun _ => ?_) (fun _ => ?_) | with_reducible refine asq_mk (fun _ => ?_) (fun _ => ?_) | with_reducible refine asp_dmk (fun _ => ?_) (fun _ => ?_) | with_reducible refine asp_ndmk (fun _ => ?_) (fun _ => ?_) | with_reducible refine asp_nmk (fun _ => ?_) (fun _ => ?_) | with_reducible refine asp_mk (fun _ => ?_) (fun _ => ?_) | with_reducible refine And.intro (by first | omega | rfl | decide | with_unfolding_all rfl) ?_ | simp only [go_sem, Nat.reduceLT, Nat.reduceAdd, Nat.reduceSub, Nat.reduceMul, Nat.reduceLeDiff, ne_eq, Nat.reduceEqDiff, not_false_eq_true, Bool.and_true, Bool.true_and, Nat.succ_ne_self, and_true, Bool.not_true, Bool.not_false, Int.toNat_zero, Int.reduceToNat, Nat.mul_one, Int.toNat_one, decide_true, decide_false, Int.reduceEq, Int.cast_ofNat_Int, Bool.false_eq_true, Bool.not_true, Bool.not_false]
    all_goals first | exact .inr rfl | exact .inr trivial | trivial
theorem related29 (L : List Sto) (tm : List AV) (id m : Int) (hl : L.length ≤ 10000) (hs : ∀ s ∈ L, StOk s) (ht : ∀ s ∈ L, s.tp.length ≤ 1000) : ACalls Try.prog 29 [stA L tm, num id, num m] (fun r => r = .own 3 1 (nums (relR L id m))) := by
  refine (related29' L tm id m hl hs ht).wkr ?_
  rintro r (⟨rfl, h⟩ | rfl)
  · exact ⟨_, W1.nilown 3 1, rfl, by rw [h]; rfl⟩
  · exact ⟨_, W1.refl _, rfl, rfl⟩
end Go.Proofs.Ytgnclmmijijimaa
