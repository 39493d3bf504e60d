/- Topics, Authors. -/
import Derived.Test.YtgnclmmijijimaaT
import Derived.Test.YtgnclmmijijimaaA10
import Derived.Test.YtgnclmmijijimaaQ16
namespace Go.Proofs.Ytgnclmmijijimaa
open Go.RowKit Go.Proofs
set_option linter.unusedSimpArgs false
set_option linter.unusedVariables false
set_option maxRecDepth 100000
set_option maxHeartbeats 4000000

theorem holds_nil : holdsB [] = fun _ _ => true := by funext s a; simp [holdsB]
theorem selF_all : ∀ (L : List Sto) (i : Nat), (selF (fun _ _ => true) i L).map (·.1) = L.filter lstd
  | [], i => rfl
  | s :: L, i => by
    have := selF_all L (i + 1)
    unfold selF
    by_cases h : lstd s = true
    · rw [if_pos (by simp [h]), List.filter_cons, if_pos h, List.map_cons, this]
    · rw [if_neg (by simp [h]), List.filter_cons, if_neg h, this]
theorem topF_flat : ∀ (L : List Sto) (o : List Str), L.foldl topF o = ((L.filter lstd).flatMap (·.tp)).foldl putL o
  | [], o => rfl
  | s :: L, o => by
    rw [List.foldl_cons, topF_flat L, topF]
    by_cases h : lstd s = true
    · rw [if_pos h, List.filter_cons, if_pos h, List.flatMap_cons, List.foldl_append]
    · rw [if_neg h, List.filter_cons, if_neg h]
theorem topR_dst (L : List Sto) : topR L = dst ((L.filter lstd).flatMap (·.tp)) := by rw [topR, topF_flat, putsF_eq]
theorem autF_flat : ∀ (L : List Sto) (o : List Str), L.foldl autF o = ((L.filter lstd).map (·.au)).foldl putL o
  | [], o => rfl
  | s :: L, o => by
    rw [List.foldl_cons, autF_flat L, autF]
    by_cases h : lstd s = true
    · rw [if_pos h, List.filter_cons, if_pos h, List.map_cons, List.foldl_cons]
    · rw [if_neg h, List.filter_cons, if_neg h]
theorem autR_dst (L : List Sto) : autR L = dst ((L.filter lstd).map (·.au)) := by rw [autR, autF_flat, putsF_eq]
theorem flat_len1000 {XS : List (Sto × Nat)} (h : ∀ x ∈ XS, x.1.tp.length ≤ 1000) (k : Nat) : ((XS.take k).flatMap (·.1.tp)).length ≤ 1000 * k := by
  induction k with
  | zero => simp
  | succ k ih =>
    rw [List.take_add_one, List.flatMap_append, List.length_append]
    have hlast : ((XS[k]?.toList).flatMap (·.1.tp)).length ≤ 1000 := by
      cases hx : XS[k]? with
      | none => simp
      | some x => simpa using h x (List.mem_of_getElem? hx)
    omega
theorem topics23 (L : List Sto) (tm : List AV) (hl : L.length ≤ 10000) (hs : ∀ s ∈ L, StOk s) (ht : ∀ s ∈ L, s.tp.length ≤ 1000) : ACalls Try.prog 23 [stA L tm] (fun r => r = .own 9 1 ((topR L).map str)) := by
  have hlen := selF_len (p := fun _ _ => true) L 0
  simp only [stA]
  refine calls_shortG [] [] [4,7,8,9,10,11,12] ttok hmix Try.func23 (by decide) (by decide +kernel) (by simp only [Try.f23, Option.bind_some, compG, ylook, compY, comp, isLend, lendOf, lendX, lendC, lendH, Nat.reduceLeDiff, Nat.reduceSub, ne_eq, not_false_eq_true, and_self, cops, cguard, gslot, List.getElem?_toArray, List.getElem?_cons_succ, List.getElem?_cons_zero, vlook, tlook, List.take_succ_cons, List.take_zero, List.drop_succ_cons, List.drop_zero, Option.map_some, Nat.reduceEqDiff, if_true, if_false, Nat.succ_ne_self, Nat.reduceAdd, reduceIte, reduceCtorEq, Bool.false_eq_true, cutAt_nil, cutAt, firstReg, isCut, mkSeq, mkSeqG]; rfl) Try.ntmps23 Try.results23 ⟨_, rfl⟩ rfl ?_
  skip
  simp only [List.length_cons, List.length_nil, Nat.reduceAdd, Nat.reduceSub, List.replicate_succ, List.replicate_zero, List.cons_append, List.nil_append, num, str, tru]
  repeat' first | with_reducible refine asq_dmk (fun _ => ?_) (fun _ => ?_) | with_reducible refine asq_ndmk (fun _ => ?_) (fun _ => ?_) | with_reducible refine asq_nmk (fun _ => ?_) (fun _ => ?_) | with_reducible refine asq_mk (fun _ => ?_) (fun _ => ?_) | with_reducible refine asp_dmk (fun _ => ?_) (fun _ => ?_) | with_reducible refine asp_ndmk (fun _ => ?_) (fun _ => ?_) | with_reducible refine asp_nmk (fun _ => ?_) (fun _ => ?_) | with_reducible refine asp_mk (fun _ => ?_) (fun _ => ?_) | with_reducible refine And.intro (by first | omega | rfl | decide | with_unfolding_all rfl) ?_ | simp only [go_sem, Nat.reduceLT, Nat.reduceAdd, Nat.reduceSub, Nat.reduceMul, Nat.reduceLeDiff, ne_eq, Nat.reduceEqDiff, not_false_eq_true, Bool.and_true, Bool.true_and, Nat.succ_ne_self, and_true, Bool.not_true, Bool.not_false, Int.toNat_zero, Int.reduceToNat, Nat.mul_one, Int.toNat_one, decide_true, decide_false, Int.reduceEq, Int.cast_ofNat_Int, Bool.false_eq_true, Bool.not_true, Bool.not_false]
  refine ((each41 L tm []).wk ?_).mono ?_
  · simp only [stA, List.map_nil]
    repeat first | exact Wk.nil | exact Wk.refl _ | refine wk_ownsl ?_ | refine wk_nilown ?_ | refine wk_nilmine ?_ | refine wk_nilsl ?_ | refine Wk.same ?_ | refine wk_any ?_
  rintro r rfl
  repeat' first | with_reducible refine asq_dmk (fun _ => ?_) (fun _ => ?_) | with_reducible refine asq_ndmk (fun _ => ?_) (fun _ => ?_) | with_reducible refine asq_nmk (fun _ => ?_) (fun _ => ?_) | with_reducible refine asq_mk (fun _ => ?_) (fun _ => ?_) | with_reducible refine asp_dmk (fun _ => ?_) (fun _ => ?_) | with_reducible refine asp_ndmk (fun _ => ?_) (fun _ => ?_) | with_reducible refine asp_nmk (fun _ => ?_) (fun _ => ?_) | with_reducible refine asp_mk (fun _ => ?_) (fun _ => ?_) | with_reducible refine And.intro (by first | omega | rfl | decide | with_unfolding_all rfl) ?_ | simp only [go_sem, Nat.reduceLT, Nat.reduceAdd, Nat.reduceSub, Nat.reduceMul, Nat.reduceLeDiff, ne_eq, Nat.reduceEqDiff, not_false_eq_true, Bool.and_true, Bool.true_and, Nat.succ_ne_self, and_true, Bool.not_true, Bool.not_false, Int.toNat_zero, Int.reduceToNat, Nat.mul_one, Int.toNat_one, decide_true, decide_false, Int.reduceEq, Int.cast_ofNat_Int, Bool.false_eq_true, Bool.not_true, Bool.not_false]
  have hi := each64 L tm [] (by omega) hs (by simp) (fun c hc => by simp at hc)
  rw [holds_nil] at hi
  obtain ⟨XS, hX⟩ : ∃ XS, selF (fun _ _ => true) 0 L = XS := ⟨_, rfl⟩
  have hXm : ∀ x ∈ XS, x.1.tp.length ≤ 1000 := fun x hx => ht x.1 (by rw [← hX] at hx; exact (selF_ge L 0 x hx).2)
  have hXt : XS.flatMap (·.1.tp) = (L.filter lstd).flatMap (·.tp) := by rw [← selF_all L 0, hX, List.flatMap_map]
  have hYX : selY (fun _ _ => true) L = fun k args => ∃ x, XS[k]? = some x ∧ args = [qY x] := by funext k args; simp only [selY, hX]
  rw [hYX] at hi
  rw [hX] at hi hlen
  refine cwpG_range [false, false, false, true, true, false, false, true, true, true, true, true, true, false, false] [3] (fun k xs => xs = [.box 38 [.own 9 1 (((XS.take k).flatMap (·.1.tp)).map str)]]) (Nat.le_refl 15) ?_ hi ?_ ?_ ?_
  · exact .inl rfl
  · refine ⟨_, rfl, ?_⟩
    simp only [hvm_t, hvm_f, hvm_nil, puts_cons, puts_nil, List.set_cons_zero, List.set_cons_succ, num]
    simp only [List.take_zero, List.flatMap_nil, List.map_nil]
    repeat first | exact Wk.nil | exact Wk.refl _ | refine Wk.box (W1.box ?_) ?_ | refine wk_agg ?_ ?_ | refine wk_ownsl ?_ | refine wk_nilown ?_ | refine wk_nilmine ?_ | refine wk_nilsl ?_ | refine Wk.same ?_ | refine wk_any ?_
  · rintro k args xs ⟨x, hk, rfl⟩ rfl
    refine ⟨rfl, rfl, ?_⟩
    have hlk : k < XS.length := (List.getElem?_eq_some_iff.1 hk).1
    have hfl := flat_len1000 hXm k
    have hxl := hXm x (List.mem_of_getElem? hk)
    have hsn : ((XS.take k).flatMap (·.1.tp)).map str ++ x.1.tp.map str = ((XS.take (k + 1)).flatMap (·.1.tp)).map str := by
      rw [List.take_add_one, hk]; simp
    obtain ⟨s, i⟩ := x
    simp only at hsn hxl
    obtain ⟨F, hF⟩ : ∃ F, (XS.take k).flatMap (·.1.tp) = F := ⟨_, rfl⟩
    rw [hF] at hfl hsn ⊢
    simp only [qY, qst, num, str, tru] at hsn ⊢
    simp only [hvm_t, hvm_f, hvm_nil, puts_cons, puts_nil, List.set_cons_zero, List.set_cons_succ, num]
    repeat' first | with_reducible refine asq_dmk (fun _ => ?_) (fun _ => ?_) | with_reducible refine asq_ndmk (fun _ => ?_) (fun _ => ?_) | with_reducible refine asq_nmk (fun _ => ?_) (fun _ => ?_) | with_reducible refine asq_mk (fun _ => ?_) (fun _ => ?_) | with_reducible refine asp_dmk (fun _ => ?_) (fun _ => ?_) | with_reducible refine asp_ndmk (fun _ => ?_) (fun _ => ?_) | with_reducible refine asp_nmk (fun _ => ?_) (fun _ => ?_) | with_reducible refine asp_mk (fun _ => ?_) (fun _ => ?_) | with_reducible refine And.intro (by first | omega | rfl | decide | with_unfolding_all rfl) ?_ | simp only [go_sem, Nat.reduceLT, Nat.reduceAdd, Nat.reduceSub, Nat.reduceMul, Nat.reduceLeDiff, ne_eq, Nat.reduceEqDiff, not_false_eq_true, Bool.and_true, Bool.true_and, Nat.succ_ne_self, and_true, Bool.not_true, Bool.not_false, Int.toNat_zero, Int.reduceToNat, Nat.mul_one, Int.toNat_one, decide_true, decide_false, Int.reduceEq, Int.cast_ofNat_Int, Bool.false_eq_true, Bool.not_true, Bool.not_false, hsn, List.length_map]
    refine rend_mk _ rfl ?_
    simp only [hvm_t, hvm_f, hvm_nil, puts_cons, puts_nil, List.set_cons_zero, List.set_cons_succ, num]
    repeat first | exact Wk.nil | exact Wk.refl _ | refine Wk.box (W1.box ?_) ?_ | refine wk_agg ?_ ?_ | refine wk_ownsl ?_ | refine wk_nilown ?_ | refine wk_nilmine ?_ | refine wk_nilsl ?_ | refine Wk.same ?_ | refine wk_any ?_
  · rintro xs rfl
    simp only [hvm_t, hvm_f, hvm_nil, puts_cons, puts_nil, List.set_cons_zero, List.set_cons_succ, num]
    simp only [List.take_length, hXt]
    have hfl := flat_len1000 hXm XS.length
    rw [List.take_length, hXt] at hfl
    repeat' first | with_reducible refine asq_dmk (fun _ => ?_) (fun _ => ?_) | with_reducible refine asq_ndmk (fun _ => ?_) (fun _ => ?_) | with_reducible refine asq_nmk (fun _ => ?_) (fun _ => ?_) | with_reducible refine asq_mk (fun _ => ?_) (fun _ => ?_) | with_reducible refine asp_dmk (fun _ => ?_) (fun _ => ?_) | with_reducible refine asp_ndmk (fun _ => ?_) (fun _ => ?_) | with_reducible refine asp_nmk (fun _ => ?_) (fun _ => ?_) | with_reducible refine asp_mk (fun _ => ?_) (fun _ => ?_) | with_reducible refine And.intro (by first | omega | rfl | decide | with_unfolding_all rfl) ?_ | simp only [go_sem, Nat.reduceLT, Nat.reduceAdd, Nat.reduceSub, Nat.reduceMul, Nat.reduceLeDiff, ne_eq, Nat.reduceEqDiff, not_false_eq_true, Bool.and_true, Bool.true_and, Nat.succ_ne_self, and_true, Bool.not_true, Bool.not_false, Int.toNat_zero, Int.reduceToNat, Nat.mul_one, Int.toNat_one, decide_true, decide_false, Int.reduceEq, Int.cast_ofNat_Int, Bool.false_eq_true, Bool.not_true, Bool.not_false]
    refine ((distinct42 ((L.filter lstd).flatMap (·.tp)) (by omega)).wk ?_).mono ?_
    · repeat first | exact Wk.nil | exact Wk.refl _ | refine wk_ownsl ?_ | refine wk_nilown ?_ | refine wk_nilmine ?_ | refine wk_nilsl ?_ | refine Wk.same ?_ | refine wk_any ?_
    rintro r rfl
    rw [topR_dst]
    repeat' first | with_reducible refine asq_dmk (fun _ => ?_) (fun _ => ?_) | with_reducible refine asq_ndmk (fun _ => ?_) (fun _ => ?_) | with_reducible refine asq_nmk (fun _ => ?_) (fun _ => ?_) | with_reducible refine asq_mk (fun _ => ?_) (fun _ => ?_) | with_reducible refine asp_dmk (fun _ => ?_) (fun _ => ?_) | with_reducible refine asp_ndmk (fun _ => ?_) (fun _ => ?_) | with_reducible refine asp_nmk (fun _ => ?_) (fun _ => ?_) | with_reducible refine asp_mk (fun _ => ?_) (fun _ => ?_) | with_reducible refine And.intro (by first | omega | rfl | decide | with_unfolding_all rfl) ?_ | simp only [go_sem, Nat.reduceLT, Nat.reduceAdd, Nat.reduceSub, Nat.reduceMul, Nat.reduceLeDiff, ne_eq, Nat.reduceEqDiff, not_false_eq_true, Bool.and_true, Bool.true_and, Nat.succ_ne_self, and_true, Bool.not_true, Bool.not_false, Int.toNat_zero, Int.reduceToNat, Nat.mul_one, Int.toNat_one, decide_true, decide_false, Int.reduceEq, Int.cast_ofNat_Int, Bool.false_eq_true, Bool.not_true, Bool.not_false]
theorem authors25 (L : List Sto) (tm : List AV) (hl : L.length ≤ 10000) (hs : ∀ s ∈ L, StOk s) : ACalls Try.prog 25 [stA L tm] (fun r => r = .own 9 1 ((autR L).map str)) := by
  have hlen := selF_len (p := fun _ _ => true) L 0
  simp only [stA]
  refine calls_shortG [] [] [4,7,8,9,10,11,12,13] ttok hmix Try.func25 (by decide) (by decide +kernel) (by simp only [Try.f25, Option.bind_some, compG, ylook, compY, comp, isLend, lendOf, lendX, lendC, lendH, Nat.reduceLeDiff, Nat.reduceSub, ne_eq, not_false_eq_true, and_self, cops, cguard, gslot, List.getElem?_toArray, List.getElem?_cons_succ, List.getElem?_cons_zero, vlook, tlook, List.take_succ_cons, List.take_zero, List.drop_succ_cons, List.drop_zero, Option.map_some, Nat.reduceEqDiff, if_true, if_false, Nat.succ_ne_self, Nat.reduceAdd, reduceIte, reduceCtorEq, Bool.false_eq_true, cutAt_nil, cutAt, firstReg, isCut, mkSeq, mkSeqG]; rfl) Try.ntmps25 Try.results25 ⟨_, rfl⟩ rfl ?_
  skip
  simp only [List.length_cons, List.length_nil, Nat.reduceAdd, Nat.reduceSub, List.replicate_succ, List.replicate_zero, List.cons_append, List.nil_append, num, str, tru]
  repeat' first | with_reducible refine asq_dmk (fun _ => ?_) (fun _ => ?_) | with_reducible refine asq_ndmk (fun _ => ?_) (fun _ => ?_) | with_reducible refine asq_nmk (fun _ => ?_) (fun _ => ?_) | with_reducible refine asq_mk (fun _ => ?_) (fun _ => ?_) | with_reducible refine asp_dmk (fun _ => ?_) (fun _ => ?_) | with_reducible refine asp_ndmk (fun _ => ?_) (fun _ => ?_) | with_reducible refine asp_nmk (fun _ => ?_) (fun _ => ?_) | with_reducible refine asp_mk (fun _ => ?_) (fun _ => ?_) | with_reducible refine And.intro (by first | omega | rfl | decide | with_unfolding_all rfl) ?_ | simp only [go_sem, Nat.reduceLT, Nat.reduceAdd, Nat.reduceSub, Nat.reduceMul, Nat.reduceLeDiff, ne_eq, Nat.reduceEqDiff, not_false_eq_true, Bool.and_true, Bool.true_and, Nat.succ_ne_self, and_true, Bool.not_true, Bool.not_false, Int.toNat_zero, Int.reduceToNat, Nat.mul_one, Int.toNat_one, decide_true, decide_false, Int.reduceEq, Int.cast_ofNat_Int, Bool.false_eq_true, Bool.not_true, Bool.not_false]
  refine ((each41 L tm []).wk ?_).mono ?_
  · simp only [stA, List.map_nil]
    repeat first | exact Wk.nil | exact Wk.refl _ | refine wk_ownsl ?_ | refine wk_nilown ?_ | refine wk_nilmine ?_ | refine wk_nilsl ?_ | refine Wk.same ?_ | refine wk_any ?_
  rintro r rfl
  repeat' first | with_reducible refine asq_dmk (fun _ => ?_) (fun _ => ?_) | with_reducible refine asq_ndmk (fun _ => ?_) (fun _ => ?_) | with_reducible refine asq_nmk (fun _ => ?_) (fun _ => ?_) | with_reducible refine asq_mk (fun _ => ?_) (fun _ => ?_) | with_reducible refine asp_dmk (fun _ => ?_) (fun _ => ?_) | with_reducible refine asp_ndmk (fun _ => ?_) (fun _ => ?_) | with_reducible refine asp_nmk (fun _ => ?_) (fun _ => ?_) | with_reducible refine asp_mk (fun _ => ?_) (fun _ => ?_) | with_reducible refine And.intro (by first | omega | rfl | decide | with_unfolding_all rfl) ?_ | simp only [go_sem, Nat.reduceLT, Nat.reduceAdd, Nat.reduceSub, Nat.reduceMul, Nat.reduceLeDiff, ne_eq, Nat.reduceEqDiff, not_false_eq_true, Bool.and_true, Bool.true_and, Nat.succ_ne_self, and_true, Bool.not_true, Bool.not_false, Int.toNat_zero, Int.reduceToNat, Nat.mul_one, Int.toNat_one, decide_true, decide_false, Int.reduceEq, Int.cast_ofNat_Int, Bool.false_eq_true, Bool.not_true, Bool.not_false]
  have hi := each64 L tm [] (by omega) hs (by simp) (fun c hc => by simp at hc)
  rw [holds_nil] at hi
  obtain ⟨XS, hX⟩ : ∃ XS, selF (fun _ _ => true) 0 L = XS := ⟨_, rfl⟩
  have hXt : XS.map (·.1.au) = (L.filter lstd).map (·.au) := by rw [← selF_all L 0, hX, List.map_map]; rfl
  have hYX : selY (fun _ _ => true) L = fun k args => ∃ x, XS[k]? = some x ∧ args = [qY x] := by funext k args; simp only [selY, hX]
  rw [hYX] at hi
  rw [hX] at hi hlen
  refine cwpG_range [false, false, false, true, true, false, false, true, true, true, true, true, true, true, false, false] [3] (fun k xs => xs = [.box 38 [.own 9 1 (((XS.take k).map (·.1.au)).map str)]]) (Nat.le_refl 16) ?_ hi ?_ ?_ ?_
  · exact .inl rfl
  · refine ⟨_, rfl, ?_⟩
    simp only [hvm_t, hvm_f, hvm_nil, puts_cons, puts_nil, List.set_cons_zero, List.set_cons_succ, num]
    simp only [List.take_zero, List.map_nil]
    repeat first | exact Wk.nil | exact Wk.refl _ | refine Wk.box (W1.box ?_) ?_ | refine wk_agg ?_ ?_ | refine wk_ownsl ?_ | refine wk_nilown ?_ | refine wk_nilmine ?_ | refine wk_nilsl ?_ | refine Wk.same ?_ | refine wk_any ?_
  · rintro k args xs ⟨x, hk, rfl⟩ rfl
    refine ⟨rfl, rfl, ?_⟩
    have hlk : k < XS.length := (List.getElem?_eq_some_iff.1 hk).1
    have hsn : ((XS.take k).map (·.1.au)).map str ++ [str x.1.au] = ((XS.take (k + 1)).map (·.1.au)).map str := by
      rw [List.take_add_one, hk]; simp
    have hfl : ((XS.take k).map (·.1.au)).length = k := by simp; omega
    obtain ⟨s, i⟩ := x
    simp only at hsn
    obtain ⟨F, hF⟩ : ∃ F, (XS.take k).map (·.1.au) = F := ⟨_, rfl⟩
    rw [hF] at hfl hsn ⊢
    simp only [qY, qst, num, str, tru] at hsn ⊢
    simp only [hvm_t, hvm_f, hvm_nil, puts_cons, puts_nil, List.set_cons_zero, List.set_cons_succ, num]
    repeat' first | with_reducible refine asq_dmk (fun _ => ?_) (fun _ => ?_) | with_reducible refine asq_ndmk (fun _ => ?_) (fun _ => ?_) | with_reducible refine asq_nmk (fun _ => ?_) (fun _ => ?_) | with_reducible refine asq_mk (fun _ => ?_) (fun _ => ?_) | with_reducible refine asp_dmk (fun _ => ?_) (fun _ => ?_) | with_reducible refine asp_ndmk (fun _ => ?_) (fun _ => ?_) | with_reducible refine asp_nmk (fun _ => ?_) (fun _ => ?_) | with_reducible refine asp_mk (fun _ => ?_) (fun _ => ?_) | with_reducible refine And.intro (by first | omega | rfl | decide | with_unfolding_all rfl) ?_ | simp only [go_sem, Nat.reduceLT, Nat.reduceAdd, Nat.reduceSub, Nat.reduceMul, Nat.reduceLeDiff, ne_eq, Nat.reduceEqDiff, not_false_eq_true, Bool.and_true, Bool.true_and, Nat.succ_ne_self, and_true, Bool.not_true, Bool.not_false, Int.toNat_zero, Int.reduceToNat, Nat.mul_one, Int.toNat_one, decide_true, decide_false, Int.reduceEq, Int.cast_ofNat_Int, Bool.false_eq_true, Bool.not_true, Bool.not_false, hsn, List.length_map]
    refine rend_mk _ rfl ?_
    simp only [hvm_t, hvm_f, hvm_nil, puts_cons, puts_nil, List.set_cons_zero, List.set_cons_succ, num]
    repeat first | exact Wk.nil | exact Wk.refl _ | refine Wk.box (W1.box ?_) ?_ | refine wk_agg ?_ ?_ | refine wk_ownsl ?_ | refine wk_nilown ?_ | refine wk_nilmine ?_ | refine wk_nilsl ?_ | refine Wk.same ?_ | refine wk_any ?_
  · rintro xs rfl
    simp only [hvm_t, hvm_f, hvm_nil, puts_cons, puts_nil, List.set_cons_zero, List.set_cons_succ, num]
    simp only [List.take_length, hXt]
    repeat' first | with_reducible refine asq_dmk (fun _ => ?_) (fun _ => ?_) | with_reducible refine asq_ndmk (fun _ => ?_) (fun _ => ?_) | with_reducible refine asq_nmk (fun _ => ?_) (fun _ => ?_) | with_reducible refine asq_mk (fun _ => ?_) (fun _ => ?_) | with_reducible refine asp_dmk (fun _ => ?_) (fun _ => ?_) | with_reducible refine asp_ndmk (fun _ => ?_) (fun _ => ?_) | with_reducible refine asp_nmk (fun _ => ?_) (fun _ => ?_) | with_reducible refine asp_mk (fun _ => ?_) (fun _ => ?_) | with_reducible refine And.intro (by first | omega | rfl | decide | with_unfolding_all rfl) ?_ | simp only [go_sem, Nat.reduceLT, Nat.reduceAdd, Nat.reduceSub, Nat.reduceMul, Nat.reduceLeDiff, ne_eq, Nat.reduceEqDiff, not_false_eq_true, Bool.and_true, Bool.true_and, Nat.succ_ne_self, and_true, Bool.not_true, Bool.not_false, Int.toNat_zero, Int.reduceToNat, Nat.mul_one, Int.toNat_one, decide_true, decide_false, Int.reduceEq, Int.cast_ofNat_Int, Bool.false_eq_true, Bool.not_true, Bool.not_false]
    refine ((distinct42 ((L.filter lstd).map (·.au)) (by rw [← hXt, List.length_map]; omega)).wk ?_).mono ?_
    · repeat first | exact Wk.nil | exact Wk.refl _ | refine wk_ownsl ?_ | refine wk_nilown ?_ | refine wk_nilmine ?_ | refine wk_nilsl ?_ | refine Wk.same ?_ | refine wk_any ?_
    rintro r rfl
    rw [autR_dst]
    repeat' first | with_reducible refine asq_dmk (fun _ => ?_) (fun _ => ?_) | with_reducible refine asq_ndmk (fun _ => ?_) (fun _ => ?_) | with_reducible refine asq_nmk (fun _ => ?_) (fun _ => ?_) | with_reducible refine asq_mk (fun _ => ?_) (fun _ => ?_) | with_reducible refine asp_dmk (fun _ => ?_) (fun _ => ?_) | with_reducible refine asp_ndmk (fun _ => ?_) (fun _ => ?_) | with_reducible refine asp_nmk (fun _ => ?_) (fun _ => ?_) | with_reducible refine asp_mk (fun _ => ?_) (fun _ => ?_) | with_reducible refine And.intro (by first | omega | rfl | decide | with_unfolding_all rfl) ?_ | simp only [go_sem, Nat.reduceLT, Nat.reduceAdd, Nat.reduceSub, Nat.reduceMul, Nat.reduceLeDiff, ne_eq, Nat.reduceEqDiff, not_false_eq_true, Bool.and_true, Bool.true_and, Nat.succ_ne_self, and_true, Bool.not_true, Bool.not_false, Int.toNat_zero, Int.reduceToNat, Nat.mul_one, Int.toNat_one, decide_true, decide_false, Int.reduceEq, Int.cast_ofNat_Int, Bool.false_eq_true, Bool.not_true, Bool.not_false]
end Go.Proofs.Ytgnclmmijijimaa
