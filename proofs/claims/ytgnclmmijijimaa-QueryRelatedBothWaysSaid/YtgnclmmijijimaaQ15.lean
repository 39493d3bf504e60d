/- The reference: Related. -/
import Derived.Test.YtgnclmmijijimaaT
import Derived.Test.YtgnclmmijijimaaA10
import Derived.Test.YtgnclmmijijimaaQ14
namespace Go.Proofs.Ytgnclmmijijimaa
open Go.RowKit Go.Proofs
set_option linter.unusedSimpArgs false
set_option linter.unusedVariables false
set_option maxRecDepth 100000
set_option maxHeartbeats 4000000

def relQ (s0 : Sto) (id : Int) (k : Nat) (y : Sto) : Bool := decide (y.id ≠ id) && decide (cmn s0 y = k)
def relG (M : List Sto) (s0 : Sto) (id : Int) : Nat → List Int
  | 0 => []
  | k + 1 => (M.filter (relQ s0 id (k + 1))).map (·.id) ++ relG M s0 id k
def relR (L : List Sto) (id n : Int) : List Int := match L.find? (fun s => decide (s.id = id)) with
  | none => []
  | some s0 => if lstd s0 then (relG (newL [] L) s0 id s0.tp.length).take n.toNat else []
theorem relG_len (M : List Sto) (s0 : Sto) (id : Int) : ∀ k, (relG M s0 id k).length ≤ k * M.length
  | 0 => by simp [relG]
  | k + 1 => by
    have := relG_len M s0 id k
    have h := List.length_filter_le (relQ s0 id (k + 1)) M
    simp only [relG, List.length_append, List.length_map, Nat.add_mul]; omega
theorem take_snoc {α : Type} {X : List α} {k : Nat} {y : α} (h : (X.take k).length < k) : X.take k ++ [y] = (X ++ [y]).take k := by
  rw [List.length_take] at h
  rw [List.take_of_length_le (by omega), List.take_of_length_le (by simp; omega)]
theorem take_stop {α : Type} {X Y : List α} {k : Nat} (h : k ≤ (X.take k).length) : (X ++ Y).take k = X.take k := by
  rw [List.length_take] at h
  rw [List.take_append_of_le_length (by omega)]
theorem find_at {L : List Sto} {id : Int} {i : Nat} {s : Sto} (hx : L[i]? = some s) (hno : ∀ y ∈ L.take i, ¬ y.id = id) (he : s.id = id) : L.find? (fun s => decide (s.id = id)) = some s := by
  have hi := (List.getElem?_eq_some_iff.1 hx).1
  rw [← List.take_append_drop i L, List.find?_append, List.find?_eq_none.2 (by simpa using hno), List.drop_eq_getElem_cons hi, (List.getElem?_eq_some_iff.1 hx).2]
  simp [he]
theorem find_none {L : List Sto} {id : Int} (hno : ∀ y ∈ L, ¬ y.id = id) : L.find? (fun s => decide (s.id = id)) = none := List.find?_eq_none.2 (by simpa using hno)
theorem insRev_mem {x y : Sto} : ∀ {l : List Sto}, y ∈ insRev l x → y = x ∨ y ∈ l
  | [], h => by simp [insRev] at h; exact .inl h
  | z :: r, h => by
    simp only [insRev] at h
    split at h
    · rcases List.mem_cons.1 h with h | h
      · exact .inl h
      · exact .inr h
    · rcases List.mem_cons.1 h with h | h
      · exact .inr (by simp [h])
      · rcases insRev_mem h with h | h
        · exact .inl h
        · exact .inr (by simp [h])
theorem newF_mem (v : List UInt8) : ∀ (L acc : List Sto), ∀ y ∈ L.foldl (newF v) acc, y ∈ acc ∨ y ∈ L
  | [], acc, y, h => .inl h
  | s :: L, acc, y, h => by
    rcases newF_mem v L _ y h with h | h
    · unfold newF at h
      split at h
      · rcases insRev_mem h with h | h
        · exact .inr (by simp [h])
        · exact .inl h
      · exact .inl h
    · exact .inr (by simp [h])
theorem newL_mem (v : List UInt8) (L : List Sto) : ∀ y ∈ newL v L, y ∈ L := fun y h => by
  rcases newF_mem v L [] y h with h | h
  · simp at h
  · exact h
theorem refRelated30' (L : List Sto) (tm : List AV) (id m : Int) (hl : L.length ≤ 10000) (hs : ∀ s ∈ L, StOk s) (ht : ∀ s ∈ L, s.tp.length ≤ 1000) : ACalls Try.prog 30 [stA L tm, num id, num m] (fun r => r = .nil ∧ relR L id m = [] ∨ r = .own 3 1 (nums (relR L id m))) := by
  simp only [stA]
  refine calls_short [(13,[],[10])] ttok hmix Try.func30 (by decide) (by decide +kernel) (by simp only [Try.f30, Option.bind_some, comp, cops, cguard, gslot, List.getElem?_toArray, List.getElem?_cons_succ, List.getElem?_cons_zero, vlook, tlook, cutAt_nil, cutAt, firstReg, isCut, mkSeq, Nat.reduceAdd, Nat.reduceEqDiff, reduceIte]; rfl) Try.ntmps30 Try.results30 ⟨_, .inr rfl⟩ rfl ?_
  simp only [List.length_cons, List.length_nil, Nat.reduceAdd, Nat.reduceSub, List.replicate_succ, List.replicate_zero, List.cons_append, List.nil_append, num, str, tru]
  simp (decide := true) only [mkd_eq [3, 12, 8] [7900003] [] [[71, 8], [12], [73, 71], [73], [], [], [], [78], [3, 78], [80, 3, 78], [78], [80, 78], [78], [84, 8, 78], [12, 78], [84, 78], [78], [78], [78], [78], [78]], List.zip_cons_cons, List.zip_nil_left, List.zip_nil_right]
  repeat' first | with_reducible refine asq_dmk (fun _ => ?_) (fun _ => ?_) | with_reducible refine asq_ndmk (fun _ => ?_) (fun _ => ?_) | with_reducible refine asq_nmk (fun _ => ?_) (fun _ => ?_) | with_reducible refine asq_mk (fun _ => ?_) (fun _ => ?_) | with_reducible refine asp_dmk (fun _ => ?_) (fun _ => ?_) | with_reducible refine asp_ndmk (fun _ => ?_) (fun _ => ?_) | with_reducible refine asp_nmk (fun _ => ?_) (fun _ => ?_) | with_reducible refine asp_mk (fun _ => ?_) (fun _ => ?_) | with_reducible refine And.intro (by first | omega | rfl | decide | with_unfolding_all rfl) ?_ | simp only [go_sem, Nat.reduceLT, Nat.reduceAdd, Nat.reduceSub, Nat.reduceMul, Nat.reduceLeDiff, ne_eq, Nat.reduceEqDiff, not_false_eq_true, Bool.and_true, Bool.true_and, Nat.succ_ne_self, and_true, Bool.not_true, Bool.not_false, Int.toNat_zero, Int.reduceToNat, Nat.mul_one, Int.toNat_one, decide_true, decide_false, Int.reduceEq, Int.cast_ofNat_Int, Bool.false_eq_true, Bool.not_true, Bool.not_false]
  refine cwp_loop [false, false, false, false, false, false, false, true, false, false, false, false, false, true, true, true, true, true, true, true, true, true, true, true, true, true, true, true, true, true, false, false, false, false, false, false, false, false, false, false, false, false, false, false, false, false, false, false, false, false, false, false, false, false, false, false, false, false, false, false, false, false, false, false, false, false, false, false, false, false, false, false, false, false, false, false, false, false, false, false, false, false, false, false, false, false, false, false, false, false, false, false, false, false, false, false, false, false, false, false, false] [7] (fun n xs => ∃ i : Nat, i ≤ L.length ∧ i + n = L.length ∧ (∀ y ∈ L.take i, ¬ y.id = id) ∧ xs = [num i]) ⟨L.length, _, ⟨0, by omega, by omega, by simp, rfl⟩, ?_⟩ ?_
  · simp only [hvm_t, hvm_f, hvm_nil, puts_cons, puts_nil, List.set_cons_zero, List.set_cons_succ, num]
    repeat first | exact Wk.nil | refine Wk.same ?_ | refine wk_any ?_
  · rintro n xs ⟨i, hil, hn, hno, rfl⟩
    simp only [hvm_t, hvm_f, hvm_nil, puts_cons, puts_nil, List.set_cons_zero, List.set_cons_succ, num]
    rcases Nat.lt_or_ge i L.length with hlt | hge
    · have ej := eq_true (show (i : Int) < (L.length : Int) by omega)
      have ejq := eq_false (show ¬ (i : Int) = (L.length : Int) by omega)
      obtain ⟨s, hx, hd⟩ := drop_at hlt
      have hso := hs s (List.mem_of_getElem? hx)
      have hst := ht s (List.mem_of_getElem? hx)
      have hgs := sto_at hx
      simp only [num, str, tru] at hgs
      have hw : IntKind.i64.wrap ((i : Int) + 1) = ((i + 1 : Nat) : Int) := wrap_succ (by omega)
      by_cases hid : s.id = id
      · have eid := eq_true hid
        repeat' first | with_reducible refine asq_dmk (fun _ => ?_) (fun _ => ?_) | with_reducible refine asq_ndmk (fun _ => ?_) (fun _ => ?_) | with_reducible refine asq_nmk (fun _ => ?_) (fun _ => ?_) | with_reducible refine asq_mk (fun _ => ?_) (fun _ => ?_) | with_reducible refine asp_dmk (fun _ => ?_) (fun _ => ?_) | with_reducible refine asp_ndmk (fun _ => ?_) (fun _ => ?_) | with_reducible refine asp_nmk (fun _ => ?_) (fun _ => ?_) | with_reducible refine asp_mk (fun _ => ?_) (fun _ => ?_) | with_reducible refine And.intro (by first | omega | rfl | decide | with_unfolding_all rfl) ?_ | simp only [go_sem, Nat.reduceLT, Nat.reduceAdd, Nat.reduceSub, Nat.reduceMul, Nat.reduceLeDiff, ne_eq, Nat.reduceEqDiff, not_false_eq_true, Bool.and_true, Bool.true_and, Nat.succ_ne_self, and_true, Bool.not_true, Bool.not_false, Int.toNat_zero, Int.reduceToNat, Nat.mul_one, Int.toNat_one, decide_true, decide_false, Int.reduceEq, Int.cast_ofNat_Int, Bool.false_eq_true, Bool.not_true, Bool.not_false, ejq, ej, hgs, hw, eid, List.length_map, List.length_append, List.length_cons, List.length_nil]
        refine ((Listed43 s hso.2).wk ?_).mono ?_
        · simp only [sto, stoC, num, str, tru]
          repeat first | exact Wk.nil | exact Wk.refl _ | refine wk_agg ?_ ?_ | refine wk_ownsl ?_ | refine wk_nilsl ?_ | refine Wk.same ?_
        rintro r rfl
        simp only [tru]
        cases hls : lstd s
        · repeat' first | with_reducible refine asq_dmk (fun _ => ?_) (fun _ => ?_) | with_reducible refine asq_ndmk (fun _ => ?_) (fun _ => ?_) | with_reducible refine asq_nmk (fun _ => ?_) (fun _ => ?_) | with_reducible refine asq_mk (fun _ => ?_) (fun _ => ?_) | with_reducible refine asp_dmk (fun _ => ?_) (fun _ => ?_) | with_reducible refine asp_ndmk (fun _ => ?_) (fun _ => ?_) | with_reducible refine asp_nmk (fun _ => ?_) (fun _ => ?_) | with_reducible refine asp_mk (fun _ => ?_) (fun _ => ?_) | with_reducible refine And.intro (by first | omega | rfl | decide | with_unfolding_all rfl) ?_ | simp only [go_sem, Nat.reduceLT, Nat.reduceAdd, Nat.reduceSub, Nat.reduceMul, Nat.reduceLeDiff, ne_eq, Nat.reduceEqDiff, not_false_eq_true, Bool.and_true, Bool.true_and, Nat.succ_ne_self, and_true, Bool.not_true, Bool.not_false, Int.toNat_zero, Int.reduceToNat, Nat.mul_one, Int.toNat_one, decide_true, decide_false, Int.reduceEq, Int.cast_ofNat_Int, Bool.false_eq_true, Bool.not_true, Bool.not_false, ejq, ej, hgs, hw, eid, List.length_map, List.length_append, List.length_cons, List.length_nil]
          refine .inl ?_
          rw [relR, find_at hx hno hid]
          simp only [hls, Bool.false_eq_true, if_false]
        · have hrel : relR L id m = (relG (newL [] L) s id s.tp.length).take m.toNat := by
            rw [relR, find_at hx hno hid]; simp only [hls, if_true]
          repeat' first | with_reducible refine asq_dmk (fun _ => ?_) (fun _ => ?_) | with_reducible refine asq_ndmk (fun _ => ?_) (fun _ => ?_) | with_reducible refine asq_nmk (fun _ => ?_) (fun _ => ?_) | with_reducible refine asq_mk (fun _ => ?_) (fun _ => ?_) | with_reducible refine asp_dmk (fun _ => ?_) (fun _ => ?_) | with_reducible refine asp_ndmk (fun _ => ?_) (fun _ => ?_) | with_reducible refine asp_nmk (fun _ => ?_) (fun _ => ?_) | with_reducible refine asp_mk (fun _ => ?_) (fun _ => ?_) | with_reducible refine And.intro (by first | omega | rfl | decide | with_unfolding_all rfl) ?_ | simp only [go_sem, Nat.reduceLT, Nat.reduceAdd, Nat.reduceSub, Nat.reduceMul, Nat.reduceLeDiff, ne_eq, Nat.reduceEqDiff, not_false_eq_true, Bool.and_true, Bool.true_and, Nat.succ_ne_self, and_true, Bool.not_true, Bool.not_false, Int.toNat_zero, Int.reduceToNat, Nat.mul_one, Int.toNat_one, decide_true, decide_false, Int.reduceEq, Int.cast_ofNat_Int, Bool.false_eq_true, Bool.not_true, Bool.not_false, ej, hgs, hw, eid, List.length_map, List.length_append, List.length_cons, List.length_nil]
          refine ((oldest37 L tm [] (by omega) hs).wk ?_).mono ?_
          · simp only [stA, str]
            repeat first | exact Wk.nil | exact Wk.refl _ | refine wk_agg ?_ ?_ | refine wk_ownsl ?_ | refine wk_nilsl ?_ | refine Wk.same ?_
          rintro r rfl
          obtain ⟨M, hM⟩ : ∃ M, newL [] L = M := ⟨_, rfl⟩
          have hMl : M.length ≤ L.length := by rw [← hM]; exact newL_len [] L
          have hMm : ∀ y ∈ M, y ∈ L := by rw [← hM]; exact newL_mem [] L
          rw [hM] at hrel
          simp only [hM]
          have hwi : IntKind.i64.wrap ((M.length : Int) - 1) = (M.length : Int) - 1 := wrap_in (by omega) (by omega)
          repeat' first | with_reducible refine asq_dmk (fun _ => ?_) (fun _ => ?_) | with_reducible refine asq_ndmk (fun _ => ?_) (fun _ => ?_) | with_reducible refine asq_nmk (fun _ => ?_) (fun _ => ?_) | with_reducible refine asq_mk (fun _ => ?_) (fun _ => ?_) | with_reducible refine asp_dmk (fun _ => ?_) (fun _ => ?_) | with_reducible refine asp_ndmk (fun _ => ?_) (fun _ => ?_) | with_reducible refine asp_nmk (fun _ => ?_) (fun _ => ?_) | with_reducible refine asp_mk (fun _ => ?_) (fun _ => ?_) | with_reducible refine And.intro (by first | omega | rfl | decide | with_unfolding_all rfl) ?_ | simp only [go_sem, Nat.reduceLT, Nat.reduceAdd, Nat.reduceSub, Nat.reduceMul, Nat.reduceLeDiff, ne_eq, Nat.reduceEqDiff, not_false_eq_true, Bool.and_true, Bool.true_and, Nat.succ_ne_self, and_true, Bool.not_true, Bool.not_false, Int.toNat_zero, Int.reduceToNat, Nat.mul_one, Int.toNat_one, decide_true, decide_false, Int.reduceEq, Int.cast_ofNat_Int, Bool.false_eq_true, Bool.not_true, Bool.not_false, ej, hgs, hw, eid, List.length_map, List.length_append, List.length_cons, List.length_nil]
          refine cwp_loop [false, false, false, false, false, false, false, false, false, false, true, true, true, false, false, false, false, false, false, false, false, false, false, false, false, false, false, false, false, false, false, false, false, false, false, false, false, false, false, false, false, false, false, false, false, false, false, false, false, false, false, false, false, false, true, true, true, true, true, true, true, true, true, true, true, true, true, true, true, true, true, true, true, true, true, true, true, true, true, true, true, true, true, true, true, true, true, true, true, true, true, true, true, true, true, true, true, true, true, true, false] [10, 11] (fun n xs => ∃ (k : Nat) (B : List Int), k = n ∧ k ≤ s.tp.length ∧ B ++ relG M s id k = relG M s id s.tp.length ∧ xs = [.own 3 1 (nums (B.take m.toNat)), num (k : Nat)]) ⟨s.tp.length, _, ⟨s.tp.length, [], rfl, by omega, rfl, rfl⟩, ?_⟩ ?_
          · simp only [List.take_nil, nums, List.map_nil]
            simp only [hvm_t, hvm_f, hvm_nil, puts_cons, puts_nil, List.set_cons_zero, List.set_cons_succ, num]
            repeat first | exact Wk.nil | exact Wk.refl _ | refine wk_ownsl ?_ | refine wk_nilown ?_ | refine wk_nilsl ?_ | refine Wk.same ?_ | refine wk_any ?_
          · rintro n xs ⟨k, B, rfl, hk, hB, rfl⟩
            simp only [hvm_t, hvm_f, hvm_nil, puts_cons, puts_nil, List.set_cons_zero, List.set_cons_succ, num]
            have hBl : (relG M s id s.tp.length).length ≤ 1000 * 10000 := Nat.le_trans (relG_len M s id _) (Nat.mul_le_mul hst (by omega))
            rw [← hB, List.length_append] at hBl
            cases k with
            | zero =>
              have e0 := eq_false (show ¬ (0 : Int) < ((0 : Nat) : Int) by omega)
              repeat' first | with_reducible refine asq_dmk (fun _ => ?_) (fun _ => ?_) | with_reducible refine asq_ndmk (fun _ => ?_) (fun _ => ?_) | with_reducible refine asq_nmk (fun _ => ?_) (fun _ => ?_) | with_reducible refine asq_mk (fun _ => ?_) (fun _ => ?_) | with_reducible refine asp_dmk (fun _ => ?_) (fun _ => ?_) | with_reducible refine asp_ndmk (fun _ => ?_) (fun _ => ?_) | with_reducible refine asp_nmk (fun _ => ?_) (fun _ => ?_) | with_reducible refine asp_mk (fun _ => ?_) (fun _ => ?_) | with_reducible refine And.intro (by first | omega | rfl | decide | with_unfolding_all rfl) ?_ | simp only [go_sem, Nat.reduceLT, Nat.reduceAdd, Nat.reduceSub, Nat.reduceMul, Nat.reduceLeDiff, ne_eq, Nat.reduceEqDiff, not_false_eq_true, Bool.and_true, Bool.true_and, Nat.succ_ne_self, and_true, Bool.not_true, Bool.not_false, Int.toNat_zero, Int.reduceToNat, Nat.mul_one, Int.toNat_one, decide_true, decide_false, Int.reduceEq, Int.cast_ofNat_Int, Bool.false_eq_true, Bool.not_true, Bool.not_false, e0]
              all_goals try (exfalso; omega)
              rw [hrel, ← hB, relG, List.append_nil]
              exact .inr rfl
            | succ k =>
              have e0 := eq_true (show (0 : Int) < ((k + 1 : Nat) : Int) by omega)
              have hwk : IntKind.i64.wrap (((k + 1 : Nat) : Int) - 1) = (k : Int) := by rw [wrap_in (by omega) (by omega)]; omega
              repeat' first | with_reducible refine asq_dmk (fun _ => ?_) (fun _ => ?_) | with_reducible refine asq_ndmk (fun _ => ?_) (fun _ => ?_) | with_reducible refine asq_nmk (fun _ => ?_) (fun _ => ?_) | with_reducible refine asq_mk (fun _ => ?_) (fun _ => ?_) | with_reducible refine asp_dmk (fun _ => ?_) (fun _ => ?_) | with_reducible refine asp_ndmk (fun _ => ?_) (fun _ => ?_) | with_reducible refine asp_nmk (fun _ => ?_) (fun _ => ?_) | with_reducible refine asp_mk (fun _ => ?_) (fun _ => ?_) | with_reducible refine And.intro (by first | omega | rfl | decide | with_unfolding_all rfl) ?_ | simp only [go_sem, Nat.reduceLT, Nat.reduceAdd, Nat.reduceSub, Nat.reduceMul, Nat.reduceLeDiff, ne_eq, Nat.reduceEqDiff, not_false_eq_true, Bool.and_true, Bool.true_and, Nat.succ_ne_self, and_true, Bool.not_true, Bool.not_false, Int.toNat_zero, Int.reduceToNat, Nat.mul_one, Int.toNat_one, decide_true, decide_false, Int.reduceEq, Int.cast_ofNat_Int, Bool.false_eq_true, Bool.not_true, Bool.not_false, e0, hwi, List.length_map, List.length_reverse]
              refine cwp_loop [false, false, false, false, false, false, false, false, false, false, true, false, true, false, false, false, false, false, false, false, false, false, false, false, false, false, false, false, false, false, false, false, false, false, false, false, false, false, false, false, false, false, false, false, false, false, false, false, false, false, false, false, false, false, false, false, false, false, false, false, false, true, true, true, true, true, true, true, true, true, true, true, true, true, true, true, true, true, true, true, true, true, true, true, true, true, true, true, true, true, true, true, true, true, true, true, true, true, true, true, false] [10, 12] (fun n2 xs => ∃ j : Nat, j ≤ M.length ∧ j + n2 = M.length ∧ xs = [.own 3 1 (nums ((B ++ ((M.take j).filter (relQ s id (k + 1))).map (·.id)).take m.toNat)), num ((M.length : Int) - 1 - (j : Int))]) ⟨M.length, _, ⟨0, by omega, by omega, rfl⟩, ?_⟩ ?_
              · simp only [List.take_zero, List.filter_nil, List.map_nil, List.append_nil, Int.natCast_zero, Int.sub_zero]
                simp only [hvm_t, hvm_f, hvm_nil, puts_cons, puts_nil, List.set_cons_zero, List.set_cons_succ, num]
                repeat first | exact Wk.nil | exact Wk.refl _ | refine wk_ownsl ?_ | refine wk_nilown ?_ | refine wk_nilsl ?_ | refine Wk.same ?_ | refine wk_any ?_
              · rintro n2 xs ⟨j, hjl, hn2, rfl⟩
                simp only [hvm_t, hvm_f, hvm_nil, puts_cons, puts_nil, List.set_cons_zero, List.set_cons_succ, num]
                have hfl := List.length_filter_le (relQ s id (k + 1)) (M.take j)
                rw [List.length_take] at hfl
                rcases Nat.lt_or_ge j M.length with hlt2 | hge2
                · have ei := eq_true (show (0 : Int) ≤ (M.length : Int) - 1 - (j : Int) by omega)
                  obtain ⟨y, hyx⟩ : ∃ y, M[j]? = some y := ⟨_, List.getElem?_eq_getElem hlt2⟩
                  have hyL := hMm y (List.mem_of_getElem? hyx)
                  have hgx : (M.reverse.map sto).getD (((M.length : Int) - 1 - (j : Int)).toNat) .any = .agg [num y.id, str y.au, .sl 1 (y.tp.map str), .sl 5 y.ed, num y.pu, .nil, tru y.re, tru y.tk] := by
                    refine sto_at ?_
                    rw [List.getElem?_reverse (by omega)]
                    rw [show M.length - 1 - ((M.length : Int) - 1 - (j : Int)).toNat = j by omega]
                    exact hyx
                  simp only [num, str, tru] at hgx
                  have hwj : IntKind.i64.wrap ((M.length : Int) - 1 - (j : Int) - 1) = (M.length : Int) - 1 - ((j + 1 : Nat) : Int) := by rw [wrap_in (by omega) (by omega)]; omega
                  have hft : (M.take (j + 1)).filter (relQ s id (k + 1)) = (M.take j).filter (relQ s id (k + 1)) ++ if relQ s id (k + 1) y then [y] else [] := by
                    rw [List.take_add_one, hyx, List.filter_append, Option.toList_some, List.filter_cons, List.filter_nil]
                  have hft : (B ++ ((M.take (j + 1)).filter (relQ s id (k + 1))).map (·.id)) = (B ++ ((M.take j).filter (relQ s id (k + 1))).map (·.id)) ++ (if relQ s id (k + 1) y then [y] else []).map (·.id) := by
                    rw [hft, List.map_append, List.append_assoc]
                  have hXl : (B ++ ((M.take j).filter (relQ s id (k + 1))).map (·.id)).length ≤ 10010000 := by
                    rw [List.length_append, List.length_map]; omega
                  obtain ⟨X, hX⟩ : ∃ X, (B ++ ((M.take j).filter (relQ s id (k + 1))).map (·.id)) = X := ⟨_, rfl⟩
                  rw [hX] at hXl hft ⊢
                  have hXt : (X.take m.toNat).length ≤ X.length := by rw [List.length_take]; omega
                  by_cases hfull : (X.take m.toNat).length < m.toNat
                  · have en := eq_true (show (((nums (X.take m.toNat)).length : Nat) : Int) < m by rw [nums_length]; omega)
                    rw [nums_length] at en
                    by_cases hy : y.id = id
                    · have ey := eq_true hy
                      have hq : relQ s id (k + 1) y = false := by simp [relQ, hy]
                      repeat' first | with_reducible refine asq_dmk (fun _ => ?_) (fun _ => ?_) | with_reducible refine asq_ndmk (fun _ => ?_) (fun _ => ?_) | with_reducible refine asq_nmk (fun _ => ?_) (fun _ => ?_) | with_reducible refine asq_mk (fun _ => ?_) (fun _ => ?_) | with_reducible refine asp_dmk (fun _ => ?_) (fun _ => ?_) | with_reducible refine asp_ndmk (fun _ => ?_) (fun _ => ?_) | with_reducible refine asp_nmk (fun _ => ?_) (fun _ => ?_) | with_reducible refine asp_mk (fun _ => ?_) (fun _ => ?_) | with_reducible refine And.intro (by first | omega | rfl | decide | with_unfolding_all rfl) ?_ | simp only [go_sem, Nat.reduceLT, Nat.reduceAdd, Nat.reduceSub, Nat.reduceMul, Nat.reduceLeDiff, ne_eq, Nat.reduceEqDiff, not_false_eq_true, Bool.and_true, Bool.true_and, Nat.succ_ne_self, and_true, Bool.not_true, Bool.not_false, Int.toNat_zero, Int.reduceToNat, Nat.mul_one, Int.toNat_one, decide_true, decide_false, Int.reduceEq, Int.cast_ofNat_Int, Bool.false_eq_true, Bool.not_true, Bool.not_false, ei, en, hgx, hwj, ey, hgs, nums_length, List.length_map, List.length_reverse]
                      refine lend_mk (n2 - 1) [.own 3 1 (nums ((B ++ ((M.take (j + 1)).filter (relQ s id (k + 1))).map (·.id)).take m.toNat)), num ((M.length : Int) - 1 - ((j + 1 : Nat) : Int))] (by omega) ⟨j + 1, by omega, by omega, rfl⟩ ?_
                      rw [hft, hq]
                      simp only [Bool.false_eq_true, if_false, List.map_nil, List.append_nil]
                      simp only [hvm_t, hvm_f, hvm_nil, puts_cons, puts_nil, List.set_cons_zero, List.set_cons_succ, num]
                      repeat first | exact Wk.nil | refine Wk.same ?_ | refine wk_any ?_
                    · have ey := eq_false hy
                      repeat' first | with_reducible refine asq_dmk (fun _ => ?_) (fun _ => ?_) | with_reducible refine asq_ndmk (fun _ => ?_) (fun _ => ?_) | with_reducible refine asq_nmk (fun _ => ?_) (fun _ => ?_) | with_reducible refine asq_mk (fun _ => ?_) (fun _ => ?_) | with_reducible refine asp_dmk (fun _ => ?_) (fun _ => ?_) | with_reducible refine asp_ndmk (fun _ => ?_) (fun _ => ?_) | with_reducible refine asp_nmk (fun _ => ?_) (fun _ => ?_) | with_reducible refine asp_mk (fun _ => ?_) (fun _ => ?_) | with_reducible refine And.intro (by first | omega | rfl | decide | with_unfolding_all rfl) ?_ | simp only [go_sem, Nat.reduceLT, Nat.reduceAdd, Nat.reduceSub, Nat.reduceMul, Nat.reduceLeDiff, ne_eq, Nat.reduceEqDiff, not_false_eq_true, Bool.and_true, Bool.true_and, Nat.succ_ne_self, and_true, Bool.not_true, Bool.not_false, Int.toNat_zero, Int.reduceToNat, Nat.mul_one, Int.toNat_one, decide_true, decide_false, Int.reduceEq, Int.cast_ofNat_Int, Bool.false_eq_true, Bool.not_true, Bool.not_false, ei, en, hgx, hwj, ey, hgs, nums_length, List.length_map, List.length_reverse]
                      refine ((common58 s y hso (hs y hyL)).wk ?_).mono ?_
                      · simp only [sto, stoC, num, str, tru]
                        repeat first | exact Wk.nil | exact Wk.refl _ | refine wk_agg ?_ ?_ | refine wk_ownsl ?_ | refine wk_nilsl ?_ | refine Wk.same ?_
                      rintro r rfl
                      simp only [num]
                      by_cases hcm : cmn s y = k + 1
                      · have ec := eq_true (show ((cmn s y : Nat) : Int) = ((k + 1 : Nat) : Int) by omega)
                        have hq : relQ s id (k + 1) y = true := by simp [relQ, hy, hcm]
                        have hsn : nums (X.take m.toNat) ++ [AV.raw (.int .i64 y.id)] = nums ((X ++ [y.id]).take m.toNat) := by
                          rw [← take_snoc (by omega)]; simp [nums, num]
                        repeat' first | with_reducible refine asq_dmk (fun _ => ?_) (fun _ => ?_) | with_reducible refine asq_ndmk (fun _ => ?_) (fun _ => ?_) | with_reducible refine asq_nmk (fun _ => ?_) (fun _ => ?_) | with_reducible refine asq_mk (fun _ => ?_) (fun _ => ?_) | with_reducible refine asp_dmk (fun _ => ?_) (fun _ => ?_) | with_reducible refine asp_ndmk (fun _ => ?_) (fun _ => ?_) | with_reducible refine asp_nmk (fun _ => ?_) (fun _ => ?_) | with_reducible refine asp_mk (fun _ => ?_) (fun _ => ?_) | with_reducible refine And.intro (by first | omega | rfl | decide | with_unfolding_all rfl) ?_ | simp only [go_sem, Nat.reduceLT, Nat.reduceAdd, Nat.reduceSub, Nat.reduceMul, Nat.reduceLeDiff, ne_eq, Nat.reduceEqDiff, not_false_eq_true, Bool.and_true, Bool.true_and, Nat.succ_ne_self, and_true, Bool.not_true, Bool.not_false, Int.toNat_zero, Int.reduceToNat, Nat.mul_one, Int.toNat_one, decide_true, decide_false, Int.reduceEq, Int.cast_ofNat_Int, Bool.false_eq_true, Bool.not_true, Bool.not_false, ei, en, hgx, hwj, ey, ec, hgs, hsn, nums_length, List.length_map, List.length_reverse]
                        refine lend_mk (n2 - 1) [.own 3 1 (nums ((B ++ ((M.take (j + 1)).filter (relQ s id (k + 1))).map (·.id)).take m.toNat)), num ((M.length : Int) - 1 - ((j + 1 : Nat) : Int))] (by omega) ⟨j + 1, by omega, by omega, rfl⟩ ?_
                        rw [hft, hq]
                        simp only [if_true, List.map_cons, List.map_nil]
                        simp only [hvm_t, hvm_f, hvm_nil, puts_cons, puts_nil, List.set_cons_zero, List.set_cons_succ, num]
                        repeat first | exact Wk.nil | refine Wk.same ?_ | refine wk_any ?_
                      · have ec := eq_false (show ¬ ((cmn s y : Nat) : Int) = ((k + 1 : Nat) : Int) by omega)
                        have hq : relQ s id (k + 1) y = false := by simp [relQ, hy, hcm]
                        repeat' first | with_reducible refine asq_dmk (fun _ => ?_) (fun _ => ?_) | with_reducible refine asq_ndmk (fun _ => ?_) (fun _ => ?_) | with_reducible refine asq_nmk (fun _ => ?_) (fun _ => ?_) | with_reducible refine asq_mk (fun _ => ?_) (fun _ => ?_) | with_reducible refine asp_dmk (fun _ => ?_) (fun _ => ?_) | with_reducible refine asp_ndmk (fun _ => ?_) (fun _ => ?_) | with_reducible refine asp_nmk (fun _ => ?_) (fun _ => ?_) | with_reducible refine asp_mk (fun _ => ?_) (fun _ => ?_) | with_reducible refine And.intro (by first | omega | rfl | decide | with_unfolding_all rfl) ?_ | simp only [go_sem, Nat.reduceLT, Nat.reduceAdd, Nat.reduceSub, Nat.reduceMul, Nat.reduceLeDiff, ne_eq, Nat.reduceEqDiff, not_false_eq_true, Bool.and_true, Bool.true_and, Nat.succ_ne_self, and_true, Bool.not_true, Bool.not_false, Int.toNat_zero, Int.reduceToNat, Nat.mul_one, Int.toNat_one, decide_true, decide_false, Int.reduceEq, Int.cast_ofNat_Int, Bool.false_eq_true, Bool.not_true, Bool.not_false, ei, en, hgx, hwj, ey, ec, hgs, nums_length, List.length_map, List.length_reverse]
                        refine lend_mk (n2 - 1) [.own 3 1 (nums ((B ++ ((M.take (j + 1)).filter (relQ s id (k + 1))).map (·.id)).take m.toNat)), num ((M.length : Int) - 1 - ((j + 1 : Nat) : Int))] (by omega) ⟨j + 1, by omega, by omega, rfl⟩ ?_
                        rw [hft, hq]
                        simp only [Bool.false_eq_true, if_false, List.map_nil, List.append_nil]
                        simp only [hvm_t, hvm_f, hvm_nil, puts_cons, puts_nil, List.set_cons_zero, List.set_cons_succ, num]
                        repeat first | exact Wk.nil | refine Wk.same ?_ | refine wk_any ?_
                  · have en := eq_false (show ¬ ((X.take m.toNat).length : Int) < m by omega)
                    have hall : (B ++ (M.filter (relQ s id (k + 1))).map (·.id)).take m.toNat = X.take m.toNat := by
                      have h1 : M.filter (relQ s id (k + 1)) = (M.take j).filter (relQ s id (k + 1)) ++ (M.drop j).filter (relQ s id (k + 1)) := by rw [← List.filter_append, List.take_append_drop]
                      rw [h1, List.map_append, ← List.append_assoc, hX]
                      exact take_stop (by omega)
                    repeat' first | with_reducible refine asq_dmk (fun _ => ?_) (fun _ => ?_) | with_reducible refine asq_ndmk (fun _ => ?_) (fun _ => ?_) | with_reducible refine asq_nmk (fun _ => ?_) (fun _ => ?_) | with_reducible refine asq_mk (fun _ => ?_) (fun _ => ?_) | with_reducible refine asp_dmk (fun _ => ?_) (fun _ => ?_) | with_reducible refine asp_ndmk (fun _ => ?_) (fun _ => ?_) | with_reducible refine asp_nmk (fun _ => ?_) (fun _ => ?_) | with_reducible refine asp_mk (fun _ => ?_) (fun _ => ?_) | with_reducible refine And.intro (by first | omega | rfl | decide | with_unfolding_all rfl) ?_ | simp only [go_sem, Nat.reduceLT, Nat.reduceAdd, Nat.reduceSub, Nat.reduceMul, Nat.reduceLeDiff, ne_eq, Nat.reduceEqDiff, not_false_eq_true, Bool.and_true, Bool.true_and, Nat.succ_ne_self, and_true, Bool.not_true, Bool.not_false, Int.toNat_zero, Int.reduceToNat, Nat.mul_one, Int.toNat_one, decide_true, decide_false, Int.reduceEq, Int.cast_ofNat_Int, Bool.false_eq_true, Bool.not_true, Bool.not_false, ei, en, hwk, nums_length, List.length_map, List.length_reverse]
                    refine lend_mk k [.own 3 1 (nums ((B ++ (M.filter (relQ s id (k + 1))).map (·.id)).take m.toNat)), num ((k : Nat) : Int)] (by omega) ⟨k, B ++ (M.filter (relQ s id (k + 1))).map (·.id), rfl, by omega, by rw [← hB, relG, List.append_assoc], rfl⟩ ?_
                    rw [hall]
                    simp only [hvm_t, hvm_f, hvm_nil, puts_cons, puts_nil, List.set_cons_zero, List.set_cons_succ, num]
                    repeat first | exact Wk.nil | refine Wk.same ?_ | refine wk_any ?_
                · have ei := eq_false (show ¬ (0 : Int) ≤ (M.length : Int) - 1 - (j : Int) by omega)
                  rw [List.take_of_length_le hge2]
                  repeat' first | with_reducible refine asq_dmk (fun _ => ?_) (fun _ => ?_) | with_reducible refine asq_ndmk (fun _ => ?_) (fun _ => ?_) | with_reducible refine asq_nmk (fun _ => ?_) (fun _ => ?_) | with_reducible refine asq_mk (fun _ => ?_) (fun _ => ?_) | with_reducible refine asp_dmk (fun _ => ?_) (fun _ => ?_) | with_reducible refine asp_ndmk (fun _ => ?_) (fun _ => ?_) | with_reducible refine asp_nmk (fun _ => ?_) (fun _ => ?_) | with_reducible refine asp_mk (fun _ => ?_) (fun _ => ?_) | with_reducible refine And.intro (by first | omega | rfl | decide | with_unfolding_all rfl) ?_ | simp only [go_sem, Nat.reduceLT, Nat.reduceAdd, Nat.reduceSub, Nat.reduceMul, Nat.reduceLeDiff, ne_eq, Nat.reduceEqDiff, not_false_eq_true, Bool.and_true, Bool.true_and, Nat.succ_ne_self, and_true, Bool.not_true, Bool.not_false, Int.toNat_zero, Int.reduceToNat, Nat.mul_one, Int.toNat_one, decide_true, decide_false, Int.reduceEq, Int.cast_ofNat_Int, Bool.false_eq_true, Bool.not_true, Bool.not_false, ei, hwk, nums_length, List.length_map, List.length_reverse]
                  refine lend_mk k [.own 3 1 (nums ((B ++ (M.filter (relQ s id (k + 1))).map (·.id)).take m.toNat)), num ((k : Nat) : Int)] (by omega) ⟨k, B ++ (M.filter (relQ s id (k + 1))).map (·.id), rfl, by omega, by rw [← hB, relG, List.append_assoc], rfl⟩ ?_
                  simp only [hvm_t, hvm_f, hvm_nil, puts_cons, puts_nil, List.set_cons_zero, List.set_cons_succ, num]
                  repeat first | exact Wk.nil | refine Wk.same ?_ | refine wk_any ?_
      · have eid := eq_false hid
        repeat' first | with_reducible refine asq_dmk (fun _ => ?_) (fun _ => ?_) | with_reducible refine asq_ndmk (fun _ => ?_) (fun _ => ?_) | with_reducible refine asq_nmk (fun _ => ?_) (fun _ => ?_) | with_reducible refine asq_mk (fun _ => ?_) (fun _ => ?_) | with_reducible refine asp_dmk (fun _ => ?_) (fun _ => ?_) | with_reducible refine asp_ndmk (fun _ => ?_) (fun _ => ?_) | with_reducible refine asp_nmk (fun _ => ?_) (fun _ => ?_) | with_reducible refine asp_mk (fun _ => ?_) (fun _ => ?_) | with_reducible refine And.intro (by first | omega | rfl | decide | with_unfolding_all rfl) ?_ | simp only [go_sem, Nat.reduceLT, Nat.reduceAdd, Nat.reduceSub, Nat.reduceMul, Nat.reduceLeDiff, ne_eq, Nat.reduceEqDiff, not_false_eq_true, Bool.and_true, Bool.true_and, Nat.succ_ne_self, and_true, Bool.not_true, Bool.not_false, Int.toNat_zero, Int.reduceToNat, Nat.mul_one, Int.toNat_one, decide_true, decide_false, Int.reduceEq, Int.cast_ofNat_Int, Bool.false_eq_true, Bool.not_true, Bool.not_false, ejq, ej, hgs, hw, eid, List.length_map, List.length_append, List.length_cons, List.length_nil]
        refine lend_mk (n - 1) [num ((i + 1 : Nat) : Int)] (by omega) ⟨i + 1, by omega, by omega, ?_, rfl⟩ ?_
        · intro y hy
          rw [List.take_add_one, hx] at hy
          simp only [Option.toList_some, List.mem_append, List.mem_singleton] at hy
          rcases hy with hy | rfl
          · exact hno y hy
          · exact hid
        · simp only [hvm_t, hvm_f, hvm_nil, puts_cons, puts_nil, List.set_cons_zero, List.set_cons_succ, num]
          repeat first | exact Wk.nil | refine Wk.same ?_ | refine wk_any ?_
    · have ej := eq_false (show ¬ (i : Int) < (L.length : Int) by omega)
      have ejq := eq_true (show (i : Int) = (L.length : Int) by omega)
      rw [List.take_of_length_le hge] at hno
      repeat' first | with_reducible refine asq_dmk (fun _ => ?_) (fun _ => ?_) | with_reducible refine asq_ndmk (fun _ => ?_) (fun _ => ?_) | with_reducible refine asq_nmk (fun _ => ?_) (fun _ => ?_) | with_reducible refine asq_mk (fun _ => ?_) (fun _ => ?_) | with_reducible refine asp_dmk (fun _ => ?_) (fun _ => ?_) | with_reducible refine asp_ndmk (fun _ => ?_) (fun _ => ?_) | with_reducible refine asp_nmk (fun _ => ?_) (fun _ => ?_) | with_reducible refine asp_mk (fun _ => ?_) (fun _ => ?_) | with_reducible refine And.intro (by first | omega | rfl | decide | with_unfolding_all rfl) ?_ | simp only [go_sem, Nat.reduceLT, Nat.reduceAdd, Nat.reduceSub, Nat.reduceMul, Nat.reduceLeDiff, ne_eq, Nat.reduceEqDiff, not_false_eq_true, Bool.and_true, Bool.true_and, Nat.succ_ne_self, and_true, Bool.not_true, Bool.not_false, Int.toNat_zero, Int.reduceToNat, Nat.mul_one, Int.toNat_one, decide_true, decide_false, Int.reduceEq, Int.cast_ofNat_Int, Bool.false_eq_true, Bool.not_true, Bool.not_false, ej, ejq, List.length_map]
      refine .inl ?_
      rw [relR, find_none hno]
theorem refRelated30 (L : List Sto) (tm : List AV) (id m : Int) (hl : L.length ≤ 10000) (hs : ∀ s ∈ L, StOk s) (ht : ∀ s ∈ L, s.tp.length ≤ 1000) : ACalls Try.prog 30 [stA L tm, num id, num m] (fun r => r = .own 3 1 (nums (relR L id m))) := by
  refine (refRelated30' L tm id m hl hs ht).wkr ?_
  rintro r (⟨rfl, h⟩ | rfl)
  · exact ⟨_, W1.nilown 3 1, rfl, by rw [h]; rfl⟩
  · exact ⟨_, W1.refl _, rfl, rfl⟩
end Go.Proofs.Ytgnclmmijijimaa
