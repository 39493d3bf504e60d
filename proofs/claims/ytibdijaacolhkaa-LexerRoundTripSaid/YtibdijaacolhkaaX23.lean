/- built. -/
import Derived.Test.YtibdijaacolhkaaT
import Derived.Test.YtibdijaacolhkaaA10
import Derived.Test.YtibdijaacolhkaaX22
namespace Go.Proofs.Ytibdijaacolhkaa
open Go.RowKit Go.Proofs
set_option linter.unusedSimpArgs false
set_option linter.unusedVariables false
set_option maxRecDepth 100000
set_option maxHeartbeats 4000000
theorem tk_snoc (l : List Tk) (k : Int) (t : List UInt8) (a : Nat) : l.map tk ++ [.agg [.raw (.int .i64 k), .raw (.string ⟨t.toArray⟩), .raw (.int .i64 (a : Int))]] = (l ++ [(⟨k, t, a⟩ : Tk)]).map tk := by simp [tk, tokA, num, str]
theorem built15 (a : Nat) (ha : a ≤ 100) (ks : List Int) (ws : List (List UInt8)) (gs : List Int) (hkl : ks.length ≤ 9223372036854775807)
    (hks : ∀ k ∈ ks, -9223372036854775808 ≤ k ∧ k ≤ 9223372036854775807) (hws : ∀ w ∈ ws, w.length ≤ 9223372036854775807) (hgs : ∀ k ∈ gs, -9223372036854775808 ≤ k ∧ k ≤ 9223372036854775807) :
    ACalls Try.prog 15 [num a, .sl 1 (nums ks), .sl 1 (ws.map str), .sl 1 (nums gs)] (fun r => ∃ s l, Tag a s l ∧ r = .tup [str s, .own 34 3 (l.map tk)]) := by
  refine calls_short [(1000012,[],[]),(1000014,[],[]),(1000015,[],[])] ttok hmix Try.func15 (by decide) (by decide +kernel) (by simp only [Try.f15, Option.bind_some, comp, cops, cguard, gslot, List.getElem?_toArray, List.getElem?_cons_succ, List.getElem?_cons_zero, vlook, tlook, cutAt_nil, cutAt, firstReg, isCut, mkSeq, Nat.reduceAdd, Nat.reduceEqDiff, reduceIte]; rfl) Try.ntmps15 Try.results15 ⟨_, [123] ++ [] ++ [125], _, ⟨tag_end (tag_open a) (by simp), by simp, by simp, by simp, by simp⟩, rfl⟩ rfl ?_
  simp only [List.length_cons, List.length_nil, Nat.reduceAdd, Nat.reduceSub, List.replicate_succ, List.replicate_zero, List.cons_append, List.nil_append, num, str, tru]
  repeat' first | with_reducible refine asq_dmk (fun _ => ?_) (fun _ => ?_) | with_reducible refine asq_ndmk (fun _ => ?_) (fun _ => ?_) | with_reducible refine asq_nmk (fun _ => ?_) (fun _ => ?_) | with_reducible refine asq_mk (fun _ => ?_) (fun _ => ?_) | with_reducible refine asp_dmk (fun _ => ?_) (fun _ => ?_) | with_reducible refine asp_ndmk (fun _ => ?_) (fun _ => ?_) | with_reducible refine asp_nmk (fun _ => ?_) (fun _ => ?_) | with_reducible refine asp_mk (fun _ => ?_) (fun _ => ?_) | with_reducible refine And.intro (by first | omega | rfl | decide | with_unfolding_all rfl) ?_ | simp only [go_sem, Nat.reduceLT, Nat.reduceAdd, Nat.reduceSub, Nat.reduceMul, Nat.reduceLeDiff, ne_eq, Nat.reduceEqDiff, not_false_eq_true, Bool.and_true, Bool.true_and, Nat.succ_ne_self, and_true, Bool.not_true, Bool.not_false, Int.toNat_zero, Int.reduceToNat, Nat.mul_one, Int.toNat_one, decide_true, decide_false, Int.reduceEq, Int.cast_ofNat_Int, Bool.false_eq_true]
  refine cwp_loop [false, false, false, false, false, false, false, false, false, false, true, true, true, true, true, true, true, true, true, false, false, false, true, true, true, true, true, true, true, true, true, true, true, true, true, true, true, true, true, true, true, true, true, true, true, true, true, true, true, true, true, true, true, true, true, true, true, true, true, true, true, true, true, true, true, true, true, true, true, true, true, true, true, true, true, true, true, true, true, true, true, true, true, true, true, true, true, true, true, true, true, true, true, true, true, true, true, true, true, true, true, true, true, true, true, true, true, false, false, false, false, false, false, false, false, false, false, false, false, false, false, false, false] [10, 11, 12, 13] (fun n xs => ∃ (j : Nat) (s : List UInt8) (l : List Tk) (last : Int), j ≤ ks.length ∧ j ≤ 8 ∧ TagInv a s l last ∧ s.length ≤ 1 + 10 * j ∧ l.length = 1 + j ∧ (last = 2 ∨ last = 3 ∨ last = 4 ∨ last = 5 ∨ last = 6) ∧ (∀ x ∈ l, x.k ≠ 0) ∧ j + n = ks.length ∧ xs = [str s, .own 34 3 (l.map tk), num last, num j]) ⟨ks.length, _, ⟨0, [123], [⟨6, [123], a⟩], 6, by omega, by omega, tag_open a, by simp, by simp, by omega, by simp, by omega, rfl⟩, ?_⟩ ?_
  · simp only [str]
    simp only [hvm_t, hvm_f, hvm_nil, puts_cons, puts_nil, List.set_cons_zero, List.set_cons_succ, num]
    repeat first | exact Wk.nil | refine Wk.same ?_ | refine wk_any ?_
  · rintro n xs ⟨j, s, l, last, hjk, hj8, hinv, hsl, hll, hlast, hl0, hn, rfl⟩
    simp only [str]
    simp only [hvm_t, hvm_f, hvm_nil, puts_cons, puts_nil, List.set_cons_zero, List.set_cons_succ, num]
    by_cases hlt : j < ks.length ∧ j < 8
    · have ej := eq_true (show (j : Int) < (ks.length : Int) by omega)
      have ej8 := eq_true (show (j : Int) < 8 by omega)
      have hw : IntKind.i64.wrap ((j : Int) + 1) = ((j + 1 : Nat) : Int) := wrap_succ (by omega)
      obtain ⟨kj, hkj⟩ : ∃ kj, ks[j]? = some kj := ⟨_, List.getElem?_eq_getElem (by omega)⟩
      have hgk : (nums ks).getD j .any = .raw (.int .i64 kj) := by simp [nums, hkj, num]
      have hkb := hks kj (List.mem_of_getElem? hkj)
      repeat' first | with_reducible refine asq_dmk (fun _ => ?_) (fun _ => ?_) | with_reducible refine asq_ndmk (fun _ => ?_) (fun _ => ?_) | with_reducible refine asq_nmk (fun _ => ?_) (fun _ => ?_) | with_reducible refine asq_mk (fun _ => ?_) (fun _ => ?_) | with_reducible refine asp_dmk (fun _ => ?_) (fun _ => ?_) | with_reducible refine asp_ndmk (fun _ => ?_) (fun _ => ?_) | with_reducible refine asp_nmk (fun _ => ?_) (fun _ => ?_) | with_reducible refine asp_mk (fun _ => ?_) (fun _ => ?_) | with_reducible refine And.intro (by first | omega | rfl | decide | with_unfolding_all rfl) ?_ | simp only [go_sem, Nat.reduceLT, Nat.reduceAdd, Nat.reduceSub, Nat.reduceMul, Nat.reduceLeDiff, ne_eq, Nat.reduceEqDiff, not_false_eq_true, Bool.and_true, Bool.true_and, Nat.succ_ne_self, and_true, Bool.not_true, Bool.not_false, Int.toNat_zero, Int.reduceToNat, Nat.mul_one, Int.toNat_one, decide_true, decide_false, Int.reduceEq, Int.cast_ofNat_Int, Bool.false_eq_true, ej, ej8, hw, hgk, nums_length]
      refine (pick16 kj hkb.1 hkb.2 4 (by omega) (by omega)).mono ?_
      rintro r rfl
      have hkl := pickN_lt (a := kj) (n := 4) (by omega)
      generalize pickN kj 4 = q at hkl
      simp only [num]
      have hkq : ∃ kq : Int, (kq = 2 ∨ kq = 3 ∨ kq = 4 ∨ kq = 5) ∧ ([AV.raw (.int .i64 2), AV.raw (.int .i64 3), AV.raw (.int .i64 4), AV.raw (.int .i64 5)] : List AV).getD q .any = AV.raw (.int .i64 kq) := by
        obtain rfl | rfl | rfl | rfl : q = 0 ∨ q = 1 ∨ q = 2 ∨ q = 3 := by omega
        · exact ⟨2, .inl rfl, rfl⟩
        · exact ⟨3, .inr (.inl rfl), rfl⟩
        · exact ⟨4, .inr (.inr (.inl rfl)), rfl⟩
        · exact ⟨5, .inr (.inr (.inr rfl)), rfl⟩
      obtain ⟨kk, hkk, hqe⟩ := hkq
      repeat' first | with_reducible refine asq_dmk (fun _ => ?_) (fun _ => ?_) | with_reducible refine asq_ndmk (fun _ => ?_) (fun _ => ?_) | with_reducible refine asq_nmk (fun _ => ?_) (fun _ => ?_) | with_reducible refine asq_mk (fun _ => ?_) (fun _ => ?_) | with_reducible refine asp_dmk (fun _ => ?_) (fun _ => ?_) | with_reducible refine asp_ndmk (fun _ => ?_) (fun _ => ?_) | with_reducible refine asp_nmk (fun _ => ?_) (fun _ => ?_) | with_reducible refine asp_mk (fun _ => ?_) (fun _ => ?_) | with_reducible refine And.intro (by first | omega | rfl | decide | with_unfolding_all rfl) ?_ | simp only [go_sem, Nat.reduceLT, Nat.reduceAdd, Nat.reduceSub, Nat.reduceMul, Nat.reduceLeDiff, ne_eq, Nat.reduceEqDiff, not_false_eq_true, Bool.and_true, Bool.true_and, Nat.succ_ne_self, and_true, Bool.not_true, Bool.not_false, Int.toNat_zero, Int.reduceToNat, Nat.mul_one, Int.toNat_one, decide_true, decide_false, Int.reduceEq, Int.cast_ofNat_Int, Bool.false_eq_true, hqe, nums_length, Int.toNat_natCast]
      refine cwp_cut [false, false, false, false, false, false, false, false, false, false, false, false, false, false, false, true, false, false, false, false, false, false, false, false, false, false, false, false, false, false, false, false, false, false, false, false, false, false, false, false, true, true, true, true, true, true, true, true, false, false, false, false, false, false, false, false, false, false, false, false, false, false, false, false, false, false, false, false, false, false, false, false, false, false, false, false, false, false, false, false, false, false, false, false, false, false, false, false, false, false, false, false, false, false, false, false, false, false, false, false, false, false, false, false, false, false, false, false, false, false, false, false, false, false, false, false, false, false, false, false, false, false, false] [15] (fun xs => ∃ w : List UInt8, w.length ≤ 9223372036854775807 ∧ xs = [str w]) ?_ ?_
      · rcases Nat.lt_or_ge j ws.length with hjw | hjw
        · have ew := eq_true (show (j : Int) < (ws.length : Int) by omega)
          obtain ⟨wj, hwj⟩ : ∃ wj, ws[j]? = some wj := ⟨_, List.getElem?_eq_getElem (by omega)⟩
          have hgw : (ws.map str).getD j .any = .raw (.string ⟨wj.toArray⟩) := by simp [hwj, str]
          have hwb := hws wj (List.mem_of_getElem? hwj)
          repeat' first | with_reducible refine asq_dmk (fun _ => ?_) (fun _ => ?_) | with_reducible refine asq_ndmk (fun _ => ?_) (fun _ => ?_) | with_reducible refine asq_nmk (fun _ => ?_) (fun _ => ?_) | with_reducible refine asq_mk (fun _ => ?_) (fun _ => ?_) | with_reducible refine asp_dmk (fun _ => ?_) (fun _ => ?_) | with_reducible refine asp_ndmk (fun _ => ?_) (fun _ => ?_) | with_reducible refine asp_nmk (fun _ => ?_) (fun _ => ?_) | with_reducible refine asp_mk (fun _ => ?_) (fun _ => ?_) | with_reducible refine And.intro (by first | omega | rfl | decide | with_unfolding_all rfl) ?_ | simp only [go_sem, Nat.reduceLT, Nat.reduceAdd, Nat.reduceSub, Nat.reduceMul, Nat.reduceLeDiff, ne_eq, Nat.reduceEqDiff, not_false_eq_true, Bool.and_true, Bool.true_and, Nat.succ_ne_self, and_true, Bool.not_true, Bool.not_false, Int.toNat_zero, Int.reduceToNat, Nat.mul_one, Int.toNat_one, decide_true, decide_false, Int.reduceEq, Int.cast_ofNat_Int, Bool.false_eq_true, ew, hgw, List.length_map]
          refine cut_mk [str wj] ⟨wj, hwb, rfl⟩ ?_
          simp only [str]
          simp only [hvm_t, hvm_f, hvm_nil, puts_cons, puts_nil, List.set_cons_zero, List.set_cons_succ, num]
          repeat first | exact Wk.nil | refine Wk.same ?_ | refine wk_any ?_
        · have ew := eq_false (show ¬ (j : Int) < (ws.length : Int) by omega)
          repeat' first | with_reducible refine asq_dmk (fun _ => ?_) (fun _ => ?_) | with_reducible refine asq_ndmk (fun _ => ?_) (fun _ => ?_) | with_reducible refine asq_nmk (fun _ => ?_) (fun _ => ?_) | with_reducible refine asq_mk (fun _ => ?_) (fun _ => ?_) | with_reducible refine asp_dmk (fun _ => ?_) (fun _ => ?_) | with_reducible refine asp_ndmk (fun _ => ?_) (fun _ => ?_) | with_reducible refine asp_nmk (fun _ => ?_) (fun _ => ?_) | with_reducible refine asp_mk (fun _ => ?_) (fun _ => ?_) | with_reducible refine And.intro (by first | omega | rfl | decide | with_unfolding_all rfl) ?_ | simp only [go_sem, Nat.reduceLT, Nat.reduceAdd, Nat.reduceSub, Nat.reduceMul, Nat.reduceLeDiff, ne_eq, Nat.reduceEqDiff, not_false_eq_true, Bool.and_true, Bool.true_and, Nat.succ_ne_self, and_true, Bool.not_true, Bool.not_false, Int.toNat_zero, Int.reduceToNat, Nat.mul_one, Int.toNat_one, decide_true, decide_false, Int.reduceEq, Int.cast_ofNat_Int, Bool.false_eq_true, ew, List.length_map]
          refine cut_mk [str []] ⟨[], by simp, rfl⟩ ?_
          simp only [str]
          simp only [hvm_t, hvm_f, hvm_nil, puts_cons, puts_nil, List.set_cons_zero, List.set_cons_succ, num]
          repeat first | exact Wk.nil | refine Wk.same ?_ | refine wk_any ?_
      · rintro xs ⟨w, hwl, rfl⟩
        simp only [str]
        simp only [hvm_t, hvm_f, hvm_nil, puts_cons, puts_nil, List.set_cons_zero, List.set_cons_succ, num]
        refine cwp_cut [false, false, false, false, false, false, false, false, false, false, false, false, false, false, false, false, true, false, false, false, false, false, false, false, false, false, false, false, false, false, false, false, false, false, false, false, false, false, false, false, false, false, false, false, false, false, false, false, true, true, true, true, true, true, true, true, false, false, false, false, false, false, false, false, false, false, false, false, false, false, false, false, false, false, false, false, false, false, false, false, false, false, false, false, false, false, false, false, false, false, false, false, false, false, false, false, false, false, false, false, false, false, false, false, false, false, false, false, false, false, false, false, false, false, false, false, false, false, false, false, false, false, false] [16] (fun xs => ∃ g : Int, -9223372036854775808 ≤ g ∧ g ≤ 9223372036854775807 ∧ xs = [num g]) ?_ ?_
        · rcases Nat.lt_or_ge j gs.length with hjg | hjg
          · have eg := eq_true (show (j : Int) < (gs.length : Int) by omega)
            obtain ⟨gj, hgj⟩ : ∃ gj, gs[j]? = some gj := ⟨_, List.getElem?_eq_getElem (by omega)⟩
            have hgg : (nums gs).getD j .any = .raw (.int .i64 gj) := by simp [nums, hgj, num]
            have hgb := hgs gj (List.mem_of_getElem? hgj)
            repeat' first | with_reducible refine asq_dmk (fun _ => ?_) (fun _ => ?_) | with_reducible refine asq_ndmk (fun _ => ?_) (fun _ => ?_) | with_reducible refine asq_nmk (fun _ => ?_) (fun _ => ?_) | with_reducible refine asq_mk (fun _ => ?_) (fun _ => ?_) | with_reducible refine asp_dmk (fun _ => ?_) (fun _ => ?_) | with_reducible refine asp_ndmk (fun _ => ?_) (fun _ => ?_) | with_reducible refine asp_nmk (fun _ => ?_) (fun _ => ?_) | with_reducible refine asp_mk (fun _ => ?_) (fun _ => ?_) | with_reducible refine And.intro (by first | omega | rfl | decide | with_unfolding_all rfl) ?_ | simp only [go_sem, Nat.reduceLT, Nat.reduceAdd, Nat.reduceSub, Nat.reduceMul, Nat.reduceLeDiff, ne_eq, Nat.reduceEqDiff, not_false_eq_true, Bool.and_true, Bool.true_and, Nat.succ_ne_self, and_true, Bool.not_true, Bool.not_false, Int.toNat_zero, Int.reduceToNat, Nat.mul_one, Int.toNat_one, decide_true, decide_false, Int.reduceEq, Int.cast_ofNat_Int, Bool.false_eq_true, eg, hgg, nums_length]
            refine cut_mk [num gj] ⟨gj, hgb.1, hgb.2, rfl⟩ ?_
            simp only [hvm_t, hvm_f, hvm_nil, puts_cons, puts_nil, List.set_cons_zero, List.set_cons_succ, num]
            repeat first | exact Wk.nil | refine Wk.same ?_ | refine wk_any ?_
          · have eg := eq_false (show ¬ (j : Int) < (gs.length : Int) by omega)
            repeat' first | with_reducible refine asq_dmk (fun _ => ?_) (fun _ => ?_) | with_reducible refine asq_ndmk (fun _ => ?_) (fun _ => ?_) | with_reducible refine asq_nmk (fun _ => ?_) (fun _ => ?_) | with_reducible refine asq_mk (fun _ => ?_) (fun _ => ?_) | with_reducible refine asp_dmk (fun _ => ?_) (fun _ => ?_) | with_reducible refine asp_ndmk (fun _ => ?_) (fun _ => ?_) | with_reducible refine asp_nmk (fun _ => ?_) (fun _ => ?_) | with_reducible refine asp_mk (fun _ => ?_) (fun _ => ?_) | with_reducible refine And.intro (by first | omega | rfl | decide | with_unfolding_all rfl) ?_ | simp only [go_sem, Nat.reduceLT, Nat.reduceAdd, Nat.reduceSub, Nat.reduceMul, Nat.reduceLeDiff, ne_eq, Nat.reduceEqDiff, not_false_eq_true, Bool.and_true, Bool.true_and, Nat.succ_ne_self, and_true, Bool.not_true, Bool.not_false, Int.toNat_zero, Int.reduceToNat, Nat.mul_one, Int.toNat_one, decide_true, decide_false, Int.reduceEq, Int.cast_ofNat_Int, Bool.false_eq_true, eg, nums_length]
            refine cut_mk [num 0] ⟨0, by omega, by omega, rfl⟩ ?_
            simp only [hvm_t, hvm_f, hvm_nil, puts_cons, puts_nil, List.set_cons_zero, List.set_cons_succ, num]
            repeat first | exact Wk.nil | refine Wk.same ?_ | refine wk_any ?_
        · rintro xs ⟨g, hg1, hg2, rfl⟩
          simp only [hvm_t, hvm_f, hvm_nil, puts_cons, puts_nil, List.set_cons_zero, List.set_cons_succ, num]
          refine cwp_cut [false, false, false, false, false, false, false, false, false, false, false, false, false, false, false, false, false, true, false, false, false, false, false, false, false, false, false, false, false, false, false, false, false, false, false, false, false, false, false, false, false, false, false, false, false, false, false, false, false, false, false, false, false, false, false, false, true, true, true, true, true, true, true, true, true, true, true, true, true, true, false, false, false, false, false, false, false, false, false, false, false, false, false, false, false, false, false, false, false, false, false, false, false, false, false, false, false, false, false, false, false, false, false, false, false, false, false, false, false, false, false, false, false, false, false, false, false, false, false, false, false, false, false] [17] (fun xs => ∃ b : Bool, (b = false → (last = 2 ∨ last = 3) ∧ (kk = 2 ∨ kk = 3) → False) ∧ xs = [tru b]) ?_ ?_
          · have hl2 : (last = 2) = True ∨ (last = 2) = False := by by_cases h : last = 2 <;> simp [h]
            have hl3 : (last = 3) = True ∨ (last = 3) = False := by by_cases h : last = 3 <;> simp [h]
            rcases hl2 with e2 | e2 <;> rcases hl3 with e3 | e3 <;> rcases hkk with rfl | rfl | rfl | rfl
            all_goals first | (exfalso; have h2 := of_eq_true e2; have h3 := of_eq_true e3; omega) | skip
            all_goals (repeat' first | with_reducible refine asq_dmk (fun _ => ?_) (fun _ => ?_) | with_reducible refine asq_ndmk (fun _ => ?_) (fun _ => ?_) | with_reducible refine asq_nmk (fun _ => ?_) (fun _ => ?_) | with_reducible refine asq_mk (fun _ => ?_) (fun _ => ?_) | with_reducible refine asp_dmk (fun _ => ?_) (fun _ => ?_) | with_reducible refine asp_ndmk (fun _ => ?_) (fun _ => ?_) | with_reducible refine asp_nmk (fun _ => ?_) (fun _ => ?_) | with_reducible refine asp_mk (fun _ => ?_) (fun _ => ?_) | with_reducible refine And.intro (by first | omega | rfl | decide | with_unfolding_all rfl) ?_ | simp only [go_sem, Nat.reduceLT, Nat.reduceAdd, Nat.reduceSub, Nat.reduceMul, Nat.reduceLeDiff, ne_eq, Nat.reduceEqDiff, not_false_eq_true, Bool.and_true, Bool.true_and, Nat.succ_ne_self, and_true, Bool.not_true, Bool.not_false, Int.toNat_zero, Int.reduceToNat, Nat.mul_one, Int.toNat_one, decide_true, decide_false, Int.reduceEq, Int.cast_ofNat_Int, Bool.false_eq_true, e2, e3, Bool.not_true, Bool.not_false])
            all_goals first
              | (refine cut_mk [tru true] ⟨true, by simp, rfl⟩ ?_; simp only [tru]; simp only [hvm_t, hvm_f, hvm_nil, puts_cons, puts_nil, List.set_cons_zero, List.set_cons_succ, num]; (repeat first | exact Wk.nil | refine Wk.same ?_ | refine wk_any ?_); done)
              | (refine cut_mk [tru false] ⟨false, by rintro - ⟨q1, q2⟩; have h2 := e2; have h3 := e3; simp only [eq_iff_iff, iff_true, iff_false] at h2 h3; first | (simp at q1; done) | (simp at q2; done) | omega, rfl⟩ ?_; simp only [tru]; simp only [hvm_t, hvm_f, hvm_nil, puts_cons, puts_nil, List.set_cons_zero, List.set_cons_succ, num]; (repeat first | exact Wk.nil | refine Wk.same ?_ | refine wk_any ?_); done)
          · rintro xs ⟨tb, hsep', rfl⟩
            simp only [hvm_t, hvm_f, hvm_nil, puts_cons, puts_nil, List.set_cons_zero, List.set_cons_succ, num]
            simp only [tru]
            repeat' first | with_reducible refine asq_dmk (fun _ => ?_) (fun _ => ?_) | with_reducible refine asq_ndmk (fun _ => ?_) (fun _ => ?_) | with_reducible refine asq_nmk (fun _ => ?_) (fun _ => ?_) | with_reducible refine asq_mk (fun _ => ?_) (fun _ => ?_) | with_reducible refine asp_dmk (fun _ => ?_) (fun _ => ?_) | with_reducible refine asp_ndmk (fun _ => ?_) (fun _ => ?_) | with_reducible refine asp_nmk (fun _ => ?_) (fun _ => ?_) | with_reducible refine asp_mk (fun _ => ?_) (fun _ => ?_) | with_reducible refine And.intro (by first | omega | rfl | decide | with_unfolding_all rfl) ?_ | simp only [go_sem, Nat.reduceLT, Nat.reduceAdd, Nat.reduceSub, Nat.reduceMul, Nat.reduceLeDiff, ne_eq, Nat.reduceEqDiff, not_false_eq_true, Bool.and_true, Bool.true_and, Nat.succ_ne_self, and_true, Bool.not_true, Bool.not_false, Int.toNat_zero, Int.reduceToNat, Nat.mul_one, Int.toNat_one, decide_true, decide_false, Int.reduceEq, Int.cast_ofNat_Int, Bool.false_eq_true]
            refine (gap20 g hg1 hg2 tb).mono ?_
            rintro r ⟨g2, hg2', rfl⟩
            have hgl0 : g2.length ≤ 2 := hg2'.2.1
            have hsep : g2 = [] → ((last = 2 ∨ last = 3) ∧ (kk = 2 ∨ kk = 3)) → False := fun h0 => by
              cases tb with
              | true => exact fun _ => hg2'.2.2 rfl h0
              | false => exact hsep' rfl
            simp only [str]
            repeat' first | with_reducible refine asq_dmk (fun _ => ?_) (fun _ => ?_) | with_reducible refine asq_ndmk (fun _ => ?_) (fun _ => ?_) | with_reducible refine asq_nmk (fun _ => ?_) (fun _ => ?_) | with_reducible refine asq_mk (fun _ => ?_) (fun _ => ?_) | with_reducible refine asp_dmk (fun _ => ?_) (fun _ => ?_) | with_reducible refine asp_ndmk (fun _ => ?_) (fun _ => ?_) | with_reducible refine asp_nmk (fun _ => ?_) (fun _ => ?_) | with_reducible refine asp_mk (fun _ => ?_) (fun _ => ?_) | with_reducible refine And.intro (by first | omega | rfl | decide | with_unfolding_all rfl) ?_ | simp only [go_sem, Nat.reduceLT, Nat.reduceAdd, Nat.reduceSub, Nat.reduceMul, Nat.reduceLeDiff, ne_eq, Nat.reduceEqDiff, not_false_eq_true, Bool.and_true, Bool.true_and, Nat.succ_ne_self, and_true, Bool.not_true, Bool.not_false, Int.toNat_zero, Int.reduceToNat, Nat.mul_one, Int.toNat_one, decide_true, decide_false, Int.reduceEq, Int.cast_ofNat_Int, Bool.false_eq_true]
            rcases hkk with rfl | rfl | rfl | rfl
            · have hgl := hg2'.2.1
              have hwa : IntKind.i64.wrap ((a : Int) + ((s ++ g2).length : Int)) = ((a + (s ++ g2).length : Nat) : Int) := by
                have : (s ++ g2).length ≤ 200 := by rw [List.length_append]; omega
                rw [wrap_in (by omega) (by omega)]; omega
              refine (word21_2 w hwl).mono ?_
              rintro r ⟨w2, hw2, rfl⟩
              have hw2l : w2.length ≤ 7 := by obtain ⟨bq, hbq, _, _⟩ := hw2; subst hbq; simp; omega
              have hst := tag_step (k := 2) (t := w2) (p := w2) hinv hg2'.1 hlast hsep (piece_name hw2)
              have hsnoc := tk_snoc l 2 w2 (a + (s ++ g2).length)
              have hl2 : (s ++ g2).length ≤ 1 + 10 * j + 2 := by rw [List.length_append]; omega
              obtain ⟨sg, hsg⟩ : ∃ sg, s ++ g2 = sg := ⟨_, rfl⟩
              rw [hsg] at hwa hsnoc hst hl2
              simp only [str, hsg]
              repeat' first | with_reducible refine asq_dmk (fun _ => ?_) (fun _ => ?_) | with_reducible refine asq_ndmk (fun _ => ?_) (fun _ => ?_) | with_reducible refine asq_nmk (fun _ => ?_) (fun _ => ?_) | with_reducible refine asq_mk (fun _ => ?_) (fun _ => ?_) | with_reducible refine asp_dmk (fun _ => ?_) (fun _ => ?_) | with_reducible refine asp_ndmk (fun _ => ?_) (fun _ => ?_) | with_reducible refine asp_nmk (fun _ => ?_) (fun _ => ?_) | with_reducible refine asp_mk (fun _ => ?_) (fun _ => ?_) | with_reducible refine And.intro (by first | omega | rfl | decide | with_unfolding_all rfl) ?_ | simp only [go_sem, Nat.reduceLT, Nat.reduceAdd, Nat.reduceSub, Nat.reduceMul, Nat.reduceLeDiff, ne_eq, Nat.reduceEqDiff, not_false_eq_true, Bool.and_true, Bool.true_and, Nat.succ_ne_self, and_true, Bool.not_true, Bool.not_false, Int.toNat_zero, Int.reduceToNat, Nat.mul_one, Int.toNat_one, decide_true, decide_false, Int.reduceEq, Int.cast_ofNat_Int, Bool.false_eq_true, hw, hwa, hsnoc, List.length_append]
              refine lend_mk (n - 1) [str (sg ++ w2), .own 34 3 ((l ++ [(⟨2, w2, a + sg.length⟩ : Tk)]).map tk), num 2, num ((j + 1 : Nat) : Int)] (by omega) ⟨j + 1, sg ++ w2, l ++ [(⟨2, w2, a + sg.length⟩ : Tk)], 2, by omega, by omega, hst, by simp; omega, by simp; omega, by omega, ?_, by omega, rfl⟩ ?_
              · intro x hx
                rcases List.mem_append.1 hx with hx | hx
                · exact hl0 x hx
                · rw [List.mem_singleton] at hx; subst hx; show (2 : Int) ≠ 0; decide
              · simp only [str]
                simp only [hvm_t, hvm_f, hvm_nil, puts_cons, puts_nil, List.set_cons_zero, List.set_cons_succ, num]
                repeat first | exact Wk.nil | refine Wk.same ?_ | refine wk_any ?_
            · have hgl := hg2'.2.1
              have hwa : IntKind.i64.wrap ((a : Int) + ((s ++ g2).length : Int)) = ((a + (s ++ g2).length : Nat) : Int) := by
                have : (s ++ g2).length ≤ 200 := by rw [List.length_append]; omega
                rw [wrap_in (by omega) (by omega)]; omega
              refine (word21_3 w hwl).mono ?_
              rintro r ⟨w2, hw2, rfl⟩
              have hw2l : w2.length ≤ 7 := by obtain ⟨bq, hbq, _, _⟩ := hw2; subst hbq; simp; omega
              have hst := tag_step (k := 3) (t := w2) (p := w2) hinv hg2'.1 hlast hsep (piece_num hw2)
              have hsnoc := tk_snoc l 3 w2 (a + (s ++ g2).length)
              have hl2 : (s ++ g2).length ≤ 1 + 10 * j + 2 := by rw [List.length_append]; omega
              obtain ⟨sg, hsg⟩ : ∃ sg, s ++ g2 = sg := ⟨_, rfl⟩
              rw [hsg] at hwa hsnoc hst hl2
              simp only [str, hsg]
              repeat' first | with_reducible refine asq_dmk (fun _ => ?_) (fun _ => ?_) | with_reducible refine asq_ndmk (fun _ => ?_) (fun _ => ?_) | with_reducible refine asq_nmk (fun _ => ?_) (fun _ => ?_) | with_reducible refine asq_mk (fun _ => ?_) (fun _ => ?_) | with_reducible refine asp_dmk (fun _ => ?_) (fun _ => ?_) | with_reducible refine asp_ndmk (fun _ => ?_) (fun _ => ?_) | with_reducible refine asp_nmk (fun _ => ?_) (fun _ => ?_) | with_reducible refine asp_mk (fun _ => ?_) (fun _ => ?_) | with_reducible refine And.intro (by first | omega | rfl | decide | with_unfolding_all rfl) ?_ | simp only [go_sem, Nat.reduceLT, Nat.reduceAdd, Nat.reduceSub, Nat.reduceMul, Nat.reduceLeDiff, ne_eq, Nat.reduceEqDiff, not_false_eq_true, Bool.and_true, Bool.true_and, Nat.succ_ne_self, and_true, Bool.not_true, Bool.not_false, Int.toNat_zero, Int.reduceToNat, Nat.mul_one, Int.toNat_one, decide_true, decide_false, Int.reduceEq, Int.cast_ofNat_Int, Bool.false_eq_true, hw, hwa, hsnoc, List.length_append]
              refine lend_mk (n - 1) [str (sg ++ w2), .own 34 3 ((l ++ [(⟨3, w2, a + sg.length⟩ : Tk)]).map tk), num 3, num ((j + 1 : Nat) : Int)] (by omega) ⟨j + 1, sg ++ w2, l ++ [(⟨3, w2, a + sg.length⟩ : Tk)], 3, by omega, by omega, hst, by simp; omega, by simp; omega, by omega, ?_, by omega, rfl⟩ ?_
              · intro x hx
                rcases List.mem_append.1 hx with hx | hx
                · exact hl0 x hx
                · rw [List.mem_singleton] at hx; subst hx; show (3 : Int) ≠ 0; decide
              · simp only [str]
                simp only [hvm_t, hvm_f, hvm_nil, puts_cons, puts_nil, List.set_cons_zero, List.set_cons_succ, num]
                repeat first | exact Wk.nil | refine Wk.same ?_ | refine wk_any ?_
            · have hgl := hg2'.2.1
              have hwa : IntKind.i64.wrap ((a : Int) + ((s ++ g2).length : Int)) = ((a + (s ++ g2).length : Nat) : Int) := by
                have : (s ++ g2).length ≤ 200 := by rw [List.length_append]; omega
                rw [wrap_in (by omega) (by omega)]; omega
              refine (word21_4 w hwl).mono ?_
              rintro r ⟨w2, hw2, rfl⟩
              have hw2l : w2.length ≤ 6 := by have := hw2.2; omega
              have hst := tag_step (k := 4) (t := w2) (p := 34 :: (w2 ++ [34])) hinv hg2'.1 hlast hsep (piece_str hw2)
              have hsnoc := tk_snoc l 4 w2 (a + (s ++ g2).length)
              have hl2 : (s ++ g2).length ≤ 1 + 10 * j + 2 := by rw [List.length_append]; omega
              obtain ⟨sg, hsg⟩ : ∃ sg, s ++ g2 = sg := ⟨_, rfl⟩
              rw [hsg] at hwa hsnoc hst hl2
              simp only [str, hsg]
              repeat' first | with_reducible refine asq_dmk (fun _ => ?_) (fun _ => ?_) | with_reducible refine asq_ndmk (fun _ => ?_) (fun _ => ?_) | with_reducible refine asq_nmk (fun _ => ?_) (fun _ => ?_) | with_reducible refine asq_mk (fun _ => ?_) (fun _ => ?_) | with_reducible refine asp_dmk (fun _ => ?_) (fun _ => ?_) | with_reducible refine asp_ndmk (fun _ => ?_) (fun _ => ?_) | with_reducible refine asp_nmk (fun _ => ?_) (fun _ => ?_) | with_reducible refine asp_mk (fun _ => ?_) (fun _ => ?_) | with_reducible refine And.intro (by first | omega | rfl | decide | with_unfolding_all rfl) ?_ | simp only [go_sem, Nat.reduceLT, Nat.reduceAdd, Nat.reduceSub, Nat.reduceMul, Nat.reduceLeDiff, ne_eq, Nat.reduceEqDiff, not_false_eq_true, Bool.and_true, Bool.true_and, Nat.succ_ne_self, and_true, Bool.not_true, Bool.not_false, Int.toNat_zero, Int.reduceToNat, Nat.mul_one, Int.toNat_one, decide_true, decide_false, Int.reduceEq, Int.cast_ofNat_Int, Bool.false_eq_true, hw, hwa, hsnoc, List.append_assoc, List.cons_append, List.nil_append, List.length_append]
              refine lend_mk (n - 1) [str (sg ++ (34 :: (w2 ++ [34]))), .own 34 3 ((l ++ [(⟨4, w2, a + sg.length⟩ : Tk)]).map tk), num 4, num ((j + 1 : Nat) : Int)] (by omega) ⟨j + 1, sg ++ (34 :: (w2 ++ [34])), l ++ [(⟨4, w2, a + sg.length⟩ : Tk)], 4, by omega, by omega, hst, by simp; omega, by simp; omega, by omega, ?_, by omega, rfl⟩ ?_
              · intro x hx
                rcases List.mem_append.1 hx with hx | hx
                · exact hl0 x hx
                · rw [List.mem_singleton] at hx; subst hx; show (4 : Int) ≠ 0; decide
              · simp only [str]
                simp only [hvm_t, hvm_f, hvm_nil, puts_cons, puts_nil, List.set_cons_zero, List.set_cons_succ, num]
                repeat first | exact Wk.nil | refine Wk.same ?_ | refine wk_any ?_
            · have hgl := hg2'.2.1
              have hwa : IntKind.i64.wrap ((a : Int) + ((s ++ g2).length : Int)) = ((a + (s ++ g2).length : Nat) : Int) := by
                have : (s ++ g2).length ≤ 200 := by rw [List.length_append]; omega
                rw [wrap_in (by omega) (by omega)]; omega
              refine (word21_5 w hwl).mono ?_
              rintro r ⟨w2, hw2, rfl⟩
              have hw2l : w2.length ≤ 6 := by have : w2.length ≤ 6 := hw2; omega
              have hst := tag_step (k := 5) (t := [124]) (p := [124]) hinv hg2'.1 hlast hsep (piece_pipe)
              have hsnoc := tk_snoc l 5 [124] (a + (s ++ g2).length)
              have hl2 : (s ++ g2).length ≤ 1 + 10 * j + 2 := by rw [List.length_append]; omega
              obtain ⟨sg, hsg⟩ : ∃ sg, s ++ g2 = sg := ⟨_, rfl⟩
              rw [hsg] at hwa hsnoc hst hl2
              simp only [str, hsg]
              repeat' first | with_reducible refine asq_dmk (fun _ => ?_) (fun _ => ?_) | with_reducible refine asq_ndmk (fun _ => ?_) (fun _ => ?_) | with_reducible refine asq_nmk (fun _ => ?_) (fun _ => ?_) | with_reducible refine asq_mk (fun _ => ?_) (fun _ => ?_) | with_reducible refine asp_dmk (fun _ => ?_) (fun _ => ?_) | with_reducible refine asp_ndmk (fun _ => ?_) (fun _ => ?_) | with_reducible refine asp_nmk (fun _ => ?_) (fun _ => ?_) | with_reducible refine asp_mk (fun _ => ?_) (fun _ => ?_) | with_reducible refine And.intro (by first | omega | rfl | decide | with_unfolding_all rfl) ?_ | simp only [go_sem, Nat.reduceLT, Nat.reduceAdd, Nat.reduceSub, Nat.reduceMul, Nat.reduceLeDiff, ne_eq, Nat.reduceEqDiff, not_false_eq_true, Bool.and_true, Bool.true_and, Nat.succ_ne_self, and_true, Bool.not_true, Bool.not_false, Int.toNat_zero, Int.reduceToNat, Nat.mul_one, Int.toNat_one, decide_true, decide_false, Int.reduceEq, Int.cast_ofNat_Int, Bool.false_eq_true, hw, hwa, hsnoc, List.length_append]
              refine lend_mk (n - 1) [str (sg ++ [124]), .own 34 3 ((l ++ [(⟨5, [124], a + sg.length⟩ : Tk)]).map tk), num 5, num ((j + 1 : Nat) : Int)] (by omega) ⟨j + 1, sg ++ [124], l ++ [(⟨5, [124], a + sg.length⟩ : Tk)], 5, by omega, by omega, hst, by simp; omega, by simp; omega, by omega, ?_, by omega, rfl⟩ ?_
              · intro x hx
                rcases List.mem_append.1 hx with hx | hx
                · exact hl0 x hx
                · rw [List.mem_singleton] at hx; subst hx; show (5 : Int) ≠ 0; decide
              · simp only [str]
                simp only [hvm_t, hvm_f, hvm_nil, puts_cons, puts_nil, List.set_cons_zero, List.set_cons_succ, num]
                repeat first | exact Wk.nil | refine Wk.same ?_ | refine wk_any ?_
    · rcases Nat.lt_or_ge j ks.length with hjs | hjs
      · have ej := eq_true (show (j : Int) < (ks.length : Int) by omega)
        have ej8 := eq_false (show ¬ (j : Int) < 8 by omega)
        repeat' first | with_reducible refine asq_dmk (fun _ => ?_) (fun _ => ?_) | with_reducible refine asq_ndmk (fun _ => ?_) (fun _ => ?_) | with_reducible refine asq_nmk (fun _ => ?_) (fun _ => ?_) | with_reducible refine asq_mk (fun _ => ?_) (fun _ => ?_) | with_reducible refine asp_dmk (fun _ => ?_) (fun _ => ?_) | with_reducible refine asp_ndmk (fun _ => ?_) (fun _ => ?_) | with_reducible refine asp_nmk (fun _ => ?_) (fun _ => ?_) | with_reducible refine asp_mk (fun _ => ?_) (fun _ => ?_) | with_reducible refine And.intro (by first | omega | rfl | decide | with_unfolding_all rfl) ?_ | simp only [go_sem, Nat.reduceLT, Nat.reduceAdd, Nat.reduceSub, Nat.reduceMul, Nat.reduceLeDiff, ne_eq, Nat.reduceEqDiff, not_false_eq_true, Bool.and_true, Bool.true_and, Nat.succ_ne_self, and_true, Bool.not_true, Bool.not_false, Int.toNat_zero, Int.reduceToNat, Nat.mul_one, Int.toNat_one, decide_true, decide_false, Int.reduceEq, Int.cast_ofNat_Int, Bool.false_eq_true, ej, ej8, nums_length]
        have hgl := ks.length
        refine (gap20 (ks.length : Int) (by omega) (by omega) false).mono ?_
        rintro r ⟨g2, hg2', rfl⟩
        have hgl2 := hg2'.2.1
        have hend := tag_end hinv hg2'.1
        have hsnoc := tk_snoc l 7 [125] (a + (s ++ g2).length)
        have hl2 : (s ++ g2).length ≤ 1 + 10 * j + 2 := by rw [List.length_append]; omega
        obtain ⟨sg, hsg⟩ : ∃ sg, s ++ g2 = sg := ⟨_, rfl⟩
        rw [hsg] at hsnoc hend hl2
        have hwa : IntKind.i64.wrap ((a : Int) + (sg.length : Int)) = ((a + sg.length : Nat) : Int) := by rw [wrap_in (by omega) (by omega)]; omega
        simp only [str, hsg]
        repeat' first | with_reducible refine asq_dmk (fun _ => ?_) (fun _ => ?_) | with_reducible refine asq_ndmk (fun _ => ?_) (fun _ => ?_) | with_reducible refine asq_nmk (fun _ => ?_) (fun _ => ?_) | with_reducible refine asq_mk (fun _ => ?_) (fun _ => ?_) | with_reducible refine asp_dmk (fun _ => ?_) (fun _ => ?_) | with_reducible refine asp_ndmk (fun _ => ?_) (fun _ => ?_) | with_reducible refine asp_nmk (fun _ => ?_) (fun _ => ?_) | with_reducible refine asp_mk (fun _ => ?_) (fun _ => ?_) | with_reducible refine And.intro (by first | omega | rfl | decide | with_unfolding_all rfl) ?_ | simp only [go_sem, Nat.reduceLT, Nat.reduceAdd, Nat.reduceSub, Nat.reduceMul, Nat.reduceLeDiff, ne_eq, Nat.reduceEqDiff, not_false_eq_true, Bool.and_true, Bool.true_and, Nat.succ_ne_self, and_true, Bool.not_true, Bool.not_false, Int.toNat_zero, Int.reduceToNat, Nat.mul_one, Int.toNat_one, decide_true, decide_false, Int.reduceEq, Int.cast_ofNat_Int, Bool.false_eq_true, hwa, hsnoc, hsg]
        refine ⟨sg ++ [125], l ++ [(⟨7, [125], a + sg.length⟩ : Tk)], ⟨hend, ?_, by simp; omega, by simp; omega, by simp⟩, rfl⟩
        intro x hx
        rcases List.mem_append.1 hx with hx | hx
        · exact hl0 x hx
        · rw [List.mem_singleton] at hx; subst hx; show (7 : Int) ≠ 0; decide
      · have ej := eq_false (show ¬ (j : Int) < (ks.length : Int) by omega)
        repeat' first | with_reducible refine asq_dmk (fun _ => ?_) (fun _ => ?_) | with_reducible refine asq_ndmk (fun _ => ?_) (fun _ => ?_) | with_reducible refine asq_nmk (fun _ => ?_) (fun _ => ?_) | with_reducible refine asq_mk (fun _ => ?_) (fun _ => ?_) | with_reducible refine asp_dmk (fun _ => ?_) (fun _ => ?_) | with_reducible refine asp_ndmk (fun _ => ?_) (fun _ => ?_) | with_reducible refine asp_nmk (fun _ => ?_) (fun _ => ?_) | with_reducible refine asp_mk (fun _ => ?_) (fun _ => ?_) | with_reducible refine And.intro (by first | omega | rfl | decide | with_unfolding_all rfl) ?_ | simp only [go_sem, Nat.reduceLT, Nat.reduceAdd, Nat.reduceSub, Nat.reduceMul, Nat.reduceLeDiff, ne_eq, Nat.reduceEqDiff, not_false_eq_true, Bool.and_true, Bool.true_and, Nat.succ_ne_self, and_true, Bool.not_true, Bool.not_false, Int.toNat_zero, Int.reduceToNat, Nat.mul_one, Int.toNat_one, decide_true, decide_false, Int.reduceEq, Int.cast_ofNat_Int, Bool.false_eq_true, ej, nums_length]
        have hgl := ks.length
        refine (gap20 (ks.length : Int) (by omega) (by omega) false).mono ?_
        rintro r ⟨g2, hg2', rfl⟩
        have hgl2 := hg2'.2.1
        have hend := tag_end hinv hg2'.1
        have hsnoc := tk_snoc l 7 [125] (a + (s ++ g2).length)
        have hl2 : (s ++ g2).length ≤ 1 + 10 * j + 2 := by rw [List.length_append]; omega
        obtain ⟨sg, hsg⟩ : ∃ sg, s ++ g2 = sg := ⟨_, rfl⟩
        rw [hsg] at hsnoc hend hl2
        have hwa : IntKind.i64.wrap ((a : Int) + (sg.length : Int)) = ((a + sg.length : Nat) : Int) := by rw [wrap_in (by omega) (by omega)]; omega
        simp only [str, hsg]
        repeat' first | with_reducible refine asq_dmk (fun _ => ?_) (fun _ => ?_) | with_reducible refine asq_ndmk (fun _ => ?_) (fun _ => ?_) | with_reducible refine asq_nmk (fun _ => ?_) (fun _ => ?_) | with_reducible refine asq_mk (fun _ => ?_) (fun _ => ?_) | with_reducible refine asp_dmk (fun _ => ?_) (fun _ => ?_) | with_reducible refine asp_ndmk (fun _ => ?_) (fun _ => ?_) | with_reducible refine asp_nmk (fun _ => ?_) (fun _ => ?_) | with_reducible refine asp_mk (fun _ => ?_) (fun _ => ?_) | with_reducible refine And.intro (by first | omega | rfl | decide | with_unfolding_all rfl) ?_ | simp only [go_sem, Nat.reduceLT, Nat.reduceAdd, Nat.reduceSub, Nat.reduceMul, Nat.reduceLeDiff, ne_eq, Nat.reduceEqDiff, not_false_eq_true, Bool.and_true, Bool.true_and, Nat.succ_ne_self, and_true, Bool.not_true, Bool.not_false, Int.toNat_zero, Int.reduceToNat, Nat.mul_one, Int.toNat_one, decide_true, decide_false, Int.reduceEq, Int.cast_ofNat_Int, Bool.false_eq_true, hwa, hsnoc, hsg]
        refine ⟨sg ++ [125], l ++ [(⟨7, [125], a + sg.length⟩ : Tk)], ⟨hend, ?_, by simp; omega, by simp; omega, by simp⟩, rfl⟩
        intro x hx
        rcases List.mem_append.1 hx with hx | hx
        · exact hl0 x hx
        · rw [List.mem_singleton] at hx; subst hx; show (7 : Int) ≠ 0; decide
end Go.Proofs.Ytibdijaacolhkaa
