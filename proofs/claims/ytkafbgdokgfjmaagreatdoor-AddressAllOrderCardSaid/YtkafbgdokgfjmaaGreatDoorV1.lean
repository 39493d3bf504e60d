/- Parse (without the reference) -/
import Derived.Test.YtkafbgdokgfjmaaGreatDoorT
import Derived.Test.YtkafbgdokgfjmaaGreatDoorA10
import Derived.Test.YtkafbgdokgfjmaaGreatDoorA11
import Derived.Test.YtkafbgdokgfjmaaGreatDoorM4
namespace Go.Proofs.YtkafbgdokgfjmaaGreatDoor
open Go.RowKit Go.Proofs
set_option linter.unusedSimpArgs false
set_option linter.unusedVariables false
set_option maxRecDepth 100000
set_option maxHeartbeats 4000000

theorem split35 (s : Str) (hs : s.length ≤ 1000000) : ACalls Tryz.prog 35 [str s, str [47], num 5] (fun r => r = .sl 1 ((splL s).map str)) := by
  refine (splitN_raw Tryz.lays147 (by kernel_rfl) ndZ ⟨_, _, Tryz.func35, rfl, by decide⟩ (by exact List.mem_cons_of_mem _ (List.mem_cons_of_mem _ (List.mem_cons_self))) s [47] 5 (by omega) (by simp) (by omega) (by omega)).wkr ?_
  rintro r rfl
  exact ⟨_, W1.ownsl _ _ _, rfl, rfl⟩
theorem atoi37 (s : Str) (hs : s.length ≤ 1000000) : ACalls Tryz.prog 37 [str s] (fun r => r = .tup [num (atoiV s), .any]) :=
  atoi_raw Tryz.laysC172 ndZ ⟨_, _, Tryz.func37, rfl, by decide⟩ s (by omega) (by exact List.mem_cons_self) (by exact List.mem_cons_of_mem _ List.mem_cons_self)
theorem splitK_len (sep : Str) : ∀ (k : Nat) (s : Str), ∀ p ∈ Lib.splitK sep 0 k s, p.length ≤ s.length
  | 0, s, p, h => by
    rw [Lib.splitK, List.mem_singleton] at h
    rw [h]; exact Nat.le_refl _
  | k + 1, s, p, h => by
    rw [Lib.splitK] at h
    split at h
    · rw [List.mem_singleton] at h
      rw [h]; exact Nat.le_refl _
    · rw [List.mem_cons] at h
      rcases h with rfl | h
      · rw [List.length_take]; omega
      · have := splitK_len sep k _ p h
        rw [List.length_drop] at this; omega
theorem spl_len {s : Str} {i : Nat} : ((splL s).getD i []).length ≤ s.length := by
  rw [List.getD_eq_getElem?_getD]
  cases h : (splL s)[i]? with
  | none => simp
  | some p => exact splitK_len _ _ _ _ (List.mem_of_getElem? h)
theorem strs_getD {l : List Str} {i : Nat} (h : i < l.length) : (l.map str).getD i .any = .raw (.string ⟨(l.getD i []).toArray⟩) := by
  simp [List.getD_eq_getElem?_getD, h, str]
theorem is36 (n : Nat) (w : Str) (ps : List Str) (hn : 2 ≤ n) (hn2 : n ≤ 100) (hl : ps.length ≤ 1000000) : ACalls Tryz.prog 36 [num n, str w, .elt (.agg [.sl 1 (ps.map str)])] (fun r => r = tru (decide (ps.length = n ∧ ps.getD 1 [] = w))) := by
  refine calls_short [] ttok hmix Tryz.func36 (by decide) (by decide +kernel) (by simp only [Tryz.f36, Option.bind_some, comp, isLend, lendOf, lendX, lendC, lendH, Nat.reduceLeDiff, Nat.reduceSub, ne_eq, not_false_eq_true, and_self, cops, cguard, gslot, List.getElem?_toArray, List.getElem?_cons_succ, List.getElem?_cons_zero, vlook, tlook, cutAt_nil, cutAt, firstReg, isCut, mkSeq, Nat.reduceAdd, Nat.reduceEqDiff, reduceIte]; rfl) Tryz.ntmps36 Tryz.results36 ⟨_, rfl⟩ rfl ?_
  simp only [List.length_cons, List.length_nil, Nat.reduceAdd, Nat.reduceSub, List.replicate_succ, List.replicate_zero, List.cons_append, List.nil_append, num, str, tru]
  by_cases h1 : ps.length = n
  · have e1 := eq_true (show (ps.length : Int) = (n : Int) by omega)
    have hg := strs_getD (l := ps) (i := 1) (by omega)
    repeat' first|refine Spl.on (fun _=>?_) (fun _=>?_)|with_reducible refine gd ?_|simp only [go_sem, Int.reduceEq, List.length_nil, e1, hg, List.length_map]
    all_goals first | omega | (simp [h1, tru]; rw [Bool.eq_iff_iff]; simp; done)
  · have e1 := eq_false (show ¬ (ps.length : Int) = (n : Int) by omega)
    repeat' first|refine Spl.on (fun _=>?_) (fun _=>?_)|with_reducible refine gd ?_|simp only [go_sem, Int.reduceEq, List.length_nil, e1, List.length_map]
    all_goals first | omega | (simp [h1, tru]; done)
def parseA (o : Option Adr) : AV := match o with
  | some a => .tup [adrA a, num 0]
  | none => .tup [adrA adr0, num 120]
theorem parse20 (s : Str) (hs : s.length ≤ 1000000) : ACalls Tryz.prog 20 [str s] (fun r => r = parseA (parseL s)) := by
  have hll : (splL s).length ≤ 1000000 := by
    have h := Lib.splitB_length_le (bsOf [47]) 0 (min 5 (s.length + 1) - 1) (bsOf s)
    have h2 := congrArg List.length (Lib.splitB_data (bsOf [47]) 0 (min 5 (s.length + 1) - 1) (bsOf s))
    rw [List.length_map, bsOf_toList, bsOf_toList] at h2
    unfold splL
    omega
  refine calls_short [(2,[4],[])] ttok hmix Tryz.func20 (by decide) (by decide +kernel) (by simp only [Tryz.f20, Option.bind_some, comp, isLend, lendOf, lendX, lendC, lendH, Nat.reduceLeDiff, Nat.reduceSub, ne_eq, not_false_eq_true, and_self, cops, cguard, gslot, List.getElem?_toArray, List.getElem?_cons_succ, List.getElem?_cons_zero, vlook, tlook, cutAt_nil, cutAt, firstReg, isCut, mkSeq, Nat.reduceAdd, Nat.reduceEqDiff, reduceIte]; rfl) Tryz.ntmps20 Tryz.results20 ⟨_, rfl⟩ rfl ?_
  simp only [List.length_cons, List.length_nil, Nat.reduceAdd, Nat.reduceSub, List.replicate_succ, List.replicate_zero, List.cons_append, List.nil_append, num, str, tru]
  by_cases h1 : s = [47]
  · have e1 : (s == [47]) = true := by rw [h1]; rfl
    have hcand : cand s = ⟨1, [], 0, []⟩ := by rw [cand, if_pos h1]
    repeat' first|refine Spl.on (fun _=>?_) (fun _=>?_)|with_reducible refine gd ?_|simp only [go_sem, Int.reduceEq, List.length_nil, e1]
    refine ((split35 s hs).wk ?_).mono ?_
    · try simp only [num, str]
      repeat first | exact Wk.nil | exact Wk.refl _ | refine wk_agg ?_ ?_ | refine wk_ownsl ?_ | refine wk_nilsl ?_ | refine Wk.same ?_
    rintro r rfl
    try simp only [tru, num, str]
    repeat' first|refine Spl.on (fun _=>?_) (fun _=>?_)|with_reducible refine gd ?_|simp only [go_sem, Int.reduceEq, List.length_nil, e1]
    refine ((format14 ⟨1, [], 0, []⟩).wk ?_).mono ?_
    · try simp only [adrA, num, str]
      repeat first | exact Wk.nil | exact Wk.refl _ | refine wk_agg ?_ ?_ | refine wk_ownsl ?_ | refine wk_nilsl ?_ | refine Wk.same ?_
    rintro r rfl
    try simp only [tru, num, str]
    repeat' first|refine Spl.on (fun _=>?_) (fun _=>?_)|with_reducible refine gd ?_|simp only [go_sem, Int.reduceEq, List.length_nil, e1]
    have hps : parseL s = if validL ⟨1, [], 0, []⟩ = true ∧ fmtL ⟨1, [], 0, []⟩ = s then some ⟨1, [], 0, []⟩ else none := by rw [parseL, hcand]
    rw [hps]
    cases hv : validL ⟨1, [], 0, []⟩
    · simp only [fmtA, hv, Bool.false_eq_true, if_false, false_and, num, str]
      repeat' first|refine Spl.on (fun _=>?_) (fun _=>?_)|with_reducible refine gd ?_|simp only [go_sem, Int.reduceEq, List.length_nil, e1]
      all_goals first | rfl | (simp [parseA, adrA, adr0, num, str]; done)
    · by_cases hf : fmtL ⟨1, [], 0, []⟩ = s
      · have hf' : (fmtL ⟨1, [], 0, []⟩ == s) = true := by rw [hf]; simp
        simp only [fmtA, hv, hf, if_true, and_self, num, str]
        repeat' first|refine Spl.on (fun _=>?_) (fun _=>?_)|with_reducible refine gd ?_|simp only [go_sem, Int.reduceEq, List.length_nil, hf, e1]
        all_goals first | rfl | (simp [parseA, adrA, num, str]; done) | (simp_all; done)
      · have hf' : (fmtL ⟨1, [], 0, []⟩ == s) = false := by
          cases h : (fmtL ⟨1, [], 0, []⟩ == s) with
          | false => rfl
          | true => exact absurd (beq_iff_eq.1 h) hf
        simp only [fmtA, hv, hf, if_true, if_false, and_false, num, str]
        repeat' first|refine Spl.on (fun _=>?_) (fun _=>?_)|with_reducible refine gd ?_|simp only [go_sem, Int.reduceEq, List.length_nil, hf', e1]
        all_goals first | rfl | (simp [parseA, adrA, adr0, num, str]; done) | (simp_all; done)
  · have e1 : (s == [47]) = false := by simp [h1]
    by_cases h2 : s = 47 :: wMap
    · have e2 : (s == [47, 109, 97, 112]) = true := by rw [h2]; rfl
      have hcand : cand s = ⟨6, [], 0, []⟩ := by rw [cand, if_neg h1, if_pos h2]
      repeat' first|refine Spl.on (fun _=>?_) (fun _=>?_)|with_reducible refine gd ?_|simp only [go_sem, Int.reduceEq, List.length_nil, e1, e2]
      refine ((split35 s hs).wk ?_).mono ?_
      · try simp only [num, str]
        repeat first | exact Wk.nil | exact Wk.refl _ | refine wk_agg ?_ ?_ | refine wk_ownsl ?_ | refine wk_nilsl ?_ | refine Wk.same ?_
      rintro r rfl
      try simp only [tru, num, str]
      repeat' first|refine Spl.on (fun _=>?_) (fun _=>?_)|with_reducible refine gd ?_|simp only [go_sem, Int.reduceEq, List.length_nil, e1, e2]
      refine ((format14 ⟨6, [], 0, []⟩).wk ?_).mono ?_
      · try simp only [adrA, num, str]
        repeat first | exact Wk.nil | exact Wk.refl _ | refine wk_agg ?_ ?_ | refine wk_ownsl ?_ | refine wk_nilsl ?_ | refine Wk.same ?_
      rintro r rfl
      try simp only [tru, num, str]
      repeat' first|refine Spl.on (fun _=>?_) (fun _=>?_)|with_reducible refine gd ?_|simp only [go_sem, Int.reduceEq, List.length_nil, e1, e2]
      have hps : parseL s = if validL ⟨6, [], 0, []⟩ = true ∧ fmtL ⟨6, [], 0, []⟩ = s then some ⟨6, [], 0, []⟩ else none := by rw [parseL, hcand]
      rw [hps]
      cases hv : validL ⟨6, [], 0, []⟩
      · simp only [fmtA, hv, Bool.false_eq_true, if_false, false_and, num, str]
        repeat' first|refine Spl.on (fun _=>?_) (fun _=>?_)|with_reducible refine gd ?_|simp only [go_sem, Int.reduceEq, List.length_nil, e1, e2]
        all_goals first | rfl | (simp [parseA, adrA, adr0, num, str]; done)
      · by_cases hf : fmtL ⟨6, [], 0, []⟩ = s
        · have hf' : (fmtL ⟨6, [], 0, []⟩ == s) = true := by rw [hf]; simp
          simp only [fmtA, hv, hf, if_true, and_self, num, str]
          repeat' first|refine Spl.on (fun _=>?_) (fun _=>?_)|with_reducible refine gd ?_|simp only [go_sem, Int.reduceEq, List.length_nil, hf, e1, e2]
          all_goals first | rfl | (simp [parseA, adrA, num, str]; done) | (simp_all; done)
        · have hf' : (fmtL ⟨6, [], 0, []⟩ == s) = false := by
            cases h : (fmtL ⟨6, [], 0, []⟩ == s) with
            | false => rfl
            | true => exact absurd (beq_iff_eq.1 h) hf
          simp only [fmtA, hv, hf, if_true, if_false, and_false, num, str]
          repeat' first|refine Spl.on (fun _=>?_) (fun _=>?_)|with_reducible refine gd ?_|simp only [go_sem, Int.reduceEq, List.length_nil, hf', e1, e2]
          all_goals first | rfl | (simp [parseA, adrA, adr0, num, str]; done) | (simp_all; done)
    · have e2 : (s == [47, 109, 97, 112]) = false := by
        cases h : (s == [47, 109, 97, 112]) with
        | false => rfl
        | true => exact absurd (beq_iff_eq.1 h) h2
      by_cases h4s : (splL s).length = 4 ∧ (splL s).getD 1 [] = wStory
      · have hln : (splL s).length = 4 := h4s.1
        have hg2 := strs_getD (l := splL s) (i := 2) (by omega)
        have hg3 := strs_getD (l := splL s) (i := 3) (by omega)
        have hcand : cand s = ⟨2, [], atoiV ((splL s).getD 2 []), (splL s).getD 3 []⟩ := by rw [cand, if_neg h1, if_neg h2, if_pos h4s]
        repeat' first|refine Spl.on (fun _=>?_) (fun _=>?_)|with_reducible refine gd ?_|simp only [go_sem, Int.reduceEq, List.length_nil, e1, e2, List.length_map, hg2, hg3]
        refine ((split35 s hs).wk ?_).mono ?_
        · try simp only [num, str]
          repeat first | exact Wk.nil | exact Wk.refl _ | refine wk_agg ?_ ?_ | refine wk_ownsl ?_ | refine wk_nilsl ?_ | refine Wk.same ?_
        rintro r rfl
        try simp only [tru, num, str]
        repeat' first|refine Spl.on (fun _=>?_) (fun _=>?_)|with_reducible refine gd ?_|simp only [go_sem, Int.reduceEq, List.length_nil, e1, e2, List.length_map, hg2, hg3]
        refine ((is36 4 wStory (splL s) (by omega) (by omega) hll).wk ?_).mono ?_
        · simp only [num, str, wStory, wTopic, wBy, wFeed]
          repeat first | exact Wk.nil | exact Wk.refl _ | refine wk_agg ?_ ?_ | refine wk_ownsl ?_ | refine wk_nilsl ?_ | refine Wk.same ?_
        rintro r rfl
        rw [decide_eq_true h4s]
        try simp only [tru, num, str]
        repeat' first|refine Spl.on (fun _=>?_) (fun _=>?_)|with_reducible refine gd ?_|simp only [go_sem, Int.reduceEq, List.length_nil, e1, e2, List.length_map, hg2, hg3]
        refine ((atoi37 ((splL s).getD 2 []) (Nat.le_trans spl_len hs)).wk ?_).mono ?_
        · try simp only [num, str]
          repeat first | exact Wk.nil | exact Wk.refl _ | refine wk_agg ?_ ?_ | refine wk_ownsl ?_ | refine wk_nilsl ?_ | refine Wk.same ?_
        rintro r rfl
        try simp only [tru, num, str]
        repeat' first|refine Spl.on (fun _=>?_) (fun _=>?_)|with_reducible refine gd ?_|simp only [go_sem, Int.reduceEq, List.length_nil, e1, e2, List.length_map, hg2, hg3]
        refine ((format14 ⟨2, [], atoiV ((splL s).getD 2 []), (splL s).getD 3 []⟩).wk ?_).mono ?_
        · try simp only [adrA, adr0, num, str]
          repeat first | exact Wk.nil | exact Wk.refl _ | refine wk_agg ?_ ?_ | refine wk_ownsl ?_ | refine wk_nilsl ?_ | refine Wk.same ?_
        rintro r rfl
        try simp only [tru, num, str]
        repeat' first|refine Spl.on (fun _=>?_) (fun _=>?_)|with_reducible refine gd ?_|simp only [go_sem, Int.reduceEq, List.length_nil, e1, e2, List.length_map, hg2, hg3]
        have hps : parseL s = if validL ⟨2, [], atoiV ((splL s).getD 2 []), (splL s).getD 3 []⟩ = true ∧ fmtL ⟨2, [], atoiV ((splL s).getD 2 []), (splL s).getD 3 []⟩ = s then some ⟨2, [], atoiV ((splL s).getD 2 []), (splL s).getD 3 []⟩ else none := by rw [parseL, hcand]
        rw [hps]
        cases hv : validL ⟨2, [], atoiV ((splL s).getD 2 []), (splL s).getD 3 []⟩
        · simp only [fmtA, hv, Bool.false_eq_true, if_false, false_and, num, str]
          repeat' first|refine Spl.on (fun _=>?_) (fun _=>?_)|with_reducible refine gd ?_|simp only [go_sem, Int.reduceEq, List.length_nil, e1, e2, List.length_map, hg2, hg3]
          all_goals first | rfl | (simp [parseA, adrA, adr0, num, str]; done)
        · by_cases hf : fmtL ⟨2, [], atoiV ((splL s).getD 2 []), (splL s).getD 3 []⟩ = s
          · have hf' : (fmtL ⟨2, [], atoiV ((splL s).getD 2 []), (splL s).getD 3 []⟩ == s) = true := by rw [hf]; simp
            simp only [fmtA, hv, hf, if_true, and_self, num, str]
            repeat' first|refine Spl.on (fun _=>?_) (fun _=>?_)|with_reducible refine gd ?_|simp only [go_sem, Int.reduceEq, List.length_nil, hf, e1, e2, List.length_map, hg2, hg3]
            all_goals first | rfl | (simp [parseA, adrA, num, str]; done) | (simp_all; done)
          · have hf' : (fmtL ⟨2, [], atoiV ((splL s).getD 2 []), (splL s).getD 3 []⟩ == s) = false := by
              cases h : (fmtL ⟨2, [], atoiV ((splL s).getD 2 []), (splL s).getD 3 []⟩ == s) with
              | false => rfl
              | true => exact absurd (beq_iff_eq.1 h) hf
            simp only [fmtA, hv, hf, if_true, if_false, and_false, num, str]
            repeat' first|refine Spl.on (fun _=>?_) (fun _=>?_)|with_reducible refine gd ?_|simp only [go_sem, Int.reduceEq, List.length_nil, hf', e1, e2, List.length_map, hg2, hg3]
            all_goals first | rfl | (simp [parseA, adrA, adr0, num, str]; done) | (simp_all; done)
      · by_cases h4t : (splL s).length = 4 ∧ (splL s).getD 1 [] = wTopic
        · have hln : (splL s).length = 4 := h4t.1
          have hg2 := strs_getD (l := splL s) (i := 2) (by omega)
          have hg3 := strs_getD (l := splL s) (i := 3) (by omega)
          have hcand : cand s = ⟨3, (splL s).getD 2 [], atoiV ((splL s).getD 3 []), []⟩ := by rw [cand, if_neg h1, if_neg h2, if_neg h4s, if_pos h4t]
          repeat' first|refine Spl.on (fun _=>?_) (fun _=>?_)|with_reducible refine gd ?_|simp only [go_sem, Int.reduceEq, List.length_nil, e1, e2, List.length_map, hg2, hg3]
          refine ((split35 s hs).wk ?_).mono ?_
          · try simp only [num, str]
            repeat first | exact Wk.nil | exact Wk.refl _ | refine wk_agg ?_ ?_ | refine wk_ownsl ?_ | refine wk_nilsl ?_ | refine Wk.same ?_
          rintro r rfl
          try simp only [tru, num, str]
          repeat' first|refine Spl.on (fun _=>?_) (fun _=>?_)|with_reducible refine gd ?_|simp only [go_sem, Int.reduceEq, List.length_nil, e1, e2, List.length_map, hg2, hg3]
          refine ((is36 4 wStory (splL s) (by omega) (by omega) hll).wk ?_).mono ?_
          · simp only [num, str, wStory, wTopic, wBy, wFeed]
            repeat first | exact Wk.nil | exact Wk.refl _ | refine wk_agg ?_ ?_ | refine wk_ownsl ?_ | refine wk_nilsl ?_ | refine Wk.same ?_
          rintro r rfl
          rw [decide_eq_false h4s]
          try simp only [tru, num, str]
          repeat' first|refine Spl.on (fun _=>?_) (fun _=>?_)|with_reducible refine gd ?_|simp only [go_sem, Int.reduceEq, List.length_nil, e1, e2, List.length_map, hg2, hg3]
          refine ((is36 4 wTopic (splL s) (by omega) (by omega) hll).wk ?_).mono ?_
          · simp only [num, str, wStory, wTopic, wBy, wFeed]
            repeat first | exact Wk.nil | exact Wk.refl _ | refine wk_agg ?_ ?_ | refine wk_ownsl ?_ | refine wk_nilsl ?_ | refine Wk.same ?_
          rintro r rfl
          rw [decide_eq_true h4t]
          try simp only [tru, num, str]
          repeat' first|refine Spl.on (fun _=>?_) (fun _=>?_)|with_reducible refine gd ?_|simp only [go_sem, Int.reduceEq, List.length_nil, e1, e2, List.length_map, hg2, hg3]
          refine ((atoi37 ((splL s).getD 3 []) (Nat.le_trans spl_len hs)).wk ?_).mono ?_
          · try simp only [num, str]
            repeat first | exact Wk.nil | exact Wk.refl _ | refine wk_agg ?_ ?_ | refine wk_ownsl ?_ | refine wk_nilsl ?_ | refine Wk.same ?_
          rintro r rfl
          try simp only [tru, num, str]
          repeat' first|refine Spl.on (fun _=>?_) (fun _=>?_)|with_reducible refine gd ?_|simp only [go_sem, Int.reduceEq, List.length_nil, e1, e2, List.length_map, hg2, hg3]
          refine ((format14 ⟨3, (splL s).getD 2 [], atoiV ((splL s).getD 3 []), []⟩).wk ?_).mono ?_
          · try simp only [adrA, adr0, num, str]
            repeat first | exact Wk.nil | exact Wk.refl _ | refine wk_agg ?_ ?_ | refine wk_ownsl ?_ | refine wk_nilsl ?_ | refine Wk.same ?_
          rintro r rfl
          try simp only [tru, num, str]
          repeat' first|refine Spl.on (fun _=>?_) (fun _=>?_)|with_reducible refine gd ?_|simp only [go_sem, Int.reduceEq, List.length_nil, e1, e2, List.length_map, hg2, hg3]
          have hps : parseL s = if validL ⟨3, (splL s).getD 2 [], atoiV ((splL s).getD 3 []), []⟩ = true ∧ fmtL ⟨3, (splL s).getD 2 [], atoiV ((splL s).getD 3 []), []⟩ = s then some ⟨3, (splL s).getD 2 [], atoiV ((splL s).getD 3 []), []⟩ else none := by rw [parseL, hcand]
          rw [hps]
          cases hv : validL ⟨3, (splL s).getD 2 [], atoiV ((splL s).getD 3 []), []⟩
          · simp only [fmtA, hv, Bool.false_eq_true, if_false, false_and, num, str]
            repeat' first|refine Spl.on (fun _=>?_) (fun _=>?_)|with_reducible refine gd ?_|simp only [go_sem, Int.reduceEq, List.length_nil, e1, e2, List.length_map, hg2, hg3]
            all_goals first | rfl | (simp [parseA, adrA, adr0, num, str]; done)
          · by_cases hf : fmtL ⟨3, (splL s).getD 2 [], atoiV ((splL s).getD 3 []), []⟩ = s
            · have hf' : (fmtL ⟨3, (splL s).getD 2 [], atoiV ((splL s).getD 3 []), []⟩ == s) = true := by rw [hf]; simp
              simp only [fmtA, hv, hf, if_true, and_self, num, str]
              repeat' first|refine Spl.on (fun _=>?_) (fun _=>?_)|with_reducible refine gd ?_|simp only [go_sem, Int.reduceEq, List.length_nil, hf, e1, e2, List.length_map, hg2, hg3]
              all_goals first | rfl | (simp [parseA, adrA, num, str]; done) | (simp_all; done)
            · have hf' : (fmtL ⟨3, (splL s).getD 2 [], atoiV ((splL s).getD 3 []), []⟩ == s) = false := by
                cases h : (fmtL ⟨3, (splL s).getD 2 [], atoiV ((splL s).getD 3 []), []⟩ == s) with
                | false => rfl
                | true => exact absurd (beq_iff_eq.1 h) hf
              simp only [fmtA, hv, hf, if_true, if_false, and_false, num, str]
              repeat' first|refine Spl.on (fun _=>?_) (fun _=>?_)|with_reducible refine gd ?_|simp only [go_sem, Int.reduceEq, List.length_nil, hf', e1, e2, List.length_map, hg2, hg3]
              all_goals first | rfl | (simp [parseA, adrA, adr0, num, str]; done) | (simp_all; done)
        · by_cases h3b : (splL s).length = 3 ∧ (splL s).getD 1 [] = wBy
          · have hln : (splL s).length = 3 := h3b.1
            have hg2 := strs_getD (l := splL s) (i := 2) (by omega)
            have hcand : cand s = ⟨4, (splL s).getD 2 [], 0, []⟩ := by rw [cand, if_neg h1, if_neg h2, if_neg h4s, if_neg h4t, if_pos h3b]
            repeat' first|refine Spl.on (fun _=>?_) (fun _=>?_)|with_reducible refine gd ?_|simp only [go_sem, Int.reduceEq, List.length_nil, e1, e2, List.length_map, hg2]
            refine ((split35 s hs).wk ?_).mono ?_
            · try simp only [num, str]
              repeat first | exact Wk.nil | exact Wk.refl _ | refine wk_agg ?_ ?_ | refine wk_ownsl ?_ | refine wk_nilsl ?_ | refine Wk.same ?_
            rintro r rfl
            try simp only [tru, num, str]
            repeat' first|refine Spl.on (fun _=>?_) (fun _=>?_)|with_reducible refine gd ?_|simp only [go_sem, Int.reduceEq, List.length_nil, e1, e2, List.length_map, hg2]
            refine ((is36 4 wStory (splL s) (by omega) (by omega) hll).wk ?_).mono ?_
            · simp only [num, str, wStory, wTopic, wBy, wFeed]
              repeat first | exact Wk.nil | exact Wk.refl _ | refine wk_agg ?_ ?_ | refine wk_ownsl ?_ | refine wk_nilsl ?_ | refine Wk.same ?_
            rintro r rfl
            rw [decide_eq_false h4s]
            try simp only [tru, num, str]
            repeat' first|refine Spl.on (fun _=>?_) (fun _=>?_)|with_reducible refine gd ?_|simp only [go_sem, Int.reduceEq, List.length_nil, e1, e2, List.length_map, hg2]
            refine ((is36 4 wTopic (splL s) (by omega) (by omega) hll).wk ?_).mono ?_
            · simp only [num, str, wStory, wTopic, wBy, wFeed]
              repeat first | exact Wk.nil | exact Wk.refl _ | refine wk_agg ?_ ?_ | refine wk_ownsl ?_ | refine wk_nilsl ?_ | refine Wk.same ?_
            rintro r rfl
            rw [decide_eq_false h4t]
            try simp only [tru, num, str]
            repeat' first|refine Spl.on (fun _=>?_) (fun _=>?_)|with_reducible refine gd ?_|simp only [go_sem, Int.reduceEq, List.length_nil, e1, e2, List.length_map, hg2]
            refine ((is36 3 wBy (splL s) (by omega) (by omega) hll).wk ?_).mono ?_
            · simp only [num, str, wStory, wTopic, wBy, wFeed]
              repeat first | exact Wk.nil | exact Wk.refl _ | refine wk_agg ?_ ?_ | refine wk_ownsl ?_ | refine wk_nilsl ?_ | refine Wk.same ?_
            rintro r rfl
            rw [decide_eq_true h3b]
            try simp only [tru, num, str]
            repeat' first|refine Spl.on (fun _=>?_) (fun _=>?_)|with_reducible refine gd ?_|simp only [go_sem, Int.reduceEq, List.length_nil, e1, e2, List.length_map, hg2]
            refine ((format14 ⟨4, (splL s).getD 2 [], 0, []⟩).wk ?_).mono ?_
            · try simp only [adrA, adr0, num, str]
              repeat first | exact Wk.nil | exact Wk.refl _ | refine wk_agg ?_ ?_ | refine wk_ownsl ?_ | refine wk_nilsl ?_ | refine Wk.same ?_
            rintro r rfl
            try simp only [tru, num, str]
            repeat' first|refine Spl.on (fun _=>?_) (fun _=>?_)|with_reducible refine gd ?_|simp only [go_sem, Int.reduceEq, List.length_nil, e1, e2, List.length_map, hg2]
            have hps : parseL s = if validL ⟨4, (splL s).getD 2 [], 0, []⟩ = true ∧ fmtL ⟨4, (splL s).getD 2 [], 0, []⟩ = s then some ⟨4, (splL s).getD 2 [], 0, []⟩ else none := by rw [parseL, hcand]
            rw [hps]
            cases hv : validL ⟨4, (splL s).getD 2 [], 0, []⟩
            · simp only [fmtA, hv, Bool.false_eq_true, if_false, false_and, num, str]
              repeat' first|refine Spl.on (fun _=>?_) (fun _=>?_)|with_reducible refine gd ?_|simp only [go_sem, Int.reduceEq, List.length_nil, e1, e2, List.length_map, hg2]
              all_goals first | rfl | (simp [parseA, adrA, adr0, num, str]; done)
            · by_cases hf : fmtL ⟨4, (splL s).getD 2 [], 0, []⟩ = s
              · have hf' : (fmtL ⟨4, (splL s).getD 2 [], 0, []⟩ == s) = true := by rw [hf]; simp
                simp only [fmtA, hv, hf, if_true, and_self, num, str]
                repeat' first|refine Spl.on (fun _=>?_) (fun _=>?_)|with_reducible refine gd ?_|simp only [go_sem, Int.reduceEq, List.length_nil, hf, e1, e2, List.length_map, hg2]
                all_goals first | rfl | (simp [parseA, adrA, num, str]; done) | (simp_all; done)
              · have hf' : (fmtL ⟨4, (splL s).getD 2 [], 0, []⟩ == s) = false := by
                  cases h : (fmtL ⟨4, (splL s).getD 2 [], 0, []⟩ == s) with
                  | false => rfl
                  | true => exact absurd (beq_iff_eq.1 h) hf
                simp only [fmtA, hv, hf, if_true, if_false, and_false, num, str]
                repeat' first|refine Spl.on (fun _=>?_) (fun _=>?_)|with_reducible refine gd ?_|simp only [go_sem, Int.reduceEq, List.length_nil, hf', e1, e2, List.length_map, hg2]
                all_goals first | rfl | (simp [parseA, adrA, adr0, num, str]; done) | (simp_all; done)
          · by_cases h3f : (splL s).length = 3 ∧ (splL s).getD 1 [] = wFeed
            · have hln : (splL s).length = 3 := h3f.1
              have hg2 := strs_getD (l := splL s) (i := 2) (by omega)
              have hcand : cand s = ⟨5, (splL s).getD 2 [], 0, []⟩ := by rw [cand, if_neg h1, if_neg h2, if_neg h4s, if_neg h4t, if_neg h3b, if_pos h3f]
              repeat' first|refine Spl.on (fun _=>?_) (fun _=>?_)|with_reducible refine gd ?_|simp only [go_sem, Int.reduceEq, List.length_nil, e1, e2, List.length_map, hg2]
              refine ((split35 s hs).wk ?_).mono ?_
              · try simp only [num, str]
                repeat first | exact Wk.nil | exact Wk.refl _ | refine wk_agg ?_ ?_ | refine wk_ownsl ?_ | refine wk_nilsl ?_ | refine Wk.same ?_
              rintro r rfl
              try simp only [tru, num, str]
              repeat' first|refine Spl.on (fun _=>?_) (fun _=>?_)|with_reducible refine gd ?_|simp only [go_sem, Int.reduceEq, List.length_nil, e1, e2, List.length_map, hg2]
              refine ((is36 4 wStory (splL s) (by omega) (by omega) hll).wk ?_).mono ?_
              · simp only [num, str, wStory, wTopic, wBy, wFeed]
                repeat first | exact Wk.nil | exact Wk.refl _ | refine wk_agg ?_ ?_ | refine wk_ownsl ?_ | refine wk_nilsl ?_ | refine Wk.same ?_
              rintro r rfl
              rw [decide_eq_false h4s]
              try simp only [tru, num, str]
              repeat' first|refine Spl.on (fun _=>?_) (fun _=>?_)|with_reducible refine gd ?_|simp only [go_sem, Int.reduceEq, List.length_nil, e1, e2, List.length_map, hg2]
              refine ((is36 4 wTopic (splL s) (by omega) (by omega) hll).wk ?_).mono ?_
              · simp only [num, str, wStory, wTopic, wBy, wFeed]
                repeat first | exact Wk.nil | exact Wk.refl _ | refine wk_agg ?_ ?_ | refine wk_ownsl ?_ | refine wk_nilsl ?_ | refine Wk.same ?_
              rintro r rfl
              rw [decide_eq_false h4t]
              try simp only [tru, num, str]
              repeat' first|refine Spl.on (fun _=>?_) (fun _=>?_)|with_reducible refine gd ?_|simp only [go_sem, Int.reduceEq, List.length_nil, e1, e2, List.length_map, hg2]
              refine ((is36 3 wBy (splL s) (by omega) (by omega) hll).wk ?_).mono ?_
              · simp only [num, str, wStory, wTopic, wBy, wFeed]
                repeat first | exact Wk.nil | exact Wk.refl _ | refine wk_agg ?_ ?_ | refine wk_ownsl ?_ | refine wk_nilsl ?_ | refine Wk.same ?_
              rintro r rfl
              rw [decide_eq_false h3b]
              try simp only [tru, num, str]
              repeat' first|refine Spl.on (fun _=>?_) (fun _=>?_)|with_reducible refine gd ?_|simp only [go_sem, Int.reduceEq, List.length_nil, e1, e2, List.length_map, hg2]
              refine ((is36 3 wFeed (splL s) (by omega) (by omega) hll).wk ?_).mono ?_
              · simp only [num, str, wStory, wTopic, wBy, wFeed]
                repeat first | exact Wk.nil | exact Wk.refl _ | refine wk_agg ?_ ?_ | refine wk_ownsl ?_ | refine wk_nilsl ?_ | refine Wk.same ?_
              rintro r rfl
              rw [decide_eq_true h3f]
              try simp only [tru, num, str]
              repeat' first|refine Spl.on (fun _=>?_) (fun _=>?_)|with_reducible refine gd ?_|simp only [go_sem, Int.reduceEq, List.length_nil, e1, e2, List.length_map, hg2]
              refine ((format14 ⟨5, (splL s).getD 2 [], 0, []⟩).wk ?_).mono ?_
              · try simp only [adrA, adr0, num, str]
                repeat first | exact Wk.nil | exact Wk.refl _ | refine wk_agg ?_ ?_ | refine wk_ownsl ?_ | refine wk_nilsl ?_ | refine Wk.same ?_
              rintro r rfl
              try simp only [tru, num, str]
              repeat' first|refine Spl.on (fun _=>?_) (fun _=>?_)|with_reducible refine gd ?_|simp only [go_sem, Int.reduceEq, List.length_nil, e1, e2, List.length_map, hg2]
              have hps : parseL s = if validL ⟨5, (splL s).getD 2 [], 0, []⟩ = true ∧ fmtL ⟨5, (splL s).getD 2 [], 0, []⟩ = s then some ⟨5, (splL s).getD 2 [], 0, []⟩ else none := by rw [parseL, hcand]
              rw [hps]
              cases hv : validL ⟨5, (splL s).getD 2 [], 0, []⟩
              · simp only [fmtA, hv, Bool.false_eq_true, if_false, false_and, num, str]
                repeat' first|refine Spl.on (fun _=>?_) (fun _=>?_)|with_reducible refine gd ?_|simp only [go_sem, Int.reduceEq, List.length_nil, e1, e2, List.length_map, hg2]
                all_goals first | rfl | (simp [parseA, adrA, adr0, num, str]; done)
              · by_cases hf : fmtL ⟨5, (splL s).getD 2 [], 0, []⟩ = s
                · have hf' : (fmtL ⟨5, (splL s).getD 2 [], 0, []⟩ == s) = true := by rw [hf]; simp
                  simp only [fmtA, hv, hf, if_true, and_self, num, str]
                  repeat' first|refine Spl.on (fun _=>?_) (fun _=>?_)|with_reducible refine gd ?_|simp only [go_sem, Int.reduceEq, List.length_nil, hf, e1, e2, List.length_map, hg2]
                  all_goals first | rfl | (simp [parseA, adrA, num, str]; done) | (simp_all; done)
                · have hf' : (fmtL ⟨5, (splL s).getD 2 [], 0, []⟩ == s) = false := by
                    cases h : (fmtL ⟨5, (splL s).getD 2 [], 0, []⟩ == s) with
                    | false => rfl
                    | true => exact absurd (beq_iff_eq.1 h) hf
                  simp only [fmtA, hv, hf, if_true, if_false, and_false, num, str]
                  repeat' first|refine Spl.on (fun _=>?_) (fun _=>?_)|with_reducible refine gd ?_|simp only [go_sem, Int.reduceEq, List.length_nil, hf', e1, e2, List.length_map, hg2]
                  all_goals first | rfl | (simp [parseA, adrA, adr0, num, str]; done) | (simp_all; done)
            · have hcand : cand s = adr0 := by rw [cand, if_neg h1, if_neg h2, if_neg h4s, if_neg h4t, if_neg h3b, if_neg h3f]
              repeat' first|refine Spl.on (fun _=>?_) (fun _=>?_)|with_reducible refine gd ?_|simp only [go_sem, Int.reduceEq, List.length_nil, e1, e2, List.length_map]
              refine ((split35 s hs).wk ?_).mono ?_
              · try simp only [num, str]
                repeat first | exact Wk.nil | exact Wk.refl _ | refine wk_agg ?_ ?_ | refine wk_ownsl ?_ | refine wk_nilsl ?_ | refine Wk.same ?_
              rintro r rfl
              try simp only [tru, num, str]
              repeat' first|refine Spl.on (fun _=>?_) (fun _=>?_)|with_reducible refine gd ?_|simp only [go_sem, Int.reduceEq, List.length_nil, e1, e2, List.length_map]
              refine ((is36 4 wStory (splL s) (by omega) (by omega) hll).wk ?_).mono ?_
              · simp only [num, str, wStory, wTopic, wBy, wFeed]
                repeat first | exact Wk.nil | exact Wk.refl _ | refine wk_agg ?_ ?_ | refine wk_ownsl ?_ | refine wk_nilsl ?_ | refine Wk.same ?_
              rintro r rfl
              rw [decide_eq_false h4s]
              try simp only [tru, num, str]
              repeat' first|refine Spl.on (fun _=>?_) (fun _=>?_)|with_reducible refine gd ?_|simp only [go_sem, Int.reduceEq, List.length_nil, e1, e2, List.length_map]
              refine ((is36 4 wTopic (splL s) (by omega) (by omega) hll).wk ?_).mono ?_
              · simp only [num, str, wStory, wTopic, wBy, wFeed]
                repeat first | exact Wk.nil | exact Wk.refl _ | refine wk_agg ?_ ?_ | refine wk_ownsl ?_ | refine wk_nilsl ?_ | refine Wk.same ?_
              rintro r rfl
              rw [decide_eq_false h4t]
              try simp only [tru, num, str]
              repeat' first|refine Spl.on (fun _=>?_) (fun _=>?_)|with_reducible refine gd ?_|simp only [go_sem, Int.reduceEq, List.length_nil, e1, e2, List.length_map]
              refine ((is36 3 wBy (splL s) (by omega) (by omega) hll).wk ?_).mono ?_
              · simp only [num, str, wStory, wTopic, wBy, wFeed]
                repeat first | exact Wk.nil | exact Wk.refl _ | refine wk_agg ?_ ?_ | refine wk_ownsl ?_ | refine wk_nilsl ?_ | refine Wk.same ?_
              rintro r rfl
              rw [decide_eq_false h3b]
              try simp only [tru, num, str]
              repeat' first|refine Spl.on (fun _=>?_) (fun _=>?_)|with_reducible refine gd ?_|simp only [go_sem, Int.reduceEq, List.length_nil, e1, e2, List.length_map]
              refine ((is36 3 wFeed (splL s) (by omega) (by omega) hll).wk ?_).mono ?_
              · simp only [num, str, wStory, wTopic, wBy, wFeed]
                repeat first | exact Wk.nil | exact Wk.refl _ | refine wk_agg ?_ ?_ | refine wk_ownsl ?_ | refine wk_nilsl ?_ | refine Wk.same ?_
              rintro r rfl
              rw [decide_eq_false h3f]
              try simp only [tru, num, str]
              repeat' first|refine Spl.on (fun _=>?_) (fun _=>?_)|with_reducible refine gd ?_|simp only [go_sem, Int.reduceEq, List.length_nil, e1, e2, List.length_map]
              refine ((format14 adr0).wk ?_).mono ?_
              · try simp only [adrA, adr0, num, str]
                repeat first | exact Wk.nil | exact Wk.refl _ | refine wk_agg ?_ ?_ | refine wk_ownsl ?_ | refine wk_nilsl ?_ | refine Wk.same ?_
              rintro r rfl
              try simp only [tru, num, str]
              repeat' first|refine Spl.on (fun _=>?_) (fun _=>?_)|with_reducible refine gd ?_|simp only [go_sem, Int.reduceEq, List.length_nil, e1, e2, List.length_map]
              have hps : parseL s = if validL adr0 = true ∧ fmtL adr0 = s then some adr0 else none := by rw [parseL, hcand]
              rw [hps]
              cases hv : validL adr0
              · simp only [fmtA, hv, Bool.false_eq_true, if_false, false_and, num, str]
                repeat' first|refine Spl.on (fun _=>?_) (fun _=>?_)|with_reducible refine gd ?_|simp only [go_sem, Int.reduceEq, List.length_nil, e1, e2, List.length_map]
                all_goals first | rfl | (simp [parseA, adrA, adr0, num, str]; done)
              · by_cases hf : fmtL adr0 = s
                · have hf' : (fmtL adr0 == s) = true := by rw [hf]; simp
                  simp only [fmtA, hv, hf, if_true, and_self, num, str]
                  repeat' first|refine Spl.on (fun _=>?_) (fun _=>?_)|with_reducible refine gd ?_|simp only [go_sem, Int.reduceEq, List.length_nil, hf, e1, e2, List.length_map]
                  all_goals first | rfl | (simp [parseA, adrA, num, str]; done) | (simp_all; done)
                · have hf' : (fmtL adr0 == s) = false := by
                    cases h : (fmtL adr0 == s) with
                    | false => rfl
                    | true => exact absurd (beq_iff_eq.1 h) hf
                  simp only [fmtA, hv, hf, if_true, if_false, and_false, num, str]
                  repeat' first|refine Spl.on (fun _=>?_) (fun _=>?_)|with_reducible refine gd ?_|simp only [go_sem, Int.reduceEq, List.length_nil, hf', e1, e2, List.length_map]
                  all_goals first | rfl | (simp [parseA, adrA, adr0, num, str]; done) | (simp_all; done)
end Go.Proofs.YtkafbgdokgfjmaaGreatDoor
