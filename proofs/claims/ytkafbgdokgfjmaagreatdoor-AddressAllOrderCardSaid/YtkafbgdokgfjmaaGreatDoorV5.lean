/- law 10 (without the reference) -/
import Derived.Test.YtkafbgdokgfjmaaGreatDoorT
import Derived.Test.YtkafbgdokgfjmaaGreatDoorA10
import Derived.Test.YtkafbgdokgfjmaaGreatDoorA11
import Derived.Test.YtkafbgdokgfjmaaGreatDoorV4
namespace Go.Proofs.YtkafbgdokgfjmaaGreatDoor
open Go.RowKit Go.Proofs
set_option linter.unusedSimpArgs false
set_option linter.unusedVariables false
set_option maxRecDepth 100000
set_option maxHeartbeats 4000000

theorem insRev_perm : ∀ (l : List Sto) (x : Sto), (insRev l x).Perm (x :: l)
  | [], x => List.Perm.refl _
  | y :: r, x => by
    unfold insRev
    split
    · exact List.Perm.refl _
    · exact ((insRev_perm r x).cons y).trans (List.Perm.swap x y r)
theorem newF_perm (v : Str) : ∀ (L acc : List Sto), (L.foldl (newF v) acc).Perm (L.filter (fun s => lstd s && hasB s v) ++ acc)
  | [], acc => List.Perm.refl _
  | s :: L, acc => by
    refine (newF_perm v L _).trans ?_
    unfold newF
    by_cases h : (lstd s && hasB s v) = true
    · rw [if_pos h, show List.filter (fun s => lstd s && hasB s v) (s :: L) = s :: List.filter (fun s => lstd s && hasB s v) L from List.filter_cons_of_pos (p := fun s => lstd s && hasB s v) h]
      exact ((insRev_perm acc s).append_left _).trans List.perm_middle
    · rw [if_neg h, show List.filter (fun s => lstd s && hasB s v) (s :: L) = List.filter (fun s => lstd s && hasB s v) L from List.filter_cons_of_neg (p := fun s => lstd s && hasB s v) h]
theorem newL_perm (v : Str) (L : List Sto) : (newL v L).Perm (L.filter fun s => lstd s && hasB s v) := by
  have := newF_perm v L []
  rw [List.append_nil] at this
  exact this
theorem newL_flen (v : Str) (L : List Sto) : (newL v L).length = (L.filter fun s => lstd s && hasB s v).length := (newL_perm v L).length_eq
theorem newL_iff {v : Str} {L : List Sto} {s : Sto} : s ∈ newL v L ↔ s ∈ L ∧ lstd s = true ∧ hasB s v = true := by
  rw [(newL_perm v L).mem_iff, List.mem_filter]
  simp
theorem all_mem {L : List Sto} {t : Str} : t ∈ allL L ↔ ∃ a ∈ adL L, validL a = true ∧ fmtL a = t := by
  unfold allL
  rw [(dst_spec _).2]
  simp only [fmF, List.mem_map, List.mem_filter]
  exact ⟨fun ⟨a, ⟨h1, h2⟩, h3⟩ => ⟨a, h1, h2, h3⟩, fun ⟨a, h1, h2, h3⟩ => ⟨a, ⟨h1, h2⟩, h3⟩⟩
theorem all_asc (L : List Sto) : (allL L).Pairwise (· < ·) := (dst_spec _).1
theorem ad_mem {L : List Sto} {a : Adr} : a ∈ adL L ↔ (a = adr1 ∨ a = adr6) ∨ (∃ s ∈ L, s.tk = false ∧ ∃ e ∈ s.ed, a = ⟨2, [], s.id, edl e⟩) ∨ (∃ t ∈ topR L, nameL t = true ∧ (a = ⟨5, t, 0, []⟩ ∨ ∃ p : Nat, p < pgN L t ∧ p < 64 ∧ a = ⟨3, t, (p : Int) + 1, []⟩)) ∨ ∃ t ∈ autR L, a = auF t := by
  simp only [adL, List.mem_append, List.mem_cons, List.not_mem_nil, or_false, List.mem_flatMap, List.mem_map]
  refine or_congr Iff.rfl (or_congr ?_ (or_congr ?_ ?_))
  · refine exists_congr fun s => and_congr_right fun _ => ?_
    unfold edF
    cases h : s.tk
    · simp only [Bool.false_eq_true, if_false, List.mem_map, true_and]
      exact ⟨fun ⟨e, h1, h2⟩ => ⟨e, h1, h2.symm⟩, fun ⟨e, h1, h2⟩ => ⟨e, h1, h2.symm⟩⟩
    · simp
  · refine exists_congr fun t => and_congr_right fun _ => ?_
    unfold tpF
    cases h : nameL t
    · simp
    · simp only [if_true, List.mem_cons, List.mem_map, List.mem_range, true_and]
      refine or_congr Iff.rfl ⟨fun ⟨p, h1, h2⟩ => ⟨p, by omega, by omega, h2.symm⟩, fun ⟨p, h1, h2, h3⟩ => ⟨p, by omega, h3.symm⟩⟩
  · exact ⟨fun ⟨t, h1, h2⟩ => ⟨t, h1, h2.symm⟩, fun ⟨t, h1, h2⟩ => ⟨t, h1, h2.symm⟩⟩
theorem pgN_mono {L M : List Sto} (h : ∀ p : Sto → Bool, (L.filter p).length ≤ (M.filter p).length) (t : Str) : pgN L t ≤ pgN M t := by
  unfold pgN
  rw [newL_flen, newL_flen]
  have := h fun s => lstd s && hasB s t
  omega
theorem ad_mono {L M : List Sto} (h1 : ∀ s ∈ L, s ∈ M) (h2 : ∀ p : Sto → Bool, (L.filter p).length ≤ (M.filter p).length) {a : Adr} (h : a ∈ adL L) : a ∈ adL M := by
  rw [ad_mem] at h ⊢
  have ht : ∀ t ∈ topR L, t ∈ topR M := fun t ht => by
    rw [topR_mem] at ht ⊢
    obtain ⟨s, hs, k⟩ := ht
    exact ⟨s, h1 s hs, k⟩
  rcases h with h | ⟨s, hs, k⟩ | ⟨t, k1, k2, k3⟩ | ⟨t, k1, k2⟩
  · exact .inl h
  · exact .inr (.inl ⟨s, h1 s hs, k⟩)
  · refine .inr (.inr (.inl ⟨t, ht t k1, k2, ?_⟩))
    rcases k3 with k3 | ⟨p, k3, k4, k5⟩
    · exact .inl k3
    · exact .inr ⟨p, Nat.lt_of_lt_of_le k3 (pgN_mono h2 t), k4, k5⟩
  · refine .inr (.inr (.inr ⟨t, ?_, k2⟩))
    rw [autR_mem] at k1 ⊢
    obtain ⟨s, hs, k⟩ := k1
    exact ⟨s, h1 s hs, k⟩
theorem all_mono {L M : List Sto} (h1 : ∀ s ∈ L, s ∈ M) (h2 : ∀ p : Sto → Bool, (L.filter p).length ≤ (M.filter p).length) {t : Str} (h : t ∈ allL L) : t ∈ allL M := by
  rw [all_mem] at h ⊢
  obtain ⟨a, ha, k⟩ := h
  exact ⟨a, ad_mono h1 h2 ha, k⟩
theorem all_perm {L M : List Sto} (h : L.Perm M) : allL L = allL M := by
  refine dst_eq fun x => ?_
  have h1 := @all_mono L M (fun s hs => h.mem_iff.1 hs) (fun p => by rw [(h.filter p).length_eq]; exact Nat.le_refl _)
  have h2 := @all_mono M L (fun s hs => h.mem_iff.2 hs) (fun p => by rw [(h.filter p).length_eq]; exact Nat.le_refl _)
  have e := fun L => (dst_spec (fmF (adL L))).2 x
  rw [← e L, ← e M]
  exact ⟨fun hh => h1 hh, fun hh => h2 hh⟩
theorem stL_snoc {u : List It} {x : It} (h : u.length ≤ 39) : stL (u ++ [x]) = stL u ++ [mkS x] := by
  unfold stL
  rw [List.take_of_length_le (by simp; omega), List.take_of_length_le (by omega), List.map_append]
  rfl
theorem lawA10 (xs : List AV) (h : OfA Tryz.prog [34, 57] xs) : ACalls Tryz.prog 10 xs (fun r => r = tru true) := by
  obtain ⟨_, y0, _, rfl, h0, g0⟩ := OfA_cons h
  obtain ⟨_, y1, _, rfl, h1, g1⟩ := OfA_cons g0
  obtain rfl := OfA_nil g1
  obtain ⟨l, rfl, hl1, hl2⟩ := items_of h0
  obtain ⟨x, rfl, hx⟩ := item_of h1
  simp only [show itA x = .agg [num x.id, num x.pu, .sl 1 (nums x.lg), .sl 1 (nums x.tp), num x.au, num x.hi] from rfl, num]
  refine calls_short [] ttok hmix Tryz.func10 (by decide) (by decide +kernel) (by simp only [Tryz.f10, Option.bind_some, comp, isLend, lendOf, lendX, lendC, lendH, Nat.reduceLeDiff, Nat.reduceSub, ne_eq, not_false_eq_true, and_self, cops, cguard, gslot, List.getElem?_toArray, List.getElem?_cons_succ, List.getElem?_cons_zero, vlook, tlook, cutAt_nil, cutAt, firstReg, isCut, mkSeq, Nat.reduceAdd, Nat.reduceEqDiff, reduceIte]; rfl) Tryz.ntmps10 Tryz.results10 ⟨_, rfl⟩ rfl ?_
  simp only [List.length_cons, List.length_nil, Nat.reduceAdd, Nat.reduceSub, List.replicate_succ, List.replicate_zero, List.cons_append, List.nil_append, num, str, tru]
  by_cases h39 : 39 < l.length
  · have e39 := eq_true (show (39 : Int) < (l.length : Int) by omega)
    obtain ⟨u, hue⟩ : ∃ u, l.take 39 = u := ⟨_, rfl⟩
    have hu : u.length ≤ 39 := by rw [← hue, List.length_take]; omega
    have huo : ∀ y ∈ u, ItOk y := fun y hy => hl2 y (List.mem_of_mem_take (by rw [hue]; exact hy))
    have huo2 : ∀ y ∈ u ++ [x], ItOk y := fun y hy => by
      rw [List.mem_append, List.mem_singleton] at hy
      rcases hy with hy | rfl
      · exact huo y hy
      · exact hx
    have hlm : (u.map itA).length = u.length := List.length_map ..
    have hmt : (l.map itA).take 39 = u.map itA := by rw [← List.map_take, hue]
    repeat' first|refine Spl.on (fun _=>?_) (fun _=>?_)|with_reducible refine gd ?_|simp only [go_sem, Int.reduceEq, Int.cast_ofNat_Int, Bool.false_eq_true, xblkG_exit3, List.length_map, beq_self_eq_true, if_true, if_false, List.map_take, e39, List.length_map]
    refine ((sane12).wk ?_).mono ?_
    · try simp only [num, str]
      repeat first | exact Wk.nil | exact Wk.refl _ | refine wk_agg ?_ ?_ | refine wk_ownsl ?_ | refine wk_nilsl ?_ | refine Wk.same ?_
    rintro r rfl
    try simp only [tru, num, str]
    repeat' first|refine Spl.on (fun _=>?_) (fun _=>?_)|with_reducible refine gd ?_|simp only [go_sem, Int.reduceEq, Int.cast_ofNat_Int, Bool.false_eq_true, xblkG_exit3, List.length_map, beq_self_eq_true, if_true, if_false, List.map_take, e39, hmt, List.length_map]
    have hok := stL_ok u
    have hok2 := stL_ok (u ++ [x])
    have hmo : ∀ t ∈ allL (stL u), t ∈ allL (stL (u ++ [x])) := fun t ht => by
      rw [stL_snoc hu]
      refine all_mono (fun s hs => List.mem_append_left _ hs) (fun p => ?_) ht
      rw [List.filter_append, List.length_append]; omega
    have hal := hok.all_len
    have hal2 := hok2.all_len
    obtain ⟨X, hX⟩ : ∃ X, allL (stL u) = X := ⟨_, rfl⟩
    obtain ⟨Y, hY⟩ : ∃ Y, allL (stL (u ++ [x])) = Y := ⟨_, rfl⟩
    have hc1 := hok.all []
    have hc2 := hok2.all []
    have hs1 := stateS u (by omega) huo
    have hs2 := stateS (u ++ [x]) (by simp; omega) huo2
    rw [hX] at hmo hal hc1
    rw [hY] at hmo hal2 hc2
    generalize stL u = Lu at hc1 hs1
    generalize stL (u ++ [x]) = Lv at hc2 hs2
    simp only [List.map_append, List.map_cons, List.map_nil, itA, num] at hs2
    repeat' first|refine Spl.on (fun _=>?_) (fun _=>?_)|with_reducible refine gd ?_|simp only [go_sem, Int.reduceEq, Int.cast_ofNat_Int, Bool.false_eq_true, xblkG_exit3, List.length_map, beq_self_eq_true, if_true, if_false, List.map_take, hlm, List.length_append, List.length_cons, List.length_nil]
    refine ((hs1).wk ?_).mono ?_
    · try simp only [num, str]
      repeat first | exact Wk.nil | exact Wk.refl _ | refine wk_agg ?_ ?_ | refine wk_ownsl ?_ | refine wk_nilsl ?_ | refine Wk.same ?_
    rintro r rfl
    try simp only [tru, num, str]
    repeat' first|refine Spl.on (fun _=>?_) (fun _=>?_)|with_reducible refine gd ?_|simp only [go_sem, Int.reduceEq, Int.cast_ofNat_Int, Bool.false_eq_true, xblkG_exit3, List.length_map, beq_self_eq_true, if_true, if_false, List.map_take]
    refine ((hc1).wk ?_).mono ?_
    · try simp only [stA, num, str]
      repeat first | exact Wk.nil | exact Wk.refl _ | refine wk_agg ?_ ?_ | refine wk_ownsl ?_ | refine wk_nilsl ?_ | refine Wk.same ?_
    rintro r rfl
    try simp only [tru, num, str]
    repeat' first|refine Spl.on (fun _=>?_) (fun _=>?_)|with_reducible refine gd ?_|simp only [go_sem, Int.reduceEq, Int.cast_ofNat_Int, Bool.false_eq_true, xblkG_exit3, List.length_map, beq_self_eq_true, if_true, if_false, List.map_take]
    refine ((hs2).wk ?_).mono ?_
    · try simp only [num, str]
      repeat first | exact Wk.nil | exact Wk.refl _ | refine wk_agg ?_ ?_ | refine wk_ownsl ?_ | refine wk_nilsl ?_ | refine Wk.same ?_
    rintro r rfl
    try simp only [tru, num, str]
    repeat' first|refine Spl.on (fun _=>?_) (fun _=>?_)|with_reducible refine gd ?_|simp only [go_sem, Int.reduceEq, Int.cast_ofNat_Int, Bool.false_eq_true, xblkG_exit3, List.length_map, beq_self_eq_true, if_true, if_false, List.map_take]
    refine ((hc2).wk ?_).mono ?_
    · try simp only [stA, num, str]
      repeat first | exact Wk.nil | exact Wk.refl _ | refine wk_agg ?_ ?_ | refine wk_ownsl ?_ | refine wk_nilsl ?_ | refine Wk.same ?_
    rintro r rfl
    try simp only [tru, num, str]
    repeat' first|refine Spl.on (fun _=>?_) (fun _=>?_)|with_reducible refine gd ?_|simp only [go_sem, Int.reduceEq, Int.cast_ofNat_Int, Bool.false_eq_true, xblkG_exit3, List.length_map, beq_self_eq_true, if_true, if_false, List.map_take]
    refine cwp_loop [false, false, false, false, false, false, false, true, true, true, true, false, false, false, false, false, false, false, false, false, false, false, false, false, false, false, false, false, false, false, true, true, true, true, true, true, true, true, true, true, true, true, true, true, false] [7, 8, 9] (fun n xs => ∃ j : Nat, j ≤ X.length ∧ j + n = X.length ∧ xs = [.sl 1 (X.map str), .sl 1 (Y.map str), num j]) ⟨X.length, _, ⟨0, by omega, by omega, rfl⟩, ?_⟩ ?_
    · simp only [hvm_t, hvm_f, hvm_nil, puts_cons, puts_nil, List.set_cons_zero, List.set_cons_succ, num]
      repeat first | exact Wk.nil | refine wk_ownsl ?_ | refine Wk.same ?_ | refine wk_any ?_
    · rintro n xs ⟨j, hjl, hn, rfl⟩
      simp only [hvm_t, hvm_f, hvm_nil, puts_cons, puts_nil, List.set_cons_zero, List.set_cons_succ, num]
      rcases Nat.lt_or_ge j X.length with hlt | hge
      · have ej := eq_true (show (j : Int) < (X.length : Int) by omega)
        obtain ⟨t, ht, htd⟩ := drop_at hlt
        have hgx := strs_at ht
        have hw : IntKind.i64.wrap ((j : Int) + 1) = ((j + 1 : Nat) : Int) := wrap_succ (by omega)
        have hin : decide (t ∈ Y) = true := decide_eq_true (hmo t (List.mem_of_getElem? ht))
        repeat' first|refine Spl.on (fun _=>?_) (fun _=>?_)|with_reducible refine gd ?_|simp only [go_sem, Int.reduceEq, Int.cast_ofNat_Int, Bool.false_eq_true, xblkG_exit3, List.length_map, beq_self_eq_true, if_true, if_false, List.map_take, ej, hgx, hw]
        refine ((has26 Y t hal2).wk ?_).mono ?_
        · try simp only [num, str]
          repeat first | exact Wk.nil | exact Wk.refl _ | refine wk_agg ?_ ?_ | refine wk_ownsl ?_ | refine wk_nilsl ?_ | refine Wk.same ?_
        rintro r rfl
        try simp only [hin, tru]
        repeat' first|refine Spl.on (fun _=>?_) (fun _=>?_)|with_reducible refine gd ?_|simp only [go_sem, Int.reduceEq, Int.cast_ofNat_Int, Bool.false_eq_true, xblkG_exit3, List.length_map, beq_self_eq_true, if_true, if_false, List.map_take, ej, hgx, hw]
        refine lend_mk (n - 1) [.sl 1 (X.map str), .sl 1 (Y.map str), num ((j + 1 : Nat) : Int)] (by omega) ⟨j + 1, by omega, by omega, rfl⟩ ?_
        simp only [hvm_t, hvm_f, hvm_nil, puts_cons, puts_nil, List.set_cons_zero, List.set_cons_succ, num]
        repeat first | exact Wk.nil | refine wk_ownsl ?_ | refine Wk.same ?_ | refine wk_any ?_
      · have ej := eq_false (show ¬ (j : Int) < (X.length : Int) by omega)
        repeat' first|refine Spl.on (fun _=>?_) (fun _=>?_)|with_reducible refine gd ?_|simp only [go_sem, Int.reduceEq, Int.cast_ofNat_Int, Bool.false_eq_true, xblkG_exit3, List.length_map, beq_self_eq_true, if_true, if_false, List.map_take, ej]
        all_goals first | rfl | (simp [tru]; done) | (simp_all [tru]; done)
  · have e39 := eq_false (show ¬ (39 : Int) < (l.length : Int) by omega)
    obtain ⟨u, hue⟩ : ∃ u, l.take 39 = u := ⟨_, rfl⟩
    have hu : u.length ≤ 39 := by rw [← hue, List.length_take]; omega
    have huo : ∀ y ∈ u, ItOk y := fun y hy => hl2 y (List.mem_of_mem_take (by rw [hue]; exact hy))
    have huo2 : ∀ y ∈ u ++ [x], ItOk y := fun y hy => by
      rw [List.mem_append, List.mem_singleton] at hy
      rcases hy with hy | rfl
      · exact huo y hy
      · exact hx
    have hlm : (u.map itA).length = u.length := List.length_map ..
    have hmt : (l.map itA).take 39 = u.map itA := by rw [← List.map_take, hue]
    obtain rfl : u = l := by rw [← hue]; exact List.take_of_length_le (by omega)
    repeat' first|refine Spl.on (fun _=>?_) (fun _=>?_)|with_reducible refine gd ?_|simp only [go_sem, Int.reduceEq, Int.cast_ofNat_Int, Bool.false_eq_true, xblkG_exit3, List.length_map, beq_self_eq_true, if_true, if_false, List.map_take, e39, List.length_map]
    refine ((sane12).wk ?_).mono ?_
    · try simp only [num, str]
      repeat first | exact Wk.nil | exact Wk.refl _ | refine wk_agg ?_ ?_ | refine wk_ownsl ?_ | refine wk_nilsl ?_ | refine Wk.same ?_
    rintro r rfl
    try simp only [tru, num, str]
    repeat' first|refine Spl.on (fun _=>?_) (fun _=>?_)|with_reducible refine gd ?_|simp only [go_sem, Int.reduceEq, Int.cast_ofNat_Int, Bool.false_eq_true, xblkG_exit3, List.length_map, beq_self_eq_true, if_true, if_false, List.map_take, e39, hmt, List.length_map]
    have hok := stL_ok u
    have hok2 := stL_ok (u ++ [x])
    have hmo : ∀ t ∈ allL (stL u), t ∈ allL (stL (u ++ [x])) := fun t ht => by
      rw [stL_snoc hu]
      refine all_mono (fun s hs => List.mem_append_left _ hs) (fun p => ?_) ht
      rw [List.filter_append, List.length_append]; omega
    have hal := hok.all_len
    have hal2 := hok2.all_len
    obtain ⟨X, hX⟩ : ∃ X, allL (stL u) = X := ⟨_, rfl⟩
    obtain ⟨Y, hY⟩ : ∃ Y, allL (stL (u ++ [x])) = Y := ⟨_, rfl⟩
    have hc1 := hok.all []
    have hc2 := hok2.all []
    have hs1 := stateS u (by omega) huo
    have hs2 := stateS (u ++ [x]) (by simp; omega) huo2
    rw [hX] at hmo hal hc1
    rw [hY] at hmo hal2 hc2
    generalize stL u = Lu at hc1 hs1
    generalize stL (u ++ [x]) = Lv at hc2 hs2
    simp only [List.map_append, List.map_cons, List.map_nil, itA, num] at hs2
    repeat' first|refine Spl.on (fun _=>?_) (fun _=>?_)|with_reducible refine gd ?_|simp only [go_sem, Int.reduceEq, Int.cast_ofNat_Int, Bool.false_eq_true, xblkG_exit3, List.length_map, beq_self_eq_true, if_true, if_false, List.map_take, hlm, List.length_append, List.length_cons, List.length_nil]
    refine ((hs1).wk ?_).mono ?_
    · try simp only [num, str]
      repeat first | exact Wk.nil | exact Wk.refl _ | refine wk_agg ?_ ?_ | refine wk_ownsl ?_ | refine wk_nilsl ?_ | refine Wk.same ?_
    rintro r rfl
    try simp only [tru, num, str]
    repeat' first|refine Spl.on (fun _=>?_) (fun _=>?_)|with_reducible refine gd ?_|simp only [go_sem, Int.reduceEq, Int.cast_ofNat_Int, Bool.false_eq_true, xblkG_exit3, List.length_map, beq_self_eq_true, if_true, if_false, List.map_take]
    refine ((hc1).wk ?_).mono ?_
    · try simp only [stA, num, str]
      repeat first | exact Wk.nil | exact Wk.refl _ | refine wk_agg ?_ ?_ | refine wk_ownsl ?_ | refine wk_nilsl ?_ | refine Wk.same ?_
    rintro r rfl
    try simp only [tru, num, str]
    repeat' first|refine Spl.on (fun _=>?_) (fun _=>?_)|with_reducible refine gd ?_|simp only [go_sem, Int.reduceEq, Int.cast_ofNat_Int, Bool.false_eq_true, xblkG_exit3, List.length_map, beq_self_eq_true, if_true, if_false, List.map_take]
    refine ((hs2).wk ?_).mono ?_
    · try simp only [num, str]
      repeat first | exact Wk.nil | exact Wk.refl _ | refine wk_agg ?_ ?_ | refine wk_ownsl ?_ | refine wk_nilsl ?_ | refine Wk.same ?_
    rintro r rfl
    try simp only [tru, num, str]
    repeat' first|refine Spl.on (fun _=>?_) (fun _=>?_)|with_reducible refine gd ?_|simp only [go_sem, Int.reduceEq, Int.cast_ofNat_Int, Bool.false_eq_true, xblkG_exit3, List.length_map, beq_self_eq_true, if_true, if_false, List.map_take]
    refine ((hc2).wk ?_).mono ?_
    · try simp only [stA, num, str]
      repeat first | exact Wk.nil | exact Wk.refl _ | refine wk_agg ?_ ?_ | refine wk_ownsl ?_ | refine wk_nilsl ?_ | refine Wk.same ?_
    rintro r rfl
    try simp only [tru, num, str]
    repeat' first|refine Spl.on (fun _=>?_) (fun _=>?_)|with_reducible refine gd ?_|simp only [go_sem, Int.reduceEq, Int.cast_ofNat_Int, Bool.false_eq_true, xblkG_exit3, List.length_map, beq_self_eq_true, if_true, if_false, List.map_take]
    refine cwp_loop [false, false, false, false, false, false, false, true, true, true, true, false, false, false, false, false, false, false, false, false, false, false, false, false, false, false, false, false, false, false, true, true, true, true, true, true, true, true, true, true, true, true, true, true, false] [7, 8, 9] (fun n xs => ∃ j : Nat, j ≤ X.length ∧ j + n = X.length ∧ xs = [.sl 1 (X.map str), .sl 1 (Y.map str), num j]) ⟨X.length, _, ⟨0, by omega, by omega, rfl⟩, ?_⟩ ?_
    · simp only [hvm_t, hvm_f, hvm_nil, puts_cons, puts_nil, List.set_cons_zero, List.set_cons_succ, num]
      repeat first | exact Wk.nil | refine wk_ownsl ?_ | refine Wk.same ?_ | refine wk_any ?_
    · rintro n xs ⟨j, hjl, hn, rfl⟩
      simp only [hvm_t, hvm_f, hvm_nil, puts_cons, puts_nil, List.set_cons_zero, List.set_cons_succ, num]
      rcases Nat.lt_or_ge j X.length with hlt | hge
      · have ej := eq_true (show (j : Int) < (X.length : Int) by omega)
        obtain ⟨t, ht, htd⟩ := drop_at hlt
        have hgx := strs_at ht
        have hw : IntKind.i64.wrap ((j : Int) + 1) = ((j + 1 : Nat) : Int) := wrap_succ (by omega)
        have hin : decide (t ∈ Y) = true := decide_eq_true (hmo t (List.mem_of_getElem? ht))
        repeat' first|refine Spl.on (fun _=>?_) (fun _=>?_)|with_reducible refine gd ?_|simp only [go_sem, Int.reduceEq, Int.cast_ofNat_Int, Bool.false_eq_true, xblkG_exit3, List.length_map, beq_self_eq_true, if_true, if_false, List.map_take, ej, hgx, hw]
        refine ((has26 Y t hal2).wk ?_).mono ?_
        · try simp only [num, str]
          repeat first | exact Wk.nil | exact Wk.refl _ | refine wk_agg ?_ ?_ | refine wk_ownsl ?_ | refine wk_nilsl ?_ | refine Wk.same ?_
        rintro r rfl
        try simp only [hin, tru]
        repeat' first|refine Spl.on (fun _=>?_) (fun _=>?_)|with_reducible refine gd ?_|simp only [go_sem, Int.reduceEq, Int.cast_ofNat_Int, Bool.false_eq_true, xblkG_exit3, List.length_map, beq_self_eq_true, if_true, if_false, List.map_take, ej, hgx, hw]
        refine lend_mk (n - 1) [.sl 1 (X.map str), .sl 1 (Y.map str), num ((j + 1 : Nat) : Int)] (by omega) ⟨j + 1, by omega, by omega, rfl⟩ ?_
        simp only [hvm_t, hvm_f, hvm_nil, puts_cons, puts_nil, List.set_cons_zero, List.set_cons_succ, num]
        repeat first | exact Wk.nil | refine wk_ownsl ?_ | refine Wk.same ?_ | refine wk_any ?_
      · have ej := eq_false (show ¬ (j : Int) < (X.length : Int) by omega)
        repeat' first|refine Spl.on (fun _=>?_) (fun _=>?_)|with_reducible refine gd ?_|simp only [go_sem, Int.reduceEq, Int.cast_ofNat_Int, Bool.false_eq_true, xblkG_exit3, List.length_map, beq_self_eq_true, if_true, if_false, List.map_take, ej]
        all_goals first | rfl | (simp [tru]; done) | (simp_all [tru]; done)
end Go.Proofs.YtkafbgdokgfjmaaGreatDoor
