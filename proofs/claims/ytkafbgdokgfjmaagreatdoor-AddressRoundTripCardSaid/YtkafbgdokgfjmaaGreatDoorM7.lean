/- All of the reference. All of the reference: the walk. The fixed calls; strings cut. -/
import Derived.Test.YtkafbgdokgfjmaaGreatDoorT
import Derived.Test.YtkafbgdokgfjmaaGreatDoorA10
import Derived.Test.YtkafbgdokgfjmaaGreatDoorA11
import Derived.Test.YtkafbgdokgfjmaaGreatDoorM6
namespace Go.Proofs.YtkafbgdokgfjmaaGreatDoor
open Go.RowKit Go.Proofs
set_option linter.unusedSimpArgs false
set_option linter.unusedVariables false
set_option maxRecDepth 100000
set_option maxHeartbeats 4000000

def putV (l : List Str) (a : Adr) : List Str := if validL a = true then putL l (fmtL a) else l
theorem putV_len (l : List Str) (a : Adr) : (putV l a).length ≤ l.length + 1 := by
  unfold putV
  split
  · exact putL_len l (fmtL a)
  · omega
theorem putVs_len : ∀ (Z : List Adr) (l : List Str), (Z.foldl putV l).length ≤ l.length + Z.length
  | [], l => Nat.le_refl _
  | a :: Z, l => by
    have := putVs_len Z (putV l a)
    have := putV_len l a
    simp only [List.foldl_cons, List.length_cons]; omega
theorem putV_spec {l : List Str} (h : l.Pairwise (· < ·)) (a : Adr) : (putV l a).Pairwise (· < ·) ∧ ∀ x, x ∈ putV l a ↔ x ∈ l ∨ validL a = true ∧ x = fmtL a := by
  unfold putV
  split
  · rename_i hv
    obtain ⟨h1, h2⟩ := putL_spec (fmtL a) h
    exact ⟨h1, fun x => by rw [h2]; simp [hv]⟩
  · rename_i hv
    exact ⟨h, fun x => by simp [hv]⟩
theorem putVs_spec : ∀ (Z : List Adr) (l : List Str), l.Pairwise (· < ·) → (Z.foldl putV l).Pairwise (· < ·) ∧ ∀ x, x ∈ Z.foldl putV l ↔ x ∈ l ∨ ∃ a ∈ Z, validL a = true ∧ x = fmtL a
  | [], l, h => ⟨h, fun x => by simp⟩
  | a :: Z, l, h => by
    obtain ⟨h1, h2⟩ := putV_spec h a
    obtain ⟨h3, h4⟩ := putVs_spec Z _ h1
    refine ⟨h3, fun x => ?_⟩
    rw [List.foldl_cons, h4, h2]
    simp only [List.mem_cons, exists_eq_or_imp]
    exact or_assoc
def b0 : List Str := [[47], 47 :: wMap]
def rtF (L : List Sto) (t : Str) : List Adr := ⟨5, t, 0, []⟩ :: (List.range (pgN L t)).map fun (p : Nat) => (⟨3, t, (p : Int) + 1, []⟩ : Adr)
def radL (L : List Sto) : List Adr := L.flatMap edF ++ ((topR L).flatMap (rtF L) ++ (autR L).map auF)
theorem b0_asc : b0.Pairwise (· < ·) := by
  unfold b0
  refine List.pairwise_cons.2 ⟨fun x hx => ?_, List.pairwise_singleton _ _⟩
  rw [List.mem_singleton] at hx
  subst hx
  exact of_decide_eq_true rfl
theorem fmt1 : fmtL adr1 = [47] ∧ validL adr1 = true := by decide +kernel
theorem fmt6 : fmtL adr6 = 47 :: wMap ∧ validL adr6 = true := by decide +kernel
theorem rad_all (L : List Sto) : (radL L).foldl putV b0 = allL L := by
  obtain ⟨h1, h2⟩ := putVs_spec (radL L) b0 b0_asc
  refine (dst_of h1 fun x => ?_).symm
  rw [h2]
  simp only [fmF, List.mem_map, List.mem_filter, adL, radL, b0, List.mem_append, List.mem_cons, List.not_mem_nil, or_false, List.mem_flatMap]
  constructor
  · rintro ((rfl | rfl) | ⟨a, ha, hv, rfl⟩)
    · exact ⟨adr1, ⟨.inl (.inl rfl), fmt1.2⟩, fmt1.1⟩
    · exact ⟨adr6, ⟨.inl (.inr rfl), fmt6.2⟩, fmt6.1⟩
    · refine ⟨a, ⟨.inr ?_, hv⟩, rfl⟩
      rcases ha with h | ⟨t, ht, ha⟩ | h
      · exact .inl h
      · refine .inr (.inl ⟨t, ht, ?_⟩)
        have hn : nameL t = true := by
          simp only [rtF, List.mem_cons, List.mem_map] at ha
          rcases ha with rfl | ⟨p, _, rfl⟩
          · simp [validL] at hv; exact hv
          · simp [validL] at hv; exact hv.2
        rw [tpF, if_pos hn]
        simp only [rtF, List.mem_cons, List.mem_map, List.mem_range] at ha ⊢
        rcases ha with rfl | ⟨p, hp, rfl⟩
        · exact .inl rfl
        · refine .inr ⟨p, ?_, rfl⟩
          have : numB ((p : Int) + 1) = true := by simp [validL] at hv; exact hv.1
          have := numB_iff.1 this
          omega
      · exact .inr (.inr h)
  · rintro ⟨a, ⟨ha, hv⟩, rfl⟩
    rcases ha with (rfl | rfl) | h | ⟨t, ht, ha⟩ | h
    · exact .inl (.inl fmt1.1)
    · exact .inl (.inr fmt6.1)
    · exact .inr ⟨a, .inl h, hv, rfl⟩
    · refine .inr ⟨a, .inr (.inl ⟨t, ht, ?_⟩), hv, rfl⟩
      unfold tpF at ha
      split at ha
      · simp only [rtF, List.mem_cons, List.mem_map, List.mem_range] at ha ⊢
        rcases ha with rfl | ⟨p, hp, rfl⟩
        · exact .inl rfl
        · exact .inr ⟨p, by omega, rfl⟩
      · simp at ha
    · exact .inr ⟨a, .inr (.inr h), hv, rfl⟩
theorem fold_at {Z : List Adr} {j : Nat} {a : Adr} {l : List Str} (h : Z[j]? = some a) : (Z.take (j + 1)).foldl putV l = putV ((Z.take j).foldl putV l) a := by
  rw [List.take_add_one, h, List.foldl_append]; rfl
theorem fold_fm {α : Type} {f : α → List Adr} {M : List α} {i : Nat} {s : α} {l : List Str} (h : M[i]? = some s) : ((M.take (i + 1)).flatMap f).foldl putV l = (f s).foldl putV (((M.take i).flatMap f).foldl putV l) := by
  rw [List.take_add_one, h, List.flatMap_append, List.foldl_append]; simp
theorem putA44' (l : List Str) (a : Adr) (hl : l.length ≤ 10000000) (ha : a.name.length ≤ 1000000000) (hb : a.lang.length ≤ 1000000000) : ACalls Tryz.prog 44 [.sl 1 (l.map str), adrA a] (fun r => r = .sl 1 (l.map str) ∧ validL a = false ∨ r = .own 9 1 ((putL l (fmtL a)).map str) ∧ validL a = true) := by
  have hwit : ∃ r : AV, r = .sl 1 (l.map str) ∧ validL a = false ∨ r = .own 9 1 ((putL l (fmtL a)).map str) ∧ validL a = true := by
    cases h : validL a
    · exact ⟨_, .inl ⟨rfl, rfl⟩⟩
    · exact ⟨_, .inr ⟨rfl, rfl⟩⟩
  simp only [adrA]
  refine calls_short [] ttok hmix Tryz.func44 (by decide) (by decide +kernel) (by simp only [Tryz.f44, Option.bind_some, comp, isLend, lendOf, lendX, lendC, lendH, Nat.reduceLeDiff, Nat.reduceSub, ne_eq, not_false_eq_true, and_self, cops, cguard, gslot, List.getElem?_toArray, List.getElem?_cons_succ, List.getElem?_cons_zero, vlook, tlook, cutAt_nil, cutAt, firstReg, isCut, mkSeq, Nat.reduceAdd, Nat.reduceEqDiff, reduceIte]; rfl) Tryz.ntmps44 Tryz.results44 hwit rfl ?_
  simp only [List.length_cons, List.length_nil, Nat.reduceAdd, Nat.reduceSub, List.replicate_succ, List.replicate_zero, List.cons_append, List.nil_append, num, str, tru]
  cases hv : validL a
  · repeat' first|refine Spl.on (fun _=>?_) (fun _=>?_)|with_reducible refine gd ?_|simp only [go_sem, Int.reduceEq, Int.cast_ofNat_Int, Bool.false_eq_true, xblkG_exit3, List.length_map]
    refine ((rformat15 a ha hb).wk ?_).mono ?_
    · try simp only [num, str]
      repeat first | exact Wk.nil | exact Wk.refl _ | refine wk_agg ?_ ?_ | refine wk_ownsl ?_ | refine wk_nilsl ?_ | refine Wk.same ?_
    rintro r rfl
    simp only [fmtA, hv, Bool.false_eq_true, if_false]
    try simp only [tru, num, str]
    repeat' first|refine Spl.on (fun _=>?_) (fun _=>?_)|with_reducible refine gd ?_|simp only [go_sem, Int.reduceEq, Int.cast_ofNat_Int, Bool.false_eq_true, xblkG_exit3, List.length_map]
    all_goals first | exact .inl ⟨rfl, rfl⟩ | (simp; done)
  · repeat' first|refine Spl.on (fun _=>?_) (fun _=>?_)|with_reducible refine gd ?_|simp only [go_sem, Int.reduceEq, Int.cast_ofNat_Int, Bool.false_eq_true, xblkG_exit3, List.length_map]
    refine ((rformat15 a ha hb).wk ?_).mono ?_
    · try simp only [num, str]
      repeat first | exact Wk.nil | exact Wk.refl _ | refine wk_agg ?_ ?_ | refine wk_ownsl ?_ | refine wk_nilsl ?_ | refine Wk.same ?_
    rintro r rfl
    simp only [fmtA, hv, if_true]
    try simp only [tru, num, str]
    repeat' first|refine Spl.on (fun _=>?_) (fun _=>?_)|with_reducible refine gd ?_|simp only [go_sem, Int.reduceEq, Int.cast_ofNat_Int, Bool.false_eq_true, xblkG_exit3, List.length_map]
    obtain ⟨s, hs⟩ : ∃ s, fmtL a = s := ⟨_, rfl⟩
    rw [hs]
    refine cwp_loop [false, false, false, false, false, false, false, true, true, true, false, false, false, false, false, false, false, false, true, true, true, true, true, true, true, true, true, true, true, true, true, true, true, true, true, true, true, true, true, true, true, true, true, true, true, true, true, true, true, true, true, false, false, false, false, false, false, false] [7, 8, 9] (fun n xs => ∃ j : Nat, j ≤ l.length ∧ j + n = l.length ∧ xs = [.own 9 1 ((putT s (l.take j)).1.map str), tru (putT s (l.take j)).2, num j]) ⟨l.length, _, ⟨0, by omega, by omega, rfl⟩, ?_⟩ ?_
    · simp only [List.take_zero, putT, List.foldl_nil, List.map_nil, tru]
      simp only [hvm_t, hvm_f, hvm_nil, puts_cons, puts_nil, List.set_cons_zero, List.set_cons_succ, num]
      repeat first | exact Wk.nil | exact Wk.refl _ | refine wk_ownsl ?_ | refine wk_nilown ?_ | refine wk_nilsl ?_ | refine Wk.same ?_ | refine wk_any ?_
    · rintro n xs ⟨j, hjl, hn, rfl⟩
      have hol := putT_len s (l.take j)
      rw [List.length_take] at hol
      simp only [hvm_t, hvm_f, hvm_nil, puts_cons, puts_nil, List.set_cons_zero, List.set_cons_succ, num]
      rcases Nat.lt_or_ge j l.length with hlt | hge
      · have ej := eq_true (show (j : Int) < (l.length : Int) by omega)
        obtain ⟨x, hx, hd⟩ := drop_at hlt
        have hgx := strs_at hx
        have hw : IntKind.i64.wrap ((j : Int) + 1) = ((j + 1 : Nat) : Int) := wrap_succ (by omega)
        have hstep := putT_take (s := s) hx
        obtain ⟨o, ho⟩ : ∃ o, (putT s (l.take j)).1 = o := ⟨_, rfl⟩
        obtain ⟨d, hd⟩ : ∃ d, (putT s (l.take j)).2 = d := ⟨_, rfl⟩
        rw [show putT s (l.take j) = (o, d) from Prod.ext ho hd] at hol hstep ⊢
        simp only [putS] at hstep
        simp only [tru] at *
        have hol2 : o.length ≤ l.length + 1 := Nat.le_trans (Nat.le_add_right _ _) (Nat.le_trans hol (by omega))
        rcases Bool.eq_false_or_eq_true (leS s x) with hle | hle
        · have hle2 : (Op.bytesLess s x || s == x) = true := hle
          by_cases hxs : x = s
          · have hxe := eq_true hxs
            have ebx : (x == s) = true := by simp [hxs]
            cases d
            · repeat' first|refine Spl.on (fun _=>?_) (fun _=>?_)|with_reducible refine gd ?_|simp only [go_sem, Int.reduceEq, Int.cast_ofNat_Int, Bool.false_eq_true, xblkG_exit3, List.length_map, ej, hgx, hw, hle2, ebx, List.length_append, List.length_cons, List.length_nil]
              all_goals try (exfalso; omega)
              refine lend_mk (n - 1) [.own 9 1 ((putT s (l.take (j + 1))).1.map str), tru (putT s (l.take (j + 1))).2, num ((j + 1 : Nat) : Int)] (by omega) ⟨j + 1, by omega, by omega, rfl⟩ ?_
              rw [hstep]
              simp only [hle, hxe, Bool.not_true, Bool.not_false, Bool.and_true, Bool.true_and, Bool.false_and, Bool.and_false, Bool.or_true, Bool.true_or, Bool.or_false, Bool.false_or, Bool.false_eq_true, if_true, if_false, List.append_nil, List.map_append, List.map_cons, List.map_nil, str, tru]
              simp only [hvm_t, hvm_f, hvm_nil, puts_cons, puts_nil, List.set_cons_zero, List.set_cons_succ, num]
              repeat first | exact Wk.nil | refine Wk.same ?_ | refine wk_any ?_
            · repeat' first|refine Spl.on (fun _=>?_) (fun _=>?_)|with_reducible refine gd ?_|simp only [go_sem, Int.reduceEq, Int.cast_ofNat_Int, Bool.false_eq_true, xblkG_exit3, List.length_map, ej, hgx, hw, hle2, ebx, List.length_append, List.length_cons, List.length_nil]
              all_goals try (exfalso; omega)
              refine lend_mk (n - 1) [.own 9 1 ((putT s (l.take (j + 1))).1.map str), tru (putT s (l.take (j + 1))).2, num ((j + 1 : Nat) : Int)] (by omega) ⟨j + 1, by omega, by omega, rfl⟩ ?_
              rw [hstep]
              simp only [hle, hxe, Bool.not_true, Bool.not_false, Bool.and_true, Bool.true_and, Bool.false_and, Bool.and_false, Bool.or_true, Bool.true_or, Bool.or_false, Bool.false_or, Bool.false_eq_true, if_true, if_false, List.append_nil, List.map_append, List.map_cons, List.map_nil, str, tru]
              simp only [hvm_t, hvm_f, hvm_nil, puts_cons, puts_nil, List.set_cons_zero, List.set_cons_succ, num]
              repeat first | exact Wk.nil | refine Wk.same ?_ | refine wk_any ?_
          · have hxe := eq_false hxs
            have ebx : (x == s) = false := by simp [hxs]
            cases d
            · repeat' first|refine Spl.on (fun _=>?_) (fun _=>?_)|with_reducible refine gd ?_|simp only [go_sem, Int.reduceEq, Int.cast_ofNat_Int, Bool.false_eq_true, xblkG_exit3, List.length_map, ej, hgx, hw, hle2, ebx, List.length_append, List.length_cons, List.length_nil]
              all_goals try (exfalso; omega)
              refine lend_mk (n - 1) [.own 9 1 ((putT s (l.take (j + 1))).1.map str), tru (putT s (l.take (j + 1))).2, num ((j + 1 : Nat) : Int)] (by omega) ⟨j + 1, by omega, by omega, rfl⟩ ?_
              rw [hstep]
              simp only [hle, hxe, Bool.not_true, Bool.not_false, Bool.and_true, Bool.true_and, Bool.false_and, Bool.and_false, Bool.or_true, Bool.true_or, Bool.or_false, Bool.false_or, Bool.false_eq_true, if_true, if_false, List.append_nil, List.map_append, List.map_cons, List.map_nil, str, tru]
              simp only [hvm_t, hvm_f, hvm_nil, puts_cons, puts_nil, List.set_cons_zero, List.set_cons_succ, num]
              repeat first | exact Wk.nil | refine Wk.same ?_ | refine wk_any ?_
            · repeat' first|refine Spl.on (fun _=>?_) (fun _=>?_)|with_reducible refine gd ?_|simp only [go_sem, Int.reduceEq, Int.cast_ofNat_Int, Bool.false_eq_true, xblkG_exit3, List.length_map, ej, hgx, hw, hle2, ebx, List.length_append, List.length_cons, List.length_nil]
              all_goals try (exfalso; omega)
              refine lend_mk (n - 1) [.own 9 1 ((putT s (l.take (j + 1))).1.map str), tru (putT s (l.take (j + 1))).2, num ((j + 1 : Nat) : Int)] (by omega) ⟨j + 1, by omega, by omega, rfl⟩ ?_
              rw [hstep]
              simp only [hle, hxe, Bool.not_true, Bool.not_false, Bool.and_true, Bool.true_and, Bool.false_and, Bool.and_false, Bool.or_true, Bool.true_or, Bool.or_false, Bool.false_or, Bool.false_eq_true, if_true, if_false, List.append_nil, List.map_append, List.map_cons, List.map_nil, str, tru]
              simp only [hvm_t, hvm_f, hvm_nil, puts_cons, puts_nil, List.set_cons_zero, List.set_cons_succ, num]
              repeat first | exact Wk.nil | refine Wk.same ?_ | refine wk_any ?_
        · have hle2 : (Op.bytesLess s x || s == x) = false := hle
          by_cases hxs : x = s
          · have hxe := eq_true hxs
            have ebx : (x == s) = true := by simp [hxs]
            cases d
            · repeat' first|refine Spl.on (fun _=>?_) (fun _=>?_)|with_reducible refine gd ?_|simp only [go_sem, Int.reduceEq, Int.cast_ofNat_Int, Bool.false_eq_true, xblkG_exit3, List.length_map, ej, hgx, hw, hle2, ebx, List.length_append, List.length_cons, List.length_nil]
              all_goals try (exfalso; omega)
              refine lend_mk (n - 1) [.own 9 1 ((putT s (l.take (j + 1))).1.map str), tru (putT s (l.take (j + 1))).2, num ((j + 1 : Nat) : Int)] (by omega) ⟨j + 1, by omega, by omega, rfl⟩ ?_
              rw [hstep]
              simp only [hle, hxe, Bool.not_true, Bool.not_false, Bool.and_true, Bool.true_and, Bool.false_and, Bool.and_false, Bool.or_true, Bool.true_or, Bool.or_false, Bool.false_or, Bool.false_eq_true, if_true, if_false, List.append_nil, List.map_append, List.map_cons, List.map_nil, str, tru]
              simp only [hvm_t, hvm_f, hvm_nil, puts_cons, puts_nil, List.set_cons_zero, List.set_cons_succ, num]
              repeat first | exact Wk.nil | refine Wk.same ?_ | refine wk_any ?_
            · repeat' first|refine Spl.on (fun _=>?_) (fun _=>?_)|with_reducible refine gd ?_|simp only [go_sem, Int.reduceEq, Int.cast_ofNat_Int, Bool.false_eq_true, xblkG_exit3, List.length_map, ej, hgx, hw, hle2, ebx, List.length_append, List.length_cons, List.length_nil]
              all_goals try (exfalso; omega)
              refine lend_mk (n - 1) [.own 9 1 ((putT s (l.take (j + 1))).1.map str), tru (putT s (l.take (j + 1))).2, num ((j + 1 : Nat) : Int)] (by omega) ⟨j + 1, by omega, by omega, rfl⟩ ?_
              rw [hstep]
              simp only [hle, hxe, Bool.not_true, Bool.not_false, Bool.and_true, Bool.true_and, Bool.false_and, Bool.and_false, Bool.or_true, Bool.true_or, Bool.or_false, Bool.false_or, Bool.false_eq_true, if_true, if_false, List.append_nil, List.map_append, List.map_cons, List.map_nil, str, tru]
              simp only [hvm_t, hvm_f, hvm_nil, puts_cons, puts_nil, List.set_cons_zero, List.set_cons_succ, num]
              repeat first | exact Wk.nil | refine Wk.same ?_ | refine wk_any ?_
          · have hxe := eq_false hxs
            have ebx : (x == s) = false := by simp [hxs]
            cases d
            · repeat' first|refine Spl.on (fun _=>?_) (fun _=>?_)|with_reducible refine gd ?_|simp only [go_sem, Int.reduceEq, Int.cast_ofNat_Int, Bool.false_eq_true, xblkG_exit3, List.length_map, ej, hgx, hw, hle2, ebx, List.length_append, List.length_cons, List.length_nil]
              all_goals try (exfalso; omega)
              refine lend_mk (n - 1) [.own 9 1 ((putT s (l.take (j + 1))).1.map str), tru (putT s (l.take (j + 1))).2, num ((j + 1 : Nat) : Int)] (by omega) ⟨j + 1, by omega, by omega, rfl⟩ ?_
              rw [hstep]
              simp only [hle, hxe, Bool.not_true, Bool.not_false, Bool.and_true, Bool.true_and, Bool.false_and, Bool.and_false, Bool.or_true, Bool.true_or, Bool.or_false, Bool.false_or, Bool.false_eq_true, if_true, if_false, List.append_nil, List.map_append, List.map_cons, List.map_nil, str, tru]
              simp only [hvm_t, hvm_f, hvm_nil, puts_cons, puts_nil, List.set_cons_zero, List.set_cons_succ, num]
              repeat first | exact Wk.nil | refine Wk.same ?_ | refine wk_any ?_
            · repeat' first|refine Spl.on (fun _=>?_) (fun _=>?_)|with_reducible refine gd ?_|simp only [go_sem, Int.reduceEq, Int.cast_ofNat_Int, Bool.false_eq_true, xblkG_exit3, List.length_map, ej, hgx, hw, hle2, ebx, List.length_append, List.length_cons, List.length_nil]
              all_goals try (exfalso; omega)
              refine lend_mk (n - 1) [.own 9 1 ((putT s (l.take (j + 1))).1.map str), tru (putT s (l.take (j + 1))).2, num ((j + 1 : Nat) : Int)] (by omega) ⟨j + 1, by omega, by omega, rfl⟩ ?_
              rw [hstep]
              simp only [hle, hxe, Bool.not_true, Bool.not_false, Bool.and_true, Bool.true_and, Bool.false_and, Bool.and_false, Bool.or_true, Bool.true_or, Bool.or_false, Bool.false_or, Bool.false_eq_true, if_true, if_false, List.append_nil, List.map_append, List.map_cons, List.map_nil, str, tru]
              simp only [hvm_t, hvm_f, hvm_nil, puts_cons, puts_nil, List.set_cons_zero, List.set_cons_succ, num]
              repeat first | exact Wk.nil | refine Wk.same ?_ | refine wk_any ?_
      · have ej := eq_false (show ¬ (j : Int) < (l.length : Int) by omega)
        rw [List.take_of_length_le hge] at hol ⊢
        obtain ⟨o, ho⟩ : ∃ o, (putT s l).1 = o := ⟨_, rfl⟩
        obtain ⟨d, hd⟩ : ∃ d, (putT s l).2 = d := ⟨_, rfl⟩
        have hpl : putL l s = o ++ if d then [] else [s] := by rw [putL, ho, hd]
        rw [show putT s l = (o, d) from Prod.ext ho hd] at hol ⊢
        rw [hpl]
        have hol2 : o.length ≤ l.length + 1 := Nat.le_trans (Nat.le_add_right _ _) (Nat.le_trans hol (by omega))
        simp only [tru]
        cases d
        · repeat' first|refine Spl.on (fun _=>?_) (fun _=>?_)|with_reducible refine gd ?_|simp only [go_sem, Int.reduceEq, Int.cast_ofNat_Int, Bool.false_eq_true, xblkG_exit3, List.length_map, ej, List.length_append, List.length_cons, List.length_nil]
          all_goals first | (simp only [Bool.false_eq_true, if_false, List.map_append, List.map_cons, List.map_nil, str, or_true, false_or, and_true]; done) | (refine .inr ⟨?_, rfl⟩; simp only [Bool.false_eq_true, if_false, List.map_append, List.map_cons, List.map_nil, str]; done)
        · repeat' first|refine Spl.on (fun _=>?_) (fun _=>?_)|with_reducible refine gd ?_|simp only [go_sem, Int.reduceEq, Int.cast_ofNat_Int, Bool.false_eq_true, xblkG_exit3, List.length_map, ej, List.length_append, List.length_cons, List.length_nil]
          all_goals first | exact .inr trivial | (simp only [if_true, List.append_nil, or_true, false_or, and_true]; done) | (refine .inr ⟨?_, rfl⟩; simp only [if_true, List.append_nil]; done)
theorem putA44 (l : List Str) (a : Adr) (hl : l.length ≤ 10000000) (ha : a.name.length ≤ 1000000000) (hb : a.lang.length ≤ 1000000000) : ACalls Tryz.prog 44 [.sl 1 (l.map str), adrA a] (fun r => r = .sl 1 ((putV l a).map str)) := by
  refine (putA44' l a hl ha hb).wkr ?_
  rintro r (⟨rfl, hv⟩ | ⟨rfl, hv⟩)
  · exact ⟨_, W1.refl _, rfl, by rw [putV, hv]; rfl⟩
  · exact ⟨_, W1.ownsl _ _ _, rfl, by rw [putV, if_pos hv]⟩
end Go.Proofs.YtkafbgdokgfjmaaGreatDoor
namespace Go.Proofs.YtkafbgdokgfjmaaGreatDoor
open Go.RowKit Go.Proofs
set_option linter.unusedSimpArgs false
set_option linter.unusedVariables false
set_option maxRecDepth 100000
set_option maxHeartbeats 4000000

theorem radd (X Y Z : Nat) : X + Y + Z = X + (Y + Z) := Nat.add_assoc ..
theorem acc_le {L : List Sto} {Z : List Adr} (hZ : (radL L).length ≤ 9000000) (h : Z.length ≤ (radL L).length) : (Z.foldl putV b0).length ≤ 9000002 := by
  have := putVs_len Z b0
  have e : b0.length = 2 := rfl
  omega
theorem radL_len (L : List Sto) : (radL L).length = (L.flatMap edF).length + (((topR L).flatMap (rtF L)).length + (autR L).length) := by simp only [radL, List.length_append, List.length_map]
theorem fm_le {α : Type} {f : α → List Adr} {M : List α} {i : Nat} : ((M.take i).flatMap f).length ≤ (M.flatMap f).length := by
  conv => rhs; rw [← List.take_append_drop i M, List.flatMap_append, List.length_append]
  omega
theorem fm_le2 {α : Type} {f : α → List Adr} {M : List α} {i : Nat} {s : α} (h : M[i]? = some s) : ((M.take i).flatMap f).length + (f s).length ≤ (M.flatMap f).length := by
  rw [← fm_take h]; exact fm_le
theorem rtF_len (L : List Sto) (t : Str) : (rtF L t).length = 1 + pgN L t := by simp [rtF]; omega
theorem rtF_at {L : List Sto} {t : Str} {p : Nat} (hp : p < pgN L t) : (rtF L t)[1 + p]? = some ⟨3, t, ((p + 1 : Nat) : Int), []⟩ := by
  rw [rtF, Nat.add_comm, List.getElem?_cons_succ, List.getElem?_map, List.getElem?_range hp]
  simp
theorem refPageS (L : List Sto) (tm : List AV) (v : List UInt8) (p : Int) (hl : L.length ≤ 100000) (hs : ∀ s ∈ L, StOk s) : ACalls Tryz.prog 46 [stA L tm, str v, num p] (fun r => r = .tup [.sl 1 (nums (pgL ((newL v L).reverse.map (·.id)) p)), num (((newL v L).length + 4) / 5 : Nat)]) := by
  refine (refPage21 L tm v p hl hs).wkr ?_
  rintro r rfl
  exact ⟨_, W1.tup (wk_ownsl (Wk.refl _)), rfl, rfl⟩
theorem rall25 (L : List Sto) (tm : List AV) (hl : L.length ≤ 10000) (hs : ∀ s ∈ L, StOk s) (ht : ∀ s ∈ L, s.tp.length ≤ 1000) (he : ∀ s ∈ L, EdOk s) (hT : (topR L).length ≤ 1000000000) (hA : (autR L).length ≤ 1000000000) (hZ : (radL L).length ≤ 9000000)
    (hnT : ∀ t ∈ topR L, t.length ≤ 1000000000) (hnA : ∀ t ∈ autR L, t.length ≤ 1000000000) (hnE : ∀ s ∈ L, ∀ e ∈ s.ed, (edl e).length ≤ 1000000000) :
    ACalls Tryz.prog 25 [stA L tm] (fun r => r = .sl 1 ((allL L).map str)) := by
  simp only [stA]
  refine calls_short [] ttok hmix Tryz.func25 (by decide) (by decide +kernel) (by simp only [Tryz.f25, Option.bind_some, comp, isLend, lendOf, lendX, lendC, lendH, Nat.reduceLeDiff, Nat.reduceSub, ne_eq, not_false_eq_true, and_self, cops, cguard, gslot, List.getElem?_toArray, List.getElem?_cons_succ, List.getElem?_cons_zero, vlook, tlook, cutAt_nil, cutAt, firstReg, isCut, mkSeq, Nat.reduceAdd, Nat.reduceEqDiff, reduceIte]; rfl) Tryz.ntmps25 Tryz.results25 ⟨_, rfl⟩ rfl ?_
  simp only [List.length_cons, List.length_nil, Nat.reduceAdd, Nat.reduceSub, List.replicate_succ, List.replicate_zero, List.cons_append, List.nil_append, num, str, tru]
  simp (decide := true) only [mkd_eq [5] [4200005, 4000005] [] [[], [5], [5], [5], [43, 5], [], [45, 43], [45], [], [], [], []], List.zip_cons_cons, List.zip_nil_left, List.zip_nil_right]
  simp (decide := true) only [mkd_eq [] [] [] [[], [60], [], [60], [], [], [58], [58], [58], [], []], List.zip_cons_cons, List.zip_nil_left, List.zip_nil_right]
  repeat' first|refine Spl.on (fun _=>?_) (fun _=>?_)|with_reducible refine gd ?_|simp only [go_sem, Int.reduceEq, Int.cast_ofNat_Int, Bool.false_eq_true, xblkG_exit3, List.length_map]
  refine cwp_loop [false, false, false, true, true, true, true, false, false, false, false, false, false, false, false, true, true, true, true, true, true, true, true, true, true, true, true, true, true, true, true, true, true, true, true, true, true, true, true, true, true, true, true, true, true, true, true, true, true, true, false, false, false, false, false, false, false, false, false, false, false, false, false, false, false, false, false, false, false, false, false, false, false, false, false, false, false, false, false, false, false, false, false, false, false, false, false, false, false, false, false, false, false, false, false, false, false, false, false, false, false, false, false] [3, 4] (fun n xs => ∃ (i : Nat) (acc : List Str), i ≤ L.length ∧ i + n = L.length ∧ acc = ((L.take i).flatMap edF).foldl putV b0 ∧ xs = [.sl 1 (acc.map str), num i]) ⟨L.length, _, ⟨0, b0, by omega, by omega, rfl, rfl⟩, ?_⟩ ?_
  · simp only [b0, wMap, List.map_cons, List.map_nil, str]
    simp only [hvm_t, hvm_f, hvm_nil, puts_cons, puts_nil, List.set_cons_zero, List.set_cons_succ, num]
    repeat first | exact Wk.nil | refine wk_ownsl ?_ | refine Wk.same ?_ | refine wk_any ?_
  · rintro n xs ⟨i, acc, hi1, hi2, hacc, rfl⟩
    simp only [hvm_t, hvm_f, hvm_nil, puts_cons, puts_nil, List.set_cons_zero, List.set_cons_succ, num]
    rcases Nat.lt_or_ge i L.length with hlt | hge
    · have ej := eq_true (show (i : Int) < (L.length : Int) by omega)
      obtain ⟨s, hx, hd⟩ := drop_at hlt
      have hso := hs s (List.mem_of_getElem? hx)
      have heo := he s (List.mem_of_getElem? hx)
      have hed := hso.2
      have hgx := sto_at hx
      simp only [num, str, tru] at hgx
      have hw : IntKind.i64.wrap ((i : Int) + 1) = ((i + 1 : Nat) : Int) := wrap_succ (by omega)
      repeat' first|refine Spl.on (fun _=>?_) (fun _=>?_)|with_reducible refine gd ?_|simp only [go_sem, Int.reduceEq, Int.cast_ofNat_Int, Bool.false_eq_true, xblkG_exit3, List.length_map, ej, hgx, hw]
      refine cwp_loop [false, false, false, true, false, false, true, false, false, false, false, false, false, false, false, false, false, false, false, false, false, false, false, false, false, false, false, true, true, true, true, true, true, true, true, true, true, true, true, true, true, true, true, true, true, true, true, true, true, true, false, false, false, false, false, false, false, false, false, false, false, false, false, false, false, false, false, false, false, false, false, false, false, false, false, false, false, false, false, false, false, false, false, false, false, false, false, false, false, false, false, false, false, false, false, false, false, false, false, false, false, false, false] [3, 6] (fun n xs => ∃ (j : Nat) (acc2 : List Str), j ≤ (edF s).length ∧ j + n = (edF s).length ∧ acc2 = ((L.take i).flatMap edF ++ (edF s).take j).foldl putV b0 ∧ xs = [.sl 1 (acc2.map str), num j]) ⟨(edF s).length, _, ⟨0, acc, by omega, by omega, by rw [hacc]; simp only [List.take_zero, List.append_nil], rfl⟩, ?_⟩ ?_
      · simp only [hvm_t, hvm_f, hvm_nil, puts_cons, puts_nil, List.set_cons_zero, List.set_cons_succ, num]
        repeat first | exact Wk.nil | refine wk_ownsl ?_ | refine Wk.same ?_ | refine wk_any ?_
      · rintro n2 xs ⟨j, acc2, hj1, hj2, hacc2, rfl⟩
        simp only [hvm_t, hvm_f, hvm_nil, puts_cons, puts_nil, List.set_cons_zero, List.set_cons_succ, num]
        rcases Nat.lt_or_ge j (edF s).length with hjl | hjg
        · have htk : s.tk = false := by
            cases h : s.tk with
            | false => rfl
            | true => simp [edF, h] at hjl
          have hjl' : j < s.ed.length := by rw [edF_len htk] at hjl; exact hjl
          have hwj : IntKind.i64.wrap ((j : Int) + 1) = ((j + 1 : Nat) : Int) := wrap_succ (by omega)
          have ek := eq_true (show (j : Int) < (s.ed.length : Int) by omega)
          obtain ⟨e, hjx, hjd⟩ := drop_at hjl'
          have hle2 := hnE s (List.mem_of_getElem? hx) e (List.mem_of_getElem? hjx)
          obtain ⟨l, c1, c2, c3, c4, rfl⟩ := heo e (List.mem_of_getElem? hjx)
          have hge : s.ed.getD j .any = .agg [str l, c1, c2, c3, c4] := by simp [hjx]
          have hel : edl (.agg [str l, c1, c2, c3, c4]) = l := by simp [edl, str]
          rw [hel] at hle2
          simp only [str] at hge
          have hal : acc2.length ≤ 9000002 := by
            rw [hacc2]
            refine acc_le hZ ?_
            have := fm_le2 (f := edF) hx
            rw [radL_len]
            simp only [List.length_append, List.length_take]
            omega
          repeat' first|refine Spl.on (fun _=>?_) (fun _=>?_)|with_reducible refine gd ?_|simp only [go_sem, Int.reduceEq, Int.cast_ofNat_Int, Bool.false_eq_true, xblkG_exit3, List.length_map, ek, hge, hwj, hw, htk, hgx, ej]
          refine ((putA44 (acc2) ⟨2, [], s.id, l⟩ (by omega) (by simp) hle2).wk ?_).mono ?_
          · simp only [adrA, num, str]
            repeat first | exact Wk.nil | exact Wk.refl _ | refine wk_agg ?_ ?_ | refine wk_ownsl ?_ | refine wk_nilsl ?_ | refine Wk.same ?_
          rintro r rfl
          try simp only [tru, num, str]
          repeat' first|refine Spl.on (fun _=>?_) (fun _=>?_)|with_reducible refine gd ?_|simp only [go_sem, Int.reduceEq, Int.cast_ofNat_Int, Bool.false_eq_true, xblkG_exit3, List.length_map, ek, hge, hwj, hw, htk, hgx, ej]
          refine lend_mk (n2 - 1) [.sl 1 ((putV acc2 ⟨2, [], s.id, l⟩).map str), num ((j + 1 : Nat) : Int)] (by omega) ⟨j + 1, _, by omega, by omega, ?_, rfl⟩ ?_
          · rw [hacc2, List.take_add_one, edF_at htk hjx, ← List.append_assoc, List.foldl_append (l := ((L.take i).flatMap edF) ++ List.take j (edF s))]
            rfl
          · simp only [hvm_t, hvm_f, hvm_nil, puts_cons, puts_nil, List.set_cons_zero, List.set_cons_succ, num]
            repeat first | exact Wk.nil | refine wk_ownsl ?_ | refine Wk.same ?_ | refine wk_any ?_
        · rw [List.take_of_length_le hjg] at hacc2
          have hn2 : acc2 = ((L.take (i + 1)).flatMap edF).foldl putV b0 := by rw [hacc2, List.take_add_one, hx, List.flatMap_append]; simp
          cases htk : s.tk
          · have hjg' : s.ed.length ≤ j := by rw [edF_len htk] at hjg; exact hjg
            have ek := eq_false (show ¬ (j : Int) < (s.ed.length : Int) by omega)
            repeat' first|refine Spl.on (fun _=>?_) (fun _=>?_)|with_reducible refine gd ?_|simp only [go_sem, Int.reduceEq, Int.cast_ofNat_Int, Bool.false_eq_true, xblkG_exit3, List.length_map, ek, hw, htk]
            refine lend_mk (n - 1) [.sl 1 (acc2.map str), num ((i + 1 : Nat) : Int)] (by omega) ⟨i + 1, _, by omega, by omega, ?_, rfl⟩ ?_
            · exact hn2
            · simp only [hvm_t, hvm_f, hvm_nil, puts_cons, puts_nil, List.set_cons_zero, List.set_cons_succ, num]
              repeat first | exact Wk.nil | refine wk_ownsl ?_ | refine Wk.same ?_ | refine wk_any ?_
          · repeat' first|refine Spl.on (fun _=>?_) (fun _=>?_)|with_reducible refine gd ?_|simp only [go_sem, Int.reduceEq, Int.cast_ofNat_Int, Bool.false_eq_true, xblkG_exit3, List.length_map, hw, htk]
            all_goals (
              refine lend_mk (n - 1) [.sl 1 (acc2.map str), num ((i + 1 : Nat) : Int)] (by omega) ⟨i + 1, _, by omega, by omega, hn2, rfl⟩ ?_
              simp only [hvm_t, hvm_f, hvm_nil, puts_cons, puts_nil, List.set_cons_zero, List.set_cons_succ, num]
              repeat first | exact Wk.nil | refine wk_ownsl ?_ | refine Wk.same ?_ | refine wk_any ?_)
    · have ej := eq_false (show ¬ (i : Int) < (L.length : Int) by omega)
      rw [List.take_of_length_le hge] at hacc
      repeat' first|refine Spl.on (fun _=>?_) (fun _=>?_)|with_reducible refine gd ?_|simp only [go_sem, Int.reduceEq, Int.cast_ofNat_Int, Bool.false_eq_true, xblkG_exit3, List.length_map, ej]
      refine ((refTopics24 L tm hl hs ht).wk ?_).mono ?_
      · try simp only [num, str]
        repeat first | exact Wk.nil | exact Wk.refl _ | refine wk_agg ?_ ?_ | refine wk_ownsl ?_ | refine wk_nilsl ?_ | refine Wk.same ?_
      rintro r rfl
      try simp only [tru, num, str]
      repeat' first|refine Spl.on (fun _=>?_) (fun _=>?_)|with_reducible refine gd ?_|simp only [go_sem, Int.reduceEq, Int.cast_ofNat_Int, Bool.false_eq_true, xblkG_exit3, List.length_map, ej]
      refine cwp_loop [false, false, false, true, false, false, false, true, true, true, true, true, false, false, false, false, false, false, false, false, false, false, false, false, false, false, false, false, false, false, false, false, false, false, false, false, false, false, false, false, false, false, false, false, false, false, false, false, false, false, false, false, true, true, true, true, true, true, true, true, true, true, true, true, true, true, true, true, true, true, true, true, true, true, true, true, true, true, true, true, true, true, true, true, true, true, true, false, false, false, false, false, false, false, false, false, false, false, false, false, false, false, false] [3, 7, 8] (fun n xs => ∃ (i : Nat) (acc : List Str), i ≤ (topR L).length ∧ i + n = (topR L).length ∧ acc = (((L.flatMap edF) ++ ((topR L).take i).flatMap (rtF L))).foldl putV b0 ∧ xs = [.sl 1 (acc.map str), .sl 1 ((topR L).map str), num i]) ⟨(topR L).length, _, ⟨0, acc, by omega, by omega, by rw [hacc]; simp only [List.take_zero, List.flatMap_nil, List.append_nil], rfl⟩, ?_⟩ ?_
      · simp only [hvm_t, hvm_f, hvm_nil, puts_cons, puts_nil, List.set_cons_zero, List.set_cons_succ, num]
        repeat first | exact Wk.nil | refine wk_ownsl ?_ | refine Wk.same ?_ | refine wk_any ?_
      · rintro n xs ⟨i, acc, hi1, hi2, hacc, rfl⟩
        simp only [hvm_t, hvm_f, hvm_nil, puts_cons, puts_nil, List.set_cons_zero, List.set_cons_succ, num]
        rcases Nat.lt_or_ge i (topR L).length with hlt | hge
        · have ej := eq_true (show (i : Int) < ((topR L).length : Int) by omega)
          obtain ⟨t, hx, hd⟩ := drop_at hlt
          have hgx := strs_at hx
          have hw : IntKind.i64.wrap ((i : Int) + 1) = ((i + 1 : Nat) : Int) := wrap_succ (by omega)
          have hpgl := pgN_le L t hl
          have hal : acc.length ≤ 9000002 := by
            rw [hacc]
            refine acc_le hZ ?_
            have := fm_le (f := rtF L) (M := topR L) (i := i)
            rw [radL_len]
            simp only [List.length_append]
            omega
          repeat' first|refine Spl.on (fun _=>?_) (fun _=>?_)|with_reducible refine gd ?_|simp only [go_sem, Int.reduceEq, Int.cast_ofNat_Int, Bool.false_eq_true, xblkG_exit3, List.length_map, ej, hgx, hw]
          refine ((refPageS L tm t 1 (by omega) hs).wk ?_).mono ?_
          · try simp only [num, str]
            repeat first | exact Wk.nil | exact Wk.refl _ | refine wk_agg ?_ ?_ | refine wk_ownsl ?_ | refine wk_nilsl ?_ | refine Wk.same ?_
          rintro r rfl
          try simp only [tru, num, str]
          repeat' first|refine Spl.on (fun _=>?_) (fun _=>?_)|with_reducible refine gd ?_|simp only [go_sem, Int.reduceEq, Int.cast_ofNat_Int, Bool.false_eq_true, xblkG_exit3, List.length_map, ej, hgx, hw]
          refine ((putA44 (acc) ⟨5, t, 0, []⟩ (by omega) (hnT t (List.mem_of_getElem? hx)) (by simp)).wk ?_).mono ?_
          · simp only [adrA, num, str]
            repeat first | exact Wk.nil | exact Wk.refl _ | refine wk_agg ?_ ?_ | refine wk_ownsl ?_ | refine wk_nilsl ?_ | refine Wk.same ?_
          rintro r rfl
          try simp only [tru, num, str]
          repeat' first|refine Spl.on (fun _=>?_) (fun _=>?_)|with_reducible refine gd ?_|simp only [go_sem, Int.reduceEq, Int.cast_ofNat_Int, Bool.false_eq_true, xblkG_exit3, List.length_map, ej, hgx, hw]
          refine cwp_loop [false, false, false, true, false, false, false, true, false, false, false, true, false, false, false, false, false, false, false, false, false, false, false, false, false, false, false, false, false, false, false, false, false, false, false, false, false, false, false, false, false, false, false, false, false, false, false, false, false, false, false, false, false, false, false, false, false, false, false, false, false, false, false, false, false, false, false, false, false, false, false, false, false, false, true, true, true, true, true, true, true, true, true, true, true, true, true, false, false, false, false, false, false, false, false, false, false, false, false, false, false, false, false] [3, 7, 11] (fun n xs => ∃ (p : Nat) (acc4 : List Str), p ≤ pgN L t ∧ p + n = pgN L t ∧ acc4 = (((L.flatMap edF) ++ ((topR L).take i).flatMap (rtF L)) ++ (rtF L t).take (1 + p)).foldl putV b0 ∧ xs = [.sl 1 (acc4.map str), .sl 1 ((topR L).map str), num ((p + 1 : Nat) : Int)]) ⟨pgN L t, _, ⟨0, _, by omega, by omega, rfl, rfl⟩, ?_⟩ ?_
          · have e0 : (((L.flatMap edF) ++ ((topR L).take i).flatMap (rtF L)) ++ (rtF L t).take (1 + 0)).foldl putV b0 = putV acc ⟨5, t, 0, []⟩ := by rw [hacc, List.foldl_append]; rfl
            rw [e0]
            simp only [hvm_t, hvm_f, hvm_nil, puts_cons, puts_nil, List.set_cons_zero, List.set_cons_succ, num]
            repeat first | exact Wk.nil | refine wk_ownsl ?_ | refine Wk.same ?_ | refine wk_any ?_
          · rintro n4 xs ⟨p, acc4, hp1, hp2, hacc4, rfl⟩
            simp only [hvm_t, hvm_f, hvm_nil, puts_cons, puts_nil, List.set_cons_zero, List.set_cons_succ, num]
            rcases Nat.lt_or_ge p (pgN L t) with hpl | hpg
            · have hwp : IntKind.i64.wrap (((p + 1 : Nat) : Int) + 1) = ((p + 1 + 1 : Nat) : Int) := wrap_succ (by omega)
              have hpl' : p < ((newL t L).length + 4) / 5 := hpl
              have ep := eq_true (show ((p + 1 : Nat) : Int) ≤ ((((newL t L).length + 4) / 5 : Nat) : Int) by omega)
              have hal : acc4.length ≤ 9000002 := by
                rw [hacc4]
                refine acc_le hZ ?_
                have := fm_le2 (f := rtF L) hx
                rw [radL_len]
                simp only [List.length_append, List.length_take]
                omega
              repeat' first|refine Spl.on (fun _=>?_) (fun _=>?_)|with_reducible refine gd ?_|simp only [go_sem, Int.reduceEq, Int.cast_ofNat_Int, Bool.false_eq_true, xblkG_exit3, List.length_map, ep, hwp, hw, hgx, ej]
              refine ((putA44 (acc4) ⟨3, t, ((p + 1 : Nat) : Int), []⟩ (by omega) (hnT t (List.mem_of_getElem? hx)) (by simp)).wk ?_).mono ?_
              · simp only [adrA, num, str]
                repeat first | exact Wk.nil | exact Wk.refl _ | refine wk_agg ?_ ?_ | refine wk_ownsl ?_ | refine wk_nilsl ?_ | refine Wk.same ?_
              rintro r rfl
              try simp only [tru, num, str]
              repeat' first|refine Spl.on (fun _=>?_) (fun _=>?_)|with_reducible refine gd ?_|simp only [go_sem, Int.reduceEq, Int.cast_ofNat_Int, Bool.false_eq_true, xblkG_exit3, List.length_map, ep, hwp, hw, hgx, ej]
              refine lend_mk (n4 - 1) [.sl 1 ((putV acc4 ⟨3, t, ((p + 1 : Nat) : Int), []⟩).map str), .sl 1 ((topR L).map str), num ((p + 1 + 1 : Nat) : Int)] (by omega) ⟨p + 1, _, by omega, by omega, ?_, rfl⟩ ?_
              · rw [hacc4, show 1 + (p + 1) = (1 + p) + 1 by omega, List.take_add_one, rtF_at hpl, ← List.append_assoc, List.foldl_append (l := ((L.flatMap edF) ++ ((topR L).take i).flatMap (rtF L)) ++ List.take (1 + p) (rtF L t))]
                rfl
              · simp only [hvm_t, hvm_f, hvm_nil, puts_cons, puts_nil, List.set_cons_zero, List.set_cons_succ, num]
                repeat first | exact Wk.nil | refine wk_ownsl ?_ | refine Wk.same ?_ | refine wk_any ?_
            · have hpg' : p ≥ ((newL t L).length + 4) / 5 := hpg
              have ep := eq_false (show ¬ ((p + 1 : Nat) : Int) ≤ ((((newL t L).length + 4) / 5 : Nat) : Int) by omega)
              repeat' first|refine Spl.on (fun _=>?_) (fun _=>?_)|with_reducible refine gd ?_|simp only [go_sem, Int.reduceEq, Int.cast_ofNat_Int, Bool.false_eq_true, xblkG_exit3, List.length_map, ep, hw]
              refine lend_mk (n - 1) [.sl 1 (acc4.map str), .sl 1 ((topR L).map str), num ((i + 1 : Nat) : Int)] (by omega) ⟨i + 1, _, by omega, by omega, ?_, rfl⟩ ?_
              · have e1 : (rtF L t).take (1 + p) = rtF L t := List.take_of_length_le (by rw [rtF_len]; omega)
                rw [hacc4, e1, List.take_add_one, hx, List.flatMap_append, List.append_assoc]
                simp
              · simp only [hvm_t, hvm_f, hvm_nil, puts_cons, puts_nil, List.set_cons_zero, List.set_cons_succ, num]
                repeat first | exact Wk.nil | refine wk_ownsl ?_ | refine Wk.same ?_ | refine wk_any ?_
        · have ej := eq_false (show ¬ (i : Int) < ((topR L).length : Int) by omega)
          rw [List.take_of_length_le hge] at hacc
          repeat' first|refine Spl.on (fun _=>?_) (fun _=>?_)|with_reducible refine gd ?_|simp only [go_sem, Int.reduceEq, Int.cast_ofNat_Int, Bool.false_eq_true, xblkG_exit3, List.length_map, ej]
          refine ((refAuthors26 L tm hl hs).wk ?_).mono ?_
          · try simp only [num, str]
            repeat first | exact Wk.nil | exact Wk.refl _ | refine wk_agg ?_ ?_ | refine wk_ownsl ?_ | refine wk_nilsl ?_ | refine Wk.same ?_
          rintro r rfl
          try simp only [tru, num, str]
          repeat' first|refine Spl.on (fun _=>?_) (fun _=>?_)|with_reducible refine gd ?_|simp only [go_sem, Int.reduceEq, Int.cast_ofNat_Int, Bool.false_eq_true, xblkG_exit3, List.length_map, ej]
          refine cwp_loop [false, false, false, true, false, false, false, false, false, false, false, false, true, true, false, false, false, false, false, false, false, false, false, false, false, false, false, false, false, false, false, false, false, false, false, false, false, false, false, false, false, false, false, false, false, false, false, false, false, false, false, false, false, false, false, false, false, false, false, false, false, false, false, false, false, false, false, false, false, false, false, false, false, false, false, false, false, false, false, false, false, false, false, false, false, false, false, false, false, true, true, true, true, true, true, true, true, true, true, true, true, true, false] [3, 12, 13] (fun n xs => ∃ (q : Nat) (acc : List Str), q ≤ (autR L).length ∧ q + n = (autR L).length ∧ acc = (((L.flatMap edF) ++ (topR L).flatMap (rtF L)) ++ ((autR L).take q).map auF).foldl putV b0 ∧ xs = [.sl 1 (acc.map str), .sl 1 ((autR L).map str), num q]) ⟨(autR L).length, _, ⟨0, acc, by omega, by omega, by rw [hacc]; simp only [List.take_zero, List.map_nil, List.append_nil], rfl⟩, ?_⟩ ?_
          · simp only [hvm_t, hvm_f, hvm_nil, puts_cons, puts_nil, List.set_cons_zero, List.set_cons_succ, num]
            repeat first | exact Wk.nil | refine wk_ownsl ?_ | refine Wk.same ?_ | refine wk_any ?_
          · rintro n xs ⟨q, acc, hq1, hq2, hacc, rfl⟩
            simp only [hvm_t, hvm_f, hvm_nil, puts_cons, puts_nil, List.set_cons_zero, List.set_cons_succ, num]
            rcases Nat.lt_or_ge q (autR L).length with hq | hq
            · have ej := eq_true (show (q : Int) < ((autR L).length : Int) by omega)
              obtain ⟨u, hux, hud⟩ := drop_at hq
              have hgx := strs_at hux
              have hw : IntKind.i64.wrap ((q : Int) + 1) = ((q + 1 : Nat) : Int) := wrap_succ (by omega)
              have hal : acc.length ≤ 9000002 := by
                rw [hacc]
                refine acc_le hZ ?_
                rw [radL_len]
                simp only [List.length_append, List.length_map, List.length_take]
                omega
              repeat' first|refine Spl.on (fun _=>?_) (fun _=>?_)|with_reducible refine gd ?_|simp only [go_sem, Int.reduceEq, Int.cast_ofNat_Int, Bool.false_eq_true, xblkG_exit3, List.length_map, ej, hgx, hw]
              refine ((putA44 (acc) ⟨4, u, 0, []⟩ (by omega) (hnA u (List.mem_of_getElem? hux)) (by simp)).wk ?_).mono ?_
              · simp only [adrA, num, str]
                repeat first | exact Wk.nil | exact Wk.refl _ | refine wk_agg ?_ ?_ | refine wk_ownsl ?_ | refine wk_nilsl ?_ | refine Wk.same ?_
              rintro r rfl
              try simp only [tru, num, str]
              repeat' first|refine Spl.on (fun _=>?_) (fun _=>?_)|with_reducible refine gd ?_|simp only [go_sem, Int.reduceEq, Int.cast_ofNat_Int, Bool.false_eq_true, xblkG_exit3, List.length_map, ej, hgx, hw]
              refine lend_mk (n - 1) [.sl 1 ((putV acc (auF u)).map str), .sl 1 ((autR L).map str), num ((q + 1 : Nat) : Int)] (by omega) ⟨q + 1, _, by omega, by omega, ?_, rfl⟩ ?_
              · rw [hacc, List.take_add_one, hux, List.map_append, ← List.append_assoc, List.foldl_append (l := ((L.flatMap edF) ++ (topR L).flatMap (rtF L)) ++ List.map auF (List.take q (autR L)))]
                rfl
              · simp only [hvm_t, hvm_f, hvm_nil, puts_cons, puts_nil, List.set_cons_zero, List.set_cons_succ, num]
                repeat first | exact Wk.nil | refine wk_ownsl ?_ | refine Wk.same ?_ | refine wk_any ?_
            · have ej := eq_false (show ¬ (q : Int) < ((autR L).length : Int) by omega)
              rw [List.take_of_length_le hq] at hacc
              have hfin : acc = allL L := by rw [hacc, ← rad_all, radL, List.append_assoc]
              rw [hfin]
              repeat' first|refine Spl.on (fun _=>?_) (fun _=>?_)|with_reducible refine gd ?_|simp only [go_sem, Int.reduceEq, Int.cast_ofNat_Int, Bool.false_eq_true, xblkG_exit3, List.length_map, ej]
              all_goals rfl
end Go.Proofs.YtkafbgdokgfjmaaGreatDoor
namespace Go.Proofs.YtkafbgdokgfjmaaGreatDoor
open Go.RowKit Go.Proofs
set_option linter.unusedSimpArgs false
set_option linter.unusedVariables false
set_option maxRecDepth 100000
set_option maxHeartbeats 4000000

def aS : Adr := ⟨2, [], 7, [101, 110]⟩
def aN : Adr := ⟨1, [97], 0, []⟩
def aT : Adr := ⟨3, [99, 105, 116, 121, 45, 104, 97, 108, 108], 2, []⟩
theorem aS_v : validL aS = true := by decide +kernel
theorem aN_v : validL aN = false := by decide +kernel
theorem aT_v : validL aT = true := by decide +kernel
theorem aS_f : fmtL aS = [47, 115, 116, 111, 114, 121, 47, 55, 47, 101, 110] := by
  show 47 :: Lib.join [wStory, dec 7, [101, 110]] [47] = _
  rw [dec_eq (by decide) (by decide)]
  decide +kernel
theorem aT_f : fmtL aT = [47, 116, 111, 112, 105, 99, 47, 99, 105, 116, 121, 45, 104, 97, 108, 108, 47, 50] := by
  show 47 :: Lib.join [wTopic, [99, 105, 116, 121, 45, 104, 97, 108, 108], dec 2] [47] = _
  rw [dec_eq (by decide) (by decide)]
  decide +kernel
theorem p2 : parseL [47, 116, 111, 112, 105, 99, 47, 99, 105, 116, 121, 45, 104, 97, 108, 108, 47, 50] = some aT := by rw [← aT_f]; exact parse_fmt aT_v
theorem p3 : parseL [47, 116, 111, 112, 105, 99, 47, 97, 47, 48, 50] = none := by
  cases h : parseL [47, 116, 111, 112, 105, 99, 47, 97, 47, 48, 50] with
  | none => rfl
  | some a =>
    obtain ⟨h1, h2⟩ := parse_some h
    have h3 := cand_fmt h1
    rw [h2] at h3
    have h4 : cand [47, 116, 111, 112, 105, 99, 47, 97, 47, 48, 50] = ⟨3, [97], 2, []⟩ := Adr.ext' (by decide +kernel) (by decide +kernel) (by decide +kernel) (by decide +kernel)
    rw [h4] at h3
    subst h3
    have h5 : fmtL ⟨3, [97], 2, []⟩ = [47, 116, 111, 112, 105, 99, 47, 97, 47, 50] := by
      show 47 :: Lib.join [wTopic, [97], dec 2] [47] = _
      rw [dec_eq (by decide) (by decide)]
      decide +kernel
    rw [h5] at h2
    exact absurd h2 (by decide)
theorem all0 : allL [] = b0 := by rw [← rad_all]; rfl
theorem f1 : fmtA aS = .tup [.raw (.string ⟨[47, 115, 116, 111, 114, 121, 47, 55, 47, 101, 110].toArray⟩), .raw (.int .i64 0)] := by rw [fmtA, if_pos aS_v, aS_f]; rfl
theorem f2 : fmtA aN = .tup [.raw (.string ⟨([] : Str).toArray⟩), .raw (.int .i64 120)] := by rw [fmtA, aN_v]; rfl
theorem pa2 : parseA (parseL [47, 116, 111, 112, 105, 99, 47, 99, 105, 116, 121, 45, 104, 97, 108, 108, 47, 50]) = .tup [.agg [.raw (.int .i64 3), .raw (.string ⟨[99, 105, 116, 121, 45, 104, 97, 108, 108].toArray⟩), .raw (.int .i64 2), .raw (.string ⟨([] : Str).toArray⟩)], .raw (.int .i64 0)] := by rw [p2]; rfl
theorem pa3 : parseA (parseL [47, 116, 111, 112, 105, 99, 47, 97, 47, 48, 50]) = .tup [.agg [.raw (.int .i64 0), .raw (.string ⟨([] : Str).toArray⟩), .raw (.int .i64 0), .raw (.string ⟨([] : Str).toArray⟩)], .raw (.int .i64 120)] := by rw [p3]; rfl
theorem sane12 : ACalls Tryz.prog 12 [] (fun r => r = tru true) := by
  refine calls_short [] ttok hmix Tryz.func12 (by decide) (by decide +kernel) (by simp only [Tryz.f12, Option.bind_some, comp, isLend, lendOf, lendX, lendC, lendH, Nat.reduceLeDiff, Nat.reduceSub, ne_eq, not_false_eq_true, and_self, cops, cguard, gslot, List.getElem?_toArray, List.getElem?_cons_succ, List.getElem?_cons_zero, vlook, tlook, cutAt_nil, cutAt, firstReg, isCut, mkSeq, Nat.reduceAdd, Nat.reduceEqDiff, reduceIte]; rfl) Tryz.ntmps12 Tryz.results12 ⟨_, rfl⟩ rfl ?_
  simp only [List.length_cons, List.length_nil, Nat.reduceAdd, Nat.reduceSub, List.replicate_succ, List.replicate_zero, List.cons_append, List.nil_append, num, str, tru]
  repeat' first|refine Spl.on (fun _=>?_) (fun _=>?_)|with_reducible refine gd ?_|simp only [go_sem, Int.reduceEq, Int.cast_ofNat_Int, Bool.false_eq_true, xblkG_exit3, List.length_map, beq_self_eq_true, List.length_cons, List.length_nil]
  refine ((format14 aS).wk ?_).mono ?_
  · try simp only [adrA, aS, num, str]
    repeat first | exact Wk.nil | exact Wk.refl _ | refine wk_agg ?_ ?_ | refine wk_ownsl ?_ | refine wk_nilsl ?_ | refine Wk.same ?_
  rintro r rfl
  simp only [f1]
  repeat' first|refine Spl.on (fun _=>?_) (fun _=>?_)|with_reducible refine gd ?_|simp only [go_sem, Int.reduceEq, Int.cast_ofNat_Int, Bool.false_eq_true, xblkG_exit3, List.length_map, beq_self_eq_true, List.length_cons, List.length_nil]
  refine ((format14 aN).wk ?_).mono ?_
  · try simp only [adrA, aN, num, str]
    repeat first | exact Wk.nil | exact Wk.refl _ | refine wk_agg ?_ ?_ | refine wk_ownsl ?_ | refine wk_nilsl ?_ | refine Wk.same ?_
  rintro r rfl
  simp only [f2]
  repeat' first|refine Spl.on (fun _=>?_) (fun _=>?_)|with_reducible refine gd ?_|simp only [go_sem, Int.reduceEq, Int.cast_ofNat_Int, Bool.false_eq_true, xblkG_exit3, List.length_map, beq_self_eq_true, List.length_cons, List.length_nil]
  refine ((parse20 [47, 116, 111, 112, 105, 99, 47, 99, 105, 116, 121, 45, 104, 97, 108, 108, 47, 50] (by decide)).wk ?_).mono ?_
  · try simp only [adrA, num, str]
    repeat first | exact Wk.nil | exact Wk.refl _ | refine wk_agg ?_ ?_ | refine wk_ownsl ?_ | refine wk_nilsl ?_ | refine Wk.same ?_
  rintro r rfl
  simp only [pa2]
  repeat' first|refine Spl.on (fun _=>?_) (fun _=>?_)|with_reducible refine gd ?_|simp only [go_sem, Int.reduceEq, Int.cast_ofNat_Int, Bool.false_eq_true, xblkG_exit3, List.length_map, beq_self_eq_true, List.length_cons, List.length_nil]
  refine ((parse20 [47, 116, 111, 112, 105, 99, 47, 97, 47, 48, 50] (by decide)).wk ?_).mono ?_
  · try simp only [adrA, num, str]
    repeat first | exact Wk.nil | exact Wk.refl _ | refine wk_agg ?_ ?_ | refine wk_ownsl ?_ | refine wk_nilsl ?_ | refine Wk.same ?_
  rintro r rfl
  simp only [pa3]
  repeat' first|refine Spl.on (fun _=>?_) (fun _=>?_)|with_reducible refine gd ?_|simp only [go_sem, Int.reduceEq, Int.cast_ofNat_Int, Bool.false_eq_true, xblkG_exit3, List.length_map, beq_self_eq_true, List.length_cons, List.length_nil]
  refine ((all24 [] [] (by decide) (by simp) (by simp) (by simp) (by decide) (by decide) (by decide)).wk ?_).mono ?_
  · simp only [stA, List.map_nil]
    repeat first | exact Wk.nil | exact Wk.refl _ | refine wk_agg ?_ ?_ | refine wk_ownsl ?_ | refine wk_nilsl ?_ | refine Wk.same ?_
  rintro r rfl
  simp only [all0, b0, wMap, List.map_cons, List.map_nil, str]
  repeat' first|refine Spl.on (fun _=>?_) (fun _=>?_)|with_reducible refine gd ?_|simp only [go_sem, Int.reduceEq, Int.cast_ofNat_Int, Bool.false_eq_true, xblkG_exit3, List.length_map, beq_self_eq_true, List.length_cons, List.length_nil]
  refine ((valid16 aT).wk ?_).mono ?_
  · try simp only [adrA, aT, num, str]
    repeat first | exact Wk.nil | exact Wk.refl _ | refine wk_agg ?_ ?_ | refine wk_ownsl ?_ | refine wk_nilsl ?_ | refine Wk.same ?_
  rintro r rfl
  simp only [aT_v, tru]
  repeat' first|refine Spl.on (fun _=>?_) (fun _=>?_)|with_reducible refine gd ?_|simp only [go_sem, Int.reduceEq, Int.cast_ofNat_Int, Bool.false_eq_true, xblkG_exit3, List.length_map, beq_self_eq_true, List.length_cons, List.length_nil]
  refine ((urgency18 aT).wk ?_).mono ?_
  · try simp only [adrA, aT, num, str]
    repeat first | exact Wk.nil | exact Wk.refl _ | refine wk_agg ?_ ?_ | refine wk_ownsl ?_ | refine wk_nilsl ?_ | refine Wk.same ?_
  rintro r rfl
  simp only [aT_v, if_true, urgL, aT, num, Int.reduceEq, if_false]
  repeat' first|refine Spl.on (fun _=>?_) (fun _=>?_)|with_reducible refine gd ?_|simp only [go_sem, Int.reduceEq, Int.cast_ofNat_Int, Bool.false_eq_true, xblkG_exit3, List.length_map, beq_self_eq_true, List.length_cons, List.length_nil]
  all_goals first | rfl | (simp [tru]; done)
def shortL (a : Adr) : Adr := ⟨a.kind, a.name.take 40, a.n, a.lang.take 40⟩
theorem take_min (s : Str) (n : Nat) : s.take (min (s.length : Int) n).toNat = s.take n := by
  rcases Nat.le_total s.length n with h | h
  · rw [show (min (s.length : Int) n).toNat = s.length by omega, List.take_length, List.take_of_length_le h]
  · rw [show (min (s.length : Int) n).toNat = n by omega]
theorem short13 (a : Adr) (ha : a.name.length ≤ 9223372036854775807) (hb : a.lang.length ≤ 9223372036854775807) : ACalls Tryz.prog 13 [adrA a] (fun r => r = adrA (shortL a)) := by
  have h1 := take_min a.name 40
  have h2 := take_min a.lang 40
  simp only [Int.cast_ofNat_Int] at h1 h2
  simp only [adrA]
  refine calls_short [] ttok hmix Tryz.func13 (by decide) (by decide +kernel) (by simp only [Tryz.f13, Option.bind_some, comp, isLend, lendOf, lendX, lendC, lendH, Nat.reduceLeDiff, Nat.reduceSub, ne_eq, not_false_eq_true, and_self, cops, cguard, gslot, List.getElem?_toArray, List.getElem?_cons_succ, List.getElem?_cons_zero, vlook, tlook, cutAt_nil, cutAt, firstReg, isCut, mkSeq, Nat.reduceAdd, Nat.reduceEqDiff, reduceIte]; rfl) Tryz.ntmps13 Tryz.results13 ⟨_, rfl⟩ rfl ?_
  simp only [List.length_cons, List.length_nil, Nat.reduceAdd, Nat.reduceSub, List.replicate_succ, List.replicate_zero, List.cons_append, List.nil_append, num, str, tru]
  repeat' first|refine Spl.on (fun _=>?_) (fun _=>?_)|with_reducible refine gd ?_|simp only [go_sem, Int.reduceEq, Int.cast_ofNat_Int, Bool.false_eq_true, xblkG_exit3, List.length_map, h1, h2]
  all_goals first | rfl | omega | (simp [shortL, h1, h2, num, str]; done)
end Go.Proofs.YtkafbgdokgfjmaaGreatDoor
