/- The reference: Oldest. The reference: Latest, By, Page, Count. The reference: Page; convert. newest. Latest, By, Count. -/
import Derived.Test.YtkafbgdokgfjmaaGreatDoorT
import Derived.Test.YtkafbgdokgfjmaaGreatDoorA10
import Derived.Test.YtkafbgdokgfjmaaGreatDoorM1
import Derived.Test.YtkafbgdokgfjmaaGreatDoorR4
import Derived.Test.YtkafbgdokgfjmaaGreatDoorS
namespace Go.Proofs.YtkafbgdokgfjmaaGreatDoor
open Go.RowKit Go.Proofs
set_option linter.unusedSimpArgs false
set_option linter.unusedVariables false
set_option maxRecDepth 100000
set_option maxHeartbeats 4000000
/-- The newest first: insertion behind those that are not ahead. -/
def insRev : List Sto → Sto → List Sto
  | [], x => [x]
  | y :: r, x => if aheadB y x then x :: y :: r else y :: insRev r x
def newF (v : List UInt8) (acc : List Sto) (s : Sto) : List Sto := if lstd s && hasB s v then insRev acc s else acc
def newL (v : List UInt8) (L : List Sto) : List Sto := L.foldl (newF v) []
theorem insRev_len : ∀ (l : List Sto) (x : Sto), (insRev l x).length = l.length + 1
  | [], x => rfl
  | y :: r, x => by
    have := insRev_len r x
    simp only [insRev]; split <;> simp [this]
theorem newF_len (v : List UInt8) : ∀ (L acc : List Sto), (L.foldl (newF v) acc).length ≤ acc.length + L.length
  | [], acc => by simp
  | s :: L, acc => by
    have h := newF_len v L (newF v acc s)
    have : (newF v acc s).length ≤ acc.length + 1 := by
      unfold newF; split
      · rw [insRev_len]; omega
      · omega
    simp only [List.foldl_cons, List.length_cons]; omega
theorem newL_len (v : List UInt8) (L : List Sto) : (newL v L).length ≤ L.length := by have := newF_len v L []; simpa [newL] using this
theorem newL_take {v : List UInt8} {L : List Sto} {i : Nat} {s : Sto} (hx : L[i]? = some s) : newL v (L.take (i + 1)) = if lstd s && hasB s v then insRev (newL v (L.take i)) s else newL v (L.take i) := by
  rw [List.take_add_one, hx]; simp only [newL, Option.toList_some, List.foldl_append, List.foldl_cons, List.foldl_nil, newF]
theorem insRev_at {x : Sto} : ∀ (B A : List Sto), (∀ y ∈ B, aheadB y x = false) → (∀ y, A.head? = some y → aheadB y x = true) → insRev (B ++ A) x = B ++ x :: A
  | [], [], _, _ => rfl
  | [], a :: A, _, h => by simp only [List.nil_append, insRev, h a rfl, if_true]
  | b :: B, A, hB, hA => by
    have := insRev_at B A (fun y hy => hB y (by simp [hy])) hA
    simp only [List.cons_append, insRev, hB b (by simp), Bool.false_eq_true, if_false, this]
theorem newL_ins {v : List UInt8} {L : List Sto} {i : Nat} {s : Sto} {O A B : List Sto} (hx : L[i]? = some s) (hsel : (lstd s && hasB s v) = true) (hO : (newL v (L.take i)).reverse = O) (hAB : O = A ++ B) (hB : ∀ y ∈ B, aheadB y s = false) (hA : A = [] ∨ ∃ y, A.getLast? = some y ∧ aheadB y s = true) :
    (newL v (L.take (i + 1))).reverse = A ++ [s] ++ B := by
  have hr : newL v (L.take i) = B.reverse ++ A.reverse := by
    rw [← List.reverse_reverse (newL v (L.take i)), hO, hAB, List.reverse_append]
  rw [newL_take hx, if_pos hsel, hr, insRev_at B.reverse A.reverse (fun y hy => hB y (by simpa using hy)) (fun y hy => ?_)]
  · simp
  · rcases hA with rfl | ⟨z, hz, hz2⟩
    · simp at hy
    · rw [List.head?_reverse, hz] at hy
      injection hy with hy
      subst hy; exact hz2
theorem oldest37 (L : List Sto) (tm : List AV) (v : List UInt8) (hl : L.length ≤ 100000) (hs : ∀ s ∈ L, StOk s) : ACalls Tryz.prog 71 [stA L tm, str v] (fun r => r = .sl 8 ((newL v L).reverse.map sto)) := by
  simp only [stA]
  refine calls_short [(1000008,[],[])] ttok hmix Tryz.func71 (by decide) (by decide +kernel) (by simp only [Tryz.f71, Option.bind_some, comp, cops, cguard, gslot, List.getElem?_toArray, List.getElem?_cons_succ, List.getElem?_cons_zero, vlook, tlook, cutAt_nil, cutAt, firstReg, isCut, mkSeq, Nat.reduceAdd, Nat.reduceEqDiff, reduceIte]; rfl) Tryz.ntmps71 Tryz.results71 ⟨_, rfl⟩ rfl ?_
  simp only [List.length_cons, List.length_nil, Nat.reduceAdd, Nat.reduceSub, List.replicate_succ, List.replicate_zero, List.cons_append, List.nil_append, num, str, tru]
  simp (decide := true) only [mkd_eq [9] [] [] [[9], [], [42], [43, 42], [42, 9], [42], [43, 42], [42], [42], [42], [42], [42]], List.zip_cons_cons, List.zip_nil_left, List.zip_nil_right]
  repeat' first|refine Spl.on (fun _=>?_) (fun _=>?_)|with_reducible refine gd ?_|simp only [go_sem, Int.reduceEq, Int.cast_ofNat_Int, Bool.false_eq_true, List.length_map]
  refine cwp_loop [false, false, false, false, false, true, true, true, true, true, true, true, true, true, true, true, true, true, true, true, true, true, true, true, true, true, true, true, true, true, true, true, true, true, true, true, true, true, true, true, true, true, true, true, true, true, true, true, true, true, true, true, true, true, true, true, true, true, true, true, true, true, true, true, true, true, true, true, false] [5, 6] (fun n xs => ∃ (i : Nat), i ≤ L.length ∧ i + n = L.length ∧ xs = [.sl 8 (((newL v (L.take i)).reverse).map sto), num i]) ⟨L.length, _, ⟨0, by omega, by omega, rfl⟩, ?_⟩ ?_
  · simp only [List.take_zero, newL, List.foldl_nil, List.reverse_nil, List.map_nil]
    simp only [hvm_t, hvm_f, hvm_nil, puts_cons, puts_nil, List.set_cons_zero, List.set_cons_succ, num]
    repeat first | exact Wk.nil | refine wk_ownsl ?_ | refine wk_nilsl ?_ | refine Wk.same ?_ | refine wk_any ?_
  · rintro n xs ⟨i, hil, hn, rfl⟩
    simp only [hvm_t, hvm_f, hvm_nil, puts_cons, puts_nil, List.set_cons_zero, List.set_cons_succ, num]
    rcases Nat.lt_or_ge i L.length with hlt | hge
    · have ej := eq_true (show (i : Int) < (L.length : Int) by omega)
      obtain ⟨s, hx, hd⟩ := drop_at hlt
      have hso := hs s (List.mem_of_getElem? hx)
      have hgx := sto_at hx
      simp only [num, str, tru] at hgx
      have hw : IntKind.i64.wrap ((i : Int) + 1) = ((i + 1 : Nat) : Int) := wrap_succ (by omega)
      repeat' first|refine Spl.on (fun _=>?_) (fun _=>?_)|with_reducible refine gd ?_|simp only [go_sem, Int.reduceEq, Int.cast_ofNat_Int, Bool.false_eq_true, ej, hgx, hw, List.length_map]
      refine ((Listed43 s hso.2).wk ?_).mono ?_
      · simp only [sto, stoC, num, str, tru]
        repeat first | exact Wk.nil | exact Wk.refl _ | refine wk_agg ?_ ?_ | refine wk_ownsl ?_ | refine wk_nilsl ?_ | refine Wk.same ?_
      rintro r rfl
      simp only [tru]
      simp only [go_sem]
      refine cwp_cut [false, false, false, false, false, false, false, false, false, false, false, false, false, false, false, false, false, false, false, false, false, false, false, false, false, false, false, true, true, true, true, true, true, true, true, true, true, true, false, false, false, false, false, false, false, false, false, false, false, false, false, false, false, false, false, false, false, false, false, false, false, false, false, false, false, false, false, false, false] [] (fun xs => xs = [] ∧ (lstd s && hasB s v) = true) ?_ ?_
      · cases hls : lstd s
        · have hsel : (lstd s && hasB s v) = false := by simp [hls]
          repeat' first|refine Spl.on (fun _=>?_) (fun _=>?_)|with_reducible refine gd ?_|simp only [go_sem, Int.reduceEq, Int.cast_ofNat_Int, Bool.false_eq_true, ej, hgx, hw, List.length_map]
          refine lend_mk (n - 1) [.sl 8 (((newL v (L.take (i + 1))).reverse).map sto), num ((i + 1 : Nat) : Int)] (by omega) ⟨i + 1, by omega, by omega, rfl⟩ ?_
          rw [newL_take hx, if_neg (by simp [hsel])]
          simp only [hvm_t, hvm_f, hvm_nil, puts_cons, puts_nil, List.set_cons_zero, List.set_cons_succ, num]
          repeat first | exact Wk.nil | refine wk_ownsl ?_ | refine wk_nilsl ?_ | refine Wk.same ?_ | refine wk_any ?_
        · by_cases hv : v = []
          · have ev : (v == []) = true := by simp [hv]
            repeat' first|refine Spl.on (fun _=>?_) (fun _=>?_)|with_reducible refine gd ?_|simp only [go_sem, Int.reduceEq, Int.cast_ofNat_Int, Bool.false_eq_true, ej, hgx, hw, List.length_map, ev]
            refine cut_mk [] ⟨rfl, by simp [hasB, hls, *]⟩ ?_
            simp only [hvm_t, hvm_f, hvm_nil, puts_cons, puts_nil, List.set_cons_zero, List.set_cons_succ, num]
            repeat first | exact Wk.nil | refine wk_ownsl ?_ | refine wk_nilsl ?_ | refine Wk.same ?_ | refine wk_any ?_
          · have ev : (v == []) = false := by simp [hv]
            repeat' first|refine Spl.on (fun _=>?_) (fun _=>?_)|with_reducible refine gd ?_|simp only [go_sem, Int.reduceEq, Int.cast_ofNat_Int, Bool.false_eq_true, ej, hgx, hw, List.length_map, ev]
            refine ((in62 s.tp v hso.1).wk ?_).mono ?_
            · simp only [str]
              repeat first | exact Wk.nil | exact Wk.refl _ | refine wk_agg ?_ ?_ | refine wk_ownsl ?_ | refine wk_nilsl ?_ | refine Wk.same ?_
            rintro r rfl
            simp only [tru]
            by_cases hin : v ∈ s.tp
            · have ei := eq_true hin
              repeat' first|refine Spl.on (fun _=>?_) (fun _=>?_)|with_reducible refine gd ?_|simp only [go_sem, Int.reduceEq, Int.cast_ofNat_Int, Bool.false_eq_true, ej, hgx, hw, List.length_map, ev, ei]
              refine cut_mk [] ⟨rfl, by simp [hasB, hls, *]⟩ ?_
              simp only [hvm_t, hvm_f, hvm_nil, puts_cons, puts_nil, List.set_cons_zero, List.set_cons_succ, num]
              repeat first | exact Wk.nil | refine wk_ownsl ?_ | refine wk_nilsl ?_ | refine Wk.same ?_ | refine wk_any ?_
            · have ei := eq_false hin
              have hsel : (lstd s && hasB s v) = false := by simp [hasB, hls, hv, hin]
              repeat' first|refine Spl.on (fun _=>?_) (fun _=>?_)|with_reducible refine gd ?_|simp only [go_sem, Int.reduceEq, Int.cast_ofNat_Int, Bool.false_eq_true, ej, hgx, hw, List.length_map, ev, ei]
              refine lend_mk (n - 1) [.sl 8 (((newL v (L.take (i + 1))).reverse).map sto), num ((i + 1 : Nat) : Int)] (by omega) ⟨i + 1, by omega, by omega, rfl⟩ ?_
              rw [newL_take hx, if_neg (by simp [hsel])]
              simp only [hvm_t, hvm_f, hvm_nil, puts_cons, puts_nil, List.set_cons_zero, List.set_cons_succ, num]
              repeat first | exact Wk.nil | refine wk_ownsl ?_ | refine wk_nilsl ?_ | refine Wk.same ?_ | refine wk_any ?_
      · rintro xs ⟨rfl, hsel⟩
        simp only [hvm_t, hvm_f, hvm_nil, puts_cons, puts_nil, List.set_cons_zero, List.set_cons_succ, num]
        have holen : (newL v (L.take i)).length ≤ i := by have := newL_len v (L.take i); rw [List.length_take] at this; omega
        obtain ⟨O, hO⟩ : ∃ O, (newL v (L.take i)).reverse = O := ⟨_, rfl⟩
        have hOl : O.length ≤ i := by rw [← hO, List.length_reverse]; exact holen
        rw [hO]
        repeat' first|refine Spl.on (fun _=>?_) (fun _=>?_)|with_reducible refine gd ?_|simp only [go_sem, Int.reduceEq, Int.cast_ofNat_Int, Bool.false_eq_true, ej, hgx, hw, List.length_map]
        refine cwp_loop [false, false, false, false, false, false, false, false, false, true, false, false, false, false, false, false, false, false, false, false, false, false, false, false, false, false, false, false, false, false, false, false, false, false, false, false, false, false, false, false, true, true, true, true, true, true, true, true, true, true, true, true, true, true, false, false, false, false, false, false, false, false, false, false, false, false, false, false, false] [9] (fun n2 xs => ∃ k : Nat, k ≤ O.length ∧ k = n2 ∧ (∀ y ∈ O.drop k, aheadB y s = false) ∧ xs = [num k]) ⟨O.length, _, ⟨O.length, by omega, rfl, by simp, rfl⟩, ?_⟩ ?_
        · simp only [hvm_t, hvm_f, hvm_nil, puts_cons, puts_nil, List.set_cons_zero, List.set_cons_succ, num]
          repeat first | exact Wk.nil | refine Wk.same ?_ | refine wk_any ?_
        · rintro n2 xs ⟨k, hk, rfl, hall, rfl⟩
          simp only [hvm_t, hvm_f, hvm_nil, puts_cons, puts_nil, List.set_cons_zero, List.set_cons_succ, num]
          rcases Nat.eq_zero_or_pos k with rfl | hpos
          · have e0 := eq_false (show ¬ (0 : Int) < ((0 : Nat) : Int) by omega)
            have hfin := newL_ins (v := v) hx hsel hO (A := []) (B := O) rfl (by simpa using hall) (.inl rfl)
            have hmd : List.take O.length (O.map sto) = O.map sto := List.take_of_length_le (by simp)
            repeat' first|refine Spl.on (fun _=>?_) (fun _=>?_)|with_reducible refine gd ?_|simp only [go_sem, Int.reduceEq, Int.cast_ofNat_Int, Bool.false_eq_true, ej, hgx, hw, List.length_map, e0, hmd, List.length_append]
            all_goals try (exfalso; omega)
            refine lend_mk (n - 1) [.sl 8 (((newL v (L.take (i + 1))).reverse).map sto), num ((i + 1 : Nat) : Int)] (by omega) ⟨i + 1, by omega, by omega, rfl⟩ ?_
            rw [hfin]
            simp only [List.map_append, List.map_cons, List.map_nil, List.nil_append, List.cons_append, sto, stoC, num, str, tru]
            simp only [hvm_t, hvm_f, hvm_nil, puts_cons, puts_nil, List.set_cons_zero, List.set_cons_succ, num]
            repeat first | exact Wk.nil | refine wk_ownsl ?_ | refine wk_nilsl ?_ | refine Wk.same ?_ | refine wk_any ?_
          · have e0 := eq_true (show (0 : Int) < (k : Int) by omega)
            obtain ⟨y, hy⟩ : ∃ y, O[k - 1]? = some y := ⟨_, List.getElem?_eq_getElem (by omega)⟩
            have hgy := sto_at hy
            simp only [num, str, tru] at hgy
            have hwk : IntKind.i64.wrap ((k : Int) - 1) = ((k - 1 : Nat) : Int) := by rw [wrap_in (by omega) (by omega)]; omega
            repeat' first|refine Spl.on (fun _=>?_) (fun _=>?_)|with_reducible refine gd ?_|simp only [go_sem, Int.reduceEq, Int.cast_ofNat_Int, Bool.false_eq_true, ej, hgx, hw, List.length_map, e0, hgy, hwk]
            refine ((ahead63 y s).wk ?_).mono ?_
            · simp only [sto, stoC, num, str, tru]
              repeat first | exact Wk.nil | exact Wk.refl _ | refine wk_agg ?_ ?_ | refine wk_ownsl ?_ | refine wk_nilsl ?_ | refine Wk.same ?_
            rintro r rfl
            simp only [tru]
            cases hah : aheadB y s
            · repeat' first|refine Spl.on (fun _=>?_) (fun _=>?_)|with_reducible refine gd ?_|simp only [go_sem, Int.reduceEq, Int.cast_ofNat_Int, Bool.false_eq_true, ej, hgx, hw, List.length_map, e0, hgy, hwk]
              refine lend_mk (k - 1) [num ((k - 1 : Nat) : Int)] (by omega) ⟨k - 1, by omega, rfl, ?_, rfl⟩ ?_
              · intro z hz
                have hd1 : O.drop (k - 1) = y :: O.drop k := by
                  rw [List.drop_eq_getElem_cons (by omega)]
                  have := (List.getElem?_eq_some_iff.1 hy).2
                  rw [this]; congr 2; omega
                rw [hd1, List.mem_cons] at hz
                rcases hz with rfl | hz
                · exact hah
                · exact hall z hz
              · simp only [hvm_t, hvm_f, hvm_nil, puts_cons, puts_nil, List.set_cons_zero, List.set_cons_succ, num]
                repeat first | exact Wk.nil | refine Wk.same ?_ | refine wk_any ?_
            · have hfin := newL_ins (v := v) hx hsel hO (A := O.take k) (B := O.drop k) (List.take_append_drop k O).symm hall (.inr ⟨y, by rw [List.getLast?_eq_getElem?, List.length_take, Nat.min_eq_left hk, List.getElem?_take_of_lt (by omega)]; exact hy, hah⟩)
              have hmt : List.take k (O.map sto) = (O.take k).map sto := List.map_take.symm
              have hmd : List.take (O.length - k) (List.drop k (O.map sto)) = (O.drop k).map sto := by
                rw [← List.map_drop, List.take_of_length_le (by simp)]
              repeat' first|refine Spl.on (fun _=>?_) (fun _=>?_)|with_reducible refine gd ?_|simp only [go_sem, Int.reduceEq, Int.cast_ofNat_Int, Bool.false_eq_true, ej, hgx, hw, List.length_map, e0, hgy, hwk, hmt, hmd, List.length_append, List.length_take, List.length_drop, Int.toNat_natCast]
              refine lend_mk (n - 1) [.sl 8 (((newL v (L.take (i + 1))).reverse).map sto), num ((i + 1 : Nat) : Int)] (by omega) ⟨i + 1, by omega, by omega, rfl⟩ ?_
              rw [hfin]
              simp only [List.map_append, List.map_cons, List.map_nil, sto, stoC, num, str, tru]
              simp only [hvm_t, hvm_f, hvm_nil, puts_cons, puts_nil, List.set_cons_zero, List.set_cons_succ, num]
              repeat first | exact Wk.nil | refine wk_ownsl ?_ | refine wk_nilsl ?_ | refine Wk.same ?_ | refine wk_any ?_
    · have ej := eq_false (show ¬ (i : Int) < (L.length : Int) by omega)
      rw [List.take_of_length_le hge]
      repeat' first|refine Spl.on (fun _=>?_) (fun _=>?_)|with_reducible refine gd ?_|simp only [go_sem, Int.reduceEq, Int.cast_ofNat_Int, Bool.false_eq_true, ej, List.length_map]
end Go.Proofs.YtkafbgdokgfjmaaGreatDoor
namespace Go.Proofs.YtkafbgdokgfjmaaGreatDoor
open Go.RowKit Go.Proofs
set_option linter.unusedSimpArgs false
set_option linter.unusedVariables false
set_option maxRecDepth 100000
set_option maxHeartbeats 4000000
end Go.Proofs.YtkafbgdokgfjmaaGreatDoor
namespace Go.Proofs.YtkafbgdokgfjmaaGreatDoor
open Go.RowKit Go.Proofs
set_option linter.unusedSimpArgs false
set_option linter.unusedVariables false
set_option maxRecDepth 100000
set_option maxHeartbeats 4000000
/-- The stories of a page, of what has been looked at. -/
def pgL {α : Type} (O : List α) (p : Int) : List α := if 1 ≤ p then (O.drop (5 * (p - 1).toNat)).take 5 else []
theorem pgL_in {α : Type} {O : List α} {x : α} {p : Int} (h : ((O.length / 5 + 1 : Nat) : Int) = p) : pgL (O ++ [x]) p = pgL O p ++ [x] := by
  subst h
  have h1 : (1 : Int) ≤ ((O.length / 5 + 1 : Nat) : Int) := by omega
  have h2 : (((O.length / 5 + 1 : Nat) : Int) - 1).toNat = O.length / 5 := by omega
  simp only [pgL, h1, if_true, h2]
  have h3 : 5 * (O.length / 5) ≤ O.length := Nat.mul_div_le _ _
  have h4 : O.length < 5 * (O.length / 5) + 5 := by omega
  rw [List.drop_append_of_le_length h3, List.take_of_length_le (by simp; omega), List.take_of_length_le (by simp; omega)]
theorem pgL_out {α : Type} {O : List α} {x : α} {p : Int} (h : ¬ ((O.length / 5 + 1 : Nat) : Int) = p) : pgL (O ++ [x]) p = pgL O p := by
  by_cases hp : 1 ≤ p
  · obtain ⟨q, rfl⟩ : ∃ q : Nat, p = ((q + 1 : Nat) : Int) := ⟨(p - 1).toNat, by omega⟩
    have h2 : (((q + 1 : Nat) : Int) - 1).toNat = q := by omega
    simp only [pgL, hp, if_true, h2]
    rcases Nat.lt_or_ge O.length (5 * q) with hl | hl
    · rw [List.drop_of_length_le (by simp; omega), List.drop_of_length_le (by omega)]
    · rw [List.drop_append_of_le_length hl, List.take_append_of_le_length (by simp; omega)]
  · simp only [pgL, hp, if_false]
theorem pgL_len {α : Type} (O : List α) (p : Int) : (pgL O p).length ≤ 5 := by
  unfold pgL; split
  · rw [List.length_take]; omega
  · simp
theorem refPage21 (L : List Sto) (tm : List AV) (v : List UInt8) (p : Int) (hl : L.length ≤ 100000) (hs : ∀ s ∈ L, StOk s) : ACalls Tryz.prog 46 [stA L tm, str v, num p] (fun r => r = .tup [.own 3 1 (nums (pgL ((newL v L).reverse.map (·.id)) p)), num (((newL v L).length + 4) / 5 : Nat)]) := by
  simp only [stA]
  refine calls_short [] ttok hmix Tryz.func46 (by decide) (by decide +kernel) (by simp only [Tryz.f46, Option.bind_some, comp, cops, cguard, gslot, List.getElem?_toArray, List.getElem?_cons_succ, List.getElem?_cons_zero, vlook, tlook, cutAt_nil, cutAt, firstReg, isCut, mkSeq, Nat.reduceAdd, Nat.reduceEqDiff, reduceIte]; rfl) Tryz.ntmps46 Tryz.results46 ⟨_, rfl⟩ rfl ?_
  simp only [List.length_cons, List.length_nil, Nat.reduceAdd, Nat.reduceSub, List.replicate_succ, List.replicate_zero, List.cons_append, List.nil_append, num, str, tru]
  repeat' first|refine Spl.on (fun _=>?_) (fun _=>?_)|with_reducible refine gd ?_|simp only [go_sem, Int.reduceEq, Int.cast_ofNat_Int, Bool.false_eq_true]
  refine ((oldest37 L tm v hl hs).wk ?_).mono ?_
  · simp only [stA, str]
    repeat first | exact Wk.nil | exact Wk.refl _ | refine wk_agg ?_ ?_ | refine wk_ownsl ?_ | refine wk_nilsl ?_ | refine Wk.same ?_
  rintro r rfl
  obtain ⟨M, hM⟩ : ∃ M, newL v L = M := ⟨_, rfl⟩
  have hMl : M.length ≤ L.length := by rw [← hM]; exact newL_len v L
  simp only [hM]
  have hwi : IntKind.i64.wrap ((M.length : Int) - 1) = (M.length : Int) - 1 := wrap_in (by omega) (by omega)
  obtain ⟨O, hO⟩ : ∃ O, M.reverse = O := ⟨_, rfl⟩
  have hOl : O.length = M.length := by rw [← hO, List.length_reverse]
  simp only [hO]
  repeat' first|refine Spl.on (fun _=>?_) (fun _=>?_)|with_reducible refine gd ?_|simp only [go_sem, Int.reduceEq, Int.cast_ofNat_Int, Bool.false_eq_true, List.length_map]
  refine cwp_loop [false, false, false, false, false, false, false, false, false, true, true, true, false, false, false, true, true, true, true, true, true, true, true, true, true, true, true, true, true, true, true, true, true, true, true, true, true, false, false] [9, 10, 11] (fun k xs => ∃ (i : Nat), i ≤ O.length ∧ i + k = O.length ∧ xs = [num (((i + 4) / 5 : Nat) : Int), .own 3 1 (nums (pgL ((O.map (·.id)).take i) p)), num i]) ⟨O.length, _, ⟨0, by omega, by omega, rfl⟩, ?_⟩ ?_
  · have e0 : pgL (([] : List Int)) p = [] := by unfold pgL; split <;> simp
    simp only [List.take_zero, e0, nums, List.map_nil]
    simp only [hvm_t, hvm_f, hvm_nil, puts_cons, puts_nil, List.set_cons_zero, List.set_cons_succ, num]
    repeat first | exact Wk.nil | refine wk_nilown ?_ | refine Wk.same ?_ | refine wk_any ?_
  · rintro k xs ⟨i, hil, hk, rfl⟩
    have hpl := pgL_len ((O.map (·.id)).take i) p
    simp only [hvm_t, hvm_f, hvm_nil, puts_cons, puts_nil, List.set_cons_zero, List.set_cons_succ, num]
    rcases Nat.lt_or_ge i O.length with hlt | hge
    · have ej := eq_true (show (i : Int) < (O.length : Int) by omega)
      obtain ⟨s, hx⟩ : ∃ s, O[i]? = some s := ⟨_, List.getElem?_eq_getElem hlt⟩
      have hgx := sto_at hx
      simp only [num, str, tru] at hgx
      have hw : IntKind.i64.wrap ((i : Int) + 1) = ((i + 1 : Nat) : Int) := wrap_succ (by omega)
      have hm : (i : Int).tmod 5 = ((i % 5 : Nat) : Int) := tmod_nat (n := 5) (by omega)
      have htk : (O.map (·.id)).take (i + 1) = (O.map (·.id)).take i ++ [s.id] := by
        rw [List.take_add_one, List.getElem?_map, hx]; rfl
      have htl : ((O.map (·.id)).take i).length = i := by simp; omega
      have hin := pgL_in (O := (O.map (·.id)).take i) (x := s.id) (p := p)
      have hout := pgL_out (O := (O.map (·.id)).take i) (x := s.id) (p := p)
      rw [htl, ← htk] at hin hout
      by_cases h5 : i % 5 = 0
      · have e5 := eq_true (show ((i % 5 : Nat) : Int) = 0 by omega)
        have hwp : IntKind.i64.wrap (((((i + 4) / 5 : Nat) : Int)) + 1) = ((i / 5 + 1 : Nat) : Int) := by rw [wrap_in (by omega) (by omega)]; omega
        have hq : (i + 1 + 4) / 5 = i / 5 + 1 := by omega
        by_cases hp : ((i / 5 + 1 : Nat) : Int) = p
        · have ep := eq_true hp
          have hin' := hin hp
          have hsn : nums (pgL ((O.map (·.id)).take i) p) ++ [AV.raw (.int .i64 s.id)] = nums (pgL ((O.map (·.id)).take (i + 1)) p) := by
            rw [hin']; simp [nums, num]
          repeat' first|refine Spl.on (fun _=>?_) (fun _=>?_)|with_reducible refine gd ?_|simp only [go_sem, Int.reduceEq, Int.cast_ofNat_Int, Bool.false_eq_true, ej, hgx, hw, hm, e5, hwp, ep, hsn, nums_length, List.length_map]
          refine lend_mk (k - 1) [num (((i + 1 + 4) / 5 : Nat) : Int), .own 3 1 (nums (pgL ((O.map (·.id)).take (i + 1)) p)), num ((i + 1 : Nat) : Int)] (by omega) ⟨i + 1, by omega, by omega, rfl⟩ ?_
          rw [hq]
          simp only [hvm_t, hvm_f, hvm_nil, puts_cons, puts_nil, List.set_cons_zero, List.set_cons_succ, num]
          repeat first | exact Wk.nil | refine Wk.same ?_ | refine wk_any ?_
        · have ep := eq_false hp
          repeat' first|refine Spl.on (fun _=>?_) (fun _=>?_)|with_reducible refine gd ?_|simp only [go_sem, Int.reduceEq, Int.cast_ofNat_Int, Bool.false_eq_true, ej, hgx, hw, hm, e5, hwp, ep, nums_length, List.length_map]
          refine lend_mk (k - 1) [num (((i + 1 + 4) / 5 : Nat) : Int), .own 3 1 (nums (pgL ((O.map (·.id)).take (i + 1)) p)), num ((i + 1 : Nat) : Int)] (by omega) ⟨i + 1, by omega, by omega, rfl⟩ ?_
          rw [hq, hout hp]
          simp only [hvm_t, hvm_f, hvm_nil, puts_cons, puts_nil, List.set_cons_zero, List.set_cons_succ, num]
          repeat first | exact Wk.nil | refine Wk.same ?_ | refine wk_any ?_
      · have e5 := eq_false (show ¬ ((i % 5 : Nat) : Int) = 0 by omega)
        have hwp : (((i + 4) / 5 : Nat) : Int) = ((i / 5 + 1 : Nat) : Int) := by omega
        have hq : (i + 1 + 4) / 5 = i / 5 + 1 := by omega
        by_cases hp : ((i / 5 + 1 : Nat) : Int) = p
        · have ep := eq_true hp
          have hin' := hin hp
          have hsn : nums (pgL ((O.map (·.id)).take i) p) ++ [AV.raw (.int .i64 s.id)] = nums (pgL ((O.map (·.id)).take (i + 1)) p) := by
            rw [hin']; simp [nums, num]
          repeat' first|refine Spl.on (fun _=>?_) (fun _=>?_)|with_reducible refine gd ?_|simp only [go_sem, Int.reduceEq, Int.cast_ofNat_Int, Bool.false_eq_true, ej, hgx, hw, hm, e5, hwp, ep, hsn, nums_length, List.length_map]
          refine lend_mk (k - 1) [num (((i + 1 + 4) / 5 : Nat) : Int), .own 3 1 (nums (pgL ((O.map (·.id)).take (i + 1)) p)), num ((i + 1 : Nat) : Int)] (by omega) ⟨i + 1, by omega, by omega, rfl⟩ ?_
          rw [hq]
          simp only [hvm_t, hvm_f, hvm_nil, puts_cons, puts_nil, List.set_cons_zero, List.set_cons_succ, num]
          repeat first | exact Wk.nil | refine Wk.same ?_ | refine wk_any ?_
        · have ep := eq_false hp
          repeat' first|refine Spl.on (fun _=>?_) (fun _=>?_)|with_reducible refine gd ?_|simp only [go_sem, Int.reduceEq, Int.cast_ofNat_Int, Bool.false_eq_true, ej, hgx, hw, hm, e5, hwp, ep, nums_length, List.length_map]
          refine lend_mk (k - 1) [num (((i + 1 + 4) / 5 : Nat) : Int), .own 3 1 (nums (pgL ((O.map (·.id)).take (i + 1)) p)), num ((i + 1 : Nat) : Int)] (by omega) ⟨i + 1, by omega, by omega, rfl⟩ ?_
          rw [hq, hout hp]
          simp only [hvm_t, hvm_f, hvm_nil, puts_cons, puts_nil, List.set_cons_zero, List.set_cons_succ, num]
          repeat first | exact Wk.nil | refine Wk.same ?_ | refine wk_any ?_
    · have ej := eq_false (show ¬ (i : Int) < (O.length : Int) by omega)
      repeat' first|refine Spl.on (fun _=>?_) (fun _=>?_)|with_reducible refine gd ?_|simp only [go_sem, Int.reduceEq, Int.cast_ofNat_Int, Bool.false_eq_true, ej, List.length_map]
      rw [List.take_of_length_le (by simp; omega), show i = M.length by omega, ← hO]
theorem qY_at {l : List (Sto × Nat)} {j : Nat} {s : Sto} {i : Nat} (h : l[j]? = some (s, i)) : (l.map qY).getD j .any = .agg [num s.id, str s.au, .sl 1 (s.tp.map str), .sl 5 s.ed, num s.pu, .nil, tru s.re, tru s.tk, num (i : Int)] := by simp [h, qY, qst]
theorem convert35 (XS : List (Sto × Nat)) (n : Int) (hl : XS.length ≤ 1000000) : ACalls Tryz.prog 52 [.sl 9 (XS.map qY), num n, .raw (.func (.func 53) #[] #[])] (fun r => r = .own 3 1 (nums ((XS.map (·.1.id)).take n.toNat))) := by
  refine calls_short [] ttok hmix Tryz.func52 (by decide) (by decide +kernel) (by simp only [Tryz.f52, Option.bind_some, comp, cops, cguard, gslot, List.getElem?_toArray, List.getElem?_cons_succ, List.getElem?_cons_zero, vlook, tlook, cutAt_nil, cutAt, firstReg, isCut, mkSeq, Nat.reduceAdd, Nat.reduceEqDiff, reduceIte]; rfl) Tryz.ntmps52 Tryz.results52 ⟨_, rfl⟩ rfl ?_
  simp only [List.length_cons, List.length_nil, Nat.reduceAdd, Nat.reduceSub, List.replicate_succ, List.replicate_zero, List.cons_append, List.nil_append, num, str, tru]
  repeat' first|refine Spl.on (fun _=>?_) (fun _=>?_)|with_reducible refine gd ?_|simp only [go_sem, Int.reduceEq, Int.cast_ofNat_Int, Bool.false_eq_true]
  refine cwp_loop [false, false, false, false, false, false, false, true, true, true, true, true, true, true, true, true, true, true, true, true, true, true, true, true, true, true, true, true, true, false] [7, 8] (fun k xs => ∃ (j : Nat), j ≤ XS.length ∧ j ≤ n.toNat ∧ j + k = XS.length ∧ xs = [.own 3 1 (nums ((XS.map (·.1.id)).take j)), num j]) ⟨XS.length, _, ⟨0, by omega, by omega, by omega, rfl⟩, ?_⟩ ?_
  · simp only [List.take_zero, nums, List.map_nil]
    simp only [hvm_t, hvm_f, hvm_nil, puts_cons, puts_nil, List.set_cons_zero, List.set_cons_succ, num]
    repeat first | exact Wk.nil | refine wk_nilown ?_ | refine Wk.same ?_ | refine wk_any ?_
  · rintro k xs ⟨j, hjl, hjn, hk, rfl⟩
    have hol : ((XS.map (·.1.id)).take j).length = j := by simp; omega
    simp only [hvm_t, hvm_f, hvm_nil, puts_cons, puts_nil, List.set_cons_zero, List.set_cons_succ, num]
    rcases Nat.lt_or_ge j n.toNat with hjt | hjg
    · have en := eq_true (show (j : Int) < n by omega)
      rcases Nat.lt_or_ge j XS.length with hlt | hge
      · have ej := eq_true (show (j : Int) < (XS.length : Int) by omega)
        obtain ⟨x, hx⟩ : ∃ x, XS[j]? = some x := ⟨_, List.getElem?_eq_getElem hlt⟩
        obtain ⟨s, i⟩ := x
        have hgx := qY_at hx
        simp only [num, str, tru] at hgx
        have hw : IntKind.i64.wrap ((j : Int) + 1) = ((j + 1 : Nat) : Int) := wrap_succ (by omega)
        have hsn : nums ((XS.map (·.1.id)).take j) ++ [AV.raw (.int .i64 s.id)] = nums ((XS.map (·.1.id)).take (j + 1)) := by
          rw [List.take_add_one, List.getElem?_map, hx]; simp [nums, num]
        repeat' first|refine Spl.on (fun _=>?_) (fun _=>?_)|with_reducible refine gd ?_|simp only [go_sem, Int.reduceEq, Int.cast_ofNat_Int, Bool.false_eq_true, en, ej, hgx, hw, List.length_map]
        refine ((identity36 s i).wk ?_).mono ?_
        · simp only [qst, num, str, tru]
          repeat first | exact Wk.nil | exact Wk.refl _ | refine wk_agg ?_ ?_ | refine wk_ownsl ?_ | refine wk_nilsl ?_ | refine Wk.same ?_
        rintro r rfl
        simp only [num]
        repeat' first|refine Spl.on (fun _=>?_) (fun _=>?_)|with_reducible refine gd ?_|simp only [go_sem, Int.reduceEq, Int.cast_ofNat_Int, Bool.false_eq_true, en, ej, hgx, hw, hol, hsn, nums_length, List.length_map]
        refine lend_mk (k - 1) [.own 3 1 (nums ((XS.map (·.1.id)).take (j + 1))), num ((j + 1 : Nat) : Int)] (by omega) ⟨j + 1, by omega, by omega, by omega, rfl⟩ ?_
        simp only [hvm_t, hvm_f, hvm_nil, puts_cons, puts_nil, List.set_cons_zero, List.set_cons_succ, num]
        repeat first | exact Wk.nil | refine Wk.same ?_ | refine wk_any ?_
      · have ej := eq_false (show ¬ (j : Int) < (XS.length : Int) by omega)
        repeat' first|refine Spl.on (fun _=>?_) (fun _=>?_)|with_reducible refine gd ?_|simp only [go_sem, Int.reduceEq, Int.cast_ofNat_Int, Bool.false_eq_true, en, ej, List.length_map]
        rw [List.take_of_length_le (by simp; omega), List.take_of_length_le (by simp; omega)]
    · have en := eq_false (show ¬ (j : Int) < n by omega)
      repeat' first|refine Spl.on (fun _=>?_) (fun _=>?_)|with_reducible refine gd ?_|simp only [go_sem, Int.reduceEq, Int.cast_ofNat_Int, Bool.false_eq_true, en, List.length_map]
      rw [show j = n.toNat by omega]
end Go.Proofs.YtkafbgdokgfjmaaGreatDoor
namespace Go.Proofs.YtkafbgdokgfjmaaGreatDoor
open Go.RowKit Go.Proofs
set_option linter.unusedSimpArgs false
set_option linter.unusedVariables false
set_option maxRecDepth 100000
set_option maxHeartbeats 4000000
open Go.Shelf
theorem cmpI_lt {x y : Int} : cmpI x y < 0 ↔ x < y := by unfold cmpI; split <;> (try split) <;> omega
theorem cmpI_eq {x y : Int} : cmpI x y = 0 ↔ x = y := by unfold cmpI; split <;> (try split) <;> omega
theorem cmpS_lt {s t : Sto} {a b : Int} : cmpS s a t b < 0 ↔ s.pu < t.pu ∨ s.pu = t.pu ∧ (s.id < t.id ∨ s.id = t.id ∧ a < b) := by
  unfold cmpS
  simp only [orI]
  split
  · rename_i h1
    have h1 := cmpI_eq.1 h1
    split
    · rename_i h2
      have h2 := cmpI_eq.1 h2
      split
      · rename_i h3
        have h3 := cmpI_eq.1 h3
        omega
      · have := @cmpI_lt a b; omega
    · rename_i h2
      have h2' : ¬ s.id = t.id := fun h => h2 (cmpI_eq.2 h)
      have := @cmpI_lt s.id t.id; omega
  · rename_i h1
    have h1' : ¬ s.pu = t.pu := fun h => h1 (cmpI_eq.2 h)
    have := @cmpI_lt s.pu t.pu; omega
/-- How stories are laid: the newest first. -/
def cmpP (x y : Sto × Nat) : Int := cmpS y.1 y.2 x.1 x.2
theorem cmpP_lt {x y : Sto × Nat} : cmpP x y < 0 ↔ y.1.pu < x.1.pu ∨ y.1.pu = x.1.pu ∧ (y.1.id < x.1.id ∨ y.1.id = x.1.id ∧ y.2 < x.2) := by
  unfold cmpP; rw [cmpS_lt]; omega
def insP : List (Sto × Nat) → Sto × Nat → List (Sto × Nat)
  | [], x => [x]
  | y :: r, x => if aheadB y.1 x.1 then x :: y :: r else y :: insP r x
theorem insP_map : ∀ (l : List (Sto × Nat)) (x : Sto × Nat), (insP l x).map (·.1) = insRev (l.map (·.1)) x.1
  | [], x => rfl
  | y :: r, x => by
    have := insP_map r x
    simp only [insP, List.map_cons, insRev]
    split
    · rfl
    · simp only [List.map_cons, this]
theorem insP_perm : ∀ (l : List (Sto × Nat)) (x : Sto × Nat), (insP l x).Perm (x :: l)
  | [], x => .refl _
  | y :: r, x => by
    have := insP_perm r x
    simp only [insP]
    split
    · exact .refl _
    · exact (this.cons y).trans (.swap x y r)
theorem insP_sorted : ∀ (l : List (Sto × Nat)) (x : Sto × Nat), (∀ y ∈ l, y.2 < x.2) → (l.Pairwise fun a b => cmpP a b < 0) → (insP l x).Pairwise fun a b => cmpP a b < 0
  | [], x, _, _ => by simp [insP]
  | y :: r, x, h, hp => by
    have hy := h y (by simp)
    rw [List.pairwise_cons] at hp
    simp only [insP]
    split
    · rename_i ha
      have hxy : cmpP x y < 0 := by
        rw [cmpP_lt]
        unfold aheadB at ha
        split at ha
        · simp at ha; omega
        · simp at ha; omega
      refine List.pairwise_cons.2 ⟨fun z hz => ?_, List.pairwise_cons.2 hp⟩
      rcases List.mem_cons.1 hz with rfl | hz
      · exact hxy
      · have h1 := hp.1 z hz
        rw [cmpP_lt] at hxy h1 ⊢
        omega
    · rename_i ha
      have hyx : cmpP y x < 0 := by
        rw [cmpP_lt]
        unfold aheadB at ha
        split at ha
        · simp at ha; omega
        · simp at ha; omega
      refine List.pairwise_cons.2 ⟨fun z hz => ?_, insP_sorted r x (fun y hy => h y (by simp [hy])) hp.2⟩
      rcases List.mem_cons.1 ((insP_perm r x).mem_iff.1 hz) with rfl | hz
      · exact hyx
      · exact hp.1 z hz
def newP (XS : List (Sto × Nat)) : List (Sto × Nat) := XS.foldl insP []
theorem foldP_perm : ∀ (XS acc : List (Sto × Nat)), (XS.foldl insP acc).Perm (XS ++ acc)
  | [], acc => .refl _
  | x :: XS, acc => by
    have h1 := foldP_perm XS (insP acc x)
    refine h1.trans (((insP_perm acc x).append_left XS).trans ?_)
    exact (List.perm_middle (a := x) (l₁ := XS) (l₂ := acc))
theorem foldP_sorted : ∀ (XS acc : List (Sto × Nat)), (∀ y ∈ acc, ∀ x ∈ XS, y.2 < x.2) → (XS.Pairwise fun a b => a.2 < b.2) → (acc.Pairwise fun a b => cmpP a b < 0) → (XS.foldl insP acc).Pairwise fun a b => cmpP a b < 0
  | [], acc, _, _, h => h
  | x :: XS, acc, h1, h2, h3 => by
    rw [List.pairwise_cons] at h2
    refine foldP_sorted XS _ (fun y hy z hz => ?_) h2.2 (insP_sorted acc x (fun y hy => h1 y hy x (by simp)) h3)
    rcases List.mem_cons.1 ((insP_perm acc x).mem_iff.1 hy) with rfl | hy
    · exact h2.1 z hz
    · exact h1 y hy z (by simp [hz])
theorem selF_ge {p : Sto → Int → Bool} : ∀ (L : List Sto) (i : Nat), ∀ x ∈ selF p i L, i ≤ x.2 ∧ x.1 ∈ L
  | [], i, x, h => by simp [selF] at h
  | s :: L, i, x, h => by
    have ih := selF_ge (p := p) L (i + 1) x
    unfold selF at h
    split at h
    · rcases List.mem_cons.1 h with rfl | h
      · exact ⟨Nat.le_refl _, by simp⟩
      · have := ih h; exact ⟨by omega, by simp [this.2]⟩
    · have := ih h; exact ⟨by omega, by simp [this.2]⟩
theorem selF_asc {p : Sto → Int → Bool} : ∀ (L : List Sto) (i : Nat), (selF p i L).Pairwise fun a b => a.2 < b.2
  | [], i => by simp [selF]
  | s :: L, i => by
    have ih := selF_asc (p := p) L (i + 1)
    unfold selF
    split
    · refine List.pairwise_cons.2 ⟨fun y hy => ?_, ih⟩
      have := (selF_ge L (i + 1) y hy).1
      show i < y.2
      omega
    · exact ih
theorem selF_len {p : Sto → Int → Bool} : ∀ (L : List Sto) (i : Nat), (selF p i L).length ≤ L.length
  | [], i => by simp [selF]
  | s :: L, i => by
    have ih := selF_len (p := p) L (i + 1)
    unfold selF
    split <;> simp <;> omega
theorem newP_len (XS : List (Sto × Nat)) : (newP XS).length = XS.length := by
  have := (foldP_perm XS []).length_eq
  simpa [newP] using this
/-- By index the same, so the same. -/
theorem asc_inj : ∀ {l : List (Sto × Nat)}, (l.Pairwise fun a b => a.2 < b.2) → ∀ x ∈ l, ∀ y ∈ l, x.2 = y.2 → x = y
  | [], _, x, hx, _, _, _ => by simp at hx
  | a :: l, hp, x, hx, y, hy, he => by
    rw [List.pairwise_cons] at hp
    rcases List.mem_cons.1 hx with h1 | h1 <;> rcases List.mem_cons.1 hy with h2 | h2
    · rw [h1, h2]
    · have := hp.1 y h2; rw [h1] at he; omega
    · have := hp.1 x h1; rw [h2] at he; omega
    · exact asc_inj hp.2 x h1 y h2 he
theorem asc_nodup {l : List (Sto × Nat)} (h : l.Pairwise fun a b => a.2 < b.2) : l.Nodup := h.imp fun {a b} h hab => by rw [hab] at h; omega
/-- newest's order is Oldest's from behind. -/
theorem foldP_map {v : List UInt8} : ∀ (L : List Sto) (i : Nat) (acc : List (Sto × Nat)), ((selF (fun s _ => hasB s v) i L).foldl insP acc).map (·.1) = L.foldl (newF v) (acc.map (·.1))
  | [], i, acc => rfl
  | s :: L, i, acc => by
    unfold selF
    simp only [List.foldl_cons, newF]
    by_cases h : (lstd s && hasB s v) = true
    · rw [if_pos h, if_pos h, List.foldl_cons, foldP_map L (i + 1), insP_map]
    · rw [if_neg h, if_neg h, foldP_map L (i + 1)]
theorem newP_map (v : List UInt8) (L : List Sto) : (newP (selF (fun s _ => hasB s v) 0 L)).map (·.1) = newL v L := foldP_map L 0 []
theorem sort60 (XS : List (Sto × Nat)) (hl : XS.length ≤ 1000000) (ha : XS.Pairwise fun a b => a.2 < b.2) : RCalls Tryz.prog 74 (.row 88 9 (XS.map qY)) [.raw (.func (.func 75) #[] #[])] (fun r y => r = .tup [] ∧ y = .row 88 9 ((newP XS).map qY)) := by
  refine sortFunc_list Tryz.laysSlF06_f74 9 (by decide) Tryz.isAgg88 Tryz.sizeOf88 ⟨_, _, Tryz.func74, rfl, by decide⟩ (enters_of Tryz.func75 (by kernel_rfl) rfl) XS (newP XS) qY cmpP (fun x _ => ⟨_, rfl, rfl⟩) hl ?_ ?_ ?_ (asc_nodup ha) ?_ ?_ ?_
  · intro x _; rw [cmpP_lt]; omega
  · intro x _ y _ z _ h1 h2
    rw [cmpP_lt] at h1 h2 ⊢
    omega
  · intro x hx y hy
    by_cases h1 : cmpP x y < 0
    · exact .inl h1
    by_cases h2 : cmpP y x < 0
    · exact .inr (.inr h2)
    refine .inr (.inl (asc_inj ha x hx y hy ?_))
    rw [cmpP_lt] at h1 h2
    omega
  · intro x _ y _
    exact @newest61 ⟨True, Env.globs⟩ x.1 y.1 x.2 y.2
  · have := foldP_perm XS []
    simpa [newP] using this
  · exact foldP_sorted XS [] (by simp) ha (by simp)
theorem newest32 (L : List Sto) (tm : List AV) (cs : List Cnd) (hl : L.length ≤ 1000000) (hs : ∀ s ∈ L, StOk s) (hcl : cs.length ≤ 1000000) (hc : ∀ c ∈ cs, CndOk c) : ACalls Tryz.prog 48 [stA L tm, .sl 1 (cs.map cloA)] (fun r => r = .own 88 9 ((newP (selF (holdsB cs) 0 L)).map qY)) := by
  simp only [stA]
  refine calls_short [(2,[100005],[]),(3,[5],[])] ttok hmix Tryz.func48 (by decide) (by decide +kernel) (by simp only [Tryz.f48, Option.bind_some, comp, cops, cguard, gslot, List.getElem?_toArray, List.getElem?_cons_succ, List.getElem?_cons_zero, vlook, tlook, cutAt_nil, cutAt, firstReg, isCut, mkSeq, Nat.reduceAdd, Nat.reduceEqDiff, reduceIte]; rfl) Tryz.ntmps48 Tryz.results48 ⟨_, rfl⟩ rfl ?_
  simp only [List.length_cons, List.length_nil, Nat.reduceAdd, Nat.reduceSub, List.replicate_succ, List.replicate_zero, List.cons_append, List.nil_append, num, str, tru]
  repeat' first|refine Spl.on (fun _=>?_) (fun _=>?_)|with_reducible refine gd ?_|simp only [go_sem, Int.reduceEq, Int.cast_ofNat_Int, Bool.false_eq_true]
  refine ((each41 L tm cs).wk ?_).mono ?_
  · simp only [stA]
    repeat first | exact Wk.nil | exact Wk.refl _ | refine wk_agg ?_ ?_ | refine wk_ownsl ?_ | refine wk_nilsl ?_ | refine Wk.same ?_
  rintro r rfl
  simp only [stA]
  repeat' first|refine Spl.on (fun _=>?_) (fun _=>?_)|with_reducible refine gd ?_|simp only [go_sem, Int.reduceEq, Int.cast_ofNat_Int, Bool.false_eq_true]
  refine (collect59 (selF (holdsB cs) 0 L) (by have := selF_len (p := holdsB cs) L 0; omega) (each64 L tm cs hl hs hcl hc)).mono ?_
  rintro r rfl
  repeat' first|refine Spl.on (fun _=>?_) (fun _=>?_)|with_reducible refine gd ?_|simp only [go_sem, Int.reduceEq, Int.cast_ofNat_Int, Bool.false_eq_true]
  refine RCalls.mono (sort60 (selF (holdsB cs) 0 L) (by have := selF_len (p := holdsB cs) L 0; omega) (selF_asc L 0)) ?_
  rintro r y ⟨rfl, rfl⟩
  repeat' first|refine Spl.on (fun _=>?_) (fun _=>?_)|with_reducible refine gd ?_|simp only [go_sem, Int.reduceEq, Int.cast_ofNat_Int, Bool.false_eq_true]
end Go.Proofs.YtkafbgdokgfjmaaGreatDoor
namespace Go.Proofs.YtkafbgdokgfjmaaGreatDoor
open Go.RowKit Go.Proofs
set_option linter.unusedSimpArgs false
set_option linter.unusedVariables false
set_option maxRecDepth 100000
set_option maxHeartbeats 4000000
theorem selF_filter (p q : Sto → Int → Bool) : ∀ (L : List Sto) (i : Nat), selF (fun s a => q s a && p s a) i L = (selF q i L).filter fun x => p x.1 x.2
  | [], i => rfl
  | s :: L, i => by
    have ih := selF_filter p q L (i + 1)
    simp only [selF]
    by_cases h1 : (lstd s && q s i) = true
    · rw [if_pos h1, List.filter_cons]
      have h1' : lstd s = true ∧ q s i = true := by simpa using h1
      by_cases h2 : p s i = true
      · rw [if_pos (by simp [h1'.1, h1'.2, h2]), if_pos h2, ih]
      · rw [if_neg (by simp [h2]), if_neg h2, ih]
    · rw [if_neg h1, if_neg (by intro h; apply h1; simp at h; simp [h]), ih]
theorem newP_filter (XS : List (Sto × Nat)) (p : Sto × Nat → Bool) (ha : XS.Pairwise fun a b => a.2 < b.2) : newP (XS.filter p) = (newP XS).filter p := by
  have h1 := foldP_perm (XS.filter p) []
  have h2 := foldP_perm XS []
  rw [List.append_nil] at h1 h2
  have s1 := foldP_sorted (XS.filter p) [] (by simp) (ha.filter p) (by simp)
  have s2 := foldP_sorted XS [] (by simp) ha (by simp)
  refine List.Perm.eq_of_pairwise (le := fun x y => cmpP x y < 0) (fun x y _ _ h3 h4 => ?_) s1 (s2.filter p) (h1.trans (h2.filter p).symm)
  rw [cmpP_lt] at h3 h4
  omega
theorem hasB_nil (s : Sto) : hasB s [] = true := by simp [hasB]
/-- The conditions of Latest, Page and Count; of By. -/
def cLat (v : List UInt8) (f : Nat) : Cnd := (f, [.elt (.agg [str v])], fun s _ => hasB s v)
def cBy (v : List UInt8) : Cnd := (54, [.elt (.agg [str v])], fun s _ => decide (s.au = v))
theorem holds_lat (v : List UInt8) (f : Nat) : holdsB [cLat v f] = fun s _ => hasB s v := by funext s a; simp [holdsB, cLat]
theorem holds_by (v : List UInt8) : holdsB [cBy v] = fun s _ => decide (s.au = v) := by funext s a; simp [holdsB, cBy]
theorem ids_lat (v : List UInt8) (L : List Sto) : (newP (selF (fun s _ => hasB s v) 0 L)).map (·.1.id) = (newL v L).map (·.id) := by
  rw [← newP_map, List.map_map]; rfl
theorem ids_by (v : List UInt8) (L : List Sto) : (newP (selF (fun s _ => decide (s.au = v)) 0 L)).map (·.1.id) = ((newL [] L).filter (fun s => decide (s.au = v))).map (·.id) := by
  have h := selF_filter (fun s _ => decide (s.au = v)) (fun s _ => hasB s []) L 0
  simp only [hasB_nil, Bool.true_and] at h
  rw [h, newP_filter _ _ (selF_asc L 0), ← newP_map]
  simp only [hasB_nil, List.filter_map, List.map_map]
  rfl
theorem by18 (L : List Sto) (tm : List AV) (v : List UInt8) (hl : L.length ≤ 100000) (hs : ∀ s ∈ L, StOk s) : ACalls Tryz.prog 29 [stA L tm, str v] (fun r => r = .own 3 1 (nums (((newL [] L).filter (fun s => decide (s.au = v))).map (·.id)))) := by
  simp only [stA]
  refine calls_short [(1,[3],[])] ttok hmix Tryz.func29 (by decide) (by decide +kernel) (by simp only [Tryz.f29, Option.bind_some, comp, cops, cguard, gslot, List.getElem?_toArray, List.getElem?_cons_succ, List.getElem?_cons_zero, vlook, tlook, cutAt_nil, cutAt, firstReg, isCut, mkSeq, Nat.reduceAdd, Nat.reduceEqDiff, reduceIte]; rfl) Tryz.ntmps29 Tryz.results29 ⟨_, rfl⟩ rfl ?_
  simp only [List.length_cons, List.length_nil, Nat.reduceAdd, Nat.reduceSub, List.replicate_succ, List.replicate_zero, List.cons_append, List.nil_append, num, str, tru]
  repeat' first|refine Spl.on (fun _=>?_) (fun _=>?_)|with_reducible refine gd ?_|simp only [go_sem, Int.reduceEq, Int.cast_ofNat_Int, Bool.false_eq_true]
  refine ((newest32 L tm [cBy v] (by omega) hs (by simp) (fun c hc s a ho => ?_)).wk ?_).mono ?_
  · rw [List.mem_singleton] at hc
    subst hc
    exact by38 s a v
  · simp only [stA, List.map_cons, List.map_nil, cloA, cLat, cBy, num, str, tru]
    repeat first | exact Wk.nil | exact Wk.refl _ | refine wk_agg ?_ ?_ | refine wk_ownsl ?_ | refine wk_nilsl ?_ | refine Wk.same ?_
  rintro r rfl
  rw [holds_by]
  repeat' first|refine Spl.on (fun _=>?_) (fun _=>?_)|with_reducible refine gd ?_|simp only [go_sem, Int.reduceEq, Int.cast_ofNat_Int, Bool.false_eq_true, List.length_map]
  refine ((convert35 (newP (selF (fun s _ => decide (s.au = v)) 0 L)) ((newP (selF (fun s _ => decide (s.au = v)) 0 L)).length : Nat) (by rw [newP_len]; have := selF_len (p := fun s _ => decide (s.au = v)) L 0; omega)).wk ?_).mono ?_
  · simp only [num, str, tru]
    repeat first | exact Wk.nil | exact Wk.refl _ | refine wk_agg ?_ ?_ | refine wk_ownsl ?_ | refine wk_nilsl ?_ | refine Wk.same ?_
  rintro r rfl
  rw [List.take_of_length_le (by simp), ids_by]
  repeat' first|refine Spl.on (fun _=>?_) (fun _=>?_)|with_reducible refine gd ?_|simp only [go_sem, Int.reduceEq, Int.cast_ofNat_Int, Bool.false_eq_true]
theorem newL_count (v : List UInt8) (L : List Sto) : (selF (fun s _ => hasB s v) 0 L).length = (newL v L).length := by
  rw [← newP_map, List.length_map, newP_len]
end Go.Proofs.YtkafbgdokgfjmaaGreatDoor
