/- The states of the laws. -/
import Derived.Test.YtkafbgdokgfjmaaGreatDoorT
import Derived.Test.YtkafbgdokgfjmaaGreatDoorA10
import Derived.Test.YtkafbgdokgfjmaaGreatDoorA11
import Derived.Test.YtkafbgdokgfjmaaGreatDoorA12
import Derived.Test.YtkafbgdokgfjmaaGreatDoorM3
namespace Go.Proofs.YtkafbgdokgfjmaaGreatDoor
open Go.RowKit Go.Proofs
set_option linter.unusedSimpArgs false
set_option linter.unusedVariables false
set_option maxRecDepth 100000
set_option maxHeartbeats 4000000

def nms8 : List Str := [[97], [98], [99, 45, 49], [], [78, 111, 116], [97, 98, 99, 100, 101, 102, 103, 104, 105, 106, 107, 108, 109, 110, 111, 112, 113, 114, 115, 116, 117], [100, 101], [101, 110]]
structure It where
  id : Int
  pu : Int
  lg : List Int
  tp : List Int
  au : Int
  hi : Int
def itA (x : It) : AV := .agg [num x.id, num x.pu, .sl 1 (nums x.lg), .sl 1 (nums x.tp), num x.au, num x.hi]
def nm8 (a : Int) : Str := nms8.getD (pickN a 8) []
def edB (a : Int) : AV := .agg [str (nm8 a), num 0, str [], .nil, num 0]
def mkS (x : It) : Sto := ⟨x.id, nm8 x.au, (x.tp.take 4).map nm8, (x.lg.take 4).map edB, x.pu, decide ((pickN x.hi 8 : Int) = 1), decide ((pickN x.hi 8 : Int) = 2)⟩
def ItOk (x : It) : Prop := I64 x.au ∧ I64 x.hi ∧ (∀ t ∈ x.tp, I64 t) ∧ (∀ t ∈ x.lg, I64 t) ∧ x.tp.length ≤ 9223372036854775807 ∧ x.lg.length ≤ 9223372036854775807
theorem nm8_at (a : Int) : (nms8.map str).getD (pickN a 8) .any = .raw (.string ⟨(nm8 a).toArray⟩) := by
  have := pickN_lt (a := a) (n := 8) (by omega)
  have h : pickN a 8 < nms8.length := this
  simp [nm8, List.getD_eq_getElem?_getD, h, str]
theorem it_at {l : List It} {i : Nat} {x : It} (h : l[i]? = some x) : (l.map itA).getD i .any = .agg [.raw (.int .i64 x.id), .raw (.int .i64 x.pu), .sl 1 (nums x.lg), .sl 1 (nums x.tp), .raw (.int .i64 x.au), .raw (.int .i64 x.hi)] := by simp [h, itA, num]
theorem state22m (l : List It) (hl : l.length ≤ 9223372036854775807) (ho : ∀ x ∈ l, ItOk x) : ACalls Tryz.prog 22 [.sl 6 (l.map itA)] (fun r => r = .agg [.mine 48 8 (((l.take 40).map mkS).map sto), .nil]) := by
  refine calls_short [(1000011,[],[]),(1000015,[],[])] ttok hmix Tryz.func22 (by decide) (by decide +kernel) (by simp only [Tryz.f22, Option.bind_some, comp, isLend, lendOf, lendX, lendC, lendH, Nat.reduceLeDiff, Nat.reduceSub, ne_eq, not_false_eq_true, and_self, cops, cguard, gslot, List.getElem?_toArray, List.getElem?_cons_succ, List.getElem?_cons_zero, vlook, tlook, cutAt_nil, cutAt, firstReg, isCut, mkSeq, Nat.reduceAdd, Nat.reduceEqDiff, reduceIte]; rfl) Tryz.ntmps22 Tryz.results22 ⟨_, rfl⟩ rfl ?_
  simp only [List.length_cons, List.length_nil, Nat.reduceAdd, Nat.reduceSub, List.replicate_succ, List.replicate_zero, List.cons_append, List.nil_append, num, str, tru]
  simp (decide := true) only [mkd_eq [3, 5, 0] [] [6] [[21, 0], [5], [23, 21], [23], [], [26, 0], [5], [28, 26], [28], [], [31, 3], [32, 0], [5], [34, 32], [34], [], [3], [], [], [31], [], [], [], []], List.zip_cons_cons, List.zip_nil_left, List.zip_nil_right]
  simp (decide := true) only [mkd_eq [3] [7600006, 5700006, 9999900006, 9999900006] [100006, 100006] [[], [], [3], [], [], [], [], [], [], [], [], [3], [], [], [], [], [], [], [], [], []], List.zip_cons_cons, List.zip_nil_left, List.zip_nil_right]
  simp (decide := true) only [mkd_eq [3] [10900006, 9100006, 9999900006, 9999900006] [100006, 100006] [[], [], [3], [], [], [], [], [], [], [], [], [3], [], [], [], [], [], [], [], []], List.zip_cons_cons, List.zip_nil_left, List.zip_nil_right]
  repeat' first|refine Spl.on (fun _=>?_) (fun _=>?_)|with_reducible refine gd ?_|simp only [go_sem, Int.reduceEq, Int.cast_ofNat_Int, Bool.false_eq_true, List.length_map]
  have hNl : (nms8.map str).length = 8 := rfl
  have hgN := nm8_at
  have hNN : ([.raw (.string ⟨#[97]⟩), .raw (.string ⟨#[98]⟩), .raw (.string ⟨#[99, 45, 49]⟩), .raw (.string ⟨#[]⟩), .raw (.string ⟨#[78, 111, 116]⟩), .raw (.string ⟨#[97, 98, 99, 100, 101, 102, 103, 104, 105, 106, 107, 108, 109, 110, 111, 112, 113, 114, 115, 116, 117]⟩), .raw (.string ⟨#[100, 101]⟩), .raw (.string ⟨#[101, 110]⟩)] : List AV) = nms8.map str := rfl
  rw [hNN]
  generalize nms8.map str = NN at hNl hgN
  refine cwp_loop [false, false, false, false, true, true, true, true, true, true, true, true, true, true, true, true, true, true, true, true, true, true, true, true, true, true, true, true, true, true, true, true, true, true, true, true, true, true, true, true, true, true, true, true, true, true, true, true, true, true, true, true, true, true, true, true, true, true, true, true, true, true, true, true, true, true, true, true, true, true, true, true, true, true, true, true, true, true, true, true, true, true, true, true, true, true, true, true, true, true, true, true, true, true, true, true, true, true, true, true, true, true, true, true, true, true, true, true, true, true, true, true, true, true, true, true, true, true, true, true, true, true, true, true, true, true, true, true, false] [4, 5] (fun n xs => ∃ i : Nat, i ≤ l.length ∧ i ≤ 40 ∧ i + n = l.length ∧ xs = [.box 38 [.mine 48 8 (((l.take i).map mkS).map sto), .nil], num i]) ⟨l.length, _, ⟨0, by omega, by omega, by omega, rfl⟩, ?_⟩ ?_
  · simp only [hvm_t, hvm_f, hvm_nil, puts_cons, puts_nil, List.set_cons_zero, List.set_cons_succ, num]
    simp only [List.take_zero, List.map_nil]
    repeat first | exact Wk.nil | exact Wk.refl _ | refine Wk.box (W1.box ?_) ?_ | refine wk_agg ?_ ?_ | refine wk_ownsl ?_ | refine wk_nilown ?_ | refine wk_nilmine ?_ | refine wk_nilsl ?_ | refine Wk.same ?_ | refine wk_any ?_
  · rintro n xs ⟨i, hil, hi25, hn, rfl⟩
    simp only [hvm_t, hvm_f, hvm_nil, puts_cons, puts_nil, List.set_cons_zero, List.set_cons_succ, num]
    by_cases hc : i < l.length ∧ i < 40
    · obtain ⟨hlt, h25⟩ := hc
      have ej := eq_true (show (i : Int) < (l.length : Int) by omega)
      have ei := eq_true (show (i : Int) < 40 by omega)
      obtain ⟨x, hx, hd⟩ := drop_at hlt
      obtain ⟨o1, o2, o3, o4, o5, o6⟩ := ho x (List.mem_of_getElem? hx)
      have hgx := it_at hx
      have hw : IntKind.i64.wrap ((i : Int) + 1) = ((i + 1 : Nat) : Int) := wrap_succ (by omega)
      have hpa := pickN_lt (a := x.au) (n := 8) (by omega)
      repeat' first|refine Spl.on (fun _=>?_) (fun _=>?_)|with_reducible refine gd ?_|simp only [go_sem, Int.reduceEq, Int.cast_ofNat_Int, Bool.false_eq_true, ej, ei, hgx, hw, hNl, hgN, List.length_map, nums_length, List.length_cons, List.length_nil]
      refine (pick31 x.au o1 8 (by omega) (by omega)).mono ?_
      rintro r rfl
      simp only [num]
      repeat' first|refine Spl.on (fun _=>?_) (fun _=>?_)|with_reducible refine gd ?_|simp only [go_sem, Int.reduceEq, Int.cast_ofNat_Int, Bool.false_eq_true, ej, ei, hgx, hw, hNl, hgN, List.length_map, nums_length, List.length_cons, List.length_nil]
      refine cwp_cut [false, false, false, false, false, false, true, true, false, false, false, false, false, false, false, false, false, false, false, false, false, false, false, false, false, false, false, false, false, false, false, false, false, false, false, false, false, false, false, false, false, false, false, true, true, true, true, true, true, true, true, true, true, true, true, true, true, true, true, true, true, true, true, true, true, true, true, true, true, true, true, true, true, true, true, true, true, false, false, false, false, false, false, false, false, false, false, false, false, false, false, false, false, false, false, false, false, false, false, false, false, false, false, false, false, false, false, false, false, false, false, false, false, false, false, false, false, false, false, false, false, false, false, false, false, false, false, false, false] [6] (fun xs => xs = [.box 48 [num x.id, str (nm8 x.au), .nil, .own 51 5 ((x.lg.take 4).map edB), num x.pu, .nil, tru false, tru false]]) ?_ ?_
      · repeat' first|refine Spl.on (fun _=>?_) (fun _=>?_)|with_reducible refine gd ?_|simp only [go_sem, Int.reduceEq, Int.cast_ofNat_Int, Bool.false_eq_true, ej, ei, hgx, hw, hNl, hgN, List.length_map, nums_length, List.length_cons, List.length_nil]
        refine cwp_loop [false, false, false, false, false, false, true, true, false, false, false, false, false, false, false, false, false, false, false, false, false, false, false, false, false, false, false, false, false, false, false, false, false, false, false, false, false, false, false, false, false, false, false, true, true, true, true, true, true, true, true, true, true, true, true, true, true, true, true, true, true, true, true, true, true, true, true, true, true, true, true, true, true, true, true, true, true, false, false, false, false, false, false, false, false, false, false, false, false, false, false, false, false, false, false, false, false, false, false, false, false, false, false, false, false, false, false, false, false, false, false, false, false, false, false, false, false, false, false, false, false, false, false, false, false, false, false, false, false] [6, 7] (fun n2 xs => ∃ j : Nat, j ≤ x.lg.length ∧ j ≤ 4 ∧ j + n2 = x.lg.length ∧ xs = [.box 48 [num x.id, str (nm8 x.au), .nil, .own 51 5 ((x.lg.take j).map edB), num x.pu, .nil, tru false, tru false], num j]) ⟨x.lg.length, _, ⟨0, by omega, by omega, by omega, rfl⟩, ?_⟩ ?_
        · simp only [List.take_zero, List.map_nil, str, tru]
          simp only [hvm_t, hvm_f, hvm_nil, puts_cons, puts_nil, List.set_cons_zero, List.set_cons_succ, num]
          repeat first | exact Wk.nil | exact Wk.refl _ | refine Wk.box (W1.box ?_) ?_ | refine wk_agg ?_ ?_ | refine wk_ownsl ?_ | refine wk_nilown ?_ | refine wk_nilmine ?_ | refine wk_nilsl ?_ | refine Wk.same ?_ | refine wk_any ?_
        · rintro n2 xs ⟨j, hjl, hj4, hn2, rfl⟩
          simp only [str, tru]
          simp only [hvm_t, hvm_f, hvm_nil, puts_cons, puts_nil, List.set_cons_zero, List.set_cons_succ, num]
          by_cases hcj : j < x.lg.length ∧ j < 4
          · obtain ⟨hjt, hjs⟩ := hcj
            have ek := eq_true (show (j : Int) < (x.lg.length : Int) by omega)
            have e6 := eq_true (show (j : Int) < 4 by omega)
            obtain ⟨t, ht, htd⟩ := drop_at hjt
            have hgt := nums_at ht
            have hwj : IntKind.i64.wrap ((j : Int) + 1) = ((j + 1 : Nat) : Int) := wrap_succ (by omega)
            have hpt := pickN_lt (a := t) (n := 8) (by omega)
            have htl : ((x.lg.take j).map edB).length = j := by simp; omega
            repeat' first|refine Spl.on (fun _=>?_) (fun _=>?_)|with_reducible refine gd ?_|simp only [go_sem, Int.reduceEq, Int.cast_ofNat_Int, Bool.false_eq_true, ej, ei, hgx, hw, hNl, hgN, List.length_map, nums_length, List.length_cons, List.length_nil, ek, e6, hgt, hwj, htl, List.length_take]
            refine (pick31 t (o4 t (List.mem_of_getElem? ht)) 8 (by omega) (by omega)).mono ?_
            rintro r rfl
            simp only [num]
            repeat' first|refine Spl.on (fun _=>?_) (fun _=>?_)|with_reducible refine gd ?_|simp only [go_sem, Int.reduceEq, Int.cast_ofNat_Int, Bool.false_eq_true, ej, ei, hgx, hw, hNl, hgN, List.length_map, nums_length, List.length_cons, List.length_nil, ek, e6, hgt, hwj, htl, List.length_take]
            refine lend_mk (n2 - 1) [.box 48 [num x.id, str (nm8 x.au), .nil, .own 51 5 ((x.lg.take (j + 1)).map edB), num x.pu, .nil, tru false, tru false], num ((j + 1 : Nat) : Int)] (by omega) ⟨j + 1, by omega, by omega, by omega, rfl⟩ ?_
            have htk1 : x.lg.take (j + 1) = x.lg.take j ++ [t] := by rw [List.take_add_one, ht]; rfl
            rw [htk1]
            simp only [Option.toList_some, List.map_append, List.map_cons, List.map_nil, edB, str, tru, num]
            simp only [hvm_t, hvm_f, hvm_nil, puts_cons, puts_nil, List.set_cons_zero, List.set_cons_succ, num]
            repeat first | exact Wk.nil | exact Wk.refl _ | refine Wk.box (W1.box ?_) ?_ | refine wk_agg ?_ ?_ | refine wk_ownsl ?_ | refine wk_nilown ?_ | refine wk_nilmine ?_ | refine wk_nilsl ?_ | refine Wk.same ?_ | refine wk_any ?_
          · have htk : x.lg.take j = x.lg.take 4 := by
              rcases Nat.lt_or_ge j 4 with h | h
              · rw [List.take_of_length_le (by omega), List.take_of_length_le (by omega)]
              · rw [show j = 4 by omega]
            rw [htk]
            by_cases hjl2 : j < x.lg.length
            · have ek := eq_true (show (j : Int) < (x.lg.length : Int) by omega)
              have e6 := eq_false (show ¬ (j : Int) < 4 by omega)
              repeat' first|refine Spl.on (fun _=>?_) (fun _=>?_)|with_reducible refine gd ?_|simp only [go_sem, Int.reduceEq, Int.cast_ofNat_Int, Bool.false_eq_true, ej, ei, hgx, hw, hNl, hgN, List.length_map, nums_length, List.length_cons, List.length_nil, ek, e6]
              refine cut_mk _ rfl ?_
              try simp only [str, tru, num]
              simp only [hvm_t, hvm_f, hvm_nil, puts_cons, puts_nil, List.set_cons_zero, List.set_cons_succ, num]
              repeat first | exact Wk.nil | exact Wk.refl _ | refine Wk.box (W1.box ?_) ?_ | refine wk_agg ?_ ?_ | refine wk_ownsl ?_ | refine wk_nilown ?_ | refine wk_nilmine ?_ | refine wk_nilsl ?_ | refine Wk.same ?_ | refine wk_any ?_
            by_cases hj62 : j < 4
            · have ek := eq_false (show ¬ (j : Int) < (x.lg.length : Int) by omega)
              have e6 := eq_true (show (j : Int) < 4 by omega)
              repeat' first|refine Spl.on (fun _=>?_) (fun _=>?_)|with_reducible refine gd ?_|simp only [go_sem, Int.reduceEq, Int.cast_ofNat_Int, Bool.false_eq_true, ej, ei, hgx, hw, hNl, hgN, List.length_map, nums_length, List.length_cons, List.length_nil, ek, e6]
              refine cut_mk _ rfl ?_
              try simp only [str, tru, num]
              simp only [hvm_t, hvm_f, hvm_nil, puts_cons, puts_nil, List.set_cons_zero, List.set_cons_succ, num]
              repeat first | exact Wk.nil | exact Wk.refl _ | refine Wk.box (W1.box ?_) ?_ | refine wk_agg ?_ ?_ | refine wk_ownsl ?_ | refine wk_nilown ?_ | refine wk_nilmine ?_ | refine wk_nilsl ?_ | refine Wk.same ?_ | refine wk_any ?_
            have ek := eq_false (show ¬ (j : Int) < (x.lg.length : Int) by omega)
            have e6 := eq_false (show ¬ (j : Int) < 4 by omega)
            repeat' first|refine Spl.on (fun _=>?_) (fun _=>?_)|with_reducible refine gd ?_|simp only [go_sem, Int.reduceEq, Int.cast_ofNat_Int, Bool.false_eq_true, ej, ei, hgx, hw, hNl, hgN, List.length_map, nums_length, List.length_cons, List.length_nil, ek, e6]
            refine cut_mk _ rfl ?_
            try simp only [str, tru, num]
            simp only [hvm_t, hvm_f, hvm_nil, puts_cons, puts_nil, List.set_cons_zero, List.set_cons_succ, num]
            repeat first | exact Wk.nil | exact Wk.refl _ | refine Wk.box (W1.box ?_) ?_ | refine wk_agg ?_ ?_ | refine wk_ownsl ?_ | refine wk_nilown ?_ | refine wk_nilmine ?_ | refine wk_nilsl ?_ | refine Wk.same ?_ | refine wk_any ?_
      · rintro xs rfl
        simp only [num, str, tru]
        simp only [hvm_t, hvm_f, hvm_nil, puts_cons, puts_nil, List.set_cons_zero, List.set_cons_succ, num]
        repeat' first|refine Spl.on (fun _=>?_) (fun _=>?_)|with_reducible refine gd ?_|simp only [go_sem, Int.reduceEq, Int.cast_ofNat_Int, Bool.false_eq_true, ej, ei, hgx, hw, hNl, hgN, List.length_map, nums_length, List.length_cons, List.length_nil]
        refine cwp_cut [false, false, false, false, false, false, true, false, true, false, false, false, false, false, false, false, false, false, false, false, false, false, false, false, false, false, false, false, false, false, false, false, false, false, false, false, false, false, false, false, false, false, false, false, false, false, false, false, false, false, false, false, false, false, false, false, false, false, false, false, false, false, false, false, false, false, false, false, false, false, false, false, false, false, false, false, false, true, true, true, true, true, true, true, true, true, true, true, true, true, true, true, true, true, true, true, true, true, true, true, true, true, true, true, true, true, true, true, true, true, false, false, false, false, false, false, false, false, false, false, false, false, false, false, false, false, false, false, false] [6] (fun xs => xs = [.box 48 [num x.id, str (nm8 x.au), .own 9 1 (((x.tp.take 4).map nm8).map str), .own 51 5 ((x.lg.take 4).map edB), num x.pu, .nil, tru false, tru false]]) ?_ ?_
        · repeat' first|refine Spl.on (fun _=>?_) (fun _=>?_)|with_reducible refine gd ?_|simp only [go_sem, Int.reduceEq, Int.cast_ofNat_Int, Bool.false_eq_true, ej, ei, hgx, hw, hNl, hgN, List.length_map, nums_length, List.length_cons, List.length_nil]
          refine cwp_loop [false, false, false, false, false, false, true, false, true, false, false, false, false, false, false, false, false, false, false, false, false, false, false, false, false, false, false, false, false, false, false, false, false, false, false, false, false, false, false, false, false, false, false, false, false, false, false, false, false, false, false, false, false, false, false, false, false, false, false, false, false, false, false, false, false, false, false, false, false, false, false, false, false, false, false, false, false, true, true, true, true, true, true, true, true, true, true, true, true, true, true, true, true, true, true, true, true, true, true, true, true, true, true, true, true, true, true, true, true, true, false, false, false, false, false, false, false, false, false, false, false, false, false, false, false, false, false, false, false] [6, 8] (fun n2 xs => ∃ j : Nat, j ≤ x.tp.length ∧ j ≤ 4 ∧ j + n2 = x.tp.length ∧ xs = [.box 48 [num x.id, str (nm8 x.au), .own 9 1 (((x.tp.take j).map nm8).map str), .own 51 5 ((x.lg.take 4).map edB), num x.pu, .nil, tru false, tru false], num j]) ⟨x.tp.length, _, ⟨0, by omega, by omega, by omega, rfl⟩, ?_⟩ ?_
          · simp only [List.take_zero, List.map_nil, str, tru]
            simp only [hvm_t, hvm_f, hvm_nil, puts_cons, puts_nil, List.set_cons_zero, List.set_cons_succ, num]
            repeat first | exact Wk.nil | exact Wk.refl _ | refine Wk.box (W1.box ?_) ?_ | refine wk_agg ?_ ?_ | refine wk_ownsl ?_ | refine wk_nilown ?_ | refine wk_nilmine ?_ | refine wk_nilsl ?_ | refine Wk.same ?_ | refine wk_any ?_
          · rintro n2 xs ⟨j, hjl, hj4, hn2, rfl⟩
            simp only [str, tru]
            simp only [hvm_t, hvm_f, hvm_nil, puts_cons, puts_nil, List.set_cons_zero, List.set_cons_succ, num]
            by_cases hcj : j < x.tp.length ∧ j < 4
            · obtain ⟨hjt, hjs⟩ := hcj
              have ek := eq_true (show (j : Int) < (x.tp.length : Int) by omega)
              have e6 := eq_true (show (j : Int) < 4 by omega)
              obtain ⟨t, ht, htd⟩ := drop_at hjt
              have hgt := nums_at ht
              have hwj : IntKind.i64.wrap ((j : Int) + 1) = ((j + 1 : Nat) : Int) := wrap_succ (by omega)
              have hpt := pickN_lt (a := t) (n := 8) (by omega)
              have htl : (((x.tp.take j).map nm8).map str).length = j := by simp; omega
              repeat' first|refine Spl.on (fun _=>?_) (fun _=>?_)|with_reducible refine gd ?_|simp only [go_sem, Int.reduceEq, Int.cast_ofNat_Int, Bool.false_eq_true, ej, ei, hgx, hw, hNl, hgN, List.length_map, nums_length, List.length_cons, List.length_nil, ek, e6, hgt, hwj, htl, List.length_take]
              refine (pick31 t (o3 t (List.mem_of_getElem? ht)) 8 (by omega) (by omega)).mono ?_
              rintro r rfl
              simp only [num]
              repeat' first|refine Spl.on (fun _=>?_) (fun _=>?_)|with_reducible refine gd ?_|simp only [go_sem, Int.reduceEq, Int.cast_ofNat_Int, Bool.false_eq_true, ej, ei, hgx, hw, hNl, hgN, List.length_map, nums_length, List.length_cons, List.length_nil, ek, e6, hgt, hwj, htl, List.length_take]
              refine lend_mk (n2 - 1) [.box 48 [num x.id, str (nm8 x.au), .own 9 1 (((x.tp.take (j + 1)).map nm8).map str), .own 51 5 ((x.lg.take 4).map edB), num x.pu, .nil, tru false, tru false], num ((j + 1 : Nat) : Int)] (by omega) ⟨j + 1, by omega, by omega, by omega, rfl⟩ ?_
              have htk1 : x.tp.take (j + 1) = x.tp.take j ++ [t] := by rw [List.take_add_one, ht]; rfl
              rw [htk1]
              simp only [Option.toList_some, List.map_append, List.map_cons, List.map_nil, edB, str, tru, num]
              simp only [hvm_t, hvm_f, hvm_nil, puts_cons, puts_nil, List.set_cons_zero, List.set_cons_succ, num]
              repeat first | exact Wk.nil | exact Wk.refl _ | refine Wk.box (W1.box ?_) ?_ | refine wk_agg ?_ ?_ | refine wk_ownsl ?_ | refine wk_nilown ?_ | refine wk_nilmine ?_ | refine wk_nilsl ?_ | refine Wk.same ?_ | refine wk_any ?_
            · have htk : x.tp.take j = x.tp.take 4 := by
                rcases Nat.lt_or_ge j 4 with h | h
                · rw [List.take_of_length_le (by omega), List.take_of_length_le (by omega)]
                · rw [show j = 4 by omega]
              rw [htk]
              by_cases hjl2 : j < x.tp.length
              · have ek := eq_true (show (j : Int) < (x.tp.length : Int) by omega)
                have e6 := eq_false (show ¬ (j : Int) < 4 by omega)
                repeat' first|refine Spl.on (fun _=>?_) (fun _=>?_)|with_reducible refine gd ?_|simp only [go_sem, Int.reduceEq, Int.cast_ofNat_Int, Bool.false_eq_true, ej, ei, hgx, hw, hNl, hgN, List.length_map, nums_length, List.length_cons, List.length_nil, ek, e6]
                refine cut_mk _ rfl ?_
                try simp only [str, tru, num]
                simp only [hvm_t, hvm_f, hvm_nil, puts_cons, puts_nil, List.set_cons_zero, List.set_cons_succ, num]
                repeat first | exact Wk.nil | exact Wk.refl _ | refine Wk.box (W1.box ?_) ?_ | refine wk_agg ?_ ?_ | refine wk_ownsl ?_ | refine wk_nilown ?_ | refine wk_nilmine ?_ | refine wk_nilsl ?_ | refine Wk.same ?_ | refine wk_any ?_
              by_cases hj62 : j < 4
              · have ek := eq_false (show ¬ (j : Int) < (x.tp.length : Int) by omega)
                have e6 := eq_true (show (j : Int) < 4 by omega)
                repeat' first|refine Spl.on (fun _=>?_) (fun _=>?_)|with_reducible refine gd ?_|simp only [go_sem, Int.reduceEq, Int.cast_ofNat_Int, Bool.false_eq_true, ej, ei, hgx, hw, hNl, hgN, List.length_map, nums_length, List.length_cons, List.length_nil, ek, e6]
                refine cut_mk _ rfl ?_
                try simp only [str, tru, num]
                simp only [hvm_t, hvm_f, hvm_nil, puts_cons, puts_nil, List.set_cons_zero, List.set_cons_succ, num]
                repeat first | exact Wk.nil | exact Wk.refl _ | refine Wk.box (W1.box ?_) ?_ | refine wk_agg ?_ ?_ | refine wk_ownsl ?_ | refine wk_nilown ?_ | refine wk_nilmine ?_ | refine wk_nilsl ?_ | refine Wk.same ?_ | refine wk_any ?_
              have ek := eq_false (show ¬ (j : Int) < (x.tp.length : Int) by omega)
              have e6 := eq_false (show ¬ (j : Int) < 4 by omega)
              repeat' first|refine Spl.on (fun _=>?_) (fun _=>?_)|with_reducible refine gd ?_|simp only [go_sem, Int.reduceEq, Int.cast_ofNat_Int, Bool.false_eq_true, ej, ei, hgx, hw, hNl, hgN, List.length_map, nums_length, List.length_cons, List.length_nil, ek, e6]
              refine cut_mk _ rfl ?_
              try simp only [str, tru, num]
              simp only [hvm_t, hvm_f, hvm_nil, puts_cons, puts_nil, List.set_cons_zero, List.set_cons_succ, num]
              repeat first | exact Wk.nil | exact Wk.refl _ | refine Wk.box (W1.box ?_) ?_ | refine wk_agg ?_ ?_ | refine wk_ownsl ?_ | refine wk_nilown ?_ | refine wk_nilmine ?_ | refine wk_nilsl ?_ | refine Wk.same ?_ | refine wk_any ?_
        · rintro xs rfl
          simp only [num, str, tru]
          simp only [hvm_t, hvm_f, hvm_nil, puts_cons, puts_nil, List.set_cons_zero, List.set_cons_succ, num]
          repeat' first|refine Spl.on (fun _=>?_) (fun _=>?_)|with_reducible refine gd ?_|simp only [go_sem, Int.reduceEq, Int.cast_ofNat_Int, Bool.false_eq_true, ej, ei, hgx, hw, hNl, hgN, List.length_map, nums_length, List.length_cons, List.length_nil]
          refine (pick31 x.hi o2 8 (by omega) (by omega)).mono ?_
          rintro r rfl
          obtain ⟨h, hh⟩ : ∃ h, pickN x.hi 8 = h := ⟨_, rfl⟩
          rw [hh]
          simp only [num]
          have hLt : (((l.take i).map mkS).map sto).length = i := by simp; omega
          repeat' first|refine Spl.on (fun _=>?_) (fun _=>?_)|with_reducible refine gd ?_|simp only [go_sem, Int.reduceEq, Int.cast_ofNat_Int, Bool.false_eq_true, ej, ei, hgx, hw, hNl, hgN, List.length_map, nums_length, List.length_cons, List.length_nil, hLt, List.length_take]
          refine lend_mk (n - 1) [.box 38 [.mine 48 8 (((l.take (i + 1)).map mkS).map sto), .nil], num ((i + 1 : Nat) : Int)] (by omega) ⟨i + 1, by omega, by omega, by omega, rfl⟩ ?_
          have hl1 : l.take (i + 1) = l.take i ++ [x] := by rw [List.take_add_one, hx]; rfl
          rw [hl1]
          simp only [Option.toList_some, List.map_append, List.map_cons, List.map_nil, sto, stoC, mkS, hh, num, str, tru]
          simp only [hvm_t, hvm_f, hvm_nil, puts_cons, puts_nil, List.set_cons_zero, List.set_cons_succ, num]
          repeat first | exact Wk.nil | exact Wk.refl _ | refine Wk.box (W1.box ?_) ?_ | refine wk_agg ?_ ?_ | refine wk_ownsl ?_ | refine wk_nilown ?_ | refine wk_nilmine ?_ | refine wk_nilsl ?_ | refine Wk.same ?_ | refine wk_any ?_
    · have htk : l.take i = l.take 40 := by
        rcases Nat.lt_or_ge i 40 with h | h
        · rw [List.take_of_length_le (by omega), List.take_of_length_le (by omega)]
        · rw [show i = 40 by omega]
      rw [htk]
      by_cases hi2 : i < l.length
      · have ej := eq_true (show (i : Int) < (l.length : Int) by omega)
        have ei := eq_false (show ¬ (i : Int) < 40 by omega)
        repeat' first|refine Spl.on (fun _=>?_) (fun _=>?_)|with_reducible refine gd ?_|simp only [go_sem, Int.reduceEq, Int.cast_ofNat_Int, Bool.false_eq_true, ej, ei, List.length_map]
      by_cases hi5 : i < 40
      · have ej := eq_false (show ¬ (i : Int) < (l.length : Int) by omega)
        have ei := eq_true (show (i : Int) < 40 by omega)
        repeat' first|refine Spl.on (fun _=>?_) (fun _=>?_)|with_reducible refine gd ?_|simp only [go_sem, Int.reduceEq, Int.cast_ofNat_Int, Bool.false_eq_true, ej, ei, List.length_map]
      have ej := eq_false (show ¬ (i : Int) < (l.length : Int) by omega)
      have ei := eq_false (show ¬ (i : Int) < 40 by omega)
      repeat' first|refine Spl.on (fun _=>?_) (fun _=>?_)|with_reducible refine gd ?_|simp only [go_sem, Int.reduceEq, Int.cast_ofNat_Int, Bool.false_eq_true, ej, ei, List.length_map]
theorem state22 (l : List It) (hl : l.length ≤ 9223372036854775807) (ho : ∀ x ∈ l, ItOk x) : ACalls Tryz.prog 22 [.sl 6 (l.map itA)] (fun r => r = .agg [.own 48 8 (((l.take 40).map mkS).map sto), .nil]) := ACalls.freezeA (state22m l hl ho)
end Go.Proofs.YtkafbgdokgfjmaaGreatDoor
