/- State. -/
import Derived.Test.YtgnclmmijijimaaT
import Derived.Test.YtgnclmmijijimaaA10
import Derived.Test.YtgnclmmijijimaaA12
import Derived.Test.YtgnclmmijijimaaQ11
namespace Go.Proofs.Ytgnclmmijijimaa
open Go.RowKit Go.Proofs
set_option linter.unusedSimpArgs false
set_option linter.unusedVariables false
set_option maxRecDepth 100000
set_option maxHeartbeats 4000000
structure It where
  id : Int
  pu : Int
  tp : List Int
  au : Int
  hi : Int
def itA (x : It) : AV := .agg [num x.id, num x.pu, .sl 1 (nums x.tp), num x.au, num x.hi]
def nm6 (a : Int) : List UInt8 := nmsS.getD (pickN a 6) []
def edA : AV := .agg [str [101, 110], num 1, str [116], .nil, num 0]
def tpS (x : It) : List (List UInt8) := (x.tp.take 6).map nm6
def mkS (x : It) : Sto := ⟨x.id, nm6 x.au, tpS x, if pickN x.hi 8 = 3 then [] else [edA], x.pu, decide (pickN x.hi 8 = 1), decide (pickN x.hi 8 = 2)⟩
def ItOk (x : It) : Prop := I64 x.au ∧ I64 x.hi ∧ (∀ t ∈ x.tp, I64 t) ∧ x.tp.length ≤ 9223372036854775807
theorem nm6_at (a : Int) : (nmsS.map str).getD (pickN a 6) .any = .raw (.string ⟨(nm6 a).toArray⟩) := by
  have := pickN_lt (a := a) (n := 6) (by omega)
  have h : pickN a 6 < nmsS.length := this
  simp [nm6, List.getD_eq_getElem?_getD, h, str]
theorem it_at {l : List It} {i : Nat} {x : It} (h : l[i]? = some x) : (l.map itA).getD i .any = .agg [.raw (.int .i64 x.id), .raw (.int .i64 x.pu), .sl 1 (nums x.tp), .raw (.int .i64 x.au), .raw (.int .i64 x.hi)] := by simp [h, itA, num]
theorem nat_eq1 {h k : Nat} (e : h = k) : ((h : Int) = (k : Int)) = True := by simp [e]
theorem state13m (l : List It) (hl : l.length ≤ 9223372036854775807) (ho : ∀ x ∈ l, ItOk x) : ACalls Try.prog 13 [.sl 5 (l.map itA)] (fun r => r = .agg [.mine 50 8 (((l.take 25).map mkS).map sto), .nil]) := by
  refine calls_short [(1000016,[],[])] ttok hmix Try.func13 (by decide) (by decide +kernel) (by simp only [Try.f13, Option.bind_some, comp, isLend, lendOf, lendX, lendC, lendH, Nat.reduceLeDiff, Nat.reduceSub, ne_eq, not_false_eq_true, and_self, cops, cguard, gslot, List.getElem?_toArray, List.getElem?_cons_succ, List.getElem?_cons_zero, vlook, tlook, cutAt_nil, cutAt, firstReg, isCut, mkSeq, Nat.reduceAdd, Nat.reduceEqDiff, reduceIte]; rfl) Try.ntmps13 Try.results13 ⟨_, rfl⟩ rfl ?_
  simp only [List.length_cons, List.length_nil, Nat.reduceAdd, Nat.reduceSub, List.replicate_succ, List.replicate_zero, List.cons_append, List.nil_append, num, str, tru]
  simp (decide := true) only [mkd_eq [3, 5, 0] [] [6] [[20, 0], [5], [22, 20], [22], [], [25, 0], [5], [27, 25], [27], [], [30, 3], [31, 0], [5], [33, 31], [33], [], [3], [], [], [30], [], [], [], []], List.zip_cons_cons, List.zip_nil_left, List.zip_nil_right]
  simp (decide := true) only [mkd_eq [3] [7400006, 5600006, 9999900006, 9999900006] [100006, 100006] [[], [], [3], [], [], [], [], [], [], [], [], [3], [], [], [], [], [], [], [], []], List.zip_cons_cons, List.zip_nil_left, List.zip_nil_right]
  repeat' first|refine Spl.on (fun _=>?_) (fun _=>?_)|with_reducible refine gd ?_|simp only [go_sem, decide_true, decide_false, Int.reduceEq, Int.cast_ofNat_Int, Bool.false_eq_true, Bool.not_true, Bool.not_false, List.length_map]
  have hNl : (nmsS.map str).length = 6 := rfl
  have hgN := nm6_at
  have hNN : ([.raw (.string ⟨#[]⟩), .raw (.string ⟨#[97]⟩), .raw (.string ⟨#[98]⟩), .raw (.string ⟨#[99]⟩), .raw (.string ⟨#[100]⟩), .raw (.string ⟨#[108, 111, 110, 103, 45, 110, 97, 109, 101]⟩)] : List AV) = nmsS.map str := rfl
  rw [hNN]
  generalize nmsS.map str = NN at hNl hgN
  refine cwp_loop [false, false, false, false, true, true, true, true, true, true, true, true, true, true, true, true, true, true, true, true, true, true, true, true, true, true, true, true, true, true, true, true, true, true, true, true, true, true, true, true, true, true, true, true, true, true, true, true, true, true, true, true, true, true, true, true, true, true, true, true, true, true, true, true, true, true, true, true, true, true, true, true, true, true, true, true, true, true, true, true, true, true, true, true, true, true, true, true, true, true, true, true, true, true, true, true, true, true, false] [4, 5] (fun n xs => ∃ i : Nat, i ≤ l.length ∧ i ≤ 25 ∧ i + n = l.length ∧ xs = [.box 27 [.mine 50 8 (((l.take i).map mkS).map sto), .nil], num i]) ⟨l.length, _, ⟨0, by omega, by omega, by omega, rfl⟩, ?_⟩ ?_
  · simp only [hvm_t, hvm_f, hvm_nil, puts_cons, puts_nil, List.set_cons_zero, List.set_cons_succ, num]
    simp only [List.take_zero, List.map_nil]
    repeat first | exact Wk.nil | exact Wk.refl _ | refine Wk.box (W1.box ?_) ?_ | refine wk_agg ?_ ?_ | refine wk_ownsl ?_ | refine wk_nilown ?_ | refine wk_nilmine ?_ | refine wk_nilsl ?_ | refine Wk.same ?_ | refine wk_any ?_
  · rintro n xs ⟨i, hil, hi25, hn, rfl⟩
    simp only [hvm_t, hvm_f, hvm_nil, puts_cons, puts_nil, List.set_cons_zero, List.set_cons_succ, num]
    by_cases hc : i < l.length ∧ i < 25
    · obtain ⟨hlt, h25⟩ := hc
      have ej := eq_true (show (i : Int) < (l.length : Int) by omega)
      have ei := eq_true (show (i : Int) < 25 by omega)
      obtain ⟨x, hx, hd⟩ := drop_at hlt
      obtain ⟨o1, o2, o3, o4⟩ := ho x (List.mem_of_getElem? hx)
      have hgx := it_at hx
      have hw : IntKind.i64.wrap ((i : Int) + 1) = ((i + 1 : Nat) : Int) := wrap_succ (by omega)
      have hpa := pickN_lt (a := x.au) (n := 6) (by omega)
      repeat' first|refine Spl.on (fun _=>?_) (fun _=>?_)|with_reducible refine gd ?_|simp only [go_sem, decide_true, decide_false, Int.reduceEq, Int.cast_ofNat_Int, Bool.false_eq_true, Bool.not_true, Bool.not_false, ej, ei, hgx, hw, hNl, hgN, List.length_map, nums_length, List.length_cons, List.length_nil]
      refine (pick31 x.au o1 6 (by omega) (by omega)).mono ?_
      rintro r rfl
      simp only [num]
      repeat' first|refine Spl.on (fun _=>?_) (fun _=>?_)|with_reducible refine gd ?_|simp only [go_sem, decide_true, decide_false, Int.reduceEq, Int.cast_ofNat_Int, Bool.false_eq_true, Bool.not_true, Bool.not_false, ej, ei, hgx, hw, hNl, hgN, List.length_map, nums_length, List.length_cons, List.length_nil]
      refine cwp_loop [false, false, false, false, false, false, true, true, false, false, false, false, false, false, false, false, false, false, false, false, false, false, false, false, false, false, false, false, false, false, false, false, false, false, false, false, false, false, false, false, false, false, true, true, true, true, true, true, true, true, true, true, true, true, true, true, true, true, true, true, true, true, true, true, true, true, true, true, true, true, true, true, true, true, true, false, false, false, false, false, false, false, false, false, false, false, false, false, false, false, false, false, false, false, false, false, false, false, false] [6, 7] (fun n2 xs => ∃ j : Nat, j ≤ x.tp.length ∧ j ≤ 6 ∧ j + n2 = x.tp.length ∧ xs = [.box 50 [num x.id, str (nm6 x.au), .own 9 1 (((x.tp.take j).map nm6).map str), .nil, num x.pu, .nil, tru false, tru false], num j]) ⟨x.tp.length, _, ⟨0, by omega, by omega, by omega, rfl⟩, ?_⟩ ?_
      · simp only [hvm_t, hvm_f, hvm_nil, puts_cons, puts_nil, List.set_cons_zero, List.set_cons_succ, num]
        simp only [List.take_zero, List.map_nil, str, tru]
        repeat first | exact Wk.nil | exact Wk.refl _ | refine Wk.box (W1.box ?_) ?_ | refine wk_agg ?_ ?_ | refine wk_ownsl ?_ | refine wk_nilown ?_ | refine wk_nilmine ?_ | refine wk_nilsl ?_ | refine Wk.same ?_ | refine wk_any ?_
      · rintro n2 xs ⟨j, hjl, hj6, hn2, rfl⟩
        simp only [str, tru]
        simp only [hvm_t, hvm_f, hvm_nil, puts_cons, puts_nil, List.set_cons_zero, List.set_cons_succ, num]
        by_cases hcj : j < x.tp.length ∧ j < 6
        · obtain ⟨hjt, hjs⟩ := hcj
          have ek := eq_true (show (j : Int) < (x.tp.length : Int) by omega)
          have e6 := eq_true (show (j : Int) < 6 by omega)
          obtain ⟨t, ht, htd⟩ := drop_at hjt
          have hgt := nums_at ht
          have hwj : IntKind.i64.wrap ((j : Int) + 1) = ((j + 1 : Nat) : Int) := wrap_succ (by omega)
          have hpt := pickN_lt (a := t) (n := 6) (by omega)
          have htl : (((x.tp.take j).map nm6).map str).length = j := by simp; omega
          repeat' first|refine Spl.on (fun _=>?_) (fun _=>?_)|with_reducible refine gd ?_|simp only [go_sem, decide_true, decide_false, Int.reduceEq, Int.cast_ofNat_Int, Bool.false_eq_true, Bool.not_true, Bool.not_false, ej, ei, hgx, hw, hNl, hgN, List.length_map, nums_length, List.length_cons, List.length_nil, ek, e6, hgt, hwj, htl, List.length_take]
          refine (pick31 t (o3 t (List.mem_of_getElem? ht)) 6 (by omega) (by omega)).mono ?_
          rintro r rfl
          simp only [num]
          repeat' first|refine Spl.on (fun _=>?_) (fun _=>?_)|with_reducible refine gd ?_|simp only [go_sem, decide_true, decide_false, Int.reduceEq, Int.cast_ofNat_Int, Bool.false_eq_true, Bool.not_true, Bool.not_false, ej, ei, hgx, hw, hNl, hgN, List.length_map, nums_length, List.length_cons, List.length_nil, ek, e6, hgt, hwj, htl, List.length_take]
          refine lend_mk (n2 - 1) [.box 50 [num x.id, str (nm6 x.au), .own 9 1 (((x.tp.take (j + 1)).map nm6).map str), .nil, num x.pu, .nil, tru false, tru false], num ((j + 1 : Nat) : Int)] (by omega) ⟨j + 1, by omega, by omega, by omega, rfl⟩ ?_
          rw [List.take_add_one, ht]
          simp only [Option.toList_some, List.map_append, List.map_cons, List.map_nil, str, tru]
          simp only [hvm_t, hvm_f, hvm_nil, puts_cons, puts_nil, List.set_cons_zero, List.set_cons_succ, num]
          repeat first | exact Wk.nil | exact Wk.refl _ | refine Wk.box (W1.box ?_) ?_ | refine wk_agg ?_ ?_ | refine wk_ownsl ?_ | refine wk_nilown ?_ | refine wk_nilmine ?_ | refine wk_nilsl ?_ | refine Wk.same ?_ | refine wk_any ?_
        · have htk : x.tp.take j = x.tp.take 6 := by
            rcases Nat.lt_or_ge j 6 with h | h
            · rw [List.take_of_length_le (by omega), List.take_of_length_le (by omega)]
            · rw [show j = 6 by omega]
          rw [htk]
          by_cases hjl2 : j < x.tp.length
          · have ek := eq_true (show (j : Int) < (x.tp.length : Int) by omega)
            have e6 := eq_false (show ¬ (j : Int) < 6 by omega)
            repeat' first|refine Spl.on (fun _=>?_) (fun _=>?_)|with_reducible refine gd ?_|simp only [go_sem, decide_true, decide_false, Int.reduceEq, Int.cast_ofNat_Int, Bool.false_eq_true, Bool.not_true, Bool.not_false, ej, ei, hgx, hw, hNl, hgN, List.length_map, nums_length, List.length_cons, List.length_nil, ek, e6]
            refine (pick31 x.hi o2 8 (by omega) (by omega)).mono ?_
            rintro r rfl
            obtain ⟨h, hh⟩ : ∃ h, pickN x.hi 8 = h := ⟨_, rfl⟩
            rw [hh]
            simp only [num]
            by_cases h1 : h = 1
            · have e1 := eq_true (show (h : Int) = 1 by omega)
              have d1 : decide (h = 1) = true := by simp; omega
              have e2 := eq_false (show ¬ (h : Int) = 2 by omega)
              have d2 : decide (h = 2) = false := by simp; omega
              have e3 := eq_false (show ¬ (h : Int) = 3 by omega)
              have d3 : decide (h = 3) = false := by simp; omega
              repeat' first|refine Spl.on (fun _=>?_) (fun _=>?_)|with_reducible refine gd ?_|simp only [go_sem, decide_true, decide_false, Int.reduceEq, Int.cast_ofNat_Int, Bool.false_eq_true, Bool.not_true, Bool.not_false, ej, ei, hgx, hw, hNl, hgN, List.length_map, nums_length, List.length_cons, List.length_nil, e1, e2, e3]
              refine cwp_cut [false, false, false, false, false, false, true, false, false, false, false, false, false, false, false, false, false, false, false, false, false, false, false, false, false, false, false, false, false, false, false, false, false, false, false, false, false, false, false, false, false, false, false, false, false, false, false, false, false, false, false, false, false, false, false, false, false, false, false, false, false, false, false, false, false, false, false, false, false, false, false, false, false, false, false, false, false, false, false, false, false, false, false, false, false, false, false, true, true, true, true, true, false, false, false, false, false, false, false] [6] (fun xs => xs = [.box 50 (stoC (mkS x))]) ?_ ?_
              · repeat' first|refine Spl.on (fun _=>?_) (fun _=>?_)|with_reducible refine gd ?_|simp only [go_sem, decide_true, decide_false, Int.reduceEq, Int.cast_ofNat_Int, Bool.false_eq_true, Bool.not_true, Bool.not_false, ej, ei, hgx, hw, hNl, hgN, List.length_map, nums_length, List.length_cons, List.length_nil, e1, e2, e3]
                refine cut_mk _ rfl ?_
                simp only [stoC, mkS, tpS, hh, d1, d2, show (h = 3) = False from eq_false (by omega), if_true, if_false, List.map_nil, edA, num, str, tru]
                simp only [hvm_t, hvm_f, hvm_nil, puts_cons, puts_nil, List.set_cons_zero, List.set_cons_succ, num]
                repeat first | exact Wk.nil | exact Wk.refl _ | refine Wk.box (W1.box ?_) ?_ | refine wk_agg ?_ ?_ | refine wk_ownsl ?_ | refine wk_nilown ?_ | refine wk_nilmine ?_ | refine wk_nilsl ?_ | refine Wk.same ?_ | refine wk_any ?_
              · rintro xs rfl
                simp only [stoC, num, str, tru]
                simp only [hvm_t, hvm_f, hvm_nil, puts_cons, puts_nil, List.set_cons_zero, List.set_cons_succ, num]
                have hLt : (((l.take i).map mkS).map sto).length = i := by simp; omega
                repeat' first|refine Spl.on (fun _=>?_) (fun _=>?_)|with_reducible refine gd ?_|simp only [go_sem, decide_true, decide_false, Int.reduceEq, Int.cast_ofNat_Int, Bool.false_eq_true, Bool.not_true, Bool.not_false, ej, ei, hgx, hw, hNl, hgN, List.length_map, nums_length, List.length_cons, List.length_nil, e1, e2, e3, hLt, List.length_take]
                refine lend_mk (n - 1) [.box 27 [.mine 50 8 (((l.take (i + 1)).map mkS).map sto), .nil], num ((i + 1 : Nat) : Int)] (by omega) ⟨i + 1, by omega, by omega, by omega, rfl⟩ ?_
                rw [List.take_add_one, hx]
                simp only [Option.toList_some, List.map_append, List.map_cons, List.map_nil, sto, stoC, num, str, tru]
                simp only [hvm_t, hvm_f, hvm_nil, puts_cons, puts_nil, List.set_cons_zero, List.set_cons_succ, num]
                repeat first | exact Wk.nil | exact Wk.refl _ | refine Wk.box (W1.box ?_) ?_ | refine wk_agg ?_ ?_ | refine wk_ownsl ?_ | refine wk_nilown ?_ | refine wk_nilmine ?_ | refine wk_nilsl ?_ | refine Wk.same ?_ | refine wk_any ?_
            by_cases h2 : h = 2
            · have e1 := eq_false (show ¬ (h : Int) = 1 by omega)
              have d1 : decide (h = 1) = false := by simp; omega
              have e2 := eq_true (show (h : Int) = 2 by omega)
              have d2 : decide (h = 2) = true := by simp; omega
              have e3 := eq_false (show ¬ (h : Int) = 3 by omega)
              have d3 : decide (h = 3) = false := by simp; omega
              repeat' first|refine Spl.on (fun _=>?_) (fun _=>?_)|with_reducible refine gd ?_|simp only [go_sem, decide_true, decide_false, Int.reduceEq, Int.cast_ofNat_Int, Bool.false_eq_true, Bool.not_true, Bool.not_false, ej, ei, hgx, hw, hNl, hgN, List.length_map, nums_length, List.length_cons, List.length_nil, e1, e2, e3]
              refine cwp_cut [false, false, false, false, false, false, true, false, false, false, false, false, false, false, false, false, false, false, false, false, false, false, false, false, false, false, false, false, false, false, false, false, false, false, false, false, false, false, false, false, false, false, false, false, false, false, false, false, false, false, false, false, false, false, false, false, false, false, false, false, false, false, false, false, false, false, false, false, false, false, false, false, false, false, false, false, false, false, false, false, false, false, false, false, false, false, false, true, true, true, true, true, false, false, false, false, false, false, false] [6] (fun xs => xs = [.box 50 (stoC (mkS x))]) ?_ ?_
              · repeat' first|refine Spl.on (fun _=>?_) (fun _=>?_)|with_reducible refine gd ?_|simp only [go_sem, decide_true, decide_false, Int.reduceEq, Int.cast_ofNat_Int, Bool.false_eq_true, Bool.not_true, Bool.not_false, ej, ei, hgx, hw, hNl, hgN, List.length_map, nums_length, List.length_cons, List.length_nil, e1, e2, e3]
                refine cut_mk _ rfl ?_
                simp only [stoC, mkS, tpS, hh, d1, d2, show (h = 3) = False from eq_false (by omega), if_true, if_false, List.map_nil, edA, num, str, tru]
                simp only [hvm_t, hvm_f, hvm_nil, puts_cons, puts_nil, List.set_cons_zero, List.set_cons_succ, num]
                repeat first | exact Wk.nil | exact Wk.refl _ | refine Wk.box (W1.box ?_) ?_ | refine wk_agg ?_ ?_ | refine wk_ownsl ?_ | refine wk_nilown ?_ | refine wk_nilmine ?_ | refine wk_nilsl ?_ | refine Wk.same ?_ | refine wk_any ?_
              · rintro xs rfl
                simp only [stoC, num, str, tru]
                simp only [hvm_t, hvm_f, hvm_nil, puts_cons, puts_nil, List.set_cons_zero, List.set_cons_succ, num]
                have hLt : (((l.take i).map mkS).map sto).length = i := by simp; omega
                repeat' first|refine Spl.on (fun _=>?_) (fun _=>?_)|with_reducible refine gd ?_|simp only [go_sem, decide_true, decide_false, Int.reduceEq, Int.cast_ofNat_Int, Bool.false_eq_true, Bool.not_true, Bool.not_false, ej, ei, hgx, hw, hNl, hgN, List.length_map, nums_length, List.length_cons, List.length_nil, e1, e2, e3, hLt, List.length_take]
                refine lend_mk (n - 1) [.box 27 [.mine 50 8 (((l.take (i + 1)).map mkS).map sto), .nil], num ((i + 1 : Nat) : Int)] (by omega) ⟨i + 1, by omega, by omega, by omega, rfl⟩ ?_
                rw [List.take_add_one, hx]
                simp only [Option.toList_some, List.map_append, List.map_cons, List.map_nil, sto, stoC, num, str, tru]
                simp only [hvm_t, hvm_f, hvm_nil, puts_cons, puts_nil, List.set_cons_zero, List.set_cons_succ, num]
                repeat first | exact Wk.nil | exact Wk.refl _ | refine Wk.box (W1.box ?_) ?_ | refine wk_agg ?_ ?_ | refine wk_ownsl ?_ | refine wk_nilown ?_ | refine wk_nilmine ?_ | refine wk_nilsl ?_ | refine Wk.same ?_ | refine wk_any ?_
            by_cases h3 : h = 3
            · have e1 := eq_false (show ¬ (h : Int) = 1 by omega)
              have d1 : decide (h = 1) = false := by simp; omega
              have e2 := eq_false (show ¬ (h : Int) = 2 by omega)
              have d2 : decide (h = 2) = false := by simp; omega
              have e3 := eq_true (show (h : Int) = 3 by omega)
              have d3 : decide (h = 3) = true := by simp; omega
              repeat' first|refine Spl.on (fun _=>?_) (fun _=>?_)|with_reducible refine gd ?_|simp only [go_sem, decide_true, decide_false, Int.reduceEq, Int.cast_ofNat_Int, Bool.false_eq_true, Bool.not_true, Bool.not_false, ej, ei, hgx, hw, hNl, hgN, List.length_map, nums_length, List.length_cons, List.length_nil, e1, e2, e3]
              refine cwp_cut [false, false, false, false, false, false, true, false, false, false, false, false, false, false, false, false, false, false, false, false, false, false, false, false, false, false, false, false, false, false, false, false, false, false, false, false, false, false, false, false, false, false, false, false, false, false, false, false, false, false, false, false, false, false, false, false, false, false, false, false, false, false, false, false, false, false, false, false, false, false, false, false, false, false, false, false, false, false, false, false, false, false, false, false, false, false, false, true, true, true, true, true, false, false, false, false, false, false, false] [6] (fun xs => xs = [.box 50 (stoC (mkS x))]) ?_ ?_
              · repeat' first|refine Spl.on (fun _=>?_) (fun _=>?_)|with_reducible refine gd ?_|simp only [go_sem, decide_true, decide_false, Int.reduceEq, Int.cast_ofNat_Int, Bool.false_eq_true, Bool.not_true, Bool.not_false, ej, ei, hgx, hw, hNl, hgN, List.length_map, nums_length, List.length_cons, List.length_nil, e1, e2, e3]
                refine cut_mk _ rfl ?_
                simp only [stoC, mkS, tpS, hh, d1, d2, show (h = 3) = True from eq_true (by omega), if_true, if_false, List.map_nil, edA, num, str, tru]
                simp only [hvm_t, hvm_f, hvm_nil, puts_cons, puts_nil, List.set_cons_zero, List.set_cons_succ, num]
                repeat first | exact Wk.nil | exact Wk.refl _ | refine Wk.box (W1.box ?_) ?_ | refine wk_agg ?_ ?_ | refine wk_ownsl ?_ | refine wk_nilown ?_ | refine wk_nilmine ?_ | refine wk_nilsl ?_ | refine Wk.same ?_ | refine wk_any ?_
              · rintro xs rfl
                simp only [stoC, num, str, tru]
                simp only [hvm_t, hvm_f, hvm_nil, puts_cons, puts_nil, List.set_cons_zero, List.set_cons_succ, num]
                have hLt : (((l.take i).map mkS).map sto).length = i := by simp; omega
                repeat' first|refine Spl.on (fun _=>?_) (fun _=>?_)|with_reducible refine gd ?_|simp only [go_sem, decide_true, decide_false, Int.reduceEq, Int.cast_ofNat_Int, Bool.false_eq_true, Bool.not_true, Bool.not_false, ej, ei, hgx, hw, hNl, hgN, List.length_map, nums_length, List.length_cons, List.length_nil, e1, e2, e3, hLt, List.length_take]
                refine lend_mk (n - 1) [.box 27 [.mine 50 8 (((l.take (i + 1)).map mkS).map sto), .nil], num ((i + 1 : Nat) : Int)] (by omega) ⟨i + 1, by omega, by omega, by omega, rfl⟩ ?_
                rw [List.take_add_one, hx]
                simp only [Option.toList_some, List.map_append, List.map_cons, List.map_nil, sto, stoC, num, str, tru]
                simp only [hvm_t, hvm_f, hvm_nil, puts_cons, puts_nil, List.set_cons_zero, List.set_cons_succ, num]
                repeat first | exact Wk.nil | exact Wk.refl _ | refine Wk.box (W1.box ?_) ?_ | refine wk_agg ?_ ?_ | refine wk_ownsl ?_ | refine wk_nilown ?_ | refine wk_nilmine ?_ | refine wk_nilsl ?_ | refine Wk.same ?_ | refine wk_any ?_
            have e1 := eq_false (show ¬ (h : Int) = 1 by omega)
            have d1 : decide (h = 1) = false := by simp; omega
            have e2 := eq_false (show ¬ (h : Int) = 2 by omega)
            have d2 : decide (h = 2) = false := by simp; omega
            have e3 := eq_false (show ¬ (h : Int) = 3 by omega)
            have d3 : decide (h = 3) = false := by simp; omega
            repeat' first|refine Spl.on (fun _=>?_) (fun _=>?_)|with_reducible refine gd ?_|simp only [go_sem, decide_true, decide_false, Int.reduceEq, Int.cast_ofNat_Int, Bool.false_eq_true, Bool.not_true, Bool.not_false, ej, ei, hgx, hw, hNl, hgN, List.length_map, nums_length, List.length_cons, List.length_nil, e1, e2, e3]
            refine cwp_cut [false, false, false, false, false, false, true, false, false, false, false, false, false, false, false, false, false, false, false, false, false, false, false, false, false, false, false, false, false, false, false, false, false, false, false, false, false, false, false, false, false, false, false, false, false, false, false, false, false, false, false, false, false, false, false, false, false, false, false, false, false, false, false, false, false, false, false, false, false, false, false, false, false, false, false, false, false, false, false, false, false, false, false, false, false, false, false, true, true, true, true, true, false, false, false, false, false, false, false] [6] (fun xs => xs = [.box 50 (stoC (mkS x))]) ?_ ?_
            · repeat' first|refine Spl.on (fun _=>?_) (fun _=>?_)|with_reducible refine gd ?_|simp only [go_sem, decide_true, decide_false, Int.reduceEq, Int.cast_ofNat_Int, Bool.false_eq_true, Bool.not_true, Bool.not_false, ej, ei, hgx, hw, hNl, hgN, List.length_map, nums_length, List.length_cons, List.length_nil, e1, e2, e3]
              refine cut_mk _ rfl ?_
              simp only [stoC, mkS, tpS, hh, d1, d2, show (h = 3) = False from eq_false (by omega), if_true, if_false, List.map_nil, edA, num, str, tru]
              simp only [hvm_t, hvm_f, hvm_nil, puts_cons, puts_nil, List.set_cons_zero, List.set_cons_succ, num]
              repeat first | exact Wk.nil | exact Wk.refl _ | refine Wk.box (W1.box ?_) ?_ | refine wk_agg ?_ ?_ | refine wk_ownsl ?_ | refine wk_nilown ?_ | refine wk_nilmine ?_ | refine wk_nilsl ?_ | refine Wk.same ?_ | refine wk_any ?_
            · rintro xs rfl
              simp only [stoC, num, str, tru]
              simp only [hvm_t, hvm_f, hvm_nil, puts_cons, puts_nil, List.set_cons_zero, List.set_cons_succ, num]
              have hLt : (((l.take i).map mkS).map sto).length = i := by simp; omega
              repeat' first|refine Spl.on (fun _=>?_) (fun _=>?_)|with_reducible refine gd ?_|simp only [go_sem, decide_true, decide_false, Int.reduceEq, Int.cast_ofNat_Int, Bool.false_eq_true, Bool.not_true, Bool.not_false, ej, ei, hgx, hw, hNl, hgN, List.length_map, nums_length, List.length_cons, List.length_nil, e1, e2, e3, hLt, List.length_take]
              refine lend_mk (n - 1) [.box 27 [.mine 50 8 (((l.take (i + 1)).map mkS).map sto), .nil], num ((i + 1 : Nat) : Int)] (by omega) ⟨i + 1, by omega, by omega, by omega, rfl⟩ ?_
              rw [List.take_add_one, hx]
              simp only [Option.toList_some, List.map_append, List.map_cons, List.map_nil, sto, stoC, num, str, tru]
              simp only [hvm_t, hvm_f, hvm_nil, puts_cons, puts_nil, List.set_cons_zero, List.set_cons_succ, num]
              repeat first | exact Wk.nil | exact Wk.refl _ | refine Wk.box (W1.box ?_) ?_ | refine wk_agg ?_ ?_ | refine wk_ownsl ?_ | refine wk_nilown ?_ | refine wk_nilmine ?_ | refine wk_nilsl ?_ | refine Wk.same ?_ | refine wk_any ?_
          by_cases hj62 : j < 6
          · have ek := eq_false (show ¬ (j : Int) < (x.tp.length : Int) by omega)
            have e6 := eq_true (show (j : Int) < 6 by omega)
            repeat' first|refine Spl.on (fun _=>?_) (fun _=>?_)|with_reducible refine gd ?_|simp only [go_sem, decide_true, decide_false, Int.reduceEq, Int.cast_ofNat_Int, Bool.false_eq_true, Bool.not_true, Bool.not_false, ej, ei, hgx, hw, hNl, hgN, List.length_map, nums_length, List.length_cons, List.length_nil, ek, e6]
            refine (pick31 x.hi o2 8 (by omega) (by omega)).mono ?_
            rintro r rfl
            obtain ⟨h, hh⟩ : ∃ h, pickN x.hi 8 = h := ⟨_, rfl⟩
            rw [hh]
            simp only [num]
            by_cases h1 : h = 1
            · have e1 := eq_true (show (h : Int) = 1 by omega)
              have d1 : decide (h = 1) = true := by simp; omega
              have e2 := eq_false (show ¬ (h : Int) = 2 by omega)
              have d2 : decide (h = 2) = false := by simp; omega
              have e3 := eq_false (show ¬ (h : Int) = 3 by omega)
              have d3 : decide (h = 3) = false := by simp; omega
              repeat' first|refine Spl.on (fun _=>?_) (fun _=>?_)|with_reducible refine gd ?_|simp only [go_sem, decide_true, decide_false, Int.reduceEq, Int.cast_ofNat_Int, Bool.false_eq_true, Bool.not_true, Bool.not_false, ej, ei, hgx, hw, hNl, hgN, List.length_map, nums_length, List.length_cons, List.length_nil, e1, e2, e3]
              refine cwp_cut [false, false, false, false, false, false, true, false, false, false, false, false, false, false, false, false, false, false, false, false, false, false, false, false, false, false, false, false, false, false, false, false, false, false, false, false, false, false, false, false, false, false, false, false, false, false, false, false, false, false, false, false, false, false, false, false, false, false, false, false, false, false, false, false, false, false, false, false, false, false, false, false, false, false, false, false, false, false, false, false, false, false, false, false, false, false, false, true, true, true, true, true, false, false, false, false, false, false, false] [6] (fun xs => xs = [.box 50 (stoC (mkS x))]) ?_ ?_
              · repeat' first|refine Spl.on (fun _=>?_) (fun _=>?_)|with_reducible refine gd ?_|simp only [go_sem, decide_true, decide_false, Int.reduceEq, Int.cast_ofNat_Int, Bool.false_eq_true, Bool.not_true, Bool.not_false, ej, ei, hgx, hw, hNl, hgN, List.length_map, nums_length, List.length_cons, List.length_nil, e1, e2, e3]
                refine cut_mk _ rfl ?_
                simp only [stoC, mkS, tpS, hh, d1, d2, show (h = 3) = False from eq_false (by omega), if_true, if_false, List.map_nil, edA, num, str, tru]
                simp only [hvm_t, hvm_f, hvm_nil, puts_cons, puts_nil, List.set_cons_zero, List.set_cons_succ, num]
                repeat first | exact Wk.nil | exact Wk.refl _ | refine Wk.box (W1.box ?_) ?_ | refine wk_agg ?_ ?_ | refine wk_ownsl ?_ | refine wk_nilown ?_ | refine wk_nilmine ?_ | refine wk_nilsl ?_ | refine Wk.same ?_ | refine wk_any ?_
              · rintro xs rfl
                simp only [stoC, num, str, tru]
                simp only [hvm_t, hvm_f, hvm_nil, puts_cons, puts_nil, List.set_cons_zero, List.set_cons_succ, num]
                have hLt : (((l.take i).map mkS).map sto).length = i := by simp; omega
                repeat' first|refine Spl.on (fun _=>?_) (fun _=>?_)|with_reducible refine gd ?_|simp only [go_sem, decide_true, decide_false, Int.reduceEq, Int.cast_ofNat_Int, Bool.false_eq_true, Bool.not_true, Bool.not_false, ej, ei, hgx, hw, hNl, hgN, List.length_map, nums_length, List.length_cons, List.length_nil, e1, e2, e3, hLt, List.length_take]
                refine lend_mk (n - 1) [.box 27 [.mine 50 8 (((l.take (i + 1)).map mkS).map sto), .nil], num ((i + 1 : Nat) : Int)] (by omega) ⟨i + 1, by omega, by omega, by omega, rfl⟩ ?_
                rw [List.take_add_one, hx]
                simp only [Option.toList_some, List.map_append, List.map_cons, List.map_nil, sto, stoC, num, str, tru]
                simp only [hvm_t, hvm_f, hvm_nil, puts_cons, puts_nil, List.set_cons_zero, List.set_cons_succ, num]
                repeat first | exact Wk.nil | exact Wk.refl _ | refine Wk.box (W1.box ?_) ?_ | refine wk_agg ?_ ?_ | refine wk_ownsl ?_ | refine wk_nilown ?_ | refine wk_nilmine ?_ | refine wk_nilsl ?_ | refine Wk.same ?_ | refine wk_any ?_
            by_cases h2 : h = 2
            · have e1 := eq_false (show ¬ (h : Int) = 1 by omega)
              have d1 : decide (h = 1) = false := by simp; omega
              have e2 := eq_true (show (h : Int) = 2 by omega)
              have d2 : decide (h = 2) = true := by simp; omega
              have e3 := eq_false (show ¬ (h : Int) = 3 by omega)
              have d3 : decide (h = 3) = false := by simp; omega
              repeat' first|refine Spl.on (fun _=>?_) (fun _=>?_)|with_reducible refine gd ?_|simp only [go_sem, decide_true, decide_false, Int.reduceEq, Int.cast_ofNat_Int, Bool.false_eq_true, Bool.not_true, Bool.not_false, ej, ei, hgx, hw, hNl, hgN, List.length_map, nums_length, List.length_cons, List.length_nil, e1, e2, e3]
              refine cwp_cut [false, false, false, false, false, false, true, false, false, false, false, false, false, false, false, false, false, false, false, false, false, false, false, false, false, false, false, false, false, false, false, false, false, false, false, false, false, false, false, false, false, false, false, false, false, false, false, false, false, false, false, false, false, false, false, false, false, false, false, false, false, false, false, false, false, false, false, false, false, false, false, false, false, false, false, false, false, false, false, false, false, false, false, false, false, false, false, true, true, true, true, true, false, false, false, false, false, false, false] [6] (fun xs => xs = [.box 50 (stoC (mkS x))]) ?_ ?_
              · repeat' first|refine Spl.on (fun _=>?_) (fun _=>?_)|with_reducible refine gd ?_|simp only [go_sem, decide_true, decide_false, Int.reduceEq, Int.cast_ofNat_Int, Bool.false_eq_true, Bool.not_true, Bool.not_false, ej, ei, hgx, hw, hNl, hgN, List.length_map, nums_length, List.length_cons, List.length_nil, e1, e2, e3]
                refine cut_mk _ rfl ?_
                simp only [stoC, mkS, tpS, hh, d1, d2, show (h = 3) = False from eq_false (by omega), if_true, if_false, List.map_nil, edA, num, str, tru]
                simp only [hvm_t, hvm_f, hvm_nil, puts_cons, puts_nil, List.set_cons_zero, List.set_cons_succ, num]
                repeat first | exact Wk.nil | exact Wk.refl _ | refine Wk.box (W1.box ?_) ?_ | refine wk_agg ?_ ?_ | refine wk_ownsl ?_ | refine wk_nilown ?_ | refine wk_nilmine ?_ | refine wk_nilsl ?_ | refine Wk.same ?_ | refine wk_any ?_
              · rintro xs rfl
                simp only [stoC, num, str, tru]
                simp only [hvm_t, hvm_f, hvm_nil, puts_cons, puts_nil, List.set_cons_zero, List.set_cons_succ, num]
                have hLt : (((l.take i).map mkS).map sto).length = i := by simp; omega
                repeat' first|refine Spl.on (fun _=>?_) (fun _=>?_)|with_reducible refine gd ?_|simp only [go_sem, decide_true, decide_false, Int.reduceEq, Int.cast_ofNat_Int, Bool.false_eq_true, Bool.not_true, Bool.not_false, ej, ei, hgx, hw, hNl, hgN, List.length_map, nums_length, List.length_cons, List.length_nil, e1, e2, e3, hLt, List.length_take]
                refine lend_mk (n - 1) [.box 27 [.mine 50 8 (((l.take (i + 1)).map mkS).map sto), .nil], num ((i + 1 : Nat) : Int)] (by omega) ⟨i + 1, by omega, by omega, by omega, rfl⟩ ?_
                rw [List.take_add_one, hx]
                simp only [Option.toList_some, List.map_append, List.map_cons, List.map_nil, sto, stoC, num, str, tru]
                simp only [hvm_t, hvm_f, hvm_nil, puts_cons, puts_nil, List.set_cons_zero, List.set_cons_succ, num]
                repeat first | exact Wk.nil | exact Wk.refl _ | refine Wk.box (W1.box ?_) ?_ | refine wk_agg ?_ ?_ | refine wk_ownsl ?_ | refine wk_nilown ?_ | refine wk_nilmine ?_ | refine wk_nilsl ?_ | refine Wk.same ?_ | refine wk_any ?_
            by_cases h3 : h = 3
            · have e1 := eq_false (show ¬ (h : Int) = 1 by omega)
              have d1 : decide (h = 1) = false := by simp; omega
              have e2 := eq_false (show ¬ (h : Int) = 2 by omega)
              have d2 : decide (h = 2) = false := by simp; omega
              have e3 := eq_true (show (h : Int) = 3 by omega)
              have d3 : decide (h = 3) = true := by simp; omega
              repeat' first|refine Spl.on (fun _=>?_) (fun _=>?_)|with_reducible refine gd ?_|simp only [go_sem, decide_true, decide_false, Int.reduceEq, Int.cast_ofNat_Int, Bool.false_eq_true, Bool.not_true, Bool.not_false, ej, ei, hgx, hw, hNl, hgN, List.length_map, nums_length, List.length_cons, List.length_nil, e1, e2, e3]
              refine cwp_cut [false, false, false, false, false, false, true, false, false, false, false, false, false, false, false, false, false, false, false, false, false, false, false, false, false, false, false, false, false, false, false, false, false, false, false, false, false, false, false, false, false, false, false, false, false, false, false, false, false, false, false, false, false, false, false, false, false, false, false, false, false, false, false, false, false, false, false, false, false, false, false, false, false, false, false, false, false, false, false, false, false, false, false, false, false, false, false, true, true, true, true, true, false, false, false, false, false, false, false] [6] (fun xs => xs = [.box 50 (stoC (mkS x))]) ?_ ?_
              · repeat' first|refine Spl.on (fun _=>?_) (fun _=>?_)|with_reducible refine gd ?_|simp only [go_sem, decide_true, decide_false, Int.reduceEq, Int.cast_ofNat_Int, Bool.false_eq_true, Bool.not_true, Bool.not_false, ej, ei, hgx, hw, hNl, hgN, List.length_map, nums_length, List.length_cons, List.length_nil, e1, e2, e3]
                refine cut_mk _ rfl ?_
                simp only [stoC, mkS, tpS, hh, d1, d2, show (h = 3) = True from eq_true (by omega), if_true, if_false, List.map_nil, edA, num, str, tru]
                simp only [hvm_t, hvm_f, hvm_nil, puts_cons, puts_nil, List.set_cons_zero, List.set_cons_succ, num]
                repeat first | exact Wk.nil | exact Wk.refl _ | refine Wk.box (W1.box ?_) ?_ | refine wk_agg ?_ ?_ | refine wk_ownsl ?_ | refine wk_nilown ?_ | refine wk_nilmine ?_ | refine wk_nilsl ?_ | refine Wk.same ?_ | refine wk_any ?_
              · rintro xs rfl
                simp only [stoC, num, str, tru]
                simp only [hvm_t, hvm_f, hvm_nil, puts_cons, puts_nil, List.set_cons_zero, List.set_cons_succ, num]
                have hLt : (((l.take i).map mkS).map sto).length = i := by simp; omega
                repeat' first|refine Spl.on (fun _=>?_) (fun _=>?_)|with_reducible refine gd ?_|simp only [go_sem, decide_true, decide_false, Int.reduceEq, Int.cast_ofNat_Int, Bool.false_eq_true, Bool.not_true, Bool.not_false, ej, ei, hgx, hw, hNl, hgN, List.length_map, nums_length, List.length_cons, List.length_nil, e1, e2, e3, hLt, List.length_take]
                refine lend_mk (n - 1) [.box 27 [.mine 50 8 (((l.take (i + 1)).map mkS).map sto), .nil], num ((i + 1 : Nat) : Int)] (by omega) ⟨i + 1, by omega, by omega, by omega, rfl⟩ ?_
                rw [List.take_add_one, hx]
                simp only [Option.toList_some, List.map_append, List.map_cons, List.map_nil, sto, stoC, num, str, tru]
                simp only [hvm_t, hvm_f, hvm_nil, puts_cons, puts_nil, List.set_cons_zero, List.set_cons_succ, num]
                repeat first | exact Wk.nil | exact Wk.refl _ | refine Wk.box (W1.box ?_) ?_ | refine wk_agg ?_ ?_ | refine wk_ownsl ?_ | refine wk_nilown ?_ | refine wk_nilmine ?_ | refine wk_nilsl ?_ | refine Wk.same ?_ | refine wk_any ?_
            have e1 := eq_false (show ¬ (h : Int) = 1 by omega)
            have d1 : decide (h = 1) = false := by simp; omega
            have e2 := eq_false (show ¬ (h : Int) = 2 by omega)
            have d2 : decide (h = 2) = false := by simp; omega
            have e3 := eq_false (show ¬ (h : Int) = 3 by omega)
            have d3 : decide (h = 3) = false := by simp; omega
            repeat' first|refine Spl.on (fun _=>?_) (fun _=>?_)|with_reducible refine gd ?_|simp only [go_sem, decide_true, decide_false, Int.reduceEq, Int.cast_ofNat_Int, Bool.false_eq_true, Bool.not_true, Bool.not_false, ej, ei, hgx, hw, hNl, hgN, List.length_map, nums_length, List.length_cons, List.length_nil, e1, e2, e3]
            refine cwp_cut [false, false, false, false, false, false, true, false, false, false, false, false, false, false, false, false, false, false, false, false, false, false, false, false, false, false, false, false, false, false, false, false, false, false, false, false, false, false, false, false, false, false, false, false, false, false, false, false, false, false, false, false, false, false, false, false, false, false, false, false, false, false, false, false, false, false, false, false, false, false, false, false, false, false, false, false, false, false, false, false, false, false, false, false, false, false, false, true, true, true, true, true, false, false, false, false, false, false, false] [6] (fun xs => xs = [.box 50 (stoC (mkS x))]) ?_ ?_
            · repeat' first|refine Spl.on (fun _=>?_) (fun _=>?_)|with_reducible refine gd ?_|simp only [go_sem, decide_true, decide_false, Int.reduceEq, Int.cast_ofNat_Int, Bool.false_eq_true, Bool.not_true, Bool.not_false, ej, ei, hgx, hw, hNl, hgN, List.length_map, nums_length, List.length_cons, List.length_nil, e1, e2, e3]
              refine cut_mk _ rfl ?_
              simp only [stoC, mkS, tpS, hh, d1, d2, show (h = 3) = False from eq_false (by omega), if_true, if_false, List.map_nil, edA, num, str, tru]
              simp only [hvm_t, hvm_f, hvm_nil, puts_cons, puts_nil, List.set_cons_zero, List.set_cons_succ, num]
              repeat first | exact Wk.nil | exact Wk.refl _ | refine Wk.box (W1.box ?_) ?_ | refine wk_agg ?_ ?_ | refine wk_ownsl ?_ | refine wk_nilown ?_ | refine wk_nilmine ?_ | refine wk_nilsl ?_ | refine Wk.same ?_ | refine wk_any ?_
            · rintro xs rfl
              simp only [stoC, num, str, tru]
              simp only [hvm_t, hvm_f, hvm_nil, puts_cons, puts_nil, List.set_cons_zero, List.set_cons_succ, num]
              have hLt : (((l.take i).map mkS).map sto).length = i := by simp; omega
              repeat' first|refine Spl.on (fun _=>?_) (fun _=>?_)|with_reducible refine gd ?_|simp only [go_sem, decide_true, decide_false, Int.reduceEq, Int.cast_ofNat_Int, Bool.false_eq_true, Bool.not_true, Bool.not_false, ej, ei, hgx, hw, hNl, hgN, List.length_map, nums_length, List.length_cons, List.length_nil, e1, e2, e3, hLt, List.length_take]
              refine lend_mk (n - 1) [.box 27 [.mine 50 8 (((l.take (i + 1)).map mkS).map sto), .nil], num ((i + 1 : Nat) : Int)] (by omega) ⟨i + 1, by omega, by omega, by omega, rfl⟩ ?_
              rw [List.take_add_one, hx]
              simp only [Option.toList_some, List.map_append, List.map_cons, List.map_nil, sto, stoC, num, str, tru]
              simp only [hvm_t, hvm_f, hvm_nil, puts_cons, puts_nil, List.set_cons_zero, List.set_cons_succ, num]
              repeat first | exact Wk.nil | exact Wk.refl _ | refine Wk.box (W1.box ?_) ?_ | refine wk_agg ?_ ?_ | refine wk_ownsl ?_ | refine wk_nilown ?_ | refine wk_nilmine ?_ | refine wk_nilsl ?_ | refine Wk.same ?_ | refine wk_any ?_
          have ek := eq_false (show ¬ (j : Int) < (x.tp.length : Int) by omega)
          have e6 := eq_false (show ¬ (j : Int) < 6 by omega)
          repeat' first|refine Spl.on (fun _=>?_) (fun _=>?_)|with_reducible refine gd ?_|simp only [go_sem, decide_true, decide_false, Int.reduceEq, Int.cast_ofNat_Int, Bool.false_eq_true, Bool.not_true, Bool.not_false, ej, ei, hgx, hw, hNl, hgN, List.length_map, nums_length, List.length_cons, List.length_nil, ek, e6]
          refine (pick31 x.hi o2 8 (by omega) (by omega)).mono ?_
          rintro r rfl
          obtain ⟨h, hh⟩ : ∃ h, pickN x.hi 8 = h := ⟨_, rfl⟩
          rw [hh]
          simp only [num]
          by_cases h1 : h = 1
          · have e1 := eq_true (show (h : Int) = 1 by omega)
            have d1 : decide (h = 1) = true := by simp; omega
            have e2 := eq_false (show ¬ (h : Int) = 2 by omega)
            have d2 : decide (h = 2) = false := by simp; omega
            have e3 := eq_false (show ¬ (h : Int) = 3 by omega)
            have d3 : decide (h = 3) = false := by simp; omega
            repeat' first|refine Spl.on (fun _=>?_) (fun _=>?_)|with_reducible refine gd ?_|simp only [go_sem, decide_true, decide_false, Int.reduceEq, Int.cast_ofNat_Int, Bool.false_eq_true, Bool.not_true, Bool.not_false, ej, ei, hgx, hw, hNl, hgN, List.length_map, nums_length, List.length_cons, List.length_nil, e1, e2, e3]
            refine cwp_cut [false, false, false, false, false, false, true, false, false, false, false, false, false, false, false, false, false, false, false, false, false, false, false, false, false, false, false, false, false, false, false, false, false, false, false, false, false, false, false, false, false, false, false, false, false, false, false, false, false, false, false, false, false, false, false, false, false, false, false, false, false, false, false, false, false, false, false, false, false, false, false, false, false, false, false, false, false, false, false, false, false, false, false, false, false, false, false, true, true, true, true, true, false, false, false, false, false, false, false] [6] (fun xs => xs = [.box 50 (stoC (mkS x))]) ?_ ?_
            · repeat' first|refine Spl.on (fun _=>?_) (fun _=>?_)|with_reducible refine gd ?_|simp only [go_sem, decide_true, decide_false, Int.reduceEq, Int.cast_ofNat_Int, Bool.false_eq_true, Bool.not_true, Bool.not_false, ej, ei, hgx, hw, hNl, hgN, List.length_map, nums_length, List.length_cons, List.length_nil, e1, e2, e3]
              refine cut_mk _ rfl ?_
              simp only [stoC, mkS, tpS, hh, d1, d2, show (h = 3) = False from eq_false (by omega), if_true, if_false, List.map_nil, edA, num, str, tru]
              simp only [hvm_t, hvm_f, hvm_nil, puts_cons, puts_nil, List.set_cons_zero, List.set_cons_succ, num]
              repeat first | exact Wk.nil | exact Wk.refl _ | refine Wk.box (W1.box ?_) ?_ | refine wk_agg ?_ ?_ | refine wk_ownsl ?_ | refine wk_nilown ?_ | refine wk_nilmine ?_ | refine wk_nilsl ?_ | refine Wk.same ?_ | refine wk_any ?_
            · rintro xs rfl
              simp only [stoC, num, str, tru]
              simp only [hvm_t, hvm_f, hvm_nil, puts_cons, puts_nil, List.set_cons_zero, List.set_cons_succ, num]
              have hLt : (((l.take i).map mkS).map sto).length = i := by simp; omega
              repeat' first|refine Spl.on (fun _=>?_) (fun _=>?_)|with_reducible refine gd ?_|simp only [go_sem, decide_true, decide_false, Int.reduceEq, Int.cast_ofNat_Int, Bool.false_eq_true, Bool.not_true, Bool.not_false, ej, ei, hgx, hw, hNl, hgN, List.length_map, nums_length, List.length_cons, List.length_nil, e1, e2, e3, hLt, List.length_take]
              refine lend_mk (n - 1) [.box 27 [.mine 50 8 (((l.take (i + 1)).map mkS).map sto), .nil], num ((i + 1 : Nat) : Int)] (by omega) ⟨i + 1, by omega, by omega, by omega, rfl⟩ ?_
              rw [List.take_add_one, hx]
              simp only [Option.toList_some, List.map_append, List.map_cons, List.map_nil, sto, stoC, num, str, tru]
              simp only [hvm_t, hvm_f, hvm_nil, puts_cons, puts_nil, List.set_cons_zero, List.set_cons_succ, num]
              repeat first | exact Wk.nil | exact Wk.refl _ | refine Wk.box (W1.box ?_) ?_ | refine wk_agg ?_ ?_ | refine wk_ownsl ?_ | refine wk_nilown ?_ | refine wk_nilmine ?_ | refine wk_nilsl ?_ | refine Wk.same ?_ | refine wk_any ?_
          by_cases h2 : h = 2
          · have e1 := eq_false (show ¬ (h : Int) = 1 by omega)
            have d1 : decide (h = 1) = false := by simp; omega
            have e2 := eq_true (show (h : Int) = 2 by omega)
            have d2 : decide (h = 2) = true := by simp; omega
            have e3 := eq_false (show ¬ (h : Int) = 3 by omega)
            have d3 : decide (h = 3) = false := by simp; omega
            repeat' first|refine Spl.on (fun _=>?_) (fun _=>?_)|with_reducible refine gd ?_|simp only [go_sem, decide_true, decide_false, Int.reduceEq, Int.cast_ofNat_Int, Bool.false_eq_true, Bool.not_true, Bool.not_false, ej, ei, hgx, hw, hNl, hgN, List.length_map, nums_length, List.length_cons, List.length_nil, e1, e2, e3]
            refine cwp_cut [false, false, false, false, false, false, true, false, false, false, false, false, false, false, false, false, false, false, false, false, false, false, false, false, false, false, false, false, false, false, false, false, false, false, false, false, false, false, false, false, false, false, false, false, false, false, false, false, false, false, false, false, false, false, false, false, false, false, false, false, false, false, false, false, false, false, false, false, false, false, false, false, false, false, false, false, false, false, false, false, false, false, false, false, false, false, false, true, true, true, true, true, false, false, false, false, false, false, false] [6] (fun xs => xs = [.box 50 (stoC (mkS x))]) ?_ ?_
            · repeat' first|refine Spl.on (fun _=>?_) (fun _=>?_)|with_reducible refine gd ?_|simp only [go_sem, decide_true, decide_false, Int.reduceEq, Int.cast_ofNat_Int, Bool.false_eq_true, Bool.not_true, Bool.not_false, ej, ei, hgx, hw, hNl, hgN, List.length_map, nums_length, List.length_cons, List.length_nil, e1, e2, e3]
              refine cut_mk _ rfl ?_
              simp only [stoC, mkS, tpS, hh, d1, d2, show (h = 3) = False from eq_false (by omega), if_true, if_false, List.map_nil, edA, num, str, tru]
              simp only [hvm_t, hvm_f, hvm_nil, puts_cons, puts_nil, List.set_cons_zero, List.set_cons_succ, num]
              repeat first | exact Wk.nil | exact Wk.refl _ | refine Wk.box (W1.box ?_) ?_ | refine wk_agg ?_ ?_ | refine wk_ownsl ?_ | refine wk_nilown ?_ | refine wk_nilmine ?_ | refine wk_nilsl ?_ | refine Wk.same ?_ | refine wk_any ?_
            · rintro xs rfl
              simp only [stoC, num, str, tru]
              simp only [hvm_t, hvm_f, hvm_nil, puts_cons, puts_nil, List.set_cons_zero, List.set_cons_succ, num]
              have hLt : (((l.take i).map mkS).map sto).length = i := by simp; omega
              repeat' first|refine Spl.on (fun _=>?_) (fun _=>?_)|with_reducible refine gd ?_|simp only [go_sem, decide_true, decide_false, Int.reduceEq, Int.cast_ofNat_Int, Bool.false_eq_true, Bool.not_true, Bool.not_false, ej, ei, hgx, hw, hNl, hgN, List.length_map, nums_length, List.length_cons, List.length_nil, e1, e2, e3, hLt, List.length_take]
              refine lend_mk (n - 1) [.box 27 [.mine 50 8 (((l.take (i + 1)).map mkS).map sto), .nil], num ((i + 1 : Nat) : Int)] (by omega) ⟨i + 1, by omega, by omega, by omega, rfl⟩ ?_
              rw [List.take_add_one, hx]
              simp only [Option.toList_some, List.map_append, List.map_cons, List.map_nil, sto, stoC, num, str, tru]
              simp only [hvm_t, hvm_f, hvm_nil, puts_cons, puts_nil, List.set_cons_zero, List.set_cons_succ, num]
              repeat first | exact Wk.nil | exact Wk.refl _ | refine Wk.box (W1.box ?_) ?_ | refine wk_agg ?_ ?_ | refine wk_ownsl ?_ | refine wk_nilown ?_ | refine wk_nilmine ?_ | refine wk_nilsl ?_ | refine Wk.same ?_ | refine wk_any ?_
          by_cases h3 : h = 3
          · have e1 := eq_false (show ¬ (h : Int) = 1 by omega)
            have d1 : decide (h = 1) = false := by simp; omega
            have e2 := eq_false (show ¬ (h : Int) = 2 by omega)
            have d2 : decide (h = 2) = false := by simp; omega
            have e3 := eq_true (show (h : Int) = 3 by omega)
            have d3 : decide (h = 3) = true := by simp; omega
            repeat' first|refine Spl.on (fun _=>?_) (fun _=>?_)|with_reducible refine gd ?_|simp only [go_sem, decide_true, decide_false, Int.reduceEq, Int.cast_ofNat_Int, Bool.false_eq_true, Bool.not_true, Bool.not_false, ej, ei, hgx, hw, hNl, hgN, List.length_map, nums_length, List.length_cons, List.length_nil, e1, e2, e3]
            refine cwp_cut [false, false, false, false, false, false, true, false, false, false, false, false, false, false, false, false, false, false, false, false, false, false, false, false, false, false, false, false, false, false, false, false, false, false, false, false, false, false, false, false, false, false, false, false, false, false, false, false, false, false, false, false, false, false, false, false, false, false, false, false, false, false, false, false, false, false, false, false, false, false, false, false, false, false, false, false, false, false, false, false, false, false, false, false, false, false, false, true, true, true, true, true, false, false, false, false, false, false, false] [6] (fun xs => xs = [.box 50 (stoC (mkS x))]) ?_ ?_
            · repeat' first|refine Spl.on (fun _=>?_) (fun _=>?_)|with_reducible refine gd ?_|simp only [go_sem, decide_true, decide_false, Int.reduceEq, Int.cast_ofNat_Int, Bool.false_eq_true, Bool.not_true, Bool.not_false, ej, ei, hgx, hw, hNl, hgN, List.length_map, nums_length, List.length_cons, List.length_nil, e1, e2, e3]
              refine cut_mk _ rfl ?_
              simp only [stoC, mkS, tpS, hh, d1, d2, show (h = 3) = True from eq_true (by omega), if_true, if_false, List.map_nil, edA, num, str, tru]
              simp only [hvm_t, hvm_f, hvm_nil, puts_cons, puts_nil, List.set_cons_zero, List.set_cons_succ, num]
              repeat first | exact Wk.nil | exact Wk.refl _ | refine Wk.box (W1.box ?_) ?_ | refine wk_agg ?_ ?_ | refine wk_ownsl ?_ | refine wk_nilown ?_ | refine wk_nilmine ?_ | refine wk_nilsl ?_ | refine Wk.same ?_ | refine wk_any ?_
            · rintro xs rfl
              simp only [stoC, num, str, tru]
              simp only [hvm_t, hvm_f, hvm_nil, puts_cons, puts_nil, List.set_cons_zero, List.set_cons_succ, num]
              have hLt : (((l.take i).map mkS).map sto).length = i := by simp; omega
              repeat' first|refine Spl.on (fun _=>?_) (fun _=>?_)|with_reducible refine gd ?_|simp only [go_sem, decide_true, decide_false, Int.reduceEq, Int.cast_ofNat_Int, Bool.false_eq_true, Bool.not_true, Bool.not_false, ej, ei, hgx, hw, hNl, hgN, List.length_map, nums_length, List.length_cons, List.length_nil, e1, e2, e3, hLt, List.length_take]
              refine lend_mk (n - 1) [.box 27 [.mine 50 8 (((l.take (i + 1)).map mkS).map sto), .nil], num ((i + 1 : Nat) : Int)] (by omega) ⟨i + 1, by omega, by omega, by omega, rfl⟩ ?_
              rw [List.take_add_one, hx]
              simp only [Option.toList_some, List.map_append, List.map_cons, List.map_nil, sto, stoC, num, str, tru]
              simp only [hvm_t, hvm_f, hvm_nil, puts_cons, puts_nil, List.set_cons_zero, List.set_cons_succ, num]
              repeat first | exact Wk.nil | exact Wk.refl _ | refine Wk.box (W1.box ?_) ?_ | refine wk_agg ?_ ?_ | refine wk_ownsl ?_ | refine wk_nilown ?_ | refine wk_nilmine ?_ | refine wk_nilsl ?_ | refine Wk.same ?_ | refine wk_any ?_
          have e1 := eq_false (show ¬ (h : Int) = 1 by omega)
          have d1 : decide (h = 1) = false := by simp; omega
          have e2 := eq_false (show ¬ (h : Int) = 2 by omega)
          have d2 : decide (h = 2) = false := by simp; omega
          have e3 := eq_false (show ¬ (h : Int) = 3 by omega)
          have d3 : decide (h = 3) = false := by simp; omega
          repeat' first|refine Spl.on (fun _=>?_) (fun _=>?_)|with_reducible refine gd ?_|simp only [go_sem, decide_true, decide_false, Int.reduceEq, Int.cast_ofNat_Int, Bool.false_eq_true, Bool.not_true, Bool.not_false, ej, ei, hgx, hw, hNl, hgN, List.length_map, nums_length, List.length_cons, List.length_nil, e1, e2, e3]
          refine cwp_cut [false, false, false, false, false, false, true, false, false, false, false, false, false, false, false, false, false, false, false, false, false, false, false, false, false, false, false, false, false, false, false, false, false, false, false, false, false, false, false, false, false, false, false, false, false, false, false, false, false, false, false, false, false, false, false, false, false, false, false, false, false, false, false, false, false, false, false, false, false, false, false, false, false, false, false, false, false, false, false, false, false, false, false, false, false, false, false, true, true, true, true, true, false, false, false, false, false, false, false] [6] (fun xs => xs = [.box 50 (stoC (mkS x))]) ?_ ?_
          · repeat' first|refine Spl.on (fun _=>?_) (fun _=>?_)|with_reducible refine gd ?_|simp only [go_sem, decide_true, decide_false, Int.reduceEq, Int.cast_ofNat_Int, Bool.false_eq_true, Bool.not_true, Bool.not_false, ej, ei, hgx, hw, hNl, hgN, List.length_map, nums_length, List.length_cons, List.length_nil, e1, e2, e3]
            refine cut_mk _ rfl ?_
            simp only [stoC, mkS, tpS, hh, d1, d2, show (h = 3) = False from eq_false (by omega), if_true, if_false, List.map_nil, edA, num, str, tru]
            simp only [hvm_t, hvm_f, hvm_nil, puts_cons, puts_nil, List.set_cons_zero, List.set_cons_succ, num]
            repeat first | exact Wk.nil | exact Wk.refl _ | refine Wk.box (W1.box ?_) ?_ | refine wk_agg ?_ ?_ | refine wk_ownsl ?_ | refine wk_nilown ?_ | refine wk_nilmine ?_ | refine wk_nilsl ?_ | refine Wk.same ?_ | refine wk_any ?_
          · rintro xs rfl
            simp only [stoC, num, str, tru]
            simp only [hvm_t, hvm_f, hvm_nil, puts_cons, puts_nil, List.set_cons_zero, List.set_cons_succ, num]
            have hLt : (((l.take i).map mkS).map sto).length = i := by simp; omega
            repeat' first|refine Spl.on (fun _=>?_) (fun _=>?_)|with_reducible refine gd ?_|simp only [go_sem, decide_true, decide_false, Int.reduceEq, Int.cast_ofNat_Int, Bool.false_eq_true, Bool.not_true, Bool.not_false, ej, ei, hgx, hw, hNl, hgN, List.length_map, nums_length, List.length_cons, List.length_nil, e1, e2, e3, hLt, List.length_take]
            refine lend_mk (n - 1) [.box 27 [.mine 50 8 (((l.take (i + 1)).map mkS).map sto), .nil], num ((i + 1 : Nat) : Int)] (by omega) ⟨i + 1, by omega, by omega, by omega, rfl⟩ ?_
            rw [List.take_add_one, hx]
            simp only [Option.toList_some, List.map_append, List.map_cons, List.map_nil, sto, stoC, num, str, tru]
            simp only [hvm_t, hvm_f, hvm_nil, puts_cons, puts_nil, List.set_cons_zero, List.set_cons_succ, num]
            repeat first | exact Wk.nil | exact Wk.refl _ | refine Wk.box (W1.box ?_) ?_ | refine wk_agg ?_ ?_ | refine wk_ownsl ?_ | refine wk_nilown ?_ | refine wk_nilmine ?_ | refine wk_nilsl ?_ | refine Wk.same ?_ | refine wk_any ?_
    · have htk : l.take i = l.take 25 := by
        rcases Nat.lt_or_ge i 25 with h | h
        · rw [List.take_of_length_le (by omega), List.take_of_length_le (by omega)]
        · rw [show i = 25 by omega]
      rw [htk]
      by_cases hi2 : i < l.length
      · have ej := eq_true (show (i : Int) < (l.length : Int) by omega)
        have ei := eq_false (show ¬ (i : Int) < 25 by omega)
        repeat' first|refine Spl.on (fun _=>?_) (fun _=>?_)|with_reducible refine gd ?_|simp only [go_sem, decide_true, decide_false, Int.reduceEq, Int.cast_ofNat_Int, Bool.false_eq_true, Bool.not_true, Bool.not_false, ej, ei, List.length_map]
      by_cases hi5 : i < 25
      · have ej := eq_false (show ¬ (i : Int) < (l.length : Int) by omega)
        have ei := eq_true (show (i : Int) < 25 by omega)
        repeat' first|refine Spl.on (fun _=>?_) (fun _=>?_)|with_reducible refine gd ?_|simp only [go_sem, decide_true, decide_false, Int.reduceEq, Int.cast_ofNat_Int, Bool.false_eq_true, Bool.not_true, Bool.not_false, ej, ei, List.length_map]
      have ej := eq_false (show ¬ (i : Int) < (l.length : Int) by omega)
      have ei := eq_false (show ¬ (i : Int) < 25 by omega)
      repeat' first|refine Spl.on (fun _=>?_) (fun _=>?_)|with_reducible refine gd ?_|simp only [go_sem, decide_true, decide_false, Int.reduceEq, Int.cast_ofNat_Int, Bool.false_eq_true, Bool.not_true, Bool.not_false, ej, ei, List.length_map]
theorem state13 (l : List It) (hl : l.length ≤ 9223372036854775807) (ho : ∀ x ∈ l, ItOk x) : ACalls Try.prog 13 [.sl 5 (l.map itA)] (fun r => r = .agg [.own 50 8 (((l.take 25).map mkS).map sto), .nil]) := ACalls.freezeA (state13m l hl ho)
end Go.Proofs.Ytgnclmmijijimaa
