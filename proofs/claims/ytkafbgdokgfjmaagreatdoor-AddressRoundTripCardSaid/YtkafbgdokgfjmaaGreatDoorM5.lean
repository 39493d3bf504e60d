/- Valid, Digits, Format, Urgency of the reference. Format, Urgency of the reference. Parse, of the code. -/
import Derived.Test.YtkafbgdokgfjmaaGreatDoorT
import Derived.Test.YtkafbgdokgfjmaaGreatDoorA10
import Derived.Test.YtkafbgdokgfjmaaGreatDoorA11
import Derived.Test.YtkafbgdokgfjmaaGreatDoorM4
namespace Go.Proofs.YtkafbgdokgfjmaaGreatDoor
open Go.RowKit Go.Proofs
set_option linter.unusedSimpArgs false
set_option linter.unusedVariables false
set_option maxRecDepth 100000
set_option maxHeartbeats 4000000

section
variable {T : Tab} {K : AV → Prop}
def uel (o : Option Nat) (T : Tab) : Prop := match o with
  | some e => (match T e with
    | some j => j.td.ik = some .u8
    | none => False)
  | none => False
def uel2 (o : Option TI) : Prop := match o with
  | some j => j.td.ik = some .u8
  | none => False
theorem uel_some (e : Nat) : uel (some e) T = uel2 (T e) := (rfl)
theorem uel2_some (j : TI) : uel2 (some j) = (j.td.ik = some .u8) := (rfl)
theorem aconv2_bytes (s d : TI) (e : Nat) (l : List UInt8) : aconv2 T s d (.own e 1 (bytesA l)) K = (d.td.str = true ∧ uel s.td.elem T ∧ K (.raw (.string ⟨l.toArray⟩))) := by
  refine propext ⟨?_, ?_⟩
  · rintro ⟨h1, h2, l', h3, h4⟩
    rw [bytesA_inj h3]
    exact ⟨h1, h2, h4⟩
  · rintro ⟨h1, h2, h3⟩
    exact ⟨h1, h2, l, rfl, h3⟩
end
theorem bytesA_len (l : List UInt8) : (bytesA l).length = l.length := by simp [bytesA]
attribute [go_sem] uel_some uel2_some aconv2_bytes bytesA_snoc bytesA_len
theorem nameB_int (c : UInt8) : nameB c = nameC (c.toNat : Int) := by
  unfold nameB nameC
  congr 1
  · congr 1 <;> exact decide_eq_decide.2 (by omega)
  · congr 1
    · congr 1 <;> exact decide_eq_decide.2 (by omega)
    · exact decide_eq_decide.2 (by omega)
theorem isName34 (s : Str) (hs : s.length ≤ 1000000000) : ACalls Tryz.prog 34 [str s] (fun r => r = tru (nameL s)) := by
  refine calls_short [] ttok hmix Tryz.func34 (by decide) (by decide +kernel) (by simp only [Tryz.f34, Option.bind_some, comp, isLend, lendOf, lendX, lendC, lendH, Nat.reduceLeDiff, Nat.reduceSub, ne_eq, not_false_eq_true, and_self, cops, cguard, gslot, List.getElem?_toArray, List.getElem?_cons_succ, List.getElem?_cons_zero, vlook, tlook, cutAt_nil, cutAt, firstReg, isCut, mkSeq, Nat.reduceAdd, Nat.reduceEqDiff, reduceIte]; rfl) Tryz.ntmps34 Tryz.results34 ⟨_, rfl⟩ rfl ?_
  simp only [List.length_cons, List.length_nil, Nat.reduceAdd, Nat.reduceSub, List.replicate_succ, List.replicate_zero, List.cons_append, List.nil_append, num, str, tru]
  repeat' first|refine Spl.on (fun _=>?_) (fun _=>?_)|with_reducible refine gd ?_|simp only [go_sem, Int.reduceEq, List.length_nil]
  refine cwp_loop [false, false, false, true, true, true, true, true, true, true, true, true, true, true, true, true, true, true, true, true, true, true, true, true, true, true, true, true, true, true, true, true, true, true, true, false, false, false, false, false, false, false, false] [3] (fun n xs => ∃ j : Nat, j ≤ s.length ∧ j + n = s.length ∧ xs = [num j] ∧ (s.take j).all nameB = true) ⟨s.length, _, ⟨0, by omega, by omega, rfl, rfl⟩, ?_⟩ ?_
  · simp only [hvm_t, hvm_f, hvm_nil, puts_cons, puts_nil, List.set_cons_zero, List.set_cons_succ, num]
    repeat first | exact Wk.nil | refine Wk.same ?_ | refine wk_any ?_
  · rintro n xs ⟨j, hjl, hn, rfl, he⟩
    simp only [hvm_t, hvm_f, hvm_nil, puts_cons, puts_nil, List.set_cons_zero, List.set_cons_succ, num]
    rcases Nat.lt_or_ge j s.length with hlt | hge
    · have ej := eq_true (show (j : Int) < (s.length : Int) by omega)
      have hw : IntKind.i64.wrap ((j : Int) + 1) = ((j + 1 : Nat) : Int) := wrap_succ (by omega)
      have htk : s.take (j + 1) = s.take j ++ [s.getD j 0] := by rw [List.take_add_one]; simp [List.getElem?_eq_getElem hlt]
      have hin : s.getD j 0 ∈ s := by simp [List.getElem?_eq_getElem hlt]
      cases hn : nameB (s.getD j 0)
      · have hf : nameL s = false := by
          cases hh : nameL s with
          | false => rfl
          | true => rw [(nameL_iff.1 hh).2.2 _ hin] at hn; cases hn
        rw [nameB_int] at hn
        obtain ⟨c, hc⟩ : ∃ c, s.getD j 0 = c := ⟨_, rfl⟩
        rw [hc] at hn
        simp only [nameC, Bool.or_eq_false_iff, Bool.and_eq_false_iff, decide_eq_false_iff_not] at hn
        simp only [hf]
        repeat' first|refine Spl.on (fun _=>?_) (fun _=>?_)|with_reducible refine gd ?_|simp only [go_sem, Int.reduceEq, List.length_nil, ej, hw, hc, Int.toNat_natCast]
        all_goals first | rfl | (exfalso; omega)
      · have hn' := hn
        rw [nameB_int] at hn
        obtain ⟨c, hc⟩ : ∃ c, s.getD j 0 = c := ⟨_, rfl⟩
        rw [hc] at hn htk hn'
        simp only [nameC, Bool.or_eq_true, Bool.and_eq_true, decide_eq_true_eq] at hn
        repeat' first|refine Spl.on (fun _=>?_) (fun _=>?_)|with_reducible refine gd ?_|simp only [go_sem, Int.reduceEq, List.length_nil, ej, hw, hc, Int.toNat_natCast]
        all_goals first
          | (refine lend_mk (n - 1) [num ((j + 1 : Nat) : Int)] (by omega) ⟨j + 1, by omega, by omega, rfl, by rw [htk, List.all_append, he]; simp [hn']⟩ ?_
             simp only [hvm_t, hvm_f, hvm_nil, puts_cons, puts_nil, List.set_cons_zero, List.set_cons_succ, num]
             repeat first | exact Wk.nil | refine Wk.same ?_ | refine wk_any ?_)
          | (exfalso; omega)
    · have ej := eq_false (show ¬ (j : Int) < (s.length : Int) by omega)
      rw [List.take_of_length_le hge] at he
      by_cases h1 : 1 ≤ s.length
      · have e1 := eq_true (show (1 : Int) ≤ (s.length : Int) by omega)
        repeat' first|refine Spl.on (fun _=>?_) (fun _=>?_)|with_reducible refine gd ?_|simp only [go_sem, Int.reduceEq, List.length_nil, ej, e1]
        have hf : nameL s = decide (s.length ≤ 20) := by
          unfold nameL
          rw [he, decide_eq_true (show s ≠ [] by rintro rfl; simp at h1)]
          simp
        rw [hf]
        exact congrArg (fun b => AV.raw (Value.bool b)) (decide_eq_decide.2 (by omega))
      · have e1 := eq_false (show ¬ (1 : Int) ≤ (s.length : Int) by omega)
        repeat' first|refine Spl.on (fun _=>?_) (fun _=>?_)|with_reducible refine gd ?_|simp only [go_sem, Int.reduceEq, List.length_nil, ej, e1]
        have hf : nameL s = false := by
          have : s = [] := List.eq_nil_of_length_eq_zero (by omega)
          subst this; rfl
        rw [hf]
        try rfl
theorem wU8 {n : Int} (h1 : 0 ≤ n) (h2 : n < 10) : IntKind.u8.wrap (48 + n) = (((UInt8.ofNat (48 + n.toNat)).toNat : Nat) : Int) := by
  obtain ⟨k, rfl⟩ := Int.eq_ofNat_of_zero_le h1
  have hk : k < 10 := by omega
  have : ∀ k : Fin 10, IntKind.u8.wrap (48 + ((k.1 : Nat) : Int)) = (((UInt8.ofNat (48 + ((k.1 : Nat) : Int).toNat)).toNat : Nat) : Int) := by decide +kernel
  exact this ⟨k, hk⟩
theorem digits31' (n : Int) (h1 : 0 ≤ n) (h2 : n < 10) : ACalls Tryz.prog 31 [num n] (fun r => r = str (dec n)) := by
  have e := eq_true h2
  have hw : IntKind.i64.wrap (48 + n) = 48 + n := wrap_in (by omega) (by omega)
  have hb := wU8 h1 h2
  have hb1 : ∀ b : UInt8, [AV.raw (.int .u8 ((b.toNat : Nat) : Int))] = bytesA [b] := fun _ => rfl
  have hbv : ∀ b : UInt8, List.map view (bytesA [b]) = bytesA [b] := fun _ => rfl
  have hd : dec n = [UInt8.ofNat (48 + n.toNat)] := by rw [dec_eq h1 (by omega), decT, if_pos (by omega)]
  rw [hd]
  refine calls_short [] ttok hmix Tryz.func31 (by decide) (by decide +kernel) (by simp only [Tryz.f31, Option.bind_some, comp, isLend, lendOf, lendX, lendC, lendH, Nat.reduceLeDiff, Nat.reduceSub, ne_eq, not_false_eq_true, and_self, cops, cguard, gslot, List.getElem?_toArray, List.getElem?_cons_succ, List.getElem?_cons_zero, vlook, tlook, cutAt_nil, cutAt, firstReg, isCut, mkSeq, Nat.reduceAdd, Nat.reduceEqDiff, reduceIte]; rfl) Tryz.ntmps31 Tryz.results31 ⟨_, rfl⟩ rfl ?_
  simp only [List.length_cons, List.length_nil, Nat.reduceAdd, Nat.reduceSub, List.replicate_succ, List.replicate_zero, List.cons_append, List.nil_append, num, str, tru]
  repeat' first|refine Spl.on (fun _=>?_) (fun _=>?_)|with_reducible refine gd ?_|simp only [go_sem, Int.reduceEq, List.length_nil, e, hw, hb, hb1, hbv]
  all_goals rfl
theorem digits31 (n : Int) (h1 : 0 ≤ n) (h2 : n < 100) : ACalls Tryz.prog 31 [num n] (fun r => r = str (dec n)) := by
  rcases Int.lt_or_le n 10 with h | h
  · exact digits31' n h1 h
  have e := eq_false (show ¬ n < 10 by omega)
  have hq : IntKind.i64.wrap (n.tdiv 10) = n / 10 := by
    rw [Int.tdiv_eq_ediv_of_nonneg h1, wrap_in (by omega) (by omega)]
  have hr : n.tmod 10 = n % 10 := Int.tmod_eq_emod_of_nonneg h1
  have hd : dec n = dec (n / 10) ++ dec (n % 10) := by
    rw [dec_eq h1 h2, dec_eq (by omega) (by omega), dec_eq (by omega) (by omega)]
    obtain ⟨k, rfl⟩ := Int.eq_ofNat_of_zero_le h1
    have hk : k < 100 := by omega
    have : ∀ k : Fin 100, 10 ≤ k.1 → decT ((k.1 : Nat) : Int).toNat = decT (((k.1 : Nat) : Int) / 10).toNat ++ decT (((k.1 : Nat) : Int) % 10).toNat := by decide +kernel
    exact this ⟨k, hk⟩ (by simp only; omega)
  have hl1 := dec_len (n := n / 10) (by omega) (by omega)
  have hl2 := dec_len (n := n % 10) (by omega) (by omega)
  rw [hd]
  refine calls_short [] ttok hmix Tryz.func31 (by decide) (by decide +kernel) (by simp only [Tryz.f31, Option.bind_some, comp, isLend, lendOf, lendX, lendC, lendH, Nat.reduceLeDiff, Nat.reduceSub, ne_eq, not_false_eq_true, and_self, cops, cguard, gslot, List.getElem?_toArray, List.getElem?_cons_succ, List.getElem?_cons_zero, vlook, tlook, cutAt_nil, cutAt, firstReg, isCut, mkSeq, Nat.reduceAdd, Nat.reduceEqDiff, reduceIte]; rfl) Tryz.ntmps31 Tryz.results31 ⟨_, rfl⟩ rfl ?_
  simp only [List.length_cons, List.length_nil, Nat.reduceAdd, Nat.reduceSub, List.replicate_succ, List.replicate_zero, List.cons_append, List.nil_append, num, str, tru]
  repeat' first|refine Spl.on (fun _=>?_) (fun _=>?_)|with_reducible refine gd ?_|simp only [go_sem, Int.reduceEq, List.length_nil, e, hq, hr]
  refine ((digits31' (n / 10) (by omega) (by omega)).wk ?_).mono ?_
  · try simp only [num, str]
    repeat first | exact Wk.nil | exact Wk.refl _ | refine wk_agg ?_ ?_ | refine wk_ownsl ?_ | refine wk_nilsl ?_ | refine Wk.same ?_
  rintro r rfl
  try simp only [tru, num, str]
  repeat' first|refine Spl.on (fun _=>?_) (fun _=>?_)|with_reducible refine gd ?_|simp only [go_sem, Int.reduceEq, List.length_nil, e, hq, hr]
  refine ((digits31' (n % 10) (by omega) (by omega)).wk ?_).mono ?_
  · try simp only [num, str]
    repeat first | exact Wk.nil | exact Wk.refl _ | refine wk_agg ?_ ?_ | refine wk_ownsl ?_ | refine wk_nilsl ?_ | refine Wk.same ?_
  rintro r rfl
  try simp only [tru, num, str]
  repeat' first|refine Spl.on (fun _=>?_) (fun _=>?_)|with_reducible refine gd ?_|simp only [go_sem, Int.reduceEq, List.length_nil, e, hq, hr]
  all_goals first | omega | (simp [str]; done)
theorem rvalid17 (a : Adr) (ha : a.name.length ≤ 1000000000) (hb : a.lang.length ≤ 1000000000) : ACalls Tryz.prog 17 [adrA a] (fun r => r = tru (validL a)) := by
  simp only [adrA]
  refine calls_short [] ttok hmix Tryz.func17 (by decide) (by decide +kernel) (by simp only [Tryz.f17, Option.bind_some, comp, isLend, lendOf, lendX, lendC, lendH, Nat.reduceLeDiff, Nat.reduceSub, ne_eq, not_false_eq_true, and_self, cops, cguard, gslot, List.getElem?_toArray, List.getElem?_cons_succ, List.getElem?_cons_zero, vlook, tlook, cutAt_nil, cutAt, firstReg, isCut, mkSeq, Nat.reduceAdd, Nat.reduceEqDiff, reduceIte]; rfl) Tryz.ntmps17 Tryz.results17 ⟨_, rfl⟩ rfl ?_
  simp only [List.length_cons, List.length_nil, Nat.reduceAdd, Nat.reduceSub, List.replicate_succ, List.replicate_zero, List.cons_append, List.nil_append, num, str, tru]
  by_cases hk2 : a.kind = 2
  · have e2 := eq_true (show a.kind = 2 by omega)
    have e3 := eq_false (show ¬ a.kind = 3 by omega)
    have e4 := eq_false (show ¬ a.kind = 4 by omega)
    have e5 := eq_false (show ¬ a.kind = 5 by omega)
    have e1 := eq_false (show ¬ a.kind = 1 by omega)
    have e6 := eq_false (show ¬ a.kind = 6 by omega)
    repeat' first|refine Spl.on (fun _=>?_) (fun _=>?_)|with_reducible refine gd ?_|simp only [go_sem, Int.reduceEq, List.length_nil, e2, e3, e4, e5, e1, e6]
    refine ((isName34 a.name ha).wk ?_).mono ?_
    · try simp only [num, str]
      repeat first | exact Wk.nil | exact Wk.refl _ | refine wk_agg ?_ ?_ | refine wk_ownsl ?_ | refine wk_nilsl ?_ | refine Wk.same ?_
    rintro r rfl
    try simp only [tru, num, str]
    repeat' first|refine Spl.on (fun _=>?_) (fun _=>?_)|with_reducible refine gd ?_|simp only [go_sem, Int.reduceEq, List.length_nil, e2, e3, e4, e5, e1, e6]
    refine ((isName34 a.lang hb).wk ?_).mono ?_
    · try simp only [num, str]
      repeat first | exact Wk.nil | exact Wk.refl _ | refine wk_agg ?_ ?_ | refine wk_ownsl ?_ | refine wk_nilsl ?_ | refine Wk.same ?_
    rintro r rfl
    try simp only [tru, num, str]
    repeat' first|refine Spl.on (fun _=>?_) (fun _=>?_)|with_reducible refine gd ?_|simp only [go_sem, Int.reduceEq, List.length_nil, e2, e3, e4, e5, e1, e6]
    all_goals first | rfl | (simp [validL, numB, tru, ie, *]; done) | (simp_all [validL, numB, tru, ie]; done) | (simp_all [validL, numB, tru, ie]; omega)
  · by_cases hk3 : a.kind = 3
    · have e2 := eq_false (show ¬ a.kind = 2 by omega)
      have e3 := eq_true (show a.kind = 3 by omega)
      have e4 := eq_false (show ¬ a.kind = 4 by omega)
      have e5 := eq_false (show ¬ a.kind = 5 by omega)
      have e1 := eq_false (show ¬ a.kind = 1 by omega)
      have e6 := eq_false (show ¬ a.kind = 6 by omega)
      repeat' first|refine Spl.on (fun _=>?_) (fun _=>?_)|with_reducible refine gd ?_|simp only [go_sem, Int.reduceEq, List.length_nil, e2, e3, e4, e5, e1, e6]
      refine ((isName34 a.name ha).wk ?_).mono ?_
      · try simp only [num, str]
        repeat first | exact Wk.nil | exact Wk.refl _ | refine wk_agg ?_ ?_ | refine wk_ownsl ?_ | refine wk_nilsl ?_ | refine Wk.same ?_
      rintro r rfl
      try simp only [tru, num, str]
      repeat' first|refine Spl.on (fun _=>?_) (fun _=>?_)|with_reducible refine gd ?_|simp only [go_sem, Int.reduceEq, List.length_nil, e2, e3, e4, e5, e1, e6]
      refine ((isName34 a.lang hb).wk ?_).mono ?_
      · try simp only [num, str]
        repeat first | exact Wk.nil | exact Wk.refl _ | refine wk_agg ?_ ?_ | refine wk_ownsl ?_ | refine wk_nilsl ?_ | refine Wk.same ?_
      rintro r rfl
      try simp only [tru, num, str]
      repeat' first|refine Spl.on (fun _=>?_) (fun _=>?_)|with_reducible refine gd ?_|simp only [go_sem, Int.reduceEq, List.length_nil, e2, e3, e4, e5, e1, e6]
      all_goals first | rfl | (simp [validL, numB, tru, ie, *]; done) | (simp_all [validL, numB, tru, ie]; done) | (simp_all [validL, numB, tru, ie]; omega)
    · by_cases hk4 : a.kind = 4
      · have e2 := eq_false (show ¬ a.kind = 2 by omega)
        have e3 := eq_false (show ¬ a.kind = 3 by omega)
        have e4 := eq_true (show a.kind = 4 by omega)
        have e5 := eq_false (show ¬ a.kind = 5 by omega)
        have e1 := eq_false (show ¬ a.kind = 1 by omega)
        have e6 := eq_false (show ¬ a.kind = 6 by omega)
        repeat' first|refine Spl.on (fun _=>?_) (fun _=>?_)|with_reducible refine gd ?_|simp only [go_sem, Int.reduceEq, List.length_nil, e2, e3, e4, e5, e1, e6]
        refine ((isName34 a.name ha).wk ?_).mono ?_
        · try simp only [num, str]
          repeat first | exact Wk.nil | exact Wk.refl _ | refine wk_agg ?_ ?_ | refine wk_ownsl ?_ | refine wk_nilsl ?_ | refine Wk.same ?_
        rintro r rfl
        try simp only [tru, num, str]
        repeat' first|refine Spl.on (fun _=>?_) (fun _=>?_)|with_reducible refine gd ?_|simp only [go_sem, Int.reduceEq, List.length_nil, e2, e3, e4, e5, e1, e6]
        refine ((isName34 a.lang hb).wk ?_).mono ?_
        · try simp only [num, str]
          repeat first | exact Wk.nil | exact Wk.refl _ | refine wk_agg ?_ ?_ | refine wk_ownsl ?_ | refine wk_nilsl ?_ | refine Wk.same ?_
        rintro r rfl
        try simp only [tru, num, str]
        repeat' first|refine Spl.on (fun _=>?_) (fun _=>?_)|with_reducible refine gd ?_|simp only [go_sem, Int.reduceEq, List.length_nil, e2, e3, e4, e5, e1, e6]
        all_goals first | rfl | (simp [validL, numB, tru, ie, *]; done) | (simp_all [validL, numB, tru, ie]; done) | (simp_all [validL, numB, tru, ie]; omega)
      · by_cases hk5 : a.kind = 5
        · have e2 := eq_false (show ¬ a.kind = 2 by omega)
          have e3 := eq_false (show ¬ a.kind = 3 by omega)
          have e4 := eq_false (show ¬ a.kind = 4 by omega)
          have e5 := eq_true (show a.kind = 5 by omega)
          have e1 := eq_false (show ¬ a.kind = 1 by omega)
          have e6 := eq_false (show ¬ a.kind = 6 by omega)
          repeat' first|refine Spl.on (fun _=>?_) (fun _=>?_)|with_reducible refine gd ?_|simp only [go_sem, Int.reduceEq, List.length_nil, e2, e3, e4, e5, e1, e6]
          refine ((isName34 a.name ha).wk ?_).mono ?_
          · try simp only [num, str]
            repeat first | exact Wk.nil | exact Wk.refl _ | refine wk_agg ?_ ?_ | refine wk_ownsl ?_ | refine wk_nilsl ?_ | refine Wk.same ?_
          rintro r rfl
          try simp only [tru, num, str]
          repeat' first|refine Spl.on (fun _=>?_) (fun _=>?_)|with_reducible refine gd ?_|simp only [go_sem, Int.reduceEq, List.length_nil, e2, e3, e4, e5, e1, e6]
          refine ((isName34 a.lang hb).wk ?_).mono ?_
          · try simp only [num, str]
            repeat first | exact Wk.nil | exact Wk.refl _ | refine wk_agg ?_ ?_ | refine wk_ownsl ?_ | refine wk_nilsl ?_ | refine Wk.same ?_
          rintro r rfl
          try simp only [tru, num, str]
          repeat' first|refine Spl.on (fun _=>?_) (fun _=>?_)|with_reducible refine gd ?_|simp only [go_sem, Int.reduceEq, List.length_nil, e2, e3, e4, e5, e1, e6]
          all_goals first | rfl | (simp [validL, numB, tru, ie, *]; done) | (simp_all [validL, numB, tru, ie]; done) | (simp_all [validL, numB, tru, ie]; omega)
        · by_cases hk1 : a.kind = 1
          · have e2 := eq_false (show ¬ a.kind = 2 by omega)
            have e3 := eq_false (show ¬ a.kind = 3 by omega)
            have e4 := eq_false (show ¬ a.kind = 4 by omega)
            have e5 := eq_false (show ¬ a.kind = 5 by omega)
            have e1 := eq_true (show a.kind = 1 by omega)
            have e6 := eq_false (show ¬ a.kind = 6 by omega)
            repeat' first|refine Spl.on (fun _=>?_) (fun _=>?_)|with_reducible refine gd ?_|simp only [go_sem, Int.reduceEq, List.length_nil, e2, e3, e4, e5, e1, e6]
            refine ((isName34 a.name ha).wk ?_).mono ?_
            · try simp only [num, str]
              repeat first | exact Wk.nil | exact Wk.refl _ | refine wk_agg ?_ ?_ | refine wk_ownsl ?_ | refine wk_nilsl ?_ | refine Wk.same ?_
            rintro r rfl
            try simp only [tru, num, str]
            repeat' first|refine Spl.on (fun _=>?_) (fun _=>?_)|with_reducible refine gd ?_|simp only [go_sem, Int.reduceEq, List.length_nil, e2, e3, e4, e5, e1, e6]
            refine ((isName34 a.lang hb).wk ?_).mono ?_
            · try simp only [num, str]
              repeat first | exact Wk.nil | exact Wk.refl _ | refine wk_agg ?_ ?_ | refine wk_ownsl ?_ | refine wk_nilsl ?_ | refine Wk.same ?_
            rintro r rfl
            try simp only [tru, num, str]
            repeat' first|refine Spl.on (fun _=>?_) (fun _=>?_)|with_reducible refine gd ?_|simp only [go_sem, Int.reduceEq, List.length_nil, e2, e3, e4, e5, e1, e6]
            all_goals first | rfl | (simp [validL, numB, tru, ie, *]; done) | (simp_all [validL, numB, tru, ie]; done) | (simp_all [validL, numB, tru, ie]; omega)
          · by_cases hk6 : a.kind = 6
            · have e2 := eq_false (show ¬ a.kind = 2 by omega)
              have e3 := eq_false (show ¬ a.kind = 3 by omega)
              have e4 := eq_false (show ¬ a.kind = 4 by omega)
              have e5 := eq_false (show ¬ a.kind = 5 by omega)
              have e1 := eq_false (show ¬ a.kind = 1 by omega)
              have e6 := eq_true (show a.kind = 6 by omega)
              repeat' first|refine Spl.on (fun _=>?_) (fun _=>?_)|with_reducible refine gd ?_|simp only [go_sem, Int.reduceEq, List.length_nil, e2, e3, e4, e5, e1, e6]
              refine ((isName34 a.name ha).wk ?_).mono ?_
              · try simp only [num, str]
                repeat first | exact Wk.nil | exact Wk.refl _ | refine wk_agg ?_ ?_ | refine wk_ownsl ?_ | refine wk_nilsl ?_ | refine Wk.same ?_
              rintro r rfl
              try simp only [tru, num, str]
              repeat' first|refine Spl.on (fun _=>?_) (fun _=>?_)|with_reducible refine gd ?_|simp only [go_sem, Int.reduceEq, List.length_nil, e2, e3, e4, e5, e1, e6]
              refine ((isName34 a.lang hb).wk ?_).mono ?_
              · try simp only [num, str]
                repeat first | exact Wk.nil | exact Wk.refl _ | refine wk_agg ?_ ?_ | refine wk_ownsl ?_ | refine wk_nilsl ?_ | refine Wk.same ?_
              rintro r rfl
              try simp only [tru, num, str]
              repeat' first|refine Spl.on (fun _=>?_) (fun _=>?_)|with_reducible refine gd ?_|simp only [go_sem, Int.reduceEq, List.length_nil, e2, e3, e4, e5, e1, e6]
              all_goals first | rfl | (simp [validL, numB, tru, ie, *]; done) | (simp_all [validL, numB, tru, ie]; done) | (simp_all [validL, numB, tru, ie]; omega)
            · have e2 := eq_false (show ¬ a.kind = 2 by omega)
              have e3 := eq_false (show ¬ a.kind = 3 by omega)
              have e4 := eq_false (show ¬ a.kind = 4 by omega)
              have e5 := eq_false (show ¬ a.kind = 5 by omega)
              have e1 := eq_false (show ¬ a.kind = 1 by omega)
              have e6 := eq_false (show ¬ a.kind = 6 by omega)
              repeat' first|refine Spl.on (fun _=>?_) (fun _=>?_)|with_reducible refine gd ?_|simp only [go_sem, Int.reduceEq, List.length_nil, e2, e3, e4, e5, e1, e6]
              refine ((isName34 a.name ha).wk ?_).mono ?_
              · try simp only [num, str]
                repeat first | exact Wk.nil | exact Wk.refl _ | refine wk_agg ?_ ?_ | refine wk_ownsl ?_ | refine wk_nilsl ?_ | refine Wk.same ?_
              rintro r rfl
              try simp only [tru, num, str]
              repeat' first|refine Spl.on (fun _=>?_) (fun _=>?_)|with_reducible refine gd ?_|simp only [go_sem, Int.reduceEq, List.length_nil, e2, e3, e4, e5, e1, e6]
              refine ((isName34 a.lang hb).wk ?_).mono ?_
              · try simp only [num, str]
                repeat first | exact Wk.nil | exact Wk.refl _ | refine wk_agg ?_ ?_ | refine wk_ownsl ?_ | refine wk_nilsl ?_ | refine Wk.same ?_
              rintro r rfl
              try simp only [tru, num, str]
              repeat' first|refine Spl.on (fun _=>?_) (fun _=>?_)|with_reducible refine gd ?_|simp only [go_sem, Int.reduceEq, List.length_nil, e2, e3, e4, e5, e1, e6]
              all_goals first | rfl | (simp [validL, numB, tru, ie, *]; done) | (simp_all [validL, numB, tru, ie]; done) | (simp_all [validL, numB, tru, ie]; omega)
end Go.Proofs.YtkafbgdokgfjmaaGreatDoor
namespace Go.Proofs.YtkafbgdokgfjmaaGreatDoor
open Go.RowKit Go.Proofs
set_option linter.unusedSimpArgs false
set_option linter.unusedVariables false
set_option maxRecDepth 100000
set_option maxHeartbeats 4000000

theorem rformat15 (a : Adr) (ha : a.name.length ≤ 1000000000) (hb : a.lang.length ≤ 1000000000) : ACalls Tryz.prog 15 [adrA a] (fun r => r = fmtA a) := by
  simp only [adrA]
  refine calls_short [] ttok hmix Tryz.func15 (by decide) (by decide +kernel) (by simp only [Tryz.f15, Option.bind_some, comp, isLend, lendOf, lendX, lendC, lendH, Nat.reduceLeDiff, Nat.reduceSub, ne_eq, not_false_eq_true, and_self, cops, cguard, gslot, List.getElem?_toArray, List.getElem?_cons_succ, List.getElem?_cons_zero, vlook, tlook, cutAt_nil, cutAt, firstReg, isCut, mkSeq, Nat.reduceAdd, Nat.reduceEqDiff, reduceIte]; rfl) Tryz.ntmps15 Tryz.results15 ⟨_, rfl⟩ rfl ?_
  simp only [List.length_cons, List.length_nil, Nat.reduceAdd, Nat.reduceSub, List.replicate_succ, List.replicate_zero, List.cons_append, List.nil_append, num, str, tru]
  simp (decide := true) only [mkd_eq [1] [2000001, 1500001] [] [[1], [1], [], [], [], [1], [1], [], [], []], List.zip_cons_cons, List.zip_nil_left, List.zip_nil_right]
  simp (decide := true) only [mkd_eq [1] [2900001, 2500001] [] [[1], [1], [], [], [1], [1], [], [], [], []], List.zip_cons_cons, List.zip_nil_left, List.zip_nil_right]
  cases hv : validL a
  · repeat' first|refine Spl.on (fun _=>?_) (fun _=>?_)|with_reducible refine gd ?_|simp only [go_sem, Int.reduceEq, List.length_nil]
    refine ((rvalid17 a ha hb).wk ?_).mono ?_
    · try simp only [num, str]
      repeat first | exact Wk.nil | exact Wk.refl _ | refine wk_agg ?_ ?_ | refine wk_ownsl ?_ | refine wk_nilsl ?_ | refine Wk.same ?_
    rintro r rfl
    try simp only [tru, num, str]
    repeat' first|refine Spl.on (fun _=>?_) (fun _=>?_)|with_reducible refine gd ?_|simp only [go_sem, Int.reduceEq, List.length_nil, hv]
    all_goals first | rfl | (simp [fmtA, hv, str, num]; done)
  · have hk := valid_k hv
    have hn := valid_n hv
    have hdl := dec_len hn.1 (show a.n < 100 by omega)
    by_cases hk2 : a.kind = 2
    · have e2 := eq_true (show a.kind = 2 by omega)
      have e3 := eq_false (show ¬ a.kind = 3 by omega)
      have e4 := eq_false (show ¬ a.kind = 4 by omega)
      have e5 := eq_false (show ¬ a.kind = 5 by omega)
      have e1 := eq_false (show ¬ a.kind = 1 by omega)
      have e6 := eq_false (show ¬ a.kind = 6 by omega)
      repeat' first|refine Spl.on (fun _=>?_) (fun _=>?_)|with_reducible refine gd ?_|simp only [go_sem, Int.reduceEq, List.length_nil, e2, e3, e4, e5, e1, e6, hv]
      refine ((rvalid17 a ha hb).wk ?_).mono ?_
      · try simp only [num, str]
        repeat first | exact Wk.nil | exact Wk.refl _ | refine wk_agg ?_ ?_ | refine wk_ownsl ?_ | refine wk_nilsl ?_ | refine Wk.same ?_
      rintro r rfl
      try simp only [tru, num, str]
      repeat' first|refine Spl.on (fun _=>?_) (fun _=>?_)|with_reducible refine gd ?_|simp only [go_sem, Int.reduceEq, List.length_nil, e2, e3, e4, e5, e1, e6, hv]
      refine ((digits31 a.n hn.1 (by omega)).wk ?_).mono ?_
      · try simp only [num, str]
        repeat first | exact Wk.nil | exact Wk.refl _ | refine wk_agg ?_ ?_ | refine wk_ownsl ?_ | refine wk_nilsl ?_ | refine Wk.same ?_
      rintro r rfl
      try simp only [tru, num, str]
      repeat' first|refine Spl.on (fun _=>?_) (fun _=>?_)|with_reducible refine gd ?_|simp only [go_sem, Int.reduceEq, List.length_nil, e2, e3, e4, e5, e1, e6, hv]
      all_goals first | omega | rfl | (simp [fmtA, fmtL, partsL, join_two, Lib.join_one, Lib.join, wStory, wTopic, wBy, wFeed, wMap, str, num, *]; done) | (refine ⟨by simp only [List.length_append, List.length_cons, List.length_nil]; omega, ?_⟩; simp [fmtA, fmtL, partsL, join_two, Lib.join_one, Lib.join, wStory, wTopic, wBy, wFeed, wMap, str, num, *]; done)
    · by_cases hk3 : a.kind = 3
      · have e2 := eq_false (show ¬ a.kind = 2 by omega)
        have e3 := eq_true (show a.kind = 3 by omega)
        have e4 := eq_false (show ¬ a.kind = 4 by omega)
        have e5 := eq_false (show ¬ a.kind = 5 by omega)
        have e1 := eq_false (show ¬ a.kind = 1 by omega)
        have e6 := eq_false (show ¬ a.kind = 6 by omega)
        repeat' first|refine Spl.on (fun _=>?_) (fun _=>?_)|with_reducible refine gd ?_|simp only [go_sem, Int.reduceEq, List.length_nil, e2, e3, e4, e5, e1, e6, hv]
        refine ((rvalid17 a ha hb).wk ?_).mono ?_
        · try simp only [num, str]
          repeat first | exact Wk.nil | exact Wk.refl _ | refine wk_agg ?_ ?_ | refine wk_ownsl ?_ | refine wk_nilsl ?_ | refine Wk.same ?_
        rintro r rfl
        try simp only [tru, num, str]
        repeat' first|refine Spl.on (fun _=>?_) (fun _=>?_)|with_reducible refine gd ?_|simp only [go_sem, Int.reduceEq, List.length_nil, e2, e3, e4, e5, e1, e6, hv]
        refine ((digits31 a.n hn.1 (by omega)).wk ?_).mono ?_
        · try simp only [num, str]
          repeat first | exact Wk.nil | exact Wk.refl _ | refine wk_agg ?_ ?_ | refine wk_ownsl ?_ | refine wk_nilsl ?_ | refine Wk.same ?_
        rintro r rfl
        try simp only [tru, num, str]
        repeat' first|refine Spl.on (fun _=>?_) (fun _=>?_)|with_reducible refine gd ?_|simp only [go_sem, Int.reduceEq, List.length_nil, e2, e3, e4, e5, e1, e6, hv]
        all_goals first | omega | rfl | (simp [fmtA, fmtL, partsL, join_two, Lib.join_one, Lib.join, wStory, wTopic, wBy, wFeed, wMap, str, num, *]; done) | (refine ⟨by simp only [List.length_append, List.length_cons, List.length_nil]; omega, ?_⟩; simp [fmtA, fmtL, partsL, join_two, Lib.join_one, Lib.join, wStory, wTopic, wBy, wFeed, wMap, str, num, *]; done)
      · by_cases hk4 : a.kind = 4
        · have e2 := eq_false (show ¬ a.kind = 2 by omega)
          have e3 := eq_false (show ¬ a.kind = 3 by omega)
          have e4 := eq_true (show a.kind = 4 by omega)
          have e5 := eq_false (show ¬ a.kind = 5 by omega)
          have e1 := eq_false (show ¬ a.kind = 1 by omega)
          have e6 := eq_false (show ¬ a.kind = 6 by omega)
          repeat' first|refine Spl.on (fun _=>?_) (fun _=>?_)|with_reducible refine gd ?_|simp only [go_sem, Int.reduceEq, List.length_nil, e2, e3, e4, e5, e1, e6, hv]
          refine ((rvalid17 a ha hb).wk ?_).mono ?_
          · try simp only [num, str]
            repeat first | exact Wk.nil | exact Wk.refl _ | refine wk_agg ?_ ?_ | refine wk_ownsl ?_ | refine wk_nilsl ?_ | refine Wk.same ?_
          rintro r rfl
          try simp only [tru, num, str]
          repeat' first|refine Spl.on (fun _=>?_) (fun _=>?_)|with_reducible refine gd ?_|simp only [go_sem, Int.reduceEq, List.length_nil, e2, e3, e4, e5, e1, e6, hv]
          all_goals first | omega | rfl | (simp [fmtA, fmtL, partsL, join_two, Lib.join_one, Lib.join, wStory, wTopic, wBy, wFeed, wMap, str, num, *]; done) | (refine ⟨by simp only [List.length_append, List.length_cons, List.length_nil]; omega, ?_⟩; simp [fmtA, fmtL, partsL, join_two, Lib.join_one, Lib.join, wStory, wTopic, wBy, wFeed, wMap, str, num, *]; done)
        · by_cases hk5 : a.kind = 5
          · have e2 := eq_false (show ¬ a.kind = 2 by omega)
            have e3 := eq_false (show ¬ a.kind = 3 by omega)
            have e4 := eq_false (show ¬ a.kind = 4 by omega)
            have e5 := eq_true (show a.kind = 5 by omega)
            have e1 := eq_false (show ¬ a.kind = 1 by omega)
            have e6 := eq_false (show ¬ a.kind = 6 by omega)
            repeat' first|refine Spl.on (fun _=>?_) (fun _=>?_)|with_reducible refine gd ?_|simp only [go_sem, Int.reduceEq, List.length_nil, e2, e3, e4, e5, e1, e6, hv]
            refine ((rvalid17 a ha hb).wk ?_).mono ?_
            · try simp only [num, str]
              repeat first | exact Wk.nil | exact Wk.refl _ | refine wk_agg ?_ ?_ | refine wk_ownsl ?_ | refine wk_nilsl ?_ | refine Wk.same ?_
            rintro r rfl
            try simp only [tru, num, str]
            repeat' first|refine Spl.on (fun _=>?_) (fun _=>?_)|with_reducible refine gd ?_|simp only [go_sem, Int.reduceEq, List.length_nil, e2, e3, e4, e5, e1, e6, hv]
            all_goals first | omega | rfl | (simp [fmtA, fmtL, partsL, join_two, Lib.join_one, Lib.join, wStory, wTopic, wBy, wFeed, wMap, str, num, *]; done) | (refine ⟨by simp only [List.length_append, List.length_cons, List.length_nil]; omega, ?_⟩; simp [fmtA, fmtL, partsL, join_two, Lib.join_one, Lib.join, wStory, wTopic, wBy, wFeed, wMap, str, num, *]; done)
          · by_cases hk1 : a.kind = 1
            · have e2 := eq_false (show ¬ a.kind = 2 by omega)
              have e3 := eq_false (show ¬ a.kind = 3 by omega)
              have e4 := eq_false (show ¬ a.kind = 4 by omega)
              have e5 := eq_false (show ¬ a.kind = 5 by omega)
              have e1 := eq_true (show a.kind = 1 by omega)
              have e6 := eq_false (show ¬ a.kind = 6 by omega)
              repeat' first|refine Spl.on (fun _=>?_) (fun _=>?_)|with_reducible refine gd ?_|simp only [go_sem, Int.reduceEq, List.length_nil, e2, e3, e4, e5, e1, e6, hv]
              refine ((rvalid17 a ha hb).wk ?_).mono ?_
              · try simp only [num, str]
                repeat first | exact Wk.nil | exact Wk.refl _ | refine wk_agg ?_ ?_ | refine wk_ownsl ?_ | refine wk_nilsl ?_ | refine Wk.same ?_
              rintro r rfl
              try simp only [tru, num, str]
              repeat' first|refine Spl.on (fun _=>?_) (fun _=>?_)|with_reducible refine gd ?_|simp only [go_sem, Int.reduceEq, List.length_nil, e2, e3, e4, e5, e1, e6, hv]
              all_goals first | omega | rfl | (simp [fmtA, fmtL, partsL, join_two, Lib.join_one, Lib.join, wStory, wTopic, wBy, wFeed, wMap, str, num, *]; done) | (refine ⟨by simp only [List.length_append, List.length_cons, List.length_nil]; omega, ?_⟩; simp [fmtA, fmtL, partsL, join_two, Lib.join_one, Lib.join, wStory, wTopic, wBy, wFeed, wMap, str, num, *]; done)
            · by_cases hk6 : a.kind = 6
              · have e2 := eq_false (show ¬ a.kind = 2 by omega)
                have e3 := eq_false (show ¬ a.kind = 3 by omega)
                have e4 := eq_false (show ¬ a.kind = 4 by omega)
                have e5 := eq_false (show ¬ a.kind = 5 by omega)
                have e1 := eq_false (show ¬ a.kind = 1 by omega)
                have e6 := eq_true (show a.kind = 6 by omega)
                repeat' first|refine Spl.on (fun _=>?_) (fun _=>?_)|with_reducible refine gd ?_|simp only [go_sem, Int.reduceEq, List.length_nil, e2, e3, e4, e5, e1, e6, hv]
                refine ((rvalid17 a ha hb).wk ?_).mono ?_
                · try simp only [num, str]
                  repeat first | exact Wk.nil | exact Wk.refl _ | refine wk_agg ?_ ?_ | refine wk_ownsl ?_ | refine wk_nilsl ?_ | refine Wk.same ?_
                rintro r rfl
                try simp only [tru, num, str]
                repeat' first|refine Spl.on (fun _=>?_) (fun _=>?_)|with_reducible refine gd ?_|simp only [go_sem, Int.reduceEq, List.length_nil, e2, e3, e4, e5, e1, e6, hv]
                all_goals first | omega | rfl | (simp [fmtA, fmtL, partsL, join_two, Lib.join_one, Lib.join, wStory, wTopic, wBy, wFeed, wMap, str, num, *]; done) | (refine ⟨by simp only [List.length_append, List.length_cons, List.length_nil]; omega, ?_⟩; simp [fmtA, fmtL, partsL, join_two, Lib.join_one, Lib.join, wStory, wTopic, wBy, wFeed, wMap, str, num, *]; done)
              · have e2 := eq_false (show ¬ a.kind = 2 by omega)
                have e3 := eq_false (show ¬ a.kind = 3 by omega)
                have e4 := eq_false (show ¬ a.kind = 4 by omega)
                have e5 := eq_false (show ¬ a.kind = 5 by omega)
                have e1 := eq_false (show ¬ a.kind = 1 by omega)
                have e6 := eq_false (show ¬ a.kind = 6 by omega)
                exact absurd hk (by omega)
theorem rurgency19 (a : Adr) (ha : a.name.length ≤ 1000000000) (hb : a.lang.length ≤ 1000000000) : ACalls Tryz.prog 19 [adrA a] (fun r => r = num (if validL a = true then urgL a else -1)) := by
  simp only [adrA]
  refine calls_short [] ttok hmix Tryz.func19 (by decide) (by decide +kernel) (by simp only [Tryz.f19, Option.bind_some, comp, isLend, lendOf, lendX, lendC, lendH, Nat.reduceLeDiff, Nat.reduceSub, ne_eq, not_false_eq_true, and_self, cops, cguard, gslot, List.getElem?_toArray, List.getElem?_cons_succ, List.getElem?_cons_zero, vlook, tlook, cutAt_nil, cutAt, firstReg, isCut, mkSeq, Nat.reduceAdd, Nat.reduceEqDiff, reduceIte]; rfl) Tryz.ntmps19 Tryz.results19 ⟨_, rfl⟩ rfl ?_
  simp only [List.length_cons, List.length_nil, Nat.reduceAdd, Nat.reduceSub, List.replicate_succ, List.replicate_zero, List.cons_append, List.nil_append, num, str, tru]
  simp (decide := true) only [mkd_eq [1] [2100001] [] [[17], [], [17], [], [1], [1], []], List.zip_cons_cons, List.zip_nil_left, List.zip_nil_right]
  cases hv : validL a
  · repeat' first|refine Spl.on (fun _=>?_) (fun _=>?_)|with_reducible refine gd ?_|simp only [go_sem, Int.reduceEq, List.length_nil]
    refine ((rvalid17 a ha hb).wk ?_).mono ?_
    · try simp only [num, str]
      repeat first | exact Wk.nil | exact Wk.refl _ | refine wk_agg ?_ ?_ | refine wk_ownsl ?_ | refine wk_nilsl ?_ | refine Wk.same ?_
    rintro r rfl
    try simp only [tru, num, str]
    repeat' first|refine Spl.on (fun _=>?_) (fun _=>?_)|with_reducible refine gd ?_|simp only [go_sem, Int.reduceEq, List.length_nil, hv]
    all_goals first | rfl | (simp [num]; done)
  · have hk := valid_k hv
    repeat' first|refine Spl.on (fun _=>?_) (fun _=>?_)|with_reducible refine gd ?_|simp only [go_sem, Int.reduceEq, List.length_nil]
    refine ((rvalid17 a ha hb).wk ?_).mono ?_
    · try simp only [num, str]
      repeat first | exact Wk.nil | exact Wk.refl _ | refine wk_agg ?_ ?_ | refine wk_ownsl ?_ | refine wk_nilsl ?_ | refine Wk.same ?_
    rintro r rfl
    try simp only [tru, num, str]
    repeat' first|refine Spl.on (fun _=>?_) (fun _=>?_)|with_reducible refine gd ?_|simp only [go_sem, Int.reduceEq, List.length_nil, hv]
    refine cwp_loop [false, false, true, false, true, true, false, false, false, false, false, true, true, true, true, true, true, true, true, true, true, true, true, true, true] [4, 5] (fun n xs => ∃ j : Nat, j ≤ 6 ∧ j + n = 6 ∧ xs = [.sl 1 [num 2, num 1, num 5, num 3, num 4, num 6], num j] ∧ ∀ q, q < j → [2, 1, 5, 3, 4, 6].getD q 0 ≠ a.kind) ⟨6, _, ⟨0, by omega, by omega, rfl, fun q hq => absurd hq (by omega)⟩, ?_⟩ ?_
    · simp only [hvm_t, hvm_f, hvm_nil, puts_cons, puts_nil, List.set_cons_zero, List.set_cons_succ, num]
      repeat first | exact Wk.nil | refine wk_ownsl ?_ | refine Wk.same ?_ | refine wk_any ?_
    · rintro n xs ⟨j, hj, hn, rfl, hno⟩
      simp only [hvm_t, hvm_f, hvm_nil, puts_cons, puts_nil, List.set_cons_zero, List.set_cons_succ, num]
      have hwj : IntKind.i64.wrap ((j : Int) + 1) = ((j + 1 : Nat) : Int) := wrap_succ (by omega)
      rcases (show j = 0 ∨ j = 1 ∨ j = 2 ∨ j = 3 ∨ j = 4 ∨ j = 5 ∨ j = 6 by omega) with rfl | rfl | rfl | rfl | rfl | rfl | rfl
      · obtain rfl : n = 6 := by omega
        have ej := eq_true (show (((0 : Nat) : Int) < ((6 : Nat) : Int)) by decide)
        by_cases hkk : a.kind = 2
        · have e1 := eq_true (show (2 : Int) = a.kind by omega)
          repeat' first|refine Spl.on (fun _=>?_) (fun _=>?_)|with_reducible refine gd ?_|simp only [go_sem, Int.reduceEq, List.length_nil, e1, hv, hwj, ej]
          all_goals first | rfl | (simp [urgL, hkk, num]; done)
        · have e1 := eq_false (show ¬ (2 : Int) = a.kind by omega)
          repeat' first|refine Spl.on (fun _=>?_) (fun _=>?_)|with_reducible refine gd ?_|simp only [go_sem, Int.reduceEq, List.length_nil, e1, hv, hwj, ej]
          refine lend_mk 5 [.sl 1 [num 2, num 1, num 5, num 3, num 4, num 6], num ((1 : Nat) : Int)] (by omega) ⟨1, by omega, by omega, rfl, fun q hq => ?_⟩ ?_
          · rcases (show q < 0 ∨ q = 0 by omega) with h | rfl
            · exact hno q h
            · simp; omega
          · simp only [hvm_t, hvm_f, hvm_nil, puts_cons, puts_nil, List.set_cons_zero, List.set_cons_succ, num]
            repeat first | exact Wk.nil | refine wk_ownsl ?_ | refine Wk.same ?_ | refine wk_any ?_
      · obtain rfl : n = 5 := by omega
        have ej := eq_true (show (((1 : Nat) : Int) < ((6 : Nat) : Int)) by decide)
        by_cases hkk : a.kind = 1
        · have e1 := eq_true (show (1 : Int) = a.kind by omega)
          repeat' first|refine Spl.on (fun _=>?_) (fun _=>?_)|with_reducible refine gd ?_|simp only [go_sem, Int.reduceEq, List.length_nil, e1, hv, hwj, ej]
          all_goals first | rfl | (simp [urgL, hkk, num]; done)
        · have e1 := eq_false (show ¬ (1 : Int) = a.kind by omega)
          repeat' first|refine Spl.on (fun _=>?_) (fun _=>?_)|with_reducible refine gd ?_|simp only [go_sem, Int.reduceEq, List.length_nil, e1, hv, hwj, ej]
          refine lend_mk 4 [.sl 1 [num 2, num 1, num 5, num 3, num 4, num 6], num ((2 : Nat) : Int)] (by omega) ⟨2, by omega, by omega, rfl, fun q hq => ?_⟩ ?_
          · rcases (show q < 1 ∨ q = 1 by omega) with h | rfl
            · exact hno q h
            · simp; omega
          · simp only [hvm_t, hvm_f, hvm_nil, puts_cons, puts_nil, List.set_cons_zero, List.set_cons_succ, num]
            repeat first | exact Wk.nil | refine wk_ownsl ?_ | refine Wk.same ?_ | refine wk_any ?_
      · obtain rfl : n = 4 := by omega
        have ej := eq_true (show (((2 : Nat) : Int) < ((6 : Nat) : Int)) by decide)
        by_cases hkk : a.kind = 5
        · have e1 := eq_true (show (5 : Int) = a.kind by omega)
          repeat' first|refine Spl.on (fun _=>?_) (fun _=>?_)|with_reducible refine gd ?_|simp only [go_sem, Int.reduceEq, List.length_nil, e1, hv, hwj, ej]
          all_goals first | rfl | (simp [urgL, hkk, num]; done)
        · have e1 := eq_false (show ¬ (5 : Int) = a.kind by omega)
          repeat' first|refine Spl.on (fun _=>?_) (fun _=>?_)|with_reducible refine gd ?_|simp only [go_sem, Int.reduceEq, List.length_nil, e1, hv, hwj, ej]
          refine lend_mk 3 [.sl 1 [num 2, num 1, num 5, num 3, num 4, num 6], num ((3 : Nat) : Int)] (by omega) ⟨3, by omega, by omega, rfl, fun q hq => ?_⟩ ?_
          · rcases (show q < 2 ∨ q = 2 by omega) with h | rfl
            · exact hno q h
            · simp; omega
          · simp only [hvm_t, hvm_f, hvm_nil, puts_cons, puts_nil, List.set_cons_zero, List.set_cons_succ, num]
            repeat first | exact Wk.nil | refine wk_ownsl ?_ | refine Wk.same ?_ | refine wk_any ?_
      · obtain rfl : n = 3 := by omega
        have ej := eq_true (show (((3 : Nat) : Int) < ((6 : Nat) : Int)) by decide)
        by_cases hkk : a.kind = 3
        · have e1 := eq_true (show (3 : Int) = a.kind by omega)
          repeat' first|refine Spl.on (fun _=>?_) (fun _=>?_)|with_reducible refine gd ?_|simp only [go_sem, Int.reduceEq, List.length_nil, e1, hv, hwj, ej]
          all_goals first | rfl | (simp [urgL, hkk, num]; done)
        · have e1 := eq_false (show ¬ (3 : Int) = a.kind by omega)
          repeat' first|refine Spl.on (fun _=>?_) (fun _=>?_)|with_reducible refine gd ?_|simp only [go_sem, Int.reduceEq, List.length_nil, e1, hv, hwj, ej]
          refine lend_mk 2 [.sl 1 [num 2, num 1, num 5, num 3, num 4, num 6], num ((4 : Nat) : Int)] (by omega) ⟨4, by omega, by omega, rfl, fun q hq => ?_⟩ ?_
          · rcases (show q < 3 ∨ q = 3 by omega) with h | rfl
            · exact hno q h
            · simp; omega
          · simp only [hvm_t, hvm_f, hvm_nil, puts_cons, puts_nil, List.set_cons_zero, List.set_cons_succ, num]
            repeat first | exact Wk.nil | refine wk_ownsl ?_ | refine Wk.same ?_ | refine wk_any ?_
      · obtain rfl : n = 2 := by omega
        have ej := eq_true (show (((4 : Nat) : Int) < ((6 : Nat) : Int)) by decide)
        by_cases hkk : a.kind = 4
        · have e1 := eq_true (show (4 : Int) = a.kind by omega)
          repeat' first|refine Spl.on (fun _=>?_) (fun _=>?_)|with_reducible refine gd ?_|simp only [go_sem, Int.reduceEq, List.length_nil, e1, hv, hwj, ej]
          all_goals first | rfl | (simp [urgL, hkk, num]; done)
        · have e1 := eq_false (show ¬ (4 : Int) = a.kind by omega)
          repeat' first|refine Spl.on (fun _=>?_) (fun _=>?_)|with_reducible refine gd ?_|simp only [go_sem, Int.reduceEq, List.length_nil, e1, hv, hwj, ej]
          refine lend_mk 1 [.sl 1 [num 2, num 1, num 5, num 3, num 4, num 6], num ((5 : Nat) : Int)] (by omega) ⟨5, by omega, by omega, rfl, fun q hq => ?_⟩ ?_
          · rcases (show q < 4 ∨ q = 4 by omega) with h | rfl
            · exact hno q h
            · simp; omega
          · simp only [hvm_t, hvm_f, hvm_nil, puts_cons, puts_nil, List.set_cons_zero, List.set_cons_succ, num]
            repeat first | exact Wk.nil | refine wk_ownsl ?_ | refine Wk.same ?_ | refine wk_any ?_
      · obtain rfl : n = 1 := by omega
        have ej := eq_true (show (((5 : Nat) : Int) < ((6 : Nat) : Int)) by decide)
        by_cases hkk : a.kind = 6
        · have e1 := eq_true (show (6 : Int) = a.kind by omega)
          repeat' first|refine Spl.on (fun _=>?_) (fun _=>?_)|with_reducible refine gd ?_|simp only [go_sem, Int.reduceEq, List.length_nil, e1, hv, hwj, ej]
          all_goals first | rfl | (simp [urgL, hkk, num]; done)
        · have e1 := eq_false (show ¬ (6 : Int) = a.kind by omega)
          repeat' first|refine Spl.on (fun _=>?_) (fun _=>?_)|with_reducible refine gd ?_|simp only [go_sem, Int.reduceEq, List.length_nil, e1, hv, hwj, ej]
          refine lend_mk 0 [.sl 1 [num 2, num 1, num 5, num 3, num 4, num 6], num ((6 : Nat) : Int)] (by omega) ⟨6, by omega, by omega, rfl, fun q hq => ?_⟩ ?_
          · rcases (show q < 5 ∨ q = 5 by omega) with h | rfl
            · exact hno q h
            · simp; omega
          · simp only [hvm_t, hvm_f, hvm_nil, puts_cons, puts_nil, List.set_cons_zero, List.set_cons_succ, num]
            repeat first | exact Wk.nil | refine wk_ownsl ?_ | refine Wk.same ?_ | refine wk_any ?_
      · have h0 := hno 0 (by omega)
        have h1 := hno 1 (by omega)
        have h2 := hno 2 (by omega)
        have h3 := hno 3 (by omega)
        have h4 := hno 4 (by omega)
        have h5 := hno 5 (by omega)
        simp at h0 h1 h2 h3 h4 h5
        omega
end Go.Proofs.YtkafbgdokgfjmaaGreatDoor
namespace Go.Proofs.YtkafbgdokgfjmaaGreatDoor
open Go.RowKit Go.Proofs
set_option linter.unusedSimpArgs false
set_option linter.unusedVariables false
set_option maxRecDepth 100000
set_option maxHeartbeats 4000000

theorem split35 (s : Str) (hs : s.length ≤ 1000000) : ACalls Tryz.prog 35 [str s, str [47], num 5] (fun r => r = .sl 1 ((splL s).map str)) := by
  refine (splitN_raw Tryz.lays147 (by kernel_rfl) ndZ ⟨_, _, Tryz.func35, rfl, by decide⟩ (by exact List.mem_cons_of_mem _ (List.mem_cons_of_mem _ (List.mem_cons_self))) s [47] 5 (by omega) (by simp) (by omega) (by omega)).wkr ?_
  rintro r rfl
  exact ⟨_, W1.ownsl _ _ _, rfl, rfl⟩
theorem atoi37 (s : Str) (hs : s.length ≤ 1000000) : ACalls Tryz.prog 37 [str s] (fun r => r = .tup [num (atoiV s), .any]) :=
  atoi_raw Tryz.laysC172 ndZ ⟨_, _, Tryz.func37, rfl, by decide⟩ s (by omega) (by exact List.mem_cons_self) (by exact List.mem_cons_of_mem _ List.mem_cons_self)
theorem splitK_len (sep : Str) : ∀ (k : Nat) (s : Str), ∀ p ∈ Lib.splitK sep 0 k s, p.length ≤ s.length
  | 0, s, p, h => by
    rw [Lib.splitK, List.mem_singleton] at h
    rw [h]; exact Nat.le_refl _
  | k + 1, s, p, h => by
    rw [Lib.splitK] at h
    split at h
    · rw [List.mem_singleton] at h
      rw [h]; exact Nat.le_refl _
    · rw [List.mem_cons] at h
      rcases h with rfl | h
      · rw [List.length_take]; omega
      · have := splitK_len sep k _ p h
        rw [List.length_drop] at this; omega
theorem spl_len {s : Str} {i : Nat} : ((splL s).getD i []).length ≤ s.length := by
  rw [List.getD_eq_getElem?_getD]
  cases h : (splL s)[i]? with
  | none => simp
  | some p => exact splitK_len _ _ _ _ (List.mem_of_getElem? h)
theorem strs_getD {l : List Str} {i : Nat} (h : i < l.length) : (l.map str).getD i .any = .raw (.string ⟨(l.getD i []).toArray⟩) := by
  simp [List.getD_eq_getElem?_getD, h, str]
theorem is36 (n : Nat) (w : Str) (ps : List Str) (hn : 2 ≤ n) (hn2 : n ≤ 100) (hl : ps.length ≤ 1000000) : ACalls Tryz.prog 36 [num n, str w, .elt (.agg [.sl 1 (ps.map str)])] (fun r => r = tru (decide (ps.length = n ∧ ps.getD 1 [] = w))) := by
  refine calls_short [] ttok hmix Tryz.func36 (by decide) (by decide +kernel) (by simp only [Tryz.f36, Option.bind_some, comp, isLend, lendOf, lendX, lendC, lendH, Nat.reduceLeDiff, Nat.reduceSub, ne_eq, not_false_eq_true, and_self, cops, cguard, gslot, List.getElem?_toArray, List.getElem?_cons_succ, List.getElem?_cons_zero, vlook, tlook, cutAt_nil, cutAt, firstReg, isCut, mkSeq, Nat.reduceAdd, Nat.reduceEqDiff, reduceIte]; rfl) Tryz.ntmps36 Tryz.results36 ⟨_, rfl⟩ rfl ?_
  simp only [List.length_cons, List.length_nil, Nat.reduceAdd, Nat.reduceSub, List.replicate_succ, List.replicate_zero, List.cons_append, List.nil_append, num, str, tru]
  by_cases h1 : ps.length = n
  · have e1 := eq_true (show (ps.length : Int) = (n : Int) by omega)
    have hg := strs_getD (l := ps) (i := 1) (by omega)
    repeat' first|refine Spl.on (fun _=>?_) (fun _=>?_)|with_reducible refine gd ?_|simp only [go_sem, Int.reduceEq, List.length_nil, e1, hg, List.length_map]
    all_goals first | omega | (simp [h1, tru]; rw [Bool.eq_iff_iff]; simp; done)
  · have e1 := eq_false (show ¬ (ps.length : Int) = (n : Int) by omega)
    repeat' first|refine Spl.on (fun _=>?_) (fun _=>?_)|with_reducible refine gd ?_|simp only [go_sem, Int.reduceEq, List.length_nil, e1, List.length_map]
    all_goals first | omega | (simp [h1, tru]; done)
def parseA (o : Option Adr) : AV := match o with
  | some a => .tup [adrA a, num 0]
  | none => .tup [adrA adr0, num 120]
theorem parse20 (s : Str) (hs : s.length ≤ 1000000) : ACalls Tryz.prog 20 [str s] (fun r => r = parseA (parseL s)) := by
  have hll : (splL s).length ≤ 1000000 := by
    have h := Lib.splitB_length_le (bsOf [47]) 0 (min 5 (s.length + 1) - 1) (bsOf s)
    have h2 := congrArg List.length (Lib.splitB_data (bsOf [47]) 0 (min 5 (s.length + 1) - 1) (bsOf s))
    rw [List.length_map, bsOf_toList, bsOf_toList] at h2
    unfold splL
    omega
  refine calls_short [(2,[4],[])] ttok hmix Tryz.func20 (by decide) (by decide +kernel) (by simp only [Tryz.f20, Option.bind_some, comp, isLend, lendOf, lendX, lendC, lendH, Nat.reduceLeDiff, Nat.reduceSub, ne_eq, not_false_eq_true, and_self, cops, cguard, gslot, List.getElem?_toArray, List.getElem?_cons_succ, List.getElem?_cons_zero, vlook, tlook, cutAt_nil, cutAt, firstReg, isCut, mkSeq, Nat.reduceAdd, Nat.reduceEqDiff, reduceIte]; rfl) Tryz.ntmps20 Tryz.results20 ⟨_, rfl⟩ rfl ?_
  simp only [List.length_cons, List.length_nil, Nat.reduceAdd, Nat.reduceSub, List.replicate_succ, List.replicate_zero, List.cons_append, List.nil_append, num, str, tru]
  by_cases h1 : s = [47]
  · have e1 : (s == [47]) = true := by rw [h1]; rfl
    have hcand : cand s = ⟨1, [], 0, []⟩ := by rw [cand, if_pos h1]
    repeat' first|refine Spl.on (fun _=>?_) (fun _=>?_)|with_reducible refine gd ?_|simp only [go_sem, Int.reduceEq, List.length_nil, e1]
    refine ((split35 s hs).wk ?_).mono ?_
    · try simp only [num, str]
      repeat first | exact Wk.nil | exact Wk.refl _ | refine wk_agg ?_ ?_ | refine wk_ownsl ?_ | refine wk_nilsl ?_ | refine Wk.same ?_
    rintro r rfl
    try simp only [tru, num, str]
    repeat' first|refine Spl.on (fun _=>?_) (fun _=>?_)|with_reducible refine gd ?_|simp only [go_sem, Int.reduceEq, List.length_nil, e1]
    refine ((format14 ⟨1, [], 0, []⟩).wk ?_).mono ?_
    · try simp only [adrA, num, str]
      repeat first | exact Wk.nil | exact Wk.refl _ | refine wk_agg ?_ ?_ | refine wk_ownsl ?_ | refine wk_nilsl ?_ | refine Wk.same ?_
    rintro r rfl
    try simp only [tru, num, str]
    repeat' first|refine Spl.on (fun _=>?_) (fun _=>?_)|with_reducible refine gd ?_|simp only [go_sem, Int.reduceEq, List.length_nil, e1]
    have hps : parseL s = if validL ⟨1, [], 0, []⟩ = true ∧ fmtL ⟨1, [], 0, []⟩ = s then some ⟨1, [], 0, []⟩ else none := by rw [parseL, hcand]
    rw [hps]
    cases hv : validL ⟨1, [], 0, []⟩
    · simp only [fmtA, hv, Bool.false_eq_true, if_false, false_and, num, str]
      repeat' first|refine Spl.on (fun _=>?_) (fun _=>?_)|with_reducible refine gd ?_|simp only [go_sem, Int.reduceEq, List.length_nil, e1]
      all_goals first | rfl | (simp [parseA, adrA, adr0, num, str]; done)
    · by_cases hf : fmtL ⟨1, [], 0, []⟩ = s
      · have hf' : (fmtL ⟨1, [], 0, []⟩ == s) = true := by rw [hf]; simp
        simp only [fmtA, hv, hf, if_true, and_self, num, str]
        repeat' first|refine Spl.on (fun _=>?_) (fun _=>?_)|with_reducible refine gd ?_|simp only [go_sem, Int.reduceEq, List.length_nil, hf, e1]
        all_goals first | rfl | (simp [parseA, adrA, num, str]; done) | (simp_all; done)
      · have hf' : (fmtL ⟨1, [], 0, []⟩ == s) = false := by
          cases h : (fmtL ⟨1, [], 0, []⟩ == s) with
          | false => rfl
          | true => exact absurd (beq_iff_eq.1 h) hf
        simp only [fmtA, hv, hf, if_true, if_false, and_false, num, str]
        repeat' first|refine Spl.on (fun _=>?_) (fun _=>?_)|with_reducible refine gd ?_|simp only [go_sem, Int.reduceEq, List.length_nil, hf', e1]
        all_goals first | rfl | (simp [parseA, adrA, adr0, num, str]; done) | (simp_all; done)
  · have e1 : (s == [47]) = false := by simp [h1]
    by_cases h2 : s = 47 :: wMap
    · have e2 : (s == [47, 109, 97, 112]) = true := by rw [h2]; rfl
      have hcand : cand s = ⟨6, [], 0, []⟩ := by rw [cand, if_neg h1, if_pos h2]
      repeat' first|refine Spl.on (fun _=>?_) (fun _=>?_)|with_reducible refine gd ?_|simp only [go_sem, Int.reduceEq, List.length_nil, e1, e2]
      refine ((split35 s hs).wk ?_).mono ?_
      · try simp only [num, str]
        repeat first | exact Wk.nil | exact Wk.refl _ | refine wk_agg ?_ ?_ | refine wk_ownsl ?_ | refine wk_nilsl ?_ | refine Wk.same ?_
      rintro r rfl
      try simp only [tru, num, str]
      repeat' first|refine Spl.on (fun _=>?_) (fun _=>?_)|with_reducible refine gd ?_|simp only [go_sem, Int.reduceEq, List.length_nil, e1, e2]
      refine ((format14 ⟨6, [], 0, []⟩).wk ?_).mono ?_
      · try simp only [adrA, num, str]
        repeat first | exact Wk.nil | exact Wk.refl _ | refine wk_agg ?_ ?_ | refine wk_ownsl ?_ | refine wk_nilsl ?_ | refine Wk.same ?_
      rintro r rfl
      try simp only [tru, num, str]
      repeat' first|refine Spl.on (fun _=>?_) (fun _=>?_)|with_reducible refine gd ?_|simp only [go_sem, Int.reduceEq, List.length_nil, e1, e2]
      have hps : parseL s = if validL ⟨6, [], 0, []⟩ = true ∧ fmtL ⟨6, [], 0, []⟩ = s then some ⟨6, [], 0, []⟩ else none := by rw [parseL, hcand]
      rw [hps]
      cases hv : validL ⟨6, [], 0, []⟩
      · simp only [fmtA, hv, Bool.false_eq_true, if_false, false_and, num, str]
        repeat' first|refine Spl.on (fun _=>?_) (fun _=>?_)|with_reducible refine gd ?_|simp only [go_sem, Int.reduceEq, List.length_nil, e1, e2]
        all_goals first | rfl | (simp [parseA, adrA, adr0, num, str]; done)
      · by_cases hf : fmtL ⟨6, [], 0, []⟩ = s
        · have hf' : (fmtL ⟨6, [], 0, []⟩ == s) = true := by rw [hf]; simp
          simp only [fmtA, hv, hf, if_true, and_self, num, str]
          repeat' first|refine Spl.on (fun _=>?_) (fun _=>?_)|with_reducible refine gd ?_|simp only [go_sem, Int.reduceEq, List.length_nil, hf, e1, e2]
          all_goals first | rfl | (simp [parseA, adrA, num, str]; done) | (simp_all; done)
        · have hf' : (fmtL ⟨6, [], 0, []⟩ == s) = false := by
            cases h : (fmtL ⟨6, [], 0, []⟩ == s) with
            | false => rfl
            | true => exact absurd (beq_iff_eq.1 h) hf
          simp only [fmtA, hv, hf, if_true, if_false, and_false, num, str]
          repeat' first|refine Spl.on (fun _=>?_) (fun _=>?_)|with_reducible refine gd ?_|simp only [go_sem, Int.reduceEq, List.length_nil, hf', e1, e2]
          all_goals first | rfl | (simp [parseA, adrA, adr0, num, str]; done) | (simp_all; done)
    · have e2 : (s == [47, 109, 97, 112]) = false := by
        cases h : (s == [47, 109, 97, 112]) with
        | false => rfl
        | true => exact absurd (beq_iff_eq.1 h) h2
      by_cases h4s : (splL s).length = 4 ∧ (splL s).getD 1 [] = wStory
      · have hln : (splL s).length = 4 := h4s.1
        have hg2 := strs_getD (l := splL s) (i := 2) (by omega)
        have hg3 := strs_getD (l := splL s) (i := 3) (by omega)
        have hcand : cand s = ⟨2, [], atoiV ((splL s).getD 2 []), (splL s).getD 3 []⟩ := by rw [cand, if_neg h1, if_neg h2, if_pos h4s]
        repeat' first|refine Spl.on (fun _=>?_) (fun _=>?_)|with_reducible refine gd ?_|simp only [go_sem, Int.reduceEq, List.length_nil, e1, e2, List.length_map, hg2, hg3]
        refine ((split35 s hs).wk ?_).mono ?_
        · try simp only [num, str]
          repeat first | exact Wk.nil | exact Wk.refl _ | refine wk_agg ?_ ?_ | refine wk_ownsl ?_ | refine wk_nilsl ?_ | refine Wk.same ?_
        rintro r rfl
        try simp only [tru, num, str]
        repeat' first|refine Spl.on (fun _=>?_) (fun _=>?_)|with_reducible refine gd ?_|simp only [go_sem, Int.reduceEq, List.length_nil, e1, e2, List.length_map, hg2, hg3]
        refine ((is36 4 wStory (splL s) (by omega) (by omega) hll).wk ?_).mono ?_
        · simp only [num, str, wStory, wTopic, wBy, wFeed]
          repeat first | exact Wk.nil | exact Wk.refl _ | refine wk_agg ?_ ?_ | refine wk_ownsl ?_ | refine wk_nilsl ?_ | refine Wk.same ?_
        rintro r rfl
        rw [decide_eq_true h4s]
        try simp only [tru, num, str]
        repeat' first|refine Spl.on (fun _=>?_) (fun _=>?_)|with_reducible refine gd ?_|simp only [go_sem, Int.reduceEq, List.length_nil, e1, e2, List.length_map, hg2, hg3]
        refine ((atoi37 ((splL s).getD 2 []) (Nat.le_trans spl_len hs)).wk ?_).mono ?_
        · try simp only [num, str]
          repeat first | exact Wk.nil | exact Wk.refl _ | refine wk_agg ?_ ?_ | refine wk_ownsl ?_ | refine wk_nilsl ?_ | refine Wk.same ?_
        rintro r rfl
        try simp only [tru, num, str]
        repeat' first|refine Spl.on (fun _=>?_) (fun _=>?_)|with_reducible refine gd ?_|simp only [go_sem, Int.reduceEq, List.length_nil, e1, e2, List.length_map, hg2, hg3]
        refine ((format14 ⟨2, [], atoiV ((splL s).getD 2 []), (splL s).getD 3 []⟩).wk ?_).mono ?_
        · try simp only [adrA, adr0, num, str]
          repeat first | exact Wk.nil | exact Wk.refl _ | refine wk_agg ?_ ?_ | refine wk_ownsl ?_ | refine wk_nilsl ?_ | refine Wk.same ?_
        rintro r rfl
        try simp only [tru, num, str]
        repeat' first|refine Spl.on (fun _=>?_) (fun _=>?_)|with_reducible refine gd ?_|simp only [go_sem, Int.reduceEq, List.length_nil, e1, e2, List.length_map, hg2, hg3]
        have hps : parseL s = if validL ⟨2, [], atoiV ((splL s).getD 2 []), (splL s).getD 3 []⟩ = true ∧ fmtL ⟨2, [], atoiV ((splL s).getD 2 []), (splL s).getD 3 []⟩ = s then some ⟨2, [], atoiV ((splL s).getD 2 []), (splL s).getD 3 []⟩ else none := by rw [parseL, hcand]
        rw [hps]
        cases hv : validL ⟨2, [], atoiV ((splL s).getD 2 []), (splL s).getD 3 []⟩
        · simp only [fmtA, hv, Bool.false_eq_true, if_false, false_and, num, str]
          repeat' first|refine Spl.on (fun _=>?_) (fun _=>?_)|with_reducible refine gd ?_|simp only [go_sem, Int.reduceEq, List.length_nil, e1, e2, List.length_map, hg2, hg3]
          all_goals first | rfl | (simp [parseA, adrA, adr0, num, str]; done)
        · by_cases hf : fmtL ⟨2, [], atoiV ((splL s).getD 2 []), (splL s).getD 3 []⟩ = s
          · have hf' : (fmtL ⟨2, [], atoiV ((splL s).getD 2 []), (splL s).getD 3 []⟩ == s) = true := by rw [hf]; simp
            simp only [fmtA, hv, hf, if_true, and_self, num, str]
            repeat' first|refine Spl.on (fun _=>?_) (fun _=>?_)|with_reducible refine gd ?_|simp only [go_sem, Int.reduceEq, List.length_nil, hf, e1, e2, List.length_map, hg2, hg3]
            all_goals first | rfl | (simp [parseA, adrA, num, str]; done) | (simp_all; done)
          · have hf' : (fmtL ⟨2, [], atoiV ((splL s).getD 2 []), (splL s).getD 3 []⟩ == s) = false := by
              cases h : (fmtL ⟨2, [], atoiV ((splL s).getD 2 []), (splL s).getD 3 []⟩ == s) with
              | false => rfl
              | true => exact absurd (beq_iff_eq.1 h) hf
            simp only [fmtA, hv, hf, if_true, if_false, and_false, num, str]
            repeat' first|refine Spl.on (fun _=>?_) (fun _=>?_)|with_reducible refine gd ?_|simp only [go_sem, Int.reduceEq, List.length_nil, hf', e1, e2, List.length_map, hg2, hg3]
            all_goals first | rfl | (simp [parseA, adrA, adr0, num, str]; done) | (simp_all; done)
      · by_cases h4t : (splL s).length = 4 ∧ (splL s).getD 1 [] = wTopic
        · have hln : (splL s).length = 4 := h4t.1
          have hg2 := strs_getD (l := splL s) (i := 2) (by omega)
          have hg3 := strs_getD (l := splL s) (i := 3) (by omega)
          have hcand : cand s = ⟨3, (splL s).getD 2 [], atoiV ((splL s).getD 3 []), []⟩ := by rw [cand, if_neg h1, if_neg h2, if_neg h4s, if_pos h4t]
          repeat' first|refine Spl.on (fun _=>?_) (fun _=>?_)|with_reducible refine gd ?_|simp only [go_sem, Int.reduceEq, List.length_nil, e1, e2, List.length_map, hg2, hg3]
          refine ((split35 s hs).wk ?_).mono ?_
          · try simp only [num, str]
            repeat first | exact Wk.nil | exact Wk.refl _ | refine wk_agg ?_ ?_ | refine wk_ownsl ?_ | refine wk_nilsl ?_ | refine Wk.same ?_
          rintro r rfl
          try simp only [tru, num, str]
          repeat' first|refine Spl.on (fun _=>?_) (fun _=>?_)|with_reducible refine gd ?_|simp only [go_sem, Int.reduceEq, List.length_nil, e1, e2, List.length_map, hg2, hg3]
          refine ((is36 4 wStory (splL s) (by omega) (by omega) hll).wk ?_).mono ?_
          · simp only [num, str, wStory, wTopic, wBy, wFeed]
            repeat first | exact Wk.nil | exact Wk.refl _ | refine wk_agg ?_ ?_ | refine wk_ownsl ?_ | refine wk_nilsl ?_ | refine Wk.same ?_
          rintro r rfl
          rw [decide_eq_false h4s]
          try simp only [tru, num, str]
          repeat' first|refine Spl.on (fun _=>?_) (fun _=>?_)|with_reducible refine gd ?_|simp only [go_sem, Int.reduceEq, List.length_nil, e1, e2, List.length_map, hg2, hg3]
          refine ((is36 4 wTopic (splL s) (by omega) (by omega) hll).wk ?_).mono ?_
          · simp only [num, str, wStory, wTopic, wBy, wFeed]
            repeat first | exact Wk.nil | exact Wk.refl _ | refine wk_agg ?_ ?_ | refine wk_ownsl ?_ | refine wk_nilsl ?_ | refine Wk.same ?_
          rintro r rfl
          rw [decide_eq_true h4t]
          try simp only [tru, num, str]
          repeat' first|refine Spl.on (fun _=>?_) (fun _=>?_)|with_reducible refine gd ?_|simp only [go_sem, Int.reduceEq, List.length_nil, e1, e2, List.length_map, hg2, hg3]
          refine ((atoi37 ((splL s).getD 3 []) (Nat.le_trans spl_len hs)).wk ?_).mono ?_
          · try simp only [num, str]
            repeat first | exact Wk.nil | exact Wk.refl _ | refine wk_agg ?_ ?_ | refine wk_ownsl ?_ | refine wk_nilsl ?_ | refine Wk.same ?_
          rintro r rfl
          try simp only [tru, num, str]
          repeat' first|refine Spl.on (fun _=>?_) (fun _=>?_)|with_reducible refine gd ?_|simp only [go_sem, Int.reduceEq, List.length_nil, e1, e2, List.length_map, hg2, hg3]
          refine ((format14 ⟨3, (splL s).getD 2 [], atoiV ((splL s).getD 3 []), []⟩).wk ?_).mono ?_
          · try simp only [adrA, adr0, num, str]
            repeat first | exact Wk.nil | exact Wk.refl _ | refine wk_agg ?_ ?_ | refine wk_ownsl ?_ | refine wk_nilsl ?_ | refine Wk.same ?_
          rintro r rfl
          try simp only [tru, num, str]
          repeat' first|refine Spl.on (fun _=>?_) (fun _=>?_)|with_reducible refine gd ?_|simp only [go_sem, Int.reduceEq, List.length_nil, e1, e2, List.length_map, hg2, hg3]
          have hps : parseL s = if validL ⟨3, (splL s).getD 2 [], atoiV ((splL s).getD 3 []), []⟩ = true ∧ fmtL ⟨3, (splL s).getD 2 [], atoiV ((splL s).getD 3 []), []⟩ = s then some ⟨3, (splL s).getD 2 [], atoiV ((splL s).getD 3 []), []⟩ else none := by rw [parseL, hcand]
          rw [hps]
          cases hv : validL ⟨3, (splL s).getD 2 [], atoiV ((splL s).getD 3 []), []⟩
          · simp only [fmtA, hv, Bool.false_eq_true, if_false, false_and, num, str]
            repeat' first|refine Spl.on (fun _=>?_) (fun _=>?_)|with_reducible refine gd ?_|simp only [go_sem, Int.reduceEq, List.length_nil, e1, e2, List.length_map, hg2, hg3]
            all_goals first | rfl | (simp [parseA, adrA, adr0, num, str]; done)
          · by_cases hf : fmtL ⟨3, (splL s).getD 2 [], atoiV ((splL s).getD 3 []), []⟩ = s
            · have hf' : (fmtL ⟨3, (splL s).getD 2 [], atoiV ((splL s).getD 3 []), []⟩ == s) = true := by rw [hf]; simp
              simp only [fmtA, hv, hf, if_true, and_self, num, str]
              repeat' first|refine Spl.on (fun _=>?_) (fun _=>?_)|with_reducible refine gd ?_|simp only [go_sem, Int.reduceEq, List.length_nil, hf, e1, e2, List.length_map, hg2, hg3]
              all_goals first | rfl | (simp [parseA, adrA, num, str]; done) | (simp_all; done)
            · have hf' : (fmtL ⟨3, (splL s).getD 2 [], atoiV ((splL s).getD 3 []), []⟩ == s) = false := by
                cases h : (fmtL ⟨3, (splL s).getD 2 [], atoiV ((splL s).getD 3 []), []⟩ == s) with
                | false => rfl
                | true => exact absurd (beq_iff_eq.1 h) hf
              simp only [fmtA, hv, hf, if_true, if_false, and_false, num, str]
              repeat' first|refine Spl.on (fun _=>?_) (fun _=>?_)|with_reducible refine gd ?_|simp only [go_sem, Int.reduceEq, List.length_nil, hf', e1, e2, List.length_map, hg2, hg3]
              all_goals first | rfl | (simp [parseA, adrA, adr0, num, str]; done) | (simp_all; done)
        · by_cases h3b : (splL s).length = 3 ∧ (splL s).getD 1 [] = wBy
          · have hln : (splL s).length = 3 := h3b.1
            have hg2 := strs_getD (l := splL s) (i := 2) (by omega)
            have hcand : cand s = ⟨4, (splL s).getD 2 [], 0, []⟩ := by rw [cand, if_neg h1, if_neg h2, if_neg h4s, if_neg h4t, if_pos h3b]
            repeat' first|refine Spl.on (fun _=>?_) (fun _=>?_)|with_reducible refine gd ?_|simp only [go_sem, Int.reduceEq, List.length_nil, e1, e2, List.length_map, hg2]
            refine ((split35 s hs).wk ?_).mono ?_
            · try simp only [num, str]
              repeat first | exact Wk.nil | exact Wk.refl _ | refine wk_agg ?_ ?_ | refine wk_ownsl ?_ | refine wk_nilsl ?_ | refine Wk.same ?_
            rintro r rfl
            try simp only [tru, num, str]
            repeat' first|refine Spl.on (fun _=>?_) (fun _=>?_)|with_reducible refine gd ?_|simp only [go_sem, Int.reduceEq, List.length_nil, e1, e2, List.length_map, hg2]
            refine ((is36 4 wStory (splL s) (by omega) (by omega) hll).wk ?_).mono ?_
            · simp only [num, str, wStory, wTopic, wBy, wFeed]
              repeat first | exact Wk.nil | exact Wk.refl _ | refine wk_agg ?_ ?_ | refine wk_ownsl ?_ | refine wk_nilsl ?_ | refine Wk.same ?_
            rintro r rfl
            rw [decide_eq_false h4s]
            try simp only [tru, num, str]
            repeat' first|refine Spl.on (fun _=>?_) (fun _=>?_)|with_reducible refine gd ?_|simp only [go_sem, Int.reduceEq, List.length_nil, e1, e2, List.length_map, hg2]
            refine ((is36 4 wTopic (splL s) (by omega) (by omega) hll).wk ?_).mono ?_
            · simp only [num, str, wStory, wTopic, wBy, wFeed]
              repeat first | exact Wk.nil | exact Wk.refl _ | refine wk_agg ?_ ?_ | refine wk_ownsl ?_ | refine wk_nilsl ?_ | refine Wk.same ?_
            rintro r rfl
            rw [decide_eq_false h4t]
            try simp only [tru, num, str]
            repeat' first|refine Spl.on (fun _=>?_) (fun _=>?_)|with_reducible refine gd ?_|simp only [go_sem, Int.reduceEq, List.length_nil, e1, e2, List.length_map, hg2]
            refine ((is36 3 wBy (splL s) (by omega) (by omega) hll).wk ?_).mono ?_
            · simp only [num, str, wStory, wTopic, wBy, wFeed]
              repeat first | exact Wk.nil | exact Wk.refl _ | refine wk_agg ?_ ?_ | refine wk_ownsl ?_ | refine wk_nilsl ?_ | refine Wk.same ?_
            rintro r rfl
            rw [decide_eq_true h3b]
            try simp only [tru, num, str]
            repeat' first|refine Spl.on (fun _=>?_) (fun _=>?_)|with_reducible refine gd ?_|simp only [go_sem, Int.reduceEq, List.length_nil, e1, e2, List.length_map, hg2]
            refine ((format14 ⟨4, (splL s).getD 2 [], 0, []⟩).wk ?_).mono ?_
            · try simp only [adrA, adr0, num, str]
              repeat first | exact Wk.nil | exact Wk.refl _ | refine wk_agg ?_ ?_ | refine wk_ownsl ?_ | refine wk_nilsl ?_ | refine Wk.same ?_
            rintro r rfl
            try simp only [tru, num, str]
            repeat' first|refine Spl.on (fun _=>?_) (fun _=>?_)|with_reducible refine gd ?_|simp only [go_sem, Int.reduceEq, List.length_nil, e1, e2, List.length_map, hg2]
            have hps : parseL s = if validL ⟨4, (splL s).getD 2 [], 0, []⟩ = true ∧ fmtL ⟨4, (splL s).getD 2 [], 0, []⟩ = s then some ⟨4, (splL s).getD 2 [], 0, []⟩ else none := by rw [parseL, hcand]
            rw [hps]
            cases hv : validL ⟨4, (splL s).getD 2 [], 0, []⟩
            · simp only [fmtA, hv, Bool.false_eq_true, if_false, false_and, num, str]
              repeat' first|refine Spl.on (fun _=>?_) (fun _=>?_)|with_reducible refine gd ?_|simp only [go_sem, Int.reduceEq, List.length_nil, e1, e2, List.length_map, hg2]
              all_goals first | rfl | (simp [parseA, adrA, adr0, num, str]; done)
            · by_cases hf : fmtL ⟨4, (splL s).getD 2 [], 0, []⟩ = s
              · have hf' : (fmtL ⟨4, (splL s).getD 2 [], 0, []⟩ == s) = true := by rw [hf]; simp
                simp only [fmtA, hv, hf, if_true, and_self, num, str]
                repeat' first|refine Spl.on (fun _=>?_) (fun _=>?_)|with_reducible refine gd ?_|simp only [go_sem, Int.reduceEq, List.length_nil, hf, e1, e2, List.length_map, hg2]
                all_goals first | rfl | (simp [parseA, adrA, num, str]; done) | (simp_all; done)
              · have hf' : (fmtL ⟨4, (splL s).getD 2 [], 0, []⟩ == s) = false := by
                  cases h : (fmtL ⟨4, (splL s).getD 2 [], 0, []⟩ == s) with
                  | false => rfl
                  | true => exact absurd (beq_iff_eq.1 h) hf
                simp only [fmtA, hv, hf, if_true, if_false, and_false, num, str]
                repeat' first|refine Spl.on (fun _=>?_) (fun _=>?_)|with_reducible refine gd ?_|simp only [go_sem, Int.reduceEq, List.length_nil, hf', e1, e2, List.length_map, hg2]
                all_goals first | rfl | (simp [parseA, adrA, adr0, num, str]; done) | (simp_all; done)
          · by_cases h3f : (splL s).length = 3 ∧ (splL s).getD 1 [] = wFeed
            · have hln : (splL s).length = 3 := h3f.1
              have hg2 := strs_getD (l := splL s) (i := 2) (by omega)
              have hcand : cand s = ⟨5, (splL s).getD 2 [], 0, []⟩ := by rw [cand, if_neg h1, if_neg h2, if_neg h4s, if_neg h4t, if_neg h3b, if_pos h3f]
              repeat' first|refine Spl.on (fun _=>?_) (fun _=>?_)|with_reducible refine gd ?_|simp only [go_sem, Int.reduceEq, List.length_nil, e1, e2, List.length_map, hg2]
              refine ((split35 s hs).wk ?_).mono ?_
              · try simp only [num, str]
                repeat first | exact Wk.nil | exact Wk.refl _ | refine wk_agg ?_ ?_ | refine wk_ownsl ?_ | refine wk_nilsl ?_ | refine Wk.same ?_
              rintro r rfl
              try simp only [tru, num, str]
              repeat' first|refine Spl.on (fun _=>?_) (fun _=>?_)|with_reducible refine gd ?_|simp only [go_sem, Int.reduceEq, List.length_nil, e1, e2, List.length_map, hg2]
              refine ((is36 4 wStory (splL s) (by omega) (by omega) hll).wk ?_).mono ?_
              · simp only [num, str, wStory, wTopic, wBy, wFeed]
                repeat first | exact Wk.nil | exact Wk.refl _ | refine wk_agg ?_ ?_ | refine wk_ownsl ?_ | refine wk_nilsl ?_ | refine Wk.same ?_
              rintro r rfl
              rw [decide_eq_false h4s]
              try simp only [tru, num, str]
              repeat' first|refine Spl.on (fun _=>?_) (fun _=>?_)|with_reducible refine gd ?_|simp only [go_sem, Int.reduceEq, List.length_nil, e1, e2, List.length_map, hg2]
              refine ((is36 4 wTopic (splL s) (by omega) (by omega) hll).wk ?_).mono ?_
              · simp only [num, str, wStory, wTopic, wBy, wFeed]
                repeat first | exact Wk.nil | exact Wk.refl _ | refine wk_agg ?_ ?_ | refine wk_ownsl ?_ | refine wk_nilsl ?_ | refine Wk.same ?_
              rintro r rfl
              rw [decide_eq_false h4t]
              try simp only [tru, num, str]
              repeat' first|refine Spl.on (fun _=>?_) (fun _=>?_)|with_reducible refine gd ?_|simp only [go_sem, Int.reduceEq, List.length_nil, e1, e2, List.length_map, hg2]
              refine ((is36 3 wBy (splL s) (by omega) (by omega) hll).wk ?_).mono ?_
              · simp only [num, str, wStory, wTopic, wBy, wFeed]
                repeat first | exact Wk.nil | exact Wk.refl _ | refine wk_agg ?_ ?_ | refine wk_ownsl ?_ | refine wk_nilsl ?_ | refine Wk.same ?_
              rintro r rfl
              rw [decide_eq_false h3b]
              try simp only [tru, num, str]
              repeat' first|refine Spl.on (fun _=>?_) (fun _=>?_)|with_reducible refine gd ?_|simp only [go_sem, Int.reduceEq, List.length_nil, e1, e2, List.length_map, hg2]
              refine ((is36 3 wFeed (splL s) (by omega) (by omega) hll).wk ?_).mono ?_
              · simp only [num, str, wStory, wTopic, wBy, wFeed]
                repeat first | exact Wk.nil | exact Wk.refl _ | refine wk_agg ?_ ?_ | refine wk_ownsl ?_ | refine wk_nilsl ?_ | refine Wk.same ?_
              rintro r rfl
              rw [decide_eq_true h3f]
              try simp only [tru, num, str]
              repeat' first|refine Spl.on (fun _=>?_) (fun _=>?_)|with_reducible refine gd ?_|simp only [go_sem, Int.reduceEq, List.length_nil, e1, e2, List.length_map, hg2]
              refine ((format14 ⟨5, (splL s).getD 2 [], 0, []⟩).wk ?_).mono ?_
              · try simp only [adrA, adr0, num, str]
                repeat first | exact Wk.nil | exact Wk.refl _ | refine wk_agg ?_ ?_ | refine wk_ownsl ?_ | refine wk_nilsl ?_ | refine Wk.same ?_
              rintro r rfl
              try simp only [tru, num, str]
              repeat' first|refine Spl.on (fun _=>?_) (fun _=>?_)|with_reducible refine gd ?_|simp only [go_sem, Int.reduceEq, List.length_nil, e1, e2, List.length_map, hg2]
              have hps : parseL s = if validL ⟨5, (splL s).getD 2 [], 0, []⟩ = true ∧ fmtL ⟨5, (splL s).getD 2 [], 0, []⟩ = s then some ⟨5, (splL s).getD 2 [], 0, []⟩ else none := by rw [parseL, hcand]
              rw [hps]
              cases hv : validL ⟨5, (splL s).getD 2 [], 0, []⟩
              · simp only [fmtA, hv, Bool.false_eq_true, if_false, false_and, num, str]
                repeat' first|refine Spl.on (fun _=>?_) (fun _=>?_)|with_reducible refine gd ?_|simp only [go_sem, Int.reduceEq, List.length_nil, e1, e2, List.length_map, hg2]
                all_goals first | rfl | (simp [parseA, adrA, adr0, num, str]; done)
              · by_cases hf : fmtL ⟨5, (splL s).getD 2 [], 0, []⟩ = s
                · have hf' : (fmtL ⟨5, (splL s).getD 2 [], 0, []⟩ == s) = true := by rw [hf]; simp
                  simp only [fmtA, hv, hf, if_true, and_self, num, str]
                  repeat' first|refine Spl.on (fun _=>?_) (fun _=>?_)|with_reducible refine gd ?_|simp only [go_sem, Int.reduceEq, List.length_nil, hf, e1, e2, List.length_map, hg2]
                  all_goals first | rfl | (simp [parseA, adrA, num, str]; done) | (simp_all; done)
                · have hf' : (fmtL ⟨5, (splL s).getD 2 [], 0, []⟩ == s) = false := by
                    cases h : (fmtL ⟨5, (splL s).getD 2 [], 0, []⟩ == s) with
                    | false => rfl
                    | true => exact absurd (beq_iff_eq.1 h) hf
                  simp only [fmtA, hv, hf, if_true, if_false, and_false, num, str]
                  repeat' first|refine Spl.on (fun _=>?_) (fun _=>?_)|with_reducible refine gd ?_|simp only [go_sem, Int.reduceEq, List.length_nil, hf', e1, e2, List.length_map, hg2]
                  all_goals first | rfl | (simp [parseA, adrA, adr0, num, str]; done) | (simp_all; done)
            · have hcand : cand s = adr0 := by rw [cand, if_neg h1, if_neg h2, if_neg h4s, if_neg h4t, if_neg h3b, if_neg h3f]
              repeat' first|refine Spl.on (fun _=>?_) (fun _=>?_)|with_reducible refine gd ?_|simp only [go_sem, Int.reduceEq, List.length_nil, e1, e2, List.length_map]
              refine ((split35 s hs).wk ?_).mono ?_
              · try simp only [num, str]
                repeat first | exact Wk.nil | exact Wk.refl _ | refine wk_agg ?_ ?_ | refine wk_ownsl ?_ | refine wk_nilsl ?_ | refine Wk.same ?_
              rintro r rfl
              try simp only [tru, num, str]
              repeat' first|refine Spl.on (fun _=>?_) (fun _=>?_)|with_reducible refine gd ?_|simp only [go_sem, Int.reduceEq, List.length_nil, e1, e2, List.length_map]
              refine ((is36 4 wStory (splL s) (by omega) (by omega) hll).wk ?_).mono ?_
              · simp only [num, str, wStory, wTopic, wBy, wFeed]
                repeat first | exact Wk.nil | exact Wk.refl _ | refine wk_agg ?_ ?_ | refine wk_ownsl ?_ | refine wk_nilsl ?_ | refine Wk.same ?_
              rintro r rfl
              rw [decide_eq_false h4s]
              try simp only [tru, num, str]
              repeat' first|refine Spl.on (fun _=>?_) (fun _=>?_)|with_reducible refine gd ?_|simp only [go_sem, Int.reduceEq, List.length_nil, e1, e2, List.length_map]
              refine ((is36 4 wTopic (splL s) (by omega) (by omega) hll).wk ?_).mono ?_
              · simp only [num, str, wStory, wTopic, wBy, wFeed]
                repeat first | exact Wk.nil | exact Wk.refl _ | refine wk_agg ?_ ?_ | refine wk_ownsl ?_ | refine wk_nilsl ?_ | refine Wk.same ?_
              rintro r rfl
              rw [decide_eq_false h4t]
              try simp only [tru, num, str]
              repeat' first|refine Spl.on (fun _=>?_) (fun _=>?_)|with_reducible refine gd ?_|simp only [go_sem, Int.reduceEq, List.length_nil, e1, e2, List.length_map]
              refine ((is36 3 wBy (splL s) (by omega) (by omega) hll).wk ?_).mono ?_
              · simp only [num, str, wStory, wTopic, wBy, wFeed]
                repeat first | exact Wk.nil | exact Wk.refl _ | refine wk_agg ?_ ?_ | refine wk_ownsl ?_ | refine wk_nilsl ?_ | refine Wk.same ?_
              rintro r rfl
              rw [decide_eq_false h3b]
              try simp only [tru, num, str]
              repeat' first|refine Spl.on (fun _=>?_) (fun _=>?_)|with_reducible refine gd ?_|simp only [go_sem, Int.reduceEq, List.length_nil, e1, e2, List.length_map]
              refine ((is36 3 wFeed (splL s) (by omega) (by omega) hll).wk ?_).mono ?_
              · simp only [num, str, wStory, wTopic, wBy, wFeed]
                repeat first | exact Wk.nil | exact Wk.refl _ | refine wk_agg ?_ ?_ | refine wk_ownsl ?_ | refine wk_nilsl ?_ | refine Wk.same ?_
              rintro r rfl
              rw [decide_eq_false h3f]
              try simp only [tru, num, str]
              repeat' first|refine Spl.on (fun _=>?_) (fun _=>?_)|with_reducible refine gd ?_|simp only [go_sem, Int.reduceEq, List.length_nil, e1, e2, List.length_map]
              refine ((format14 adr0).wk ?_).mono ?_
              · try simp only [adrA, adr0, num, str]
                repeat first | exact Wk.nil | exact Wk.refl _ | refine wk_agg ?_ ?_ | refine wk_ownsl ?_ | refine wk_nilsl ?_ | refine Wk.same ?_
              rintro r rfl
              try simp only [tru, num, str]
              repeat' first|refine Spl.on (fun _=>?_) (fun _=>?_)|with_reducible refine gd ?_|simp only [go_sem, Int.reduceEq, List.length_nil, e1, e2, List.length_map]
              have hps : parseL s = if validL adr0 = true ∧ fmtL adr0 = s then some adr0 else none := by rw [parseL, hcand]
              rw [hps]
              cases hv : validL adr0
              · simp only [fmtA, hv, Bool.false_eq_true, if_false, false_and, num, str]
                repeat' first|refine Spl.on (fun _=>?_) (fun _=>?_)|with_reducible refine gd ?_|simp only [go_sem, Int.reduceEq, List.length_nil, e1, e2, List.length_map]
                all_goals first | rfl | (simp [parseA, adrA, adr0, num, str]; done)
              · by_cases hf : fmtL adr0 = s
                · have hf' : (fmtL adr0 == s) = true := by rw [hf]; simp
                  simp only [fmtA, hv, hf, if_true, and_self, num, str]
                  repeat' first|refine Spl.on (fun _=>?_) (fun _=>?_)|with_reducible refine gd ?_|simp only [go_sem, Int.reduceEq, List.length_nil, hf, e1, e2, List.length_map]
                  all_goals first | rfl | (simp [parseA, adrA, num, str]; done) | (simp_all; done)
                · have hf' : (fmtL adr0 == s) = false := by
                    cases h : (fmtL adr0 == s) with
                    | false => rfl
                    | true => exact absurd (beq_iff_eq.1 h) hf
                  simp only [fmtA, hv, hf, if_true, if_false, and_false, num, str]
                  repeat' first|refine Spl.on (fun _=>?_) (fun _=>?_)|with_reducible refine gd ?_|simp only [go_sem, Int.reduceEq, List.length_nil, hf', e1, e2, List.length_map]
                  all_goals first | rfl | (simp [parseA, adrA, adr0, num, str]; done) | (simp_all; done)
end Go.Proofs.YtkafbgdokgfjmaaGreatDoor
