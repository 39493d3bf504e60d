/- each: the addresses of a state, one by one. All, of the code. after, cut, number of the reference. Parse of the reference. -/
import Derived.Test.YtkafbgdokgfjmaaGreatDoorT
import Derived.Test.YtkafbgdokgfjmaaGreatDoorA10
import Derived.Test.YtkafbgdokgfjmaaGreatDoorA11
import Derived.Test.YtkafbgdokgfjmaaGreatDoorM5
import Derived.Test.YtkafbgdokgfjmaaGreatDoorM3
namespace Go.Proofs.YtkafbgdokgfjmaaGreatDoor
open Go.RowKit Go.Proofs
set_option linter.unusedSimpArgs false
set_option linter.unusedVariables false
set_option maxRecDepth 100000
set_option maxHeartbeats 4000000

def edl (x : AV) : Str := match x with
  | .agg (.raw (.string b) :: _) => b.data.toList
  | _ => []
def EdOk (s : Sto) : Prop := ∀ e ∈ s.ed, ∃ l a b c d, e = .agg [str l, a, b, c, d]
def edF (s : Sto) : List Adr := if s.tk then [] else s.ed.map fun e => ⟨2, [], s.id, edl e⟩
def pgN (L : List Sto) (t : Str) : Nat := ((newL t L).length + 4) / 5
def tpF (L : List Sto) (t : Str) : List Adr := if nameL t = true then ⟨5, t, 0, []⟩ :: (List.range (min (pgN L t) 64)).map fun (p : Nat) => (⟨3, t, (p : Int) + 1, []⟩ : Adr) else []
def auF (t : Str) : Adr := ⟨4, t, 0, []⟩
def adr1 : Adr := ⟨1, [], 0, []⟩
def adr6 : Adr := ⟨6, [], 0, []⟩
def adL (L : List Sto) : List Adr := [adr1, adr6] ++ (L.flatMap edF ++ ((topR L).flatMap (tpF L) ++ (autR L).map auF))
def adY (L : List Sto) (k : Nat) (args : List AV) : Prop := ∃ a, (adL L)[k]? = some a ∧ args = [adrA a]
section
variable {α β : Type} {f : α → List β} {l : List α} {i : Nat} {s : α}
theorem fm_take (hx : l[i]? = some s) : ((l.take (i + 1)).flatMap f).length = ((l.take i).flatMap f).length + (f s).length := by
  rw [List.take_add_one, hx, List.flatMap_append, List.length_append]; simp
theorem fm_at {j : Nat} {x : β} (hx : l[i]? = some s) (hj : (f s)[j]? = some x) : (l.flatMap f)[((l.take i).flatMap f).length + j]? = some x := by
  have hi := (List.getElem?_eq_some_iff.1 hx).1
  have hd : l.drop i = s :: l.drop (i + 1) := by
    rw [List.drop_eq_getElem_cons hi]; congr 1; exact (List.getElem?_eq_some_iff.1 hx).2
  have e : l.flatMap f = (l.take i).flatMap f ++ (f s ++ (l.drop (i + 1)).flatMap f) := by
    conv => lhs; rw [← List.take_append_drop i l, hd, List.flatMap_append, List.flatMap_cons]
  have hjl := (List.getElem?_eq_some_iff.1 hj).1
  rw [e, List.getElem?_append_right (by omega), Nat.add_sub_cancel_left, List.getElem?_append_left hjl, hj]
end
theorem ad_ed {L : List Sto} {k : Nat} {a : Adr} (h : (L.flatMap edF)[k]? = some a) : (adL L)[2 + k]? = some a := by
  have := (List.getElem?_eq_some_iff.1 h).1
  unfold adL
  rw [List.getElem?_append_right (by simp only [List.length_cons, List.length_nil]; omega), List.getElem?_append_left (by simp only [List.length_cons, List.length_nil]; omega)]
  rw [← h]; congr 1; simp only [List.length_cons, List.length_nil]; omega
theorem ad_tp {L : List Sto} {k : Nat} {a : Adr} (h : ((topR L).flatMap (tpF L))[k]? = some a) : (adL L)[2 + (L.flatMap edF).length + k]? = some a := by
  have := (List.getElem?_eq_some_iff.1 h).1
  unfold adL
  rw [List.getElem?_append_right (by simp only [List.length_cons, List.length_nil]; omega), List.getElem?_append_right (by simp only [List.length_cons, List.length_nil]; omega), List.getElem?_append_left (by simp only [List.length_cons, List.length_nil]; omega)]
  rw [← h]; congr 1; simp only [List.length_cons, List.length_nil]; omega
theorem ad_au {L : List Sto} {k : Nat} {a : Str} (h : (autR L)[k]? = some a) : (adL L)[2 + (L.flatMap edF).length + ((topR L).flatMap (tpF L)).length + k]? = some (auF a) := by
  unfold adL
  rw [List.getElem?_append_right (by simp only [List.length_cons, List.length_nil]; omega), List.getElem?_append_right (by simp only [List.length_cons, List.length_nil]; omega), List.getElem?_append_right (by simp only [List.length_cons, List.length_nil]; omega), List.getElem?_map]
  rw [show 2 + (L.flatMap edF).length + ((topR L).flatMap (tpF L)).length + k - [adr1, adr6].length - (L.flatMap edF).length - ((topR L).flatMap (tpF L)).length = k by simp only [List.length_cons, List.length_nil]; omega, h]
  rfl
theorem edF_len {s : Sto} (h : s.tk = false) : (edF s).length = s.ed.length := by simp [edF, h]
theorem edF_at {s : Sto} {j : Nat} {l : Str} {a b c d : AV} (h : s.tk = false) (hj : s.ed[j]? = some (.agg [str l, a, b, c, d])) : (edF s)[j]? = some ⟨2, [], s.id, l⟩ := by
  simp [edF, h, hj, edl, str]
theorem tpF_len {L : List Sto} {t : Str} (h : nameL t = true) : (tpF L t).length = 1 + min (pgN L t) 64 := by
  simp [tpF, h]; omega
theorem tpF_no {L : List Sto} {t : Str} (h : nameL t = false) : tpF L t = [] := by simp [tpF, h]
theorem tpF_at0 {L : List Sto} {t : Str} (h : nameL t = true) : (tpF L t)[0]? = some ⟨5, t, 0, []⟩ := by simp [tpF, h]
theorem tpF_at {L : List Sto} {t : Str} {p : Nat} (h : nameL t = true) (hp : p < pgN L t) (hp2 : p < 64) : (tpF L t)[1 + p]? = some ⟨3, t, ((p + 1 : Nat) : Int), []⟩ := by
  rw [tpF, if_pos h, Nat.add_comm, List.getElem?_cons_succ, List.getElem?_map, List.getElem?_range (by omega)]
  simp
theorem adEach64 (L : List Sto) (tm : List AV) (hl : L.length ≤ 10000) (hs : ∀ s ∈ L, StOk s) (ht : ∀ s ∈ L, s.tp.length ≤ 1000) (he : ∀ s ∈ L, EdOk s) (hT : (topR L).length ≤ 1000000000) (hA : (autR L).length ≤ 1000000000) :
    AIter Tryz.prog 64 [.elt (.agg [.sl 8 (L.map sto), .sl 2 tm])] (adL L).length (adY L) := by
  refine iter_short [] [(0, 7002), (8, 6), (15, 3), (21, 4), (26, 3)] [] ttok hmix Tryz.func64 (by decide) (by decide +kernel) (by simp only [Tryz.f64, Option.bind_some, compG, ylook, compY, compY2, Nat.reduceMod, Nat.reduceDiv, Nat.reduceLT, comp, isLend, lendOf, lendX, lendC, lendH, Nat.reduceLeDiff, Nat.reduceSub, ne_eq, not_false_eq_true, and_self, cops, cguard, gslot, List.getElem?_toArray, List.getElem?_cons_succ, List.getElem?_cons_zero, vlook, tlook, List.take_succ_cons, List.take_zero, List.drop_succ_cons, List.drop_zero, Option.map_some, Nat.reduceEqDiff, if_true, if_false, Nat.succ_ne_self, Nat.reduceAdd, reduceIte, reduceCtorEq, Bool.false_eq_true, cutAt_nil, cutAt, firstReg, isCut, mkSeq, mkSeqG]; rfl) Tryz.ntmps64 Tryz.results64 rfl ?_
  intro l
  simp only [List.length_cons, List.length_nil, Nat.reduceAdd, Nat.reduceSub, List.replicate_succ, List.replicate_zero, List.cons_append, List.nil_append, num, str, tru]
  repeat' first|refine Spl.on (fun _=>?_) (fun _=>?_)|with_reducible refine gd ?_|simp only [go_sem, Int.reduceEq, Int.cast_ofNat_Int, Bool.false_eq_true, xblkG_exit3, List.length_map]
  refine yc_mk ⟨adr1, rfl, rfl⟩ ?_ ?_
  · repeat' first|refine Spl.on (fun _=>?_) (fun _=>?_)|with_reducible refine gd ?_|simp only [go_sem, Int.reduceEq, Int.cast_ofNat_Int, Bool.false_eq_true, xblkG_exit3, List.length_map]
    refine yc_mk ⟨adr6, rfl, rfl⟩ ?_ ?_
    · repeat' first|refine Spl.on (fun _=>?_) (fun _=>?_)|with_reducible refine gd ?_|simp only [go_sem, Int.reduceEq, Int.cast_ofNat_Int, Bool.false_eq_true, xblkG_exit3, List.length_map]
      refine cwpG_loop [false, false, false, false, true, false, true, false, false, false, false, false, false, false, false, false, false, false, false, false, false, false, false, false, false, false, false, true, true, true, true, true, true, true, true, true, true, true, true, true, true, true, true, true, true, true, true, true, true, true, false, false, false, false, false, false, false, false, false, false, false, false, false, false, false, false, false, false, false, false, false, false, false, false, false, false, false, false, false, false, false, false, false, false, false, false, false, false, false, false, false, false, false, false, false, false, false, false, false] [27] (fun n st xs => ∃ i k : Nat, st = some k ∧ i ≤ L.length ∧ i + n = L.length ∧ k = 2 + ((L.take i).flatMap edF).length ∧ xs = [num i]) ⟨L.length, _, ⟨0, 2, rfl, by omega, by omega, rfl, rfl⟩, ?_⟩ ?_
      · simp only [hvm_t, hvm_f, hvm_nil, puts_cons, puts_nil, List.set_cons_zero, List.set_cons_succ, num]
        repeat first | exact Wk.nil | refine wk_ownsl ?_ | refine Wk.same ?_ | refine wk_any ?_
      · rintro n st1 xs ⟨i, k, rfl, hi1, hi2, hk, rfl⟩
        simp only [hvm_t, hvm_f, hvm_nil, puts_cons, puts_nil, List.set_cons_zero, List.set_cons_succ, num]
        rcases Nat.lt_or_ge i L.length with hlt | hge
        · have ej := eq_true (show (i : Int) < (L.length : Int) by omega)
          obtain ⟨s, hx, hd⟩ := drop_at hlt
          have hso := hs s (List.mem_of_getElem? hx)
          have heo := he s (List.mem_of_getElem? hx)
          have hed := hso.2
          have hgx := sto_at hx
          simp only [num, str, tru] at hgx
          have hw : IntKind.i64.wrap ((i : Int) + 1) = ((i + 1 : Nat) : Int) := wrap_succ (by omega)
          cases htk : s.tk
          · rw [htk] at hgx
            repeat' first|refine Spl.on (fun _=>?_) (fun _=>?_)|with_reducible refine gd ?_|simp only [go_sem, Int.reduceEq, Int.cast_ofNat_Int, Bool.false_eq_true, xblkG_exit3, List.length_map, ej, hgx, hw]
            refine cwpG_loop [false, false, false, false, false, false, true, false, false, false, false, false, false, false, false, false, false, false, false, false, false, false, false, false, false, false, false, false, false, false, false, false, false, false, false, false, true, true, true, true, true, true, true, true, true, true, true, true, true, false, false, false, false, false, false, false, false, false, false, false, false, false, false, false, false, false, false, false, false, false, false, false, false, false, false, false, false, false, false, false, false, false, false, false, false, false, false, false, false, false, false, false, false, false, false, false, false, false, false] [36] (fun n st xs => ∃ j k2 : Nat, st = some k2 ∧ j ≤ s.ed.length ∧ j + n = s.ed.length ∧ k2 = 2 + ((L.take i).flatMap edF).length + j ∧ xs = [num j]) ⟨s.ed.length, _, ⟨0, k, rfl, by omega, by omega, by omega, rfl⟩, ?_⟩ ?_
            · simp only [hvm_t, hvm_f, hvm_nil, puts_cons, puts_nil, List.set_cons_zero, List.set_cons_succ, num]
              repeat first | exact Wk.nil | refine wk_ownsl ?_ | refine Wk.same ?_ | refine wk_any ?_
            · rintro n2 st2 xs ⟨j, k2, rfl, hj1, hj2, hk2, rfl⟩
              simp only [hvm_t, hvm_f, hvm_nil, puts_cons, puts_nil, List.set_cons_zero, List.set_cons_succ, num]
              rcases Nat.lt_or_ge j s.ed.length with hjl | hjg
              · have hwj : IntKind.i64.wrap ((j : Int) + 1) = ((j + 1 : Nat) : Int) := wrap_succ (by omega)
                have ek := eq_true (show (j : Int) < (s.ed.length : Int) by omega)
                obtain ⟨e, hjx, hjd⟩ := drop_at hjl
                obtain ⟨l, c1, c2, c3, c4, rfl⟩ := heo e (List.mem_of_getElem? hjx)
                have hge : s.ed.getD j .any = .agg [str l, c1, c2, c3, c4] := by simp [hjx]
                simp only [str] at hge
                have hyk := ad_ed (fm_at hx (edF_at htk hjx))
                rw [← Nat.add_assoc, ← hk2] at hyk
                repeat' first|refine Spl.on (fun _=>?_) (fun _=>?_)|with_reducible refine gd ?_|simp only [go_sem, Int.reduceEq, Int.cast_ofNat_Int, Bool.false_eq_true, xblkG_exit3, List.length_map, ek, hge, hwj, hw]
                refine yc_mk ⟨_, hyk, rfl⟩ ?_ ?_
                · repeat' first|refine Spl.on (fun _=>?_) (fun _=>?_)|with_reducible refine gd ?_|simp only [go_sem, Int.reduceEq, Int.cast_ofNat_Int, Bool.false_eq_true, xblkG_exit3, List.length_map, ek, hge, hwj, hw]
                  refine lendG_mk (n2 - 1) [num ((j + 1 : Nat) : Int)] (by omega) ⟨j + 1, k2 + 1, rfl, by omega, by omega, by omega, rfl⟩ ?_
                  simp only [hvm_t, hvm_f, hvm_nil, puts_cons, puts_nil, List.set_cons_zero, List.set_cons_succ, num]
                  repeat first | exact Wk.nil | refine wk_ownsl ?_ | refine Wk.same ?_ | refine wk_any ?_
                · repeat' first|refine Spl.on (fun _=>?_) (fun _=>?_)|with_reducible refine gd ?_|simp only [go_sem, Int.reduceEq, Int.cast_ofNat_Int, Bool.false_eq_true, xblkG_exit3, List.length_map, ek, hge, hwj, hw]
                  all_goals first | exact .inr rfl | exact .inr trivial
              · have ek := eq_false (show ¬ (j : Int) < (s.ed.length : Int) by omega)
                repeat' first|refine Spl.on (fun _=>?_) (fun _=>?_)|with_reducible refine gd ?_|simp only [go_sem, Int.reduceEq, Int.cast_ofNat_Int, Bool.false_eq_true, xblkG_exit3, List.length_map, ek, hw]
                refine lendG_mk (n - 1) [num ((i + 1 : Nat) : Int)] (by omega) ⟨i + 1, k2, rfl, by omega, by omega, by rw [fm_take hx, edF_len htk]; omega, rfl⟩ ?_
                simp only [hvm_t, hvm_f, hvm_nil, puts_cons, puts_nil, List.set_cons_zero, List.set_cons_succ, num]
                repeat first | exact Wk.nil | refine wk_ownsl ?_ | refine Wk.same ?_ | refine wk_any ?_
          · rw [htk] at hgx
            repeat' first|refine Spl.on (fun _=>?_) (fun _=>?_)|with_reducible refine gd ?_|simp only [go_sem, Int.reduceEq, Int.cast_ofNat_Int, Bool.false_eq_true, xblkG_exit3, List.length_map, ej, hgx, hw]
            refine lendG_mk (n - 1) [num ((i + 1 : Nat) : Int)] (by omega) ⟨i + 1, k, rfl, by omega, by omega, by rw [fm_take hx, edF, if_pos htk]; simp only [List.length_nil]; omega, rfl⟩ ?_
            simp only [hvm_t, hvm_f, hvm_nil, puts_cons, puts_nil, List.set_cons_zero, List.set_cons_succ, num]
            repeat first | exact Wk.nil | refine wk_ownsl ?_ | refine Wk.same ?_ | refine wk_any ?_
        · have ej := eq_false (show ¬ (i : Int) < (L.length : Int) by omega)
          rw [List.take_of_length_le hge] at hk
          repeat' first|refine Spl.on (fun _=>?_) (fun _=>?_)|with_reducible refine gd ?_|simp only [go_sem, Int.reduceEq, Int.cast_ofNat_Int, Bool.false_eq_true, xblkG_exit3, List.length_map, ej]
          refine ((topics23 L tm hl hs ht).wk ?_).mono ?_
          · try simp only [num, str]
            repeat first | exact Wk.nil | exact Wk.refl _ | refine wk_agg ?_ ?_ | refine wk_ownsl ?_ | refine wk_nilsl ?_ | refine Wk.same ?_
          rintro r rfl
          try simp only [tru, num, str]
          repeat' first|refine Spl.on (fun _=>?_) (fun _=>?_)|with_reducible refine gd ?_|simp only [go_sem, Int.reduceEq, Int.cast_ofNat_Int, Bool.false_eq_true, xblkG_exit3, List.length_map, ej]
          refine cwpG_loop [false, false, false, false, false, false, false, false, true, true, true, true, false, false, false, false, false, false, false, false, false, false, false, false, false, false, false, false, false, false, false, false, false, false, false, false, false, false, false, false, false, false, false, false, false, false, false, false, false, false, false, true, false, true, true, true, true, true, true, true, true, true, true, true, true, true, true, true, true, true, true, true, true, true, true, true, true, true, true, true, true, true, true, true, true, true, false, false, false, false, false, false, false, false, false, false, false, false, false] [51, 53] (fun n st xs => ∃ i k : Nat, st = some k ∧ i ≤ (topR L).length ∧ i + n = (topR L).length ∧ k = 2 + (L.flatMap edF).length + (((topR L).take i).flatMap (tpF L)).length ∧ xs = [.sl 1 ((topR L).map str), num i]) ⟨(topR L).length, _, ⟨0, k, rfl, by omega, by omega, by simp only [List.take_zero, List.flatMap_nil, List.length_nil]; omega, rfl⟩, ?_⟩ ?_
          · simp only [hvm_t, hvm_f, hvm_nil, puts_cons, puts_nil, List.set_cons_zero, List.set_cons_succ, num]
            repeat first | exact Wk.nil | refine wk_ownsl ?_ | refine Wk.same ?_ | refine wk_any ?_
          · rintro n st3 xs ⟨i, k, rfl, hi1, hi2, hk, rfl⟩
            simp only [hvm_t, hvm_f, hvm_nil, puts_cons, puts_nil, List.set_cons_zero, List.set_cons_succ, num]
            rcases Nat.lt_or_ge i (topR L).length with hlt | hge
            · have ej := eq_true (show (i : Int) < ((topR L).length : Int) by omega)
              obtain ⟨t, hx, hd⟩ := drop_at hlt
              have hgx := strs_at hx
              have hw : IntKind.i64.wrap ((i : Int) + 1) = ((i + 1 : Nat) : Int) := wrap_succ (by omega)
              repeat' first|refine Spl.on (fun _=>?_) (fun _=>?_)|with_reducible refine gd ?_|simp only [go_sem, Int.reduceEq, Int.cast_ofNat_Int, Bool.false_eq_true, xblkG_exit3, List.length_map, ej, hgx, hw]
              refine ((isName_33 ndZ t).wk ?_).mono ?_
              · try simp only [num, str]
                repeat first | exact Wk.nil | exact Wk.refl _ | refine wk_agg ?_ ?_ | refine wk_ownsl ?_ | refine wk_nilsl ?_ | refine Wk.same ?_
              rintro r rfl
              simp only [tru]
              cases hnm : nameL t
              · repeat' first|refine Spl.on (fun _=>?_) (fun _=>?_)|with_reducible refine gd ?_|simp only [go_sem, Int.reduceEq, Int.cast_ofNat_Int, Bool.false_eq_true, xblkG_exit3, List.length_map, ej, hgx, hw]
                refine lendG_mk (n - 1) [.sl 1 ((topR L).map str), num ((i + 1 : Nat) : Int)] (by omega) ⟨i + 1, k, rfl, by omega, by omega, by rw [fm_take hx, tpF_no hnm]; simp only [List.length_nil]; omega, rfl⟩ ?_
                simp only [hvm_t, hvm_f, hvm_nil, puts_cons, puts_nil, List.set_cons_zero, List.set_cons_succ, num]
                repeat first | exact Wk.nil | refine wk_ownsl ?_ | refine Wk.same ?_ | refine wk_any ?_
              · have hyk := ad_tp (fm_at hx (tpF_at0 (L := L) hnm))
                rw [Nat.add_zero, ← hk] at hyk
                repeat' first|refine Spl.on (fun _=>?_) (fun _=>?_)|with_reducible refine gd ?_|simp only [go_sem, Int.reduceEq, Int.cast_ofNat_Int, Bool.false_eq_true, xblkG_exit3, List.length_map, ej, hgx, hw]
                refine yc_mk ⟨_, hyk, rfl⟩ ?_ ?_
                · repeat' first|refine Spl.on (fun _=>?_) (fun _=>?_)|with_reducible refine gd ?_|simp only [go_sem, Int.reduceEq, Int.cast_ofNat_Int, Bool.false_eq_true, xblkG_exit3, List.length_map, ej, hgx, hw]
                  refine ((page20 L tm t 1 ⟨by omega, by omega⟩ (by omega) hs).wk ?_).mono ?_
                  · try simp only [num, str]
                    repeat first | exact Wk.nil | exact Wk.refl _ | refine wk_agg ?_ ?_ | refine wk_ownsl ?_ | refine wk_nilsl ?_ | refine Wk.same ?_
                  rintro r rfl
                  try simp only [tru, num, str]
                  repeat' first|refine Spl.on (fun _=>?_) (fun _=>?_)|with_reducible refine gd ?_|simp only [go_sem, Int.reduceEq, Int.cast_ofNat_Int, Bool.false_eq_true, xblkG_exit3, List.length_map, ej, hgx, hw]
                  refine cwpG_loop [false, false, false, false, false, false, false, false, false, false, false, true, false, false, false, false, false, false, false, false, false, false, false, false, false, false, false, false, false, false, false, false, false, false, false, false, false, false, false, false, false, false, false, false, false, false, false, false, false, false, false, false, false, false, false, false, false, false, false, false, false, false, false, false, false, false, false, false, false, false, false, true, true, true, true, true, true, true, true, true, true, true, true, true, true, false, false, false, false, false, false, false, false, false, false, false, false, false, false] [11] (fun n st xs => ∃ p k4 : Nat, st = some k4 ∧ p ≤ 64 ∧ p ≤ pgN L t ∧ p + n = 65 ∧ k4 = 2 + (L.flatMap edF).length + (((topR L).take i).flatMap (tpF L)).length + 1 + p ∧ xs = [num ((p + 1 : Nat) : Int)]) ⟨65, _, ⟨0, k + 1, rfl, by omega, by omega, by omega, by omega, rfl⟩, ?_⟩ ?_
                  · simp only [hvm_t, hvm_f, hvm_nil, puts_cons, puts_nil, List.set_cons_zero, List.set_cons_succ, num]
                    repeat first | exact Wk.nil | refine wk_ownsl ?_ | refine Wk.same ?_ | refine wk_any ?_
                  · rintro n4 st4 xs ⟨p, k4, rfl, hp1, hp2, hpn, hk4, rfl⟩
                    simp only [hvm_t, hvm_f, hvm_nil, puts_cons, puts_nil, List.set_cons_zero, List.set_cons_succ, num]
                    have hwp : IntKind.i64.wrap (((p + 1 : Nat) : Int) + 1) = ((p + 1 + 1 : Nat) : Int) := wrap_succ (by omega)
                    rcases Nat.lt_or_ge p (pgN L t) with hpl | hpg
                    · have hpl' : p < ((newL t L).length + 4) / 5 := hpl
                      have ep := eq_true (show ((p + 1 : Nat) : Int) ≤ ((((newL t L).length + 4) / 5 : Nat) : Int) by omega)
                      repeat' first|refine Spl.on (fun _=>?_) (fun _=>?_)|with_reducible refine gd ?_|simp only [go_sem, Int.reduceEq, Int.cast_ofNat_Int, Bool.false_eq_true, xblkG_exit3, List.length_map, ep, hwp, hw]
                      refine ((isNumber32 ((p + 1 : Nat) : Int)).wk ?_).mono ?_
                      · try simp only [num, str]
                        repeat first | exact Wk.nil | exact Wk.refl _ | refine wk_agg ?_ ?_ | refine wk_ownsl ?_ | refine wk_nilsl ?_ | refine Wk.same ?_
                      rintro r rfl
                      rcases Nat.lt_or_ge p 64 with h64 | h64
                      · have hnb : numB ((p + 1 : Nat) : Int) = true := numB_iff.2 ⟨by omega, by omega⟩
                        simp only [tru, hnb]
                        have hyk := ad_tp (fm_at hx (tpF_at hnm hpl h64))
                        rw [show 2 + (L.flatMap edF).length + ((((topR L).take i).flatMap (tpF L)).length + (1 + p)) = k4 by omega] at hyk
                        repeat' first|refine Spl.on (fun _=>?_) (fun _=>?_)|with_reducible refine gd ?_|simp only [go_sem, Int.reduceEq, Int.cast_ofNat_Int, Bool.false_eq_true, xblkG_exit3, List.length_map, ep, hwp, hw]
                        refine yc_mk ⟨_, hyk, rfl⟩ ?_ ?_
                        · repeat' first|refine Spl.on (fun _=>?_) (fun _=>?_)|with_reducible refine gd ?_|simp only [go_sem, Int.reduceEq, Int.cast_ofNat_Int, Bool.false_eq_true, xblkG_exit3, List.length_map, ep, hwp, hw]
                          refine lendG_mk (n4 - 1) [num ((p + 1 + 1 : Nat) : Int)] (by omega) ⟨p + 1, k4 + 1, rfl, by omega, by omega, by omega, by omega, rfl⟩ ?_
                          simp only [hvm_t, hvm_f, hvm_nil, puts_cons, puts_nil, List.set_cons_zero, List.set_cons_succ, num]
                          repeat first | exact Wk.nil | refine wk_ownsl ?_ | refine Wk.same ?_ | refine wk_any ?_
                        · repeat' first|refine Spl.on (fun _=>?_) (fun _=>?_)|with_reducible refine gd ?_|simp only [go_sem, Int.reduceEq, Int.cast_ofNat_Int, Bool.false_eq_true, xblkG_exit3, List.length_map, ep, hwp, hw]
                          all_goals first | exact .inr rfl | exact .inr trivial
                      · have hnb : numB ((p + 1 : Nat) : Int) = false := by
                          cases h : numB ((p + 1 : Nat) : Int) with
                          | false => rfl
                          | true => have := numB_iff.1 h; omega
                        simp only [tru, hnb]
                        repeat' first|refine Spl.on (fun _=>?_) (fun _=>?_)|with_reducible refine gd ?_|simp only [go_sem, Int.reduceEq, Int.cast_ofNat_Int, Bool.false_eq_true, xblkG_exit3, List.length_map, ep, hwp, hw]
                        refine lendG_mk (n - 1) [.sl 1 ((topR L).map str), num ((i + 1 : Nat) : Int)] (by omega) ⟨i + 1, k4, rfl, by omega, by omega, by rw [fm_take hx, tpF_len hnm]; omega, rfl⟩ ?_
                        simp only [hvm_t, hvm_f, hvm_nil, puts_cons, puts_nil, List.set_cons_zero, List.set_cons_succ, num]
                        repeat first | exact Wk.nil | refine wk_ownsl ?_ | refine Wk.same ?_ | refine wk_any ?_
                    · have hpg' : p ≥ ((newL t L).length + 4) / 5 := hpg
                      have ep := eq_false (show ¬ ((p + 1 : Nat) : Int) ≤ ((((newL t L).length + 4) / 5 : Nat) : Int) by omega)
                      repeat' first|refine Spl.on (fun _=>?_) (fun _=>?_)|with_reducible refine gd ?_|simp only [go_sem, Int.reduceEq, Int.cast_ofNat_Int, Bool.false_eq_true, xblkG_exit3, List.length_map, ep, hwp, hw]
                      refine lendG_mk (n - 1) [.sl 1 ((topR L).map str), num ((i + 1 : Nat) : Int)] (by omega) ⟨i + 1, k4, rfl, by omega, by omega, by rw [fm_take hx, tpF_len hnm]; omega, rfl⟩ ?_
                      simp only [hvm_t, hvm_f, hvm_nil, puts_cons, puts_nil, List.set_cons_zero, List.set_cons_succ, num]
                      repeat first | exact Wk.nil | refine wk_ownsl ?_ | refine Wk.same ?_ | refine wk_any ?_
                · repeat' first|refine Spl.on (fun _=>?_) (fun _=>?_)|with_reducible refine gd ?_|simp only [go_sem, Int.reduceEq, Int.cast_ofNat_Int, Bool.false_eq_true, xblkG_exit3, List.length_map, ej, hgx, hw]
                  all_goals first | exact .inr rfl | exact .inr trivial
            · have ej := eq_false (show ¬ (i : Int) < ((topR L).length : Int) by omega)
              rw [List.take_of_length_le hge] at hk
              repeat' first|refine Spl.on (fun _=>?_) (fun _=>?_)|with_reducible refine gd ?_|simp only [go_sem, Int.reduceEq, Int.cast_ofNat_Int, Bool.false_eq_true, xblkG_exit3, List.length_map, ej]
              refine ((authors25 L tm hl hs).wk ?_).mono ?_
              · try simp only [num, str]
                repeat first | exact Wk.nil | exact Wk.refl _ | refine wk_agg ?_ ?_ | refine wk_ownsl ?_ | refine wk_nilsl ?_ | refine Wk.same ?_
              rintro r rfl
              try simp only [tru, num, str]
              repeat' first|refine Spl.on (fun _=>?_) (fun _=>?_)|with_reducible refine gd ?_|simp only [go_sem, Int.reduceEq, Int.cast_ofNat_Int, Bool.false_eq_true, xblkG_exit3, List.length_map, ej]
              refine cwpG_loop [false, false, false, false, false, false, false, false, false, false, false, false, false, true, false, false, false, false, false, false, false, false, false, false, false, false, false, false, false, false, false, false, false, false, false, false, false, false, false, false, false, false, false, false, false, false, false, false, false, false, false, false, false, false, false, false, false, false, false, false, false, false, false, false, false, false, false, false, false, false, false, false, false, false, false, false, false, false, false, false, false, false, false, false, false, false, false, true, false, true, true, true, true, true, true, true, true, true, true] [87, 89] (fun n st xs => ∃ q k5 : Nat, st = some k5 ∧ q ≤ (autR L).length ∧ q + n = (autR L).length ∧ k5 = 2 + (L.flatMap edF).length + ((topR L).flatMap (tpF L)).length + q ∧ xs = [.sl 1 ((autR L).map str), num q]) ⟨(autR L).length, _, ⟨0, k, rfl, by omega, by omega, by omega, rfl⟩, ?_⟩ ?_
              · simp only [hvm_t, hvm_f, hvm_nil, puts_cons, puts_nil, List.set_cons_zero, List.set_cons_succ, num]
                repeat first | exact Wk.nil | refine wk_ownsl ?_ | refine Wk.same ?_ | refine wk_any ?_
              · rintro n5 st5 xs ⟨q, k5, rfl, hq1, hq2, hk5, rfl⟩
                simp only [hvm_t, hvm_f, hvm_nil, puts_cons, puts_nil, List.set_cons_zero, List.set_cons_succ, num]
                rcases Nat.lt_or_ge q (autR L).length with hq | hq
                · have ej := eq_true (show (q : Int) < ((autR L).length : Int) by omega)
                  obtain ⟨u, hux, hud⟩ := drop_at hq
                  have hgx := strs_at hux
                  have hw : IntKind.i64.wrap ((q : Int) + 1) = ((q + 1 : Nat) : Int) := wrap_succ (by omega)
                  have hyk := ad_au hux
                  rw [← hk5] at hyk
                  repeat' first|refine Spl.on (fun _=>?_) (fun _=>?_)|with_reducible refine gd ?_|simp only [go_sem, Int.reduceEq, Int.cast_ofNat_Int, Bool.false_eq_true, xblkG_exit3, List.length_map, ej, hgx, hw]
                  refine yc_mk ⟨_, hyk, rfl⟩ ?_ ?_
                  · repeat' first|refine Spl.on (fun _=>?_) (fun _=>?_)|with_reducible refine gd ?_|simp only [go_sem, Int.reduceEq, Int.cast_ofNat_Int, Bool.false_eq_true, xblkG_exit3, List.length_map, ej, hgx, hw]
                    refine lendG_mk (n5 - 1) [.sl 1 ((autR L).map str), num ((q + 1 : Nat) : Int)] (by omega) ⟨q + 1, k5 + 1, rfl, by omega, by omega, by omega, rfl⟩ ?_
                    simp only [hvm_t, hvm_f, hvm_nil, puts_cons, puts_nil, List.set_cons_zero, List.set_cons_succ, num]
                    repeat first | exact Wk.nil | refine wk_ownsl ?_ | refine Wk.same ?_ | refine wk_any ?_
                  · repeat' first|refine Spl.on (fun _=>?_) (fun _=>?_)|with_reducible refine gd ?_|simp only [go_sem, Int.reduceEq, Int.cast_ofNat_Int, Bool.false_eq_true, xblkG_exit3, List.length_map, ej, hgx, hw]
                    all_goals first | exact .inr rfl | exact .inr trivial
                · have ej := eq_false (show ¬ (q : Int) < ((autR L).length : Int) by omega)
                  repeat' first|refine Spl.on (fun _=>?_) (fun _=>?_)|with_reducible refine gd ?_|simp only [go_sem, Int.reduceEq, Int.cast_ofNat_Int, Bool.false_eq_true, xblkG_exit3, List.length_map, ej]
                  refine .inl ?_
                  have : (adL L).length = 2 + ((L.flatMap edF).length + (((topR L).flatMap (tpF L)).length + (autR L).length)) := by simp only [adL, List.length_append, List.length_map, List.length_cons, List.length_nil]
                  rw [this, hk5]
                  first | omega | exact congrArg some (by omega)
    · repeat' first|refine Spl.on (fun _=>?_) (fun _=>?_)|with_reducible refine gd ?_|simp only [go_sem, Int.reduceEq, Int.cast_ofNat_Int, Bool.false_eq_true, xblkG_exit3, List.length_map]
      all_goals first | exact .inr rfl | exact .inr trivial
  · repeat' first|refine Spl.on (fun _=>?_) (fun _=>?_)|with_reducible refine gd ?_|simp only [go_sem, Int.reduceEq, Int.cast_ofNat_Int, Bool.false_eq_true, xblkG_exit3, List.length_map]
    all_goals first | exact .inr rfl | exact .inr trivial
end Go.Proofs.YtkafbgdokgfjmaaGreatDoor
namespace Go.Proofs.YtkafbgdokgfjmaaGreatDoor
open Go.RowKit Go.Proofs
set_option linter.unusedSimpArgs false
set_option linter.unusedVariables false
set_option maxRecDepth 100000
set_option maxHeartbeats 4000000

def fmF (l : List Adr) : List Str := (l.filter validL).map fmtL
def allL (L : List Sto) : List Str := dst (fmF (adL L))
theorem fmF_take {l : List Adr} {k : Nat} {a : Adr} (h : l[k]? = some a) : fmF (l.take (k + 1)) = fmF (l.take k) ++ if validL a = true then [fmtL a] else [] := by
  rw [List.take_add_one, h]
  unfold fmF
  rw [List.filter_append, List.map_append]
  congr 1
  cases hv : validL a <;> simp [hv]
theorem fmF_len (l : List Adr) : (fmF l).length ≤ l.length := by
  unfold fmF
  rw [List.length_map]
  exact List.length_filter_le _ _
theorem newF_len0 (v : Str) (s : Sto) (l : List Sto) : True := trivial
theorem pgN_le (L : List Sto) (t : Str) (h : L.length ≤ 10000) : pgN L t ≤ 10000 := by
  have := newL_len t L
  unfold pgN
  omega
theorem adr_each41 (L : List Sto) (tm : List AV) : ACalls Tryz.prog 41 [stA L tm] (fun r => r = .clo 64 [.elt (.agg [.sl 8 (L.map sto), .sl 2 tm])]) := by
  simp only [stA]
  refine calls_short [(1,[1],[])] ttok hmix Tryz.func41 (by decide) (by decide +kernel) (by simp only [Tryz.f41, Option.bind_some, comp, isLend, lendOf, lendX, lendC, lendH, Nat.reduceLeDiff, Nat.reduceSub, ne_eq, not_false_eq_true, and_self, cops, cguard, gslot, List.getElem?_toArray, List.getElem?_cons_succ, List.getElem?_cons_zero, vlook, tlook, cutAt_nil, cutAt, firstReg, isCut, mkSeq, Nat.reduceAdd, Nat.reduceEqDiff, reduceIte]; rfl) Tryz.ntmps41 Tryz.results41 ⟨_, rfl⟩ rfl ?_
  simp only [List.length_cons, List.length_nil, Nat.reduceAdd, Nat.reduceSub, List.replicate_succ, List.replicate_zero, List.cons_append, List.nil_append, num, str, tru]
  repeat' first|refine Spl.on (fun _=>?_) (fun _=>?_)|with_reducible refine gd ?_|simp only [go_sem, Int.reduceEq, Int.cast_ofNat_Int, Bool.false_eq_true, xblkG_exit3, List.length_map]
  all_goals rfl
theorem all24 (L : List Sto) (tm : List AV) (hl : L.length ≤ 10000) (hs : ∀ s ∈ L, StOk s) (ht : ∀ s ∈ L, s.tp.length ≤ 1000) (he : ∀ s ∈ L, EdOk s) (hT : (topR L).length ≤ 1000000000) (hA : (autR L).length ≤ 1000000000) (hZ : (adL L).length ≤ 10000000) :
    ACalls Tryz.prog 24 [stA L tm] (fun r => r = .own 9 1 ((allL L).map str)) := by
  simp only [stA]
  refine calls_shortG [(7,[200003],[])] [] [4,5,6,9,10,11,12,13,14,15,16,17,18,19,20] ttok hmix Tryz.func24 (by decide) (by decide +kernel) (by simp only [Tryz.f24, Option.bind_some, compG, ylook, compY, compY2, Nat.reduceMod, Nat.reduceDiv, Nat.reduceLT, comp, isLend, lendOf, lendX, lendC, lendH, Nat.reduceLeDiff, Nat.reduceSub, ne_eq, not_false_eq_true, and_self, cops, cguard, gslot, List.getElem?_toArray, List.getElem?_cons_succ, List.getElem?_cons_zero, vlook, tlook, List.take_succ_cons, List.take_zero, List.drop_succ_cons, List.drop_zero, Option.map_some, Nat.reduceEqDiff, if_true, if_false, Nat.succ_ne_self, Nat.reduceAdd, reduceIte, reduceCtorEq, Bool.false_eq_true, cutAt_nil, cutAt, firstReg, isCut, mkSeq, mkSeqG]; rfl) Tryz.ntmps24 Tryz.results24 ⟨_, rfl⟩ rfl ?_
  skip
  simp only [List.length_cons, List.length_nil, Nat.reduceAdd, Nat.reduceSub, List.replicate_succ, List.replicate_zero, List.cons_append, List.nil_append, num, str, tru]
  repeat' first|refine Spl.on (fun _=>?_) (fun _=>?_)|with_reducible refine gd ?_|simp only [go_sem, Int.reduceEq, Int.cast_ofNat_Int, Bool.false_eq_true, xblkG_exit3, List.length_map]
  refine ((adr_each41 L tm).wk ?_).mono ?_
  · simp only [stA]
    repeat first | exact Wk.nil | exact Wk.refl _ | refine wk_ownsl ?_ | refine wk_nilown ?_ | refine wk_nilmine ?_ | refine wk_nilsl ?_ | refine Wk.same ?_ | refine wk_any ?_
  rintro r rfl
  repeat' first|refine Spl.on (fun _=>?_) (fun _=>?_)|with_reducible refine gd ?_|simp only [go_sem, Int.reduceEq, Int.cast_ofNat_Int, Bool.false_eq_true, xblkG_exit3, List.length_map]
  have hi := adEach64 L tm hl hs ht he hT hA
  obtain ⟨Z, hX⟩ : ∃ Z, adL L = Z := ⟨_, rfl⟩
  have hYX : adY L = fun k args => ∃ a, Z[k]? = some a ∧ args = [adrA a] := by funext k args; simp only [adY, hX]
  unfold allL
  rw [hYX] at hi
  rw [hX] at hi hZ ⊢
  refine cwpG_range [false, false, false, true, true, true, true, false, false, true, true, true, true, true, true, true, true, true, true, true, true, false, false, false, false] [3] (fun k xs => xs = [.box 41 [.mine 9 1 ((fmF (Z.take k)).map str)]]) (Nat.le_refl 25) ?_ hi ?_ ?_ ?_
  · exact .inl rfl
  · refine ⟨_, rfl, ?_⟩
    simp only [hvm_t, hvm_f, hvm_nil, puts_cons, puts_nil, List.set_cons_zero, List.set_cons_succ, num]
    simp only [List.take_zero, fmF, List.filter_nil, List.map_nil]
    repeat first | exact Wk.nil | exact Wk.refl _ | refine Wk.box (W1.box ?_) ?_ | refine wk_agg ?_ ?_ | refine wk_ownsl ?_ | refine wk_nilown ?_ | refine wk_nilmine ?_ | refine wk_nilsl ?_ | refine Wk.same ?_ | refine wk_any ?_
  · rintro k args xs ⟨a, hk, rfl⟩ rfl
    refine ⟨rfl, rfl, ?_⟩
    have hlk : k < Z.length := (List.getElem?_eq_some_iff.1 hk).1
    have hfl := fmF_len (Z.take k)
    rw [List.length_take] at hfl
    have hsn := fmF_take hk
    obtain ⟨G, hG⟩ : ∃ G, fmF (Z.take k) = G := ⟨_, rfl⟩
    rw [hG] at hfl hsn
    rw [hG]
    simp only [adrA, num, str, tru]
    simp only [hvm_t, hvm_f, hvm_nil, puts_cons, puts_nil, List.set_cons_zero, List.set_cons_succ, num]
    repeat' first|refine Spl.on (fun _=>?_) (fun _=>?_)|with_reducible refine gd ?_|simp only [go_sem, Int.reduceEq, Int.cast_ofNat_Int, Bool.false_eq_true, xblkG_exit3, List.length_map, List.length_map]
    refine ((format14 a).wk ?_).mono ?_
    · simp only [adrA, num, str]
      repeat first | exact Wk.nil | exact Wk.refl _ | refine wk_ownsl ?_ | refine wk_nilown ?_ | refine wk_nilmine ?_ | refine wk_nilsl ?_ | refine Wk.same ?_ | refine wk_any ?_
    rintro r rfl
    cases hv : validL a
    · simp only [fmtA, hv, Bool.false_eq_true, if_false, num, str]
      repeat' first|refine Spl.on (fun _=>?_) (fun _=>?_)|with_reducible refine gd ?_|simp only [go_sem, Int.reduceEq, Int.cast_ofNat_Int, Bool.false_eq_true, xblkG_exit3, List.length_map, List.length_map]
      refine rend_mk [.box 41 [.mine 9 1 ((fmF (Z.take (k + 1))).map str)]] rfl ?_
      rw [hsn, hv]
      simp only [Bool.false_eq_true, if_false, List.append_nil]
      simp only [hvm_t, hvm_f, hvm_nil, puts_cons, puts_nil, List.set_cons_zero, List.set_cons_succ, num]
      repeat first | exact Wk.nil | exact Wk.refl _ | refine Wk.box (W1.box ?_) ?_ | refine wk_agg ?_ ?_ | refine wk_ownsl ?_ | refine wk_nilown ?_ | refine wk_nilmine ?_ | refine wk_nilsl ?_ | refine Wk.same ?_ | refine wk_any ?_
    · simp only [fmtA, hv, if_true, num, str]
      repeat' first|refine Spl.on (fun _=>?_) (fun _=>?_)|with_reducible refine gd ?_|simp only [go_sem, Int.reduceEq, Int.cast_ofNat_Int, Bool.false_eq_true, xblkG_exit3, List.length_map, List.length_map]
      refine rend_mk [.box 41 [.mine 9 1 ((fmF (Z.take (k + 1))).map str)]] rfl ?_
      rw [hsn, hv]
      simp only [if_true, List.map_append, List.map_cons, List.map_nil, str]
      simp only [hvm_t, hvm_f, hvm_nil, puts_cons, puts_nil, List.set_cons_zero, List.set_cons_succ, num]
      repeat first | exact Wk.nil | exact Wk.refl _ | refine Wk.box (W1.box ?_) ?_ | refine wk_agg ?_ ?_ | refine wk_ownsl ?_ | refine wk_nilown ?_ | refine wk_nilmine ?_ | refine wk_nilsl ?_ | refine Wk.same ?_ | refine wk_any ?_
  · rintro xs rfl
    simp only [hvm_t, hvm_f, hvm_nil, puts_cons, puts_nil, List.set_cons_zero, List.set_cons_succ, num]
    rw [List.take_length]
    have hfl := fmF_len Z
    repeat' first|refine Spl.on (fun _=>?_) (fun _=>?_)|with_reducible refine gd ?_|simp only [go_sem, Int.reduceEq, Int.cast_ofNat_Int, Bool.false_eq_true, xblkG_exit3, List.length_map]
    refine RCalls.mono (sort66 (fmF Z) (by omega)) ?_
    rintro r y ⟨rfl, rfl⟩
    repeat' first|refine Spl.on (fun _=>?_) (fun _=>?_)|with_reducible refine gd ?_|simp only [go_sem, Int.reduceEq, Int.cast_ofNat_Int, Bool.false_eq_true, xblkG_exit3, List.length_map]
    refine (compact67 _ (by rw [List.length_mergeSort]; omega)).mono ?_
    rintro r rfl
    repeat' first|refine Spl.on (fun _=>?_) (fun _=>?_)|with_reducible refine gd ?_|simp only [go_sem, Int.reduceEq, Int.cast_ofNat_Int, Bool.false_eq_true, xblkG_exit3, List.length_map]
    all_goals rfl
end Go.Proofs.YtkafbgdokgfjmaaGreatDoor
namespace Go.Proofs.YtkafbgdokgfjmaaGreatDoor
open Go.RowKit Go.Proofs
set_option linter.unusedSimpArgs false
set_option linter.unusedVariables false
set_option maxRecDepth 100000
set_option maxHeartbeats 4000000

def aftB (s p : Str) : Bool := decide (p <+: s)
def aftR (s p : Str) : Str := if aftB s p = true then s.drop p.length else []
theorem pre_iff {s p : Str} : p <+: s ↔ p.length ≤ s.length ∧ s.take p.length = p := by
  constructor
  · rintro ⟨r, rfl⟩
    simp
  · rintro ⟨h1, h2⟩
    exact ⟨s.drop p.length, by conv => lhs; rw [← h2]
                               rw [List.length_take, Nat.min_eq_left h1, List.take_append_drop]⟩
theorem after38 (s p : Str) (hs : s.length ≤ 1000000) (hp : p.length ≤ 1000) : ACalls Tryz.prog 38 [str s, str p] (fun r => r = .tup [str (aftR s p), tru (aftB s p)]) := by
  refine calls_short [] ttok hmix Tryz.func38 (by decide) (by decide +kernel) (by simp only [Tryz.f38, Option.bind_some, comp, isLend, lendOf, lendX, lendC, lendH, Nat.reduceLeDiff, Nat.reduceSub, ne_eq, not_false_eq_true, and_self, cops, cguard, gslot, List.getElem?_toArray, List.getElem?_cons_succ, List.getElem?_cons_zero, vlook, tlook, cutAt_nil, cutAt, firstReg, isCut, mkSeq, Nat.reduceAdd, Nat.reduceEqDiff, reduceIte]; rfl) Tryz.ntmps38 Tryz.results38 ⟨_, rfl⟩ rfl ?_
  simp only [List.length_cons, List.length_nil, Nat.reduceAdd, Nat.reduceSub, List.replicate_succ, List.replicate_zero, List.cons_append, List.nil_append, num, str, tru]
  by_cases h1 : s.length < p.length
  · have e1 := eq_true (show (s.length : Int) < (p.length : Int) by omega)
    have hb : aftB s p = false := decide_eq_false fun h => by have := (pre_iff.1 h).1; omega
    repeat' first|refine Spl.on (fun _=>?_) (fun _=>?_)|with_reducible refine gd ?_|simp only [go_sem, Int.reduceEq, Int.cast_ofNat_Int, Bool.false_eq_true, xblkG_exit3, List.length_map, e1]
    simp [aftR, hb, str, tru]
  · have e1 := eq_false (show ¬ (s.length : Int) < (p.length : Int) by omega)
    by_cases h2 : s.take p.length = p
    · have hb : aftB s p = true := decide_eq_true (pre_iff.2 ⟨by omega, h2⟩)
      have e2 : (s.take p.length == p) = true := by rw [h2]; simp
      have e3 : (s.drop p.length).take (s.length - p.length) = s.drop p.length := List.take_of_length_le (by simp)
      repeat' first|refine Spl.on (fun _=>?_) (fun _=>?_)|with_reducible refine gd ?_|simp only [go_sem, Int.reduceEq, Int.cast_ofNat_Int, Bool.false_eq_true, xblkG_exit3, List.length_map, e1, e2, e3, Int.toNat_natCast]
      all_goals first | omega | (simp [aftR, hb, str, tru]; done)
    · have hb : aftB s p = false := decide_eq_false fun h => h2 (pre_iff.1 h).2
      have e2 : (s.take p.length == p) = false := by
        cases h : (s.take p.length == p) with
        | false => rfl
        | true => exact absurd (beq_iff_eq.1 h) h2
      repeat' first|refine Spl.on (fun _=>?_) (fun _=>?_)|with_reducible refine gd ?_|simp only [go_sem, Int.reduceEq, Int.cast_ofNat_Int, Bool.false_eq_true, xblkG_exit3, List.length_map, e1, e2, Int.toNat_natCast]
      all_goals first | omega | (simp [aftR, hb, str, tru]; done)
def cutL : Str → Str × Str
  | [] => ([], [])
  | c :: r => if c = 47 then ([], r) else (c :: (cutL r).1, (cutL r).2)
theorem cutL_no : ∀ (p : Str), (∀ c ∈ p, c ≠ 47) → cutL p = (p, [])
  | [], _ => rfl
  | c :: p, h => by rw [cutL, if_neg (h c (by simp)), cutL_no p fun x hx => h x (by simp [hx])]
theorem cutL_at : ∀ (p r : Str), (∀ c ∈ p, c ≠ 47) → cutL (p ++ 47 :: r) = (p, r)
  | [], r, _ => by simp [cutL]
  | c :: p, r, h => by rw [List.cons_append, cutL, if_neg (h c (by simp)), cutL_at p r fun x hx => h x (by simp [hx])]
theorem cutL_len : ∀ (p : Str), (cutL p).1.length ≤ p.length ∧ (cutL p).2.length ≤ p.length
  | [] => by simp [cutL]
  | c :: p => by
    have := cutL_len p
    rw [cutL]; split <;> simp <;> omega
theorem cut39 (s : Str) (hs : s.length ≤ 1000000) : ACalls Tryz.prog 39 [str s] (fun r => r = .tup [str (cutL s).1, str (cutL s).2]) := by
  refine calls_short [] ttok hmix Tryz.func39 (by decide) (by decide +kernel) (by simp only [Tryz.f39, Option.bind_some, comp, isLend, lendOf, lendX, lendC, lendH, Nat.reduceLeDiff, Nat.reduceSub, ne_eq, not_false_eq_true, and_self, cops, cguard, gslot, List.getElem?_toArray, List.getElem?_cons_succ, List.getElem?_cons_zero, vlook, tlook, cutAt_nil, cutAt, firstReg, isCut, mkSeq, Nat.reduceAdd, Nat.reduceEqDiff, reduceIte]; rfl) Tryz.ntmps39 Tryz.results39 ⟨_, rfl⟩ rfl ?_
  simp only [List.length_cons, List.length_nil, Nat.reduceAdd, Nat.reduceSub, List.replicate_succ, List.replicate_zero, List.cons_append, List.nil_append, num, str, tru]
  simp (decide := true) only [mkd_eq [4, 0] [] [] [[0], [4], [], [0], [4], [], [], [], []], List.zip_cons_cons, List.zip_nil_left, List.zip_nil_right]
  repeat' first|refine Spl.on (fun _=>?_) (fun _=>?_)|with_reducible refine gd ?_|simp only [go_sem, Int.reduceEq, Int.cast_ofNat_Int, Bool.false_eq_true, xblkG_exit3, List.length_map]
  refine cwp_loop [false, false, true, true, true, true, true, true, true, true, true, true, true, true, true, true, true, true, true, true, true, true, false] [4] (fun n xs => ∃ j : Nat, j ≤ s.length ∧ j + n = s.length ∧ xs = [num j] ∧ ∀ c ∈ s.take j, c ≠ 47) ⟨s.length, _, ⟨0, by omega, by omega, rfl, fun c hc => by simp at hc⟩, ?_⟩ ?_
  · simp only [hvm_t, hvm_f, hvm_nil, puts_cons, puts_nil, List.set_cons_zero, List.set_cons_succ, num]
    repeat first | exact Wk.nil | refine Wk.same ?_ | refine wk_any ?_
  · rintro n xs ⟨j, hjl, hn, rfl, he⟩
    simp only [hvm_t, hvm_f, hvm_nil, puts_cons, puts_nil, List.set_cons_zero, List.set_cons_succ, num]
    rcases Nat.lt_or_ge j s.length with hlt | hge
    · have ej := eq_true (show (j : Int) < (s.length : Int) by omega)
      have hw : IntKind.i64.wrap ((j : Int) + 1) = ((j + 1 : Nat) : Int) := wrap_succ (by omega)
      have hd : s.drop j = s.getD j 0 :: s.drop (j + 1) := by rw [List.drop_eq_getElem_cons hlt]; simp [hlt]
      have htk : s.take (j + 1) = s.take j ++ [s.getD j 0] := by rw [List.take_add_one]; simp [List.getElem?_eq_getElem hlt]
      obtain ⟨c, hc⟩ : ∃ c, s.getD j 0 = c := ⟨_, rfl⟩
      rw [hc] at hd htk
      by_cases h47 : c = 47
      · have e4 := eq_true (show ((c.toNat : Nat) : Int) = 47 by rw [h47]; rfl)
        have hcut : cutL s = (s.take j, s.drop (j + 1)) := by
          conv => lhs; rw [← List.take_append_drop j s, hd, h47]
          exact cutL_at _ _ he
        have e5 : (s.drop (j + 1)).take (s.length - (j + 1)) = s.drop (j + 1) := List.take_of_length_le (by simp)
        repeat' first|refine Spl.on (fun _=>?_) (fun _=>?_)|with_reducible refine gd ?_|simp only [go_sem, Int.reduceEq, Int.cast_ofNat_Int, Bool.false_eq_true, xblkG_exit3, List.length_map, ej, hw, hc, e4, e5, Int.toNat_natCast]
        all_goals first | omega | (rw [hcut]; rfl) | (simp [hcut, str]; done)
      · have hex : ∀ x ∈ s.take (j + 1), x ≠ 47 := by
          intro x hx
          rw [htk, List.mem_append, List.mem_singleton] at hx
          rcases hx with hx | rfl
          · exact he x hx
          · exact h47
        have e4 := eq_false (show ¬ ((c.toNat : Nat) : Int) = 47 by intro h; exact h47 (UInt8.toNat_inj.1 (by show c.toNat = 47; omega)))
        repeat' first|refine Spl.on (fun _=>?_) (fun _=>?_)|with_reducible refine gd ?_|simp only [go_sem, Int.reduceEq, Int.cast_ofNat_Int, Bool.false_eq_true, xblkG_exit3, List.length_map, ej, hw, hc, e4, Int.toNat_natCast]
        all_goals first
          | (refine lend_mk (n - 1) [num ((j + 1 : Nat) : Int)] (by omega) ⟨j + 1, by omega, by omega, rfl, hex⟩ ?_
             simp only [hvm_t, hvm_f, hvm_nil, puts_cons, puts_nil, List.set_cons_zero, List.set_cons_succ, num]
             repeat first | exact Wk.nil | refine Wk.same ?_ | refine wk_any ?_)
          | omega
    · have ej := eq_false (show ¬ (j : Int) < (s.length : Int) by omega)
      rw [List.take_of_length_le hge] at he
      have hcut := cutL_no s he
      repeat' first|refine Spl.on (fun _=>?_) (fun _=>?_)|with_reducible refine gd ?_|simp only [go_sem, Int.reduceEq, Int.cast_ofNat_Int, Bool.false_eq_true, xblkG_exit3, List.length_map, ej]
      all_goals first | (rw [hcut]; rfl) | (simp [hcut, str]; done)
def numL (s : Str) : Int := match (List.range 64).find? (fun i => decide (dec ((i : Nat) + 1 : Int) = s)) with
  | some i => (i : Int) + 1
  | none => 0
theorem numL_hit {s : Str} {j : Nat} (hj : j < 64) (h : dec ((j : Int) + 1) = s) (h2 : ∀ i, i < j → dec ((i : Int) + 1) ≠ s) : numL s = (j : Int) + 1 := by
  have : (List.range 64).find? (fun i => decide (dec ((i : Nat) + 1 : Int) = s)) = some j := by
    rw [List.find?_range_eq_some]
    exact ⟨decide_eq_true h, List.mem_range.2 hj, fun i hi => by simpa using h2 i hi⟩
  unfold numL
  rw [this]
theorem numL_none {s : Str} (h2 : ∀ i : Nat, i < 64 → dec ((i : Int) + 1) ≠ s) : numL s = 0 := by
  have : (List.range 64).find? (fun i => decide (dec ((i : Nat) + 1 : Int) = s)) = none := by
    rw [List.find?_eq_none]
    intro i hi
    simpa using h2 i (List.mem_range.1 hi)
  unfold numL
  rw [this]
theorem dec_inj' {n m : Int} (h1 : 0 ≤ n) (h2 : n < 100) (h3 : 0 ≤ m) (h4 : m < 100) (h : dec n = dec m) : n = m := by
  rw [dec_eq h1 h2, dec_eq h3 h4] at h
  have := dec_inj ⟨n.toNat, by omega⟩ ⟨m.toNat, by omega⟩ h
  have := congrArg Fin.val this
  simp only at this
  omega
theorem numL_dec {n : Int} (h1 : 1 ≤ n) (h2 : n ≤ 64) : numL (dec n) = n := by
  obtain ⟨k, rfl⟩ := Int.eq_ofNat_of_zero_le (show 0 ≤ n by omega)
  have := numL_hit (s := dec (k : Int)) (j := k - 1) (by omega) (by congr 1; omega) (fun i hi h => by have := dec_inj' (by omega) (by omega) (by omega) (by omega) h; omega)
  omega
theorem number40 (s : Str) (hs : s.length ≤ 1000000) : ACalls Tryz.prog 40 [str s] (fun r => r = num (numL s)) := by
  refine calls_short [] ttok hmix Tryz.func40 (by decide) (by decide +kernel) (by simp only [Tryz.f40, Option.bind_some, comp, isLend, lendOf, lendX, lendC, lendH, Nat.reduceLeDiff, Nat.reduceSub, ne_eq, not_false_eq_true, and_self, cops, cguard, gslot, List.getElem?_toArray, List.getElem?_cons_succ, List.getElem?_cons_zero, vlook, tlook, cutAt_nil, cutAt, firstReg, isCut, mkSeq, Nat.reduceAdd, Nat.reduceEqDiff, reduceIte]; rfl) Tryz.ntmps40 Tryz.results40 ⟨_, rfl⟩ rfl ?_
  simp only [List.length_cons, List.length_nil, Nat.reduceAdd, Nat.reduceSub, List.replicate_succ, List.replicate_zero, List.cons_append, List.nil_append, num, str, tru]
  repeat' first|refine Spl.on (fun _=>?_) (fun _=>?_)|with_reducible refine gd ?_|simp only [go_sem, Int.reduceEq, Int.cast_ofNat_Int, Bool.false_eq_true, xblkG_exit3, List.length_map]
  refine cwp_loop [false, false, true, true, true, true, true, true, true, true, true, true, true] [3] (fun n xs => ∃ j : Nat, j ≤ 64 ∧ j + n = 64 ∧ xs = [num ((j + 1 : Nat) : Int)] ∧ ∀ i : Nat, i < j → dec ((i : Int) + 1) ≠ s) ⟨64, _, ⟨0, by omega, by omega, rfl, fun i hi => absurd hi (by omega)⟩, ?_⟩ ?_
  · simp only [hvm_t, hvm_f, hvm_nil, puts_cons, puts_nil, List.set_cons_zero, List.set_cons_succ, num]
    repeat first | exact Wk.nil | refine Wk.same ?_ | refine wk_any ?_
  · rintro n xs ⟨j, hjl, hn, rfl, he⟩
    simp only [hvm_t, hvm_f, hvm_nil, puts_cons, puts_nil, List.set_cons_zero, List.set_cons_succ, num]
    rcases Nat.lt_or_ge j 64 with hlt | hge
    · have ej := eq_true (show ((j + 1 : Nat) : Int) ≤ 64 by omega)
      have hw : IntKind.i64.wrap (((j + 1 : Nat) : Int) + 1) = ((j + 1 + 1 : Nat) : Int) := wrap_succ (by omega)
      by_cases hd : dec ((j : Int) + 1) = s
      · have e4 : (dec ((j + 1 : Nat) : Int) == s) = true := by rw [show ((j + 1 : Nat) : Int) = (j : Int) + 1 by omega, hd]; simp
        have hnl := numL_hit hlt hd he
        repeat' first|refine Spl.on (fun _=>?_) (fun _=>?_)|with_reducible refine gd ?_|simp only [go_sem, Int.reduceEq, Int.cast_ofNat_Int, Bool.false_eq_true, xblkG_exit3, List.length_map, ej, hw]
        refine ((digits31 ((j + 1 : Nat) : Int) (by omega) (by omega)).wk ?_).mono ?_
        · try simp only [num, str]
          repeat first | exact Wk.nil | exact Wk.refl _ | refine wk_agg ?_ ?_ | refine wk_ownsl ?_ | refine wk_nilsl ?_ | refine Wk.same ?_
        rintro r rfl
        try simp only [tru, num, str]
        repeat' first|refine Spl.on (fun _=>?_) (fun _=>?_)|with_reducible refine gd ?_|simp only [go_sem, Int.reduceEq, Int.cast_ofNat_Int, Bool.false_eq_true, xblkG_exit3, List.length_map, ej, hw, e4]
        all_goals first | (rw [hnl]; rfl) | (simp [hnl, num]; done)
      · have e4 : (dec ((j + 1 : Nat) : Int) == s) = false := by
          cases h : (dec ((j + 1 : Nat) : Int) == s) with
          | false => rfl
          | true => exact absurd (by rw [show (j : Int) + 1 = ((j + 1 : Nat) : Int) by omega]; exact beq_iff_eq.1 h) hd
        repeat' first|refine Spl.on (fun _=>?_) (fun _=>?_)|with_reducible refine gd ?_|simp only [go_sem, Int.reduceEq, Int.cast_ofNat_Int, Bool.false_eq_true, xblkG_exit3, List.length_map, ej, hw]
        refine ((digits31 ((j + 1 : Nat) : Int) (by omega) (by omega)).wk ?_).mono ?_
        · try simp only [num, str]
          repeat first | exact Wk.nil | exact Wk.refl _ | refine wk_agg ?_ ?_ | refine wk_ownsl ?_ | refine wk_nilsl ?_ | refine Wk.same ?_
        rintro r rfl
        try simp only [tru, num, str]
        repeat' first|refine Spl.on (fun _=>?_) (fun _=>?_)|with_reducible refine gd ?_|simp only [go_sem, Int.reduceEq, Int.cast_ofNat_Int, Bool.false_eq_true, xblkG_exit3, List.length_map, ej, hw, e4]
        refine lend_mk (n - 1) [num ((j + 1 + 1 : Nat) : Int)] (by omega) ⟨j + 1, by omega, by omega, rfl, fun i hi => ?_⟩ ?_
        · rcases (show i < j ∨ i = j by omega) with h | rfl
          · exact he i h
          · exact hd
        · simp only [hvm_t, hvm_f, hvm_nil, puts_cons, puts_nil, List.set_cons_zero, List.set_cons_succ, num]
          repeat first | exact Wk.nil | refine Wk.same ?_ | refine wk_any ?_
    · have ej := eq_false (show ¬ ((j + 1 : Nat) : Int) ≤ 64 by omega)
      obtain rfl : j = 64 := by omega
      have hnl := numL_none he
      have e65 := eq_false (show ¬ (65 : Int) ≤ 64 by omega)
      repeat' first|refine Spl.on (fun _=>?_) (fun _=>?_)|with_reducible refine gd ?_|simp only [go_sem, Int.reduceEq, Int.cast_ofNat_Int, Bool.false_eq_true, xblkG_exit3, List.length_map, e65, Int.reduceLE]
      all_goals first | (rw [hnl]; rfl) | (simp [hnl, num]; done)
end Go.Proofs.YtkafbgdokgfjmaaGreatDoor
namespace Go.Proofs.YtkafbgdokgfjmaaGreatDoor
open Go.RowKit Go.Proofs
set_option linter.unusedSimpArgs false
set_option linter.unusedVariables false
set_option maxRecDepth 100000
set_option maxHeartbeats 4000000
def pS : Str := [47, 115, 116, 111, 114, 121, 47]
def pT : Str := [47, 116, 111, 112, 105, 99, 47]
def pA : Str := [47, 97, 117, 116, 104, 111, 114, 47]
def pF : Str := [47, 102, 101, 101, 100, 47]

def rcand (s : Str) : Adr :=
  if aftB s pF = true then ⟨5, aftR s pF, 0, []⟩
  else if aftB s pA = true then ⟨4, aftR s pA, 0, []⟩
  else if aftB s pT = true then ⟨3, (cutL (aftR s pT)).1, numL (cutL (aftR s pT)).2, []⟩
  else if aftB s pS = true then ⟨2, [], numL (cutL (aftR s pS)).1, (cutL (aftR s pS)).2⟩
  else if s = 47 :: wMap then ⟨6, [], 0, []⟩
  else ⟨1, [], 0, []⟩
theorem aft_excl {s p q : Str} (h : aftB s p = true) (hpq : ¬ p <+: q ∧ ¬ q <+: p) : aftB s q = false := by
  refine decide_eq_false fun h2 => ?_
  have h1 : p <+: s := of_decide_eq_true h
  rcases Nat.le_total p.length q.length with hl | hl
  · exact hpq.1 (List.prefix_of_prefix_length_le h1 h2 hl)
  · exact hpq.2 (List.prefix_of_prefix_length_le h2 h1 hl)
theorem aft_app (p r : Str) : aftB (p ++ r) p = true ∧ aftR (p ++ r) p = r := by
  have : aftB (p ++ r) p = true := decide_eq_true ⟨r, rfl⟩
  exact ⟨this, by rw [aftR, if_pos this]; simp⟩
theorem aftR_len (s p : Str) : (aftR s p).length ≤ s.length := by
  unfold aftR
  split
  · rw [List.length_drop]; omega
  · exact Nat.zero_le _
theorem exST : ¬ pS <+: pT ∧ ¬ pT <+: pS := by decide
theorem exSA : ¬ pS <+: pA ∧ ¬ pA <+: pS := by decide
theorem exSF : ¬ pS <+: pF ∧ ¬ pF <+: pS := by decide
theorem exSM : ¬ pS <+: (47 :: wMap) ∧ ¬ (47 :: wMap) <+: pS := by decide
theorem exTS : ¬ pT <+: pS ∧ ¬ pS <+: pT := by decide
theorem exTA : ¬ pT <+: pA ∧ ¬ pA <+: pT := by decide
theorem exTF : ¬ pT <+: pF ∧ ¬ pF <+: pT := by decide
theorem exTM : ¬ pT <+: (47 :: wMap) ∧ ¬ (47 :: wMap) <+: pT := by decide
theorem exAS : ¬ pA <+: pS ∧ ¬ pS <+: pA := by decide
theorem exAT : ¬ pA <+: pT ∧ ¬ pT <+: pA := by decide
theorem exAF : ¬ pA <+: pF ∧ ¬ pF <+: pA := by decide
theorem exAM : ¬ pA <+: (47 :: wMap) ∧ ¬ (47 :: wMap) <+: pA := by decide
theorem exFS : ¬ pF <+: pS ∧ ¬ pS <+: pF := by decide
theorem exFT : ¬ pF <+: pT ∧ ¬ pT <+: pF := by decide
theorem exFA : ¬ pF <+: pA ∧ ¬ pA <+: pF := by decide
theorem exFM : ¬ pF <+: (47 :: wMap) ∧ ¬ (47 :: wMap) <+: pF := by decide
theorem rcand_fmt (a : Adr) (h : validL a = true) : rcand (fmtL a) = a := by
  rcases valid_cases h with (rfl | rfl) | ⟨n, l, rfl, h1, h2, h3⟩ | ⟨n, l, rfl, h1, h2, h3⟩ | ⟨l, rfl, h3⟩ | ⟨l, rfl, h3⟩
  · have e : fmtL ⟨1, [], 0, []⟩ = [47] := by decide +kernel
    rw [e, rcand, if_neg (by decide), if_neg (by decide), if_neg (by decide), if_neg (by decide), if_neg (by decide)]
  · have e : fmtL ⟨6, [], 0, []⟩ = 47 :: wMap := by decide +kernel
    rw [e, rcand, if_neg (by decide), if_neg (by decide), if_neg (by decide), if_neg (by decide), if_pos rfl]
  · have e : fmtL ⟨2, [], n, l⟩ = pS ++ (dec n ++ 47 :: l) := by
      show 47 :: Lib.join [wStory, dec n, l] [47] = _
      rw [join_two, join_two, Lib.join_one]; rfl
    obtain ⟨g1, g2⟩ := aft_app pS (dec n ++ 47 :: l)
    rw [e, rcand, aft_excl g1 exSF, aft_excl g1 exSA, aft_excl g1 exST, if_neg (by decide), if_neg (by decide), if_neg (by decide), if_pos g1, g2, cutL_at _ _ (dec_no (by omega) (by omega)), numL_dec h1 h2]
  · have e : fmtL ⟨3, l, n, []⟩ = pT ++ (l ++ 47 :: dec n) := by
      show 47 :: Lib.join [wTopic, l, dec n] [47] = _
      rw [join_two, join_two, Lib.join_one]; rfl
    obtain ⟨g1, g2⟩ := aft_app pT (l ++ 47 :: dec n)
    rw [e, rcand, aft_excl g1 exTF, aft_excl g1 exTA, if_neg (by decide), if_neg (by decide), if_pos g1, g2, cutL_at _ _ (name_no h3), numL_dec h1 h2]
  · have e : fmtL ⟨4, l, 0, []⟩ = pA ++ l := by
      show 47 :: Lib.join [wBy, l] [47] = _
      rw [join_two, Lib.join_one]; rfl
    obtain ⟨g1, g2⟩ := aft_app pA l
    rw [e, rcand, aft_excl g1 exAF, if_neg (by decide), if_pos g1, g2]
  · have e : fmtL ⟨5, l, 0, []⟩ = pF ++ l := by
      show 47 :: Lib.join [wFeed, l] [47] = _
      rw [join_two, Lib.join_one]; rfl
    obtain ⟨g1, g2⟩ := aft_app pF l
    rw [e, rcand, if_pos g1, g2]
theorem rparse21 (s : Str) (hs : s.length ≤ 1000000) : ACalls Tryz.prog 21 [str s] (fun r => r = parseA (parseL s)) := by
  refine calls_short [] ttok hmix Tryz.func21 (by decide) (by decide +kernel) (by simp only [Tryz.f21, Option.bind_some, comp, isLend, lendOf, lendX, lendC, lendH, Nat.reduceLeDiff, Nat.reduceSub, ne_eq, not_false_eq_true, and_self, cops, cguard, gslot, List.getElem?_toArray, List.getElem?_cons_succ, List.getElem?_cons_zero, vlook, tlook, cutAt_nil, cutAt, firstReg, isCut, mkSeq, Nat.reduceAdd, Nat.reduceEqDiff, reduceIte]; rfl) Tryz.ntmps21 Tryz.results21 ⟨_, rfl⟩ rfl ?_
  simp only [List.length_cons, List.length_nil, Nat.reduceAdd, Nat.reduceSub, List.replicate_succ, List.replicate_zero, List.cons_append, List.nil_append, num, str, tru]
  cases bF : aftB s pF
  · cases bA : aftB s pA
    · cases bT : aftB s pT
      · cases bS : aftB s pS
        · by_cases hm : s = 47 :: wMap
          · have e1 : (s == [47, 109, 97, 112]) = true := by rw [hm]; rfl
            have hcand : rcand s = ⟨6, [], 0, []⟩ := by rw [rcand, bF, if_neg (by decide), bA, if_neg (by decide), bT, if_neg (by decide), bS, if_neg (by decide), if_pos hm]
            have hn1 : (([] : Str)).length ≤ 1000000000 := by first | omega | simp
            have hn2 : (([] : Str)).length ≤ 1000000000 := by first | omega | simp
            repeat' first|refine Spl.on (fun _=>?_) (fun _=>?_)|with_reducible refine gd ?_|simp only [go_sem, Int.reduceEq, Int.cast_ofNat_Int, Bool.false_eq_true, xblkG_exit3, List.length_map, e1, bS, bT, bA, bF]
            refine ((after38 s pS hs (by decide)).wk ?_).mono ?_
            · simp only [str, pS]
              repeat first | exact Wk.nil | exact Wk.refl _ | refine wk_agg ?_ ?_ | refine wk_ownsl ?_ | refine wk_nilsl ?_ | refine Wk.same ?_
            rintro r rfl
            try simp only [tru, num, str]
            repeat' first|refine Spl.on (fun _=>?_) (fun _=>?_)|with_reducible refine gd ?_|simp only [go_sem, Int.reduceEq, Int.cast_ofNat_Int, Bool.false_eq_true, xblkG_exit3, List.length_map, e1, bS, bT, bA, bF]
            refine ((after38 s pT hs (by decide)).wk ?_).mono ?_
            · simp only [str, pT]
              repeat first | exact Wk.nil | exact Wk.refl _ | refine wk_agg ?_ ?_ | refine wk_ownsl ?_ | refine wk_nilsl ?_ | refine Wk.same ?_
            rintro r rfl
            try simp only [tru, num, str]
            repeat' first|refine Spl.on (fun _=>?_) (fun _=>?_)|with_reducible refine gd ?_|simp only [go_sem, Int.reduceEq, Int.cast_ofNat_Int, Bool.false_eq_true, xblkG_exit3, List.length_map, e1, bS, bT, bA, bF]
            refine ((after38 s pA hs (by decide)).wk ?_).mono ?_
            · simp only [str, pA]
              repeat first | exact Wk.nil | exact Wk.refl _ | refine wk_agg ?_ ?_ | refine wk_ownsl ?_ | refine wk_nilsl ?_ | refine Wk.same ?_
            rintro r rfl
            try simp only [tru, num, str]
            repeat' first|refine Spl.on (fun _=>?_) (fun _=>?_)|with_reducible refine gd ?_|simp only [go_sem, Int.reduceEq, Int.cast_ofNat_Int, Bool.false_eq_true, xblkG_exit3, List.length_map, e1, bS, bT, bA, bF]
            refine ((after38 s pF hs (by decide)).wk ?_).mono ?_
            · simp only [str, pF]
              repeat first | exact Wk.nil | exact Wk.refl _ | refine wk_agg ?_ ?_ | refine wk_ownsl ?_ | refine wk_nilsl ?_ | refine Wk.same ?_
            rintro r rfl
            try simp only [tru, num, str]
            repeat' first|refine Spl.on (fun _=>?_) (fun _=>?_)|with_reducible refine gd ?_|simp only [go_sem, Int.reduceEq, Int.cast_ofNat_Int, Bool.false_eq_true, xblkG_exit3, List.length_map, e1, bS, bT, bA, bF]
            refine ((rformat15 ⟨6, [], 0, []⟩ hn1 hn2).wk ?_).mono ?_
            · try simp only [adrA, num, str]
              repeat first | exact Wk.nil | exact Wk.refl _ | refine wk_agg ?_ ?_ | refine wk_ownsl ?_ | refine wk_nilsl ?_ | refine Wk.same ?_
            rintro r rfl
            try simp only [tru, num, str]
            repeat' first|refine Spl.on (fun _=>?_) (fun _=>?_)|with_reducible refine gd ?_|simp only [go_sem, Int.reduceEq, Int.cast_ofNat_Int, Bool.false_eq_true, xblkG_exit3, List.length_map, e1, bS, bT, bA, bF]
            rw [← parse_by rcand_fmt s, hcand]
            cases hv : validL ⟨6, [], 0, []⟩
            · simp only [fmtA, hv, Bool.false_eq_true, if_false, false_and, num, str]
              repeat' first|refine Spl.on (fun _=>?_) (fun _=>?_)|with_reducible refine gd ?_|simp only [go_sem, Int.reduceEq, Int.cast_ofNat_Int, Bool.false_eq_true, xblkG_exit3, List.length_map, e1, bS, bT, bA, bF]
              all_goals first | rfl | (simp [parseA, adrA, adr0, num, str]; done)
            · by_cases hf : fmtL ⟨6, [], 0, []⟩ = s
              · simp only [fmtA, hv, hf, if_true, and_self, num, str]
                repeat' first|refine Spl.on (fun _=>?_) (fun _=>?_)|with_reducible refine gd ?_|simp only [go_sem, Int.reduceEq, Int.cast_ofNat_Int, Bool.false_eq_true, xblkG_exit3, List.length_map, hf, e1, bS, bT, bA, bF]
                all_goals first | rfl | (simp [parseA, adrA, num, str]; done) | (simp_all; done)
              · have hf' : (fmtL ⟨6, [], 0, []⟩ == s) = false := by
                  cases h : (fmtL ⟨6, [], 0, []⟩ == s) with
                  | false => rfl
                  | true => exact absurd (beq_iff_eq.1 h) hf
                simp only [fmtA, hv, hf, if_true, if_false, and_false, num, str]
                repeat' first|refine Spl.on (fun _=>?_) (fun _=>?_)|with_reducible refine gd ?_|simp only [go_sem, Int.reduceEq, Int.cast_ofNat_Int, Bool.false_eq_true, xblkG_exit3, List.length_map, hf', e1, bS, bT, bA, bF]
                all_goals first | rfl | (simp [parseA, adrA, adr0, num, str]; done) | (simp_all; done)
          · have e1 : (s == [47, 109, 97, 112]) = false := by
              cases h : (s == [47, 109, 97, 112]) with
              | false => rfl
              | true => exact absurd (beq_iff_eq.1 h) hm
            have hcand : rcand s = ⟨1, [], 0, []⟩ := by rw [rcand, bF, if_neg (by decide), bA, if_neg (by decide), bT, if_neg (by decide), bS, if_neg (by decide), if_neg hm]
            have hn1 : (([] : Str)).length ≤ 1000000000 := by first | omega | simp
            have hn2 : (([] : Str)).length ≤ 1000000000 := by first | omega | simp
            repeat' first|refine Spl.on (fun _=>?_) (fun _=>?_)|with_reducible refine gd ?_|simp only [go_sem, Int.reduceEq, Int.cast_ofNat_Int, Bool.false_eq_true, xblkG_exit3, List.length_map, e1, bS, bT, bA, bF]
            refine ((after38 s pS hs (by decide)).wk ?_).mono ?_
            · simp only [str, pS]
              repeat first | exact Wk.nil | exact Wk.refl _ | refine wk_agg ?_ ?_ | refine wk_ownsl ?_ | refine wk_nilsl ?_ | refine Wk.same ?_
            rintro r rfl
            try simp only [tru, num, str]
            repeat' first|refine Spl.on (fun _=>?_) (fun _=>?_)|with_reducible refine gd ?_|simp only [go_sem, Int.reduceEq, Int.cast_ofNat_Int, Bool.false_eq_true, xblkG_exit3, List.length_map, e1, bS, bT, bA, bF]
            refine ((after38 s pT hs (by decide)).wk ?_).mono ?_
            · simp only [str, pT]
              repeat first | exact Wk.nil | exact Wk.refl _ | refine wk_agg ?_ ?_ | refine wk_ownsl ?_ | refine wk_nilsl ?_ | refine Wk.same ?_
            rintro r rfl
            try simp only [tru, num, str]
            repeat' first|refine Spl.on (fun _=>?_) (fun _=>?_)|with_reducible refine gd ?_|simp only [go_sem, Int.reduceEq, Int.cast_ofNat_Int, Bool.false_eq_true, xblkG_exit3, List.length_map, e1, bS, bT, bA, bF]
            refine ((after38 s pA hs (by decide)).wk ?_).mono ?_
            · simp only [str, pA]
              repeat first | exact Wk.nil | exact Wk.refl _ | refine wk_agg ?_ ?_ | refine wk_ownsl ?_ | refine wk_nilsl ?_ | refine Wk.same ?_
            rintro r rfl
            try simp only [tru, num, str]
            repeat' first|refine Spl.on (fun _=>?_) (fun _=>?_)|with_reducible refine gd ?_|simp only [go_sem, Int.reduceEq, Int.cast_ofNat_Int, Bool.false_eq_true, xblkG_exit3, List.length_map, e1, bS, bT, bA, bF]
            refine ((after38 s pF hs (by decide)).wk ?_).mono ?_
            · simp only [str, pF]
              repeat first | exact Wk.nil | exact Wk.refl _ | refine wk_agg ?_ ?_ | refine wk_ownsl ?_ | refine wk_nilsl ?_ | refine Wk.same ?_
            rintro r rfl
            try simp only [tru, num, str]
            repeat' first|refine Spl.on (fun _=>?_) (fun _=>?_)|with_reducible refine gd ?_|simp only [go_sem, Int.reduceEq, Int.cast_ofNat_Int, Bool.false_eq_true, xblkG_exit3, List.length_map, e1, bS, bT, bA, bF]
            refine ((rformat15 ⟨1, [], 0, []⟩ hn1 hn2).wk ?_).mono ?_
            · try simp only [adrA, num, str]
              repeat first | exact Wk.nil | exact Wk.refl _ | refine wk_agg ?_ ?_ | refine wk_ownsl ?_ | refine wk_nilsl ?_ | refine Wk.same ?_
            rintro r rfl
            try simp only [tru, num, str]
            repeat' first|refine Spl.on (fun _=>?_) (fun _=>?_)|with_reducible refine gd ?_|simp only [go_sem, Int.reduceEq, Int.cast_ofNat_Int, Bool.false_eq_true, xblkG_exit3, List.length_map, e1, bS, bT, bA, bF]
            rw [← parse_by rcand_fmt s, hcand]
            cases hv : validL ⟨1, [], 0, []⟩
            · simp only [fmtA, hv, Bool.false_eq_true, if_false, false_and, num, str]
              repeat' first|refine Spl.on (fun _=>?_) (fun _=>?_)|with_reducible refine gd ?_|simp only [go_sem, Int.reduceEq, Int.cast_ofNat_Int, Bool.false_eq_true, xblkG_exit3, List.length_map, e1, bS, bT, bA, bF]
              all_goals first | rfl | (simp [parseA, adrA, adr0, num, str]; done)
            · by_cases hf : fmtL ⟨1, [], 0, []⟩ = s
              · simp only [fmtA, hv, hf, if_true, and_self, num, str]
                repeat' first|refine Spl.on (fun _=>?_) (fun _=>?_)|with_reducible refine gd ?_|simp only [go_sem, Int.reduceEq, Int.cast_ofNat_Int, Bool.false_eq_true, xblkG_exit3, List.length_map, hf, e1, bS, bT, bA, bF]
                all_goals first | rfl | (simp [parseA, adrA, num, str]; done) | (simp_all; done)
              · have hf' : (fmtL ⟨1, [], 0, []⟩ == s) = false := by
                  cases h : (fmtL ⟨1, [], 0, []⟩ == s) with
                  | false => rfl
                  | true => exact absurd (beq_iff_eq.1 h) hf
                simp only [fmtA, hv, hf, if_true, if_false, and_false, num, str]
                repeat' first|refine Spl.on (fun _=>?_) (fun _=>?_)|with_reducible refine gd ?_|simp only [go_sem, Int.reduceEq, Int.cast_ofNat_Int, Bool.false_eq_true, xblkG_exit3, List.length_map, hf', e1, bS, bT, bA, bF]
                all_goals first | rfl | (simp [parseA, adrA, adr0, num, str]; done) | (simp_all; done)
        · have bT : aftB s pT = false := aft_excl bS exST
          have bA : aftB s pA = false := aft_excl bS exSA
          have bF : aftB s pF = false := aft_excl bS exSF
          have e1 : (s == [47, 109, 97, 112]) = false := by
            cases h : (s == [47, 109, 97, 112]) with
            | false => rfl
            | true =>
              have := aft_excl bS exSM
              rw [show s = 47 :: wMap from beq_iff_eq.1 h] at this
              simp [aftB] at this
          have hcand : rcand s = ⟨2, [], numL (cutL (aftR s pS)).1, (cutL (aftR s pS)).2⟩ := by rw [rcand, bF, if_neg (by decide), bA, if_neg (by decide), bT, if_neg (by decide), if_pos bS]
          have hr1 := aftR_len s pS
          have hr2 := cutL_len (aftR s pS)
          have hn1 : (([] : Str)).length ≤ 1000000000 := by first | omega | simp
          have hn2 : ((cutL (aftR s pS)).2).length ≤ 1000000000 := by first | omega | simp
          repeat' first|refine Spl.on (fun _=>?_) (fun _=>?_)|with_reducible refine gd ?_|simp only [go_sem, Int.reduceEq, Int.cast_ofNat_Int, Bool.false_eq_true, xblkG_exit3, List.length_map, e1, bS, bT, bA, bF]
          refine ((after38 s pS hs (by decide)).wk ?_).mono ?_
          · simp only [str, pS]
            repeat first | exact Wk.nil | exact Wk.refl _ | refine wk_agg ?_ ?_ | refine wk_ownsl ?_ | refine wk_nilsl ?_ | refine Wk.same ?_
          rintro r rfl
          try simp only [tru, num, str]
          repeat' first|refine Spl.on (fun _=>?_) (fun _=>?_)|with_reducible refine gd ?_|simp only [go_sem, Int.reduceEq, Int.cast_ofNat_Int, Bool.false_eq_true, xblkG_exit3, List.length_map, e1, bS, bT, bA, bF]
          refine ((cut39 (aftR s pS) (by omega)).wk ?_).mono ?_
          · try simp only [num, str]
            repeat first | exact Wk.nil | exact Wk.refl _ | refine wk_agg ?_ ?_ | refine wk_ownsl ?_ | refine wk_nilsl ?_ | refine Wk.same ?_
          rintro r rfl
          try simp only [tru, num, str]
          repeat' first|refine Spl.on (fun _=>?_) (fun _=>?_)|with_reducible refine gd ?_|simp only [go_sem, Int.reduceEq, Int.cast_ofNat_Int, Bool.false_eq_true, xblkG_exit3, List.length_map, e1, bS, bT, bA, bF]
          refine ((number40 (cutL (aftR s pS)).1 (by omega)).wk ?_).mono ?_
          · try simp only [num, str]
            repeat first | exact Wk.nil | exact Wk.refl _ | refine wk_agg ?_ ?_ | refine wk_ownsl ?_ | refine wk_nilsl ?_ | refine Wk.same ?_
          rintro r rfl
          try simp only [tru, num, str]
          repeat' first|refine Spl.on (fun _=>?_) (fun _=>?_)|with_reducible refine gd ?_|simp only [go_sem, Int.reduceEq, Int.cast_ofNat_Int, Bool.false_eq_true, xblkG_exit3, List.length_map, e1, bS, bT, bA, bF]
          refine ((after38 s pT hs (by decide)).wk ?_).mono ?_
          · simp only [str, pT]
            repeat first | exact Wk.nil | exact Wk.refl _ | refine wk_agg ?_ ?_ | refine wk_ownsl ?_ | refine wk_nilsl ?_ | refine Wk.same ?_
          rintro r rfl
          try simp only [tru, num, str]
          repeat' first|refine Spl.on (fun _=>?_) (fun _=>?_)|with_reducible refine gd ?_|simp only [go_sem, Int.reduceEq, Int.cast_ofNat_Int, Bool.false_eq_true, xblkG_exit3, List.length_map, e1, bS, bT, bA, bF]
          refine ((after38 s pA hs (by decide)).wk ?_).mono ?_
          · simp only [str, pA]
            repeat first | exact Wk.nil | exact Wk.refl _ | refine wk_agg ?_ ?_ | refine wk_ownsl ?_ | refine wk_nilsl ?_ | refine Wk.same ?_
          rintro r rfl
          try simp only [tru, num, str]
          repeat' first|refine Spl.on (fun _=>?_) (fun _=>?_)|with_reducible refine gd ?_|simp only [go_sem, Int.reduceEq, Int.cast_ofNat_Int, Bool.false_eq_true, xblkG_exit3, List.length_map, e1, bS, bT, bA, bF]
          refine ((after38 s pF hs (by decide)).wk ?_).mono ?_
          · simp only [str, pF]
            repeat first | exact Wk.nil | exact Wk.refl _ | refine wk_agg ?_ ?_ | refine wk_ownsl ?_ | refine wk_nilsl ?_ | refine Wk.same ?_
          rintro r rfl
          try simp only [tru, num, str]
          repeat' first|refine Spl.on (fun _=>?_) (fun _=>?_)|with_reducible refine gd ?_|simp only [go_sem, Int.reduceEq, Int.cast_ofNat_Int, Bool.false_eq_true, xblkG_exit3, List.length_map, e1, bS, bT, bA, bF]
          refine ((rformat15 ⟨2, [], numL (cutL (aftR s pS)).1, (cutL (aftR s pS)).2⟩ hn1 hn2).wk ?_).mono ?_
          · try simp only [adrA, num, str]
            repeat first | exact Wk.nil | exact Wk.refl _ | refine wk_agg ?_ ?_ | refine wk_ownsl ?_ | refine wk_nilsl ?_ | refine Wk.same ?_
          rintro r rfl
          try simp only [tru, num, str]
          repeat' first|refine Spl.on (fun _=>?_) (fun _=>?_)|with_reducible refine gd ?_|simp only [go_sem, Int.reduceEq, Int.cast_ofNat_Int, Bool.false_eq_true, xblkG_exit3, List.length_map, e1, bS, bT, bA, bF]
          rw [← parse_by rcand_fmt s, hcand]
          cases hv : validL ⟨2, [], numL (cutL (aftR s pS)).1, (cutL (aftR s pS)).2⟩
          · simp only [fmtA, hv, Bool.false_eq_true, if_false, false_and, num, str]
            repeat' first|refine Spl.on (fun _=>?_) (fun _=>?_)|with_reducible refine gd ?_|simp only [go_sem, Int.reduceEq, Int.cast_ofNat_Int, Bool.false_eq_true, xblkG_exit3, List.length_map, e1, bS, bT, bA, bF]
            all_goals first | rfl | (simp [parseA, adrA, adr0, num, str]; done)
          · by_cases hf : fmtL ⟨2, [], numL (cutL (aftR s pS)).1, (cutL (aftR s pS)).2⟩ = s
            · simp only [fmtA, hv, hf, if_true, and_self, num, str]
              repeat' first|refine Spl.on (fun _=>?_) (fun _=>?_)|with_reducible refine gd ?_|simp only [go_sem, Int.reduceEq, Int.cast_ofNat_Int, Bool.false_eq_true, xblkG_exit3, List.length_map, hf, e1, bS, bT, bA, bF]
              all_goals first | rfl | (simp [parseA, adrA, num, str]; done) | (simp_all; done)
            · have hf' : (fmtL ⟨2, [], numL (cutL (aftR s pS)).1, (cutL (aftR s pS)).2⟩ == s) = false := by
                cases h : (fmtL ⟨2, [], numL (cutL (aftR s pS)).1, (cutL (aftR s pS)).2⟩ == s) with
                | false => rfl
                | true => exact absurd (beq_iff_eq.1 h) hf
              simp only [fmtA, hv, hf, if_true, if_false, and_false, num, str]
              repeat' first|refine Spl.on (fun _=>?_) (fun _=>?_)|with_reducible refine gd ?_|simp only [go_sem, Int.reduceEq, Int.cast_ofNat_Int, Bool.false_eq_true, xblkG_exit3, List.length_map, hf', e1, bS, bT, bA, bF]
              all_goals first | rfl | (simp [parseA, adrA, adr0, num, str]; done) | (simp_all; done)
      · have bS : aftB s pS = false := aft_excl bT exTS
        have bA : aftB s pA = false := aft_excl bT exTA
        have bF : aftB s pF = false := aft_excl bT exTF
        have e1 : (s == [47, 109, 97, 112]) = false := by
          cases h : (s == [47, 109, 97, 112]) with
          | false => rfl
          | true =>
            have := aft_excl bT exTM
            rw [show s = 47 :: wMap from beq_iff_eq.1 h] at this
            simp [aftB] at this
        have hcand : rcand s = ⟨3, (cutL (aftR s pT)).1, numL (cutL (aftR s pT)).2, []⟩ := by rw [rcand, bF, if_neg (by decide), bA, if_neg (by decide), if_pos bT]
        have hr1 := aftR_len s pT
        have hr2 := cutL_len (aftR s pT)
        have hn1 : ((cutL (aftR s pT)).1).length ≤ 1000000000 := by first | omega | simp
        have hn2 : (([] : Str)).length ≤ 1000000000 := by first | omega | simp
        repeat' first|refine Spl.on (fun _=>?_) (fun _=>?_)|with_reducible refine gd ?_|simp only [go_sem, Int.reduceEq, Int.cast_ofNat_Int, Bool.false_eq_true, xblkG_exit3, List.length_map, e1, bS, bT, bA, bF]
        refine ((after38 s pS hs (by decide)).wk ?_).mono ?_
        · simp only [str, pS]
          repeat first | exact Wk.nil | exact Wk.refl _ | refine wk_agg ?_ ?_ | refine wk_ownsl ?_ | refine wk_nilsl ?_ | refine Wk.same ?_
        rintro r rfl
        try simp only [tru, num, str]
        repeat' first|refine Spl.on (fun _=>?_) (fun _=>?_)|with_reducible refine gd ?_|simp only [go_sem, Int.reduceEq, Int.cast_ofNat_Int, Bool.false_eq_true, xblkG_exit3, List.length_map, e1, bS, bT, bA, bF]
        refine ((after38 s pT hs (by decide)).wk ?_).mono ?_
        · simp only [str, pT]
          repeat first | exact Wk.nil | exact Wk.refl _ | refine wk_agg ?_ ?_ | refine wk_ownsl ?_ | refine wk_nilsl ?_ | refine Wk.same ?_
        rintro r rfl
        try simp only [tru, num, str]
        repeat' first|refine Spl.on (fun _=>?_) (fun _=>?_)|with_reducible refine gd ?_|simp only [go_sem, Int.reduceEq, Int.cast_ofNat_Int, Bool.false_eq_true, xblkG_exit3, List.length_map, e1, bS, bT, bA, bF]
        refine ((cut39 (aftR s pT) (by omega)).wk ?_).mono ?_
        · try simp only [num, str]
          repeat first | exact Wk.nil | exact Wk.refl _ | refine wk_agg ?_ ?_ | refine wk_ownsl ?_ | refine wk_nilsl ?_ | refine Wk.same ?_
        rintro r rfl
        try simp only [tru, num, str]
        repeat' first|refine Spl.on (fun _=>?_) (fun _=>?_)|with_reducible refine gd ?_|simp only [go_sem, Int.reduceEq, Int.cast_ofNat_Int, Bool.false_eq_true, xblkG_exit3, List.length_map, e1, bS, bT, bA, bF]
        refine ((number40 (cutL (aftR s pT)).2 (by omega)).wk ?_).mono ?_
        · try simp only [num, str]
          repeat first | exact Wk.nil | exact Wk.refl _ | refine wk_agg ?_ ?_ | refine wk_ownsl ?_ | refine wk_nilsl ?_ | refine Wk.same ?_
        rintro r rfl
        try simp only [tru, num, str]
        repeat' first|refine Spl.on (fun _=>?_) (fun _=>?_)|with_reducible refine gd ?_|simp only [go_sem, Int.reduceEq, Int.cast_ofNat_Int, Bool.false_eq_true, xblkG_exit3, List.length_map, e1, bS, bT, bA, bF]
        refine ((after38 s pA hs (by decide)).wk ?_).mono ?_
        · simp only [str, pA]
          repeat first | exact Wk.nil | exact Wk.refl _ | refine wk_agg ?_ ?_ | refine wk_ownsl ?_ | refine wk_nilsl ?_ | refine Wk.same ?_
        rintro r rfl
        try simp only [tru, num, str]
        repeat' first|refine Spl.on (fun _=>?_) (fun _=>?_)|with_reducible refine gd ?_|simp only [go_sem, Int.reduceEq, Int.cast_ofNat_Int, Bool.false_eq_true, xblkG_exit3, List.length_map, e1, bS, bT, bA, bF]
        refine ((after38 s pF hs (by decide)).wk ?_).mono ?_
        · simp only [str, pF]
          repeat first | exact Wk.nil | exact Wk.refl _ | refine wk_agg ?_ ?_ | refine wk_ownsl ?_ | refine wk_nilsl ?_ | refine Wk.same ?_
        rintro r rfl
        try simp only [tru, num, str]
        repeat' first|refine Spl.on (fun _=>?_) (fun _=>?_)|with_reducible refine gd ?_|simp only [go_sem, Int.reduceEq, Int.cast_ofNat_Int, Bool.false_eq_true, xblkG_exit3, List.length_map, e1, bS, bT, bA, bF]
        refine ((rformat15 ⟨3, (cutL (aftR s pT)).1, numL (cutL (aftR s pT)).2, []⟩ hn1 hn2).wk ?_).mono ?_
        · try simp only [adrA, num, str]
          repeat first | exact Wk.nil | exact Wk.refl _ | refine wk_agg ?_ ?_ | refine wk_ownsl ?_ | refine wk_nilsl ?_ | refine Wk.same ?_
        rintro r rfl
        try simp only [tru, num, str]
        repeat' first|refine Spl.on (fun _=>?_) (fun _=>?_)|with_reducible refine gd ?_|simp only [go_sem, Int.reduceEq, Int.cast_ofNat_Int, Bool.false_eq_true, xblkG_exit3, List.length_map, e1, bS, bT, bA, bF]
        rw [← parse_by rcand_fmt s, hcand]
        cases hv : validL ⟨3, (cutL (aftR s pT)).1, numL (cutL (aftR s pT)).2, []⟩
        · simp only [fmtA, hv, Bool.false_eq_true, if_false, false_and, num, str]
          repeat' first|refine Spl.on (fun _=>?_) (fun _=>?_)|with_reducible refine gd ?_|simp only [go_sem, Int.reduceEq, Int.cast_ofNat_Int, Bool.false_eq_true, xblkG_exit3, List.length_map, e1, bS, bT, bA, bF]
          all_goals first | rfl | (simp [parseA, adrA, adr0, num, str]; done)
        · by_cases hf : fmtL ⟨3, (cutL (aftR s pT)).1, numL (cutL (aftR s pT)).2, []⟩ = s
          · simp only [fmtA, hv, hf, if_true, and_self, num, str]
            repeat' first|refine Spl.on (fun _=>?_) (fun _=>?_)|with_reducible refine gd ?_|simp only [go_sem, Int.reduceEq, Int.cast_ofNat_Int, Bool.false_eq_true, xblkG_exit3, List.length_map, hf, e1, bS, bT, bA, bF]
            all_goals first | rfl | (simp [parseA, adrA, num, str]; done) | (simp_all; done)
          · have hf' : (fmtL ⟨3, (cutL (aftR s pT)).1, numL (cutL (aftR s pT)).2, []⟩ == s) = false := by
              cases h : (fmtL ⟨3, (cutL (aftR s pT)).1, numL (cutL (aftR s pT)).2, []⟩ == s) with
              | false => rfl
              | true => exact absurd (beq_iff_eq.1 h) hf
            simp only [fmtA, hv, hf, if_true, if_false, and_false, num, str]
            repeat' first|refine Spl.on (fun _=>?_) (fun _=>?_)|with_reducible refine gd ?_|simp only [go_sem, Int.reduceEq, Int.cast_ofNat_Int, Bool.false_eq_true, xblkG_exit3, List.length_map, hf', e1, bS, bT, bA, bF]
            all_goals first | rfl | (simp [parseA, adrA, adr0, num, str]; done) | (simp_all; done)
    · have bS : aftB s pS = false := aft_excl bA exAS
      have bT : aftB s pT = false := aft_excl bA exAT
      have bF : aftB s pF = false := aft_excl bA exAF
      have e1 : (s == [47, 109, 97, 112]) = false := by
        cases h : (s == [47, 109, 97, 112]) with
        | false => rfl
        | true =>
          have := aft_excl bA exAM
          rw [show s = 47 :: wMap from beq_iff_eq.1 h] at this
          simp [aftB] at this
      have hcand : rcand s = ⟨4, aftR s pA, 0, []⟩ := by rw [rcand, bF, if_neg (by decide), if_pos bA]
      have hr1 := aftR_len s pA
      have hr2 := cutL_len (aftR s pA)
      have hn1 : (aftR s pA).length ≤ 1000000000 := by first | omega | simp
      have hn2 : (([] : Str)).length ≤ 1000000000 := by first | omega | simp
      repeat' first|refine Spl.on (fun _=>?_) (fun _=>?_)|with_reducible refine gd ?_|simp only [go_sem, Int.reduceEq, Int.cast_ofNat_Int, Bool.false_eq_true, xblkG_exit3, List.length_map, e1, bS, bT, bA, bF]
      refine ((after38 s pS hs (by decide)).wk ?_).mono ?_
      · simp only [str, pS]
        repeat first | exact Wk.nil | exact Wk.refl _ | refine wk_agg ?_ ?_ | refine wk_ownsl ?_ | refine wk_nilsl ?_ | refine Wk.same ?_
      rintro r rfl
      try simp only [tru, num, str]
      repeat' first|refine Spl.on (fun _=>?_) (fun _=>?_)|with_reducible refine gd ?_|simp only [go_sem, Int.reduceEq, Int.cast_ofNat_Int, Bool.false_eq_true, xblkG_exit3, List.length_map, e1, bS, bT, bA, bF]
      refine ((after38 s pT hs (by decide)).wk ?_).mono ?_
      · simp only [str, pT]
        repeat first | exact Wk.nil | exact Wk.refl _ | refine wk_agg ?_ ?_ | refine wk_ownsl ?_ | refine wk_nilsl ?_ | refine Wk.same ?_
      rintro r rfl
      try simp only [tru, num, str]
      repeat' first|refine Spl.on (fun _=>?_) (fun _=>?_)|with_reducible refine gd ?_|simp only [go_sem, Int.reduceEq, Int.cast_ofNat_Int, Bool.false_eq_true, xblkG_exit3, List.length_map, e1, bS, bT, bA, bF]
      refine ((after38 s pA hs (by decide)).wk ?_).mono ?_
      · simp only [str, pA]
        repeat first | exact Wk.nil | exact Wk.refl _ | refine wk_agg ?_ ?_ | refine wk_ownsl ?_ | refine wk_nilsl ?_ | refine Wk.same ?_
      rintro r rfl
      try simp only [tru, num, str]
      repeat' first|refine Spl.on (fun _=>?_) (fun _=>?_)|with_reducible refine gd ?_|simp only [go_sem, Int.reduceEq, Int.cast_ofNat_Int, Bool.false_eq_true, xblkG_exit3, List.length_map, e1, bS, bT, bA, bF]
      refine ((after38 s pF hs (by decide)).wk ?_).mono ?_
      · simp only [str, pF]
        repeat first | exact Wk.nil | exact Wk.refl _ | refine wk_agg ?_ ?_ | refine wk_ownsl ?_ | refine wk_nilsl ?_ | refine Wk.same ?_
      rintro r rfl
      try simp only [tru, num, str]
      repeat' first|refine Spl.on (fun _=>?_) (fun _=>?_)|with_reducible refine gd ?_|simp only [go_sem, Int.reduceEq, Int.cast_ofNat_Int, Bool.false_eq_true, xblkG_exit3, List.length_map, e1, bS, bT, bA, bF]
      refine ((rformat15 ⟨4, aftR s pA, 0, []⟩ hn1 hn2).wk ?_).mono ?_
      · try simp only [adrA, num, str]
        repeat first | exact Wk.nil | exact Wk.refl _ | refine wk_agg ?_ ?_ | refine wk_ownsl ?_ | refine wk_nilsl ?_ | refine Wk.same ?_
      rintro r rfl
      try simp only [tru, num, str]
      repeat' first|refine Spl.on (fun _=>?_) (fun _=>?_)|with_reducible refine gd ?_|simp only [go_sem, Int.reduceEq, Int.cast_ofNat_Int, Bool.false_eq_true, xblkG_exit3, List.length_map, e1, bS, bT, bA, bF]
      rw [← parse_by rcand_fmt s, hcand]
      cases hv : validL ⟨4, aftR s pA, 0, []⟩
      · simp only [fmtA, hv, Bool.false_eq_true, if_false, false_and, num, str]
        repeat' first|refine Spl.on (fun _=>?_) (fun _=>?_)|with_reducible refine gd ?_|simp only [go_sem, Int.reduceEq, Int.cast_ofNat_Int, Bool.false_eq_true, xblkG_exit3, List.length_map, e1, bS, bT, bA, bF]
        all_goals first | rfl | (simp [parseA, adrA, adr0, num, str]; done)
      · by_cases hf : fmtL ⟨4, aftR s pA, 0, []⟩ = s
        · simp only [fmtA, hv, hf, if_true, and_self, num, str]
          repeat' first|refine Spl.on (fun _=>?_) (fun _=>?_)|with_reducible refine gd ?_|simp only [go_sem, Int.reduceEq, Int.cast_ofNat_Int, Bool.false_eq_true, xblkG_exit3, List.length_map, hf, e1, bS, bT, bA, bF]
          all_goals first | rfl | (simp [parseA, adrA, num, str]; done) | (simp_all; done)
        · have hf' : (fmtL ⟨4, aftR s pA, 0, []⟩ == s) = false := by
            cases h : (fmtL ⟨4, aftR s pA, 0, []⟩ == s) with
            | false => rfl
            | true => exact absurd (beq_iff_eq.1 h) hf
          simp only [fmtA, hv, hf, if_true, if_false, and_false, num, str]
          repeat' first|refine Spl.on (fun _=>?_) (fun _=>?_)|with_reducible refine gd ?_|simp only [go_sem, Int.reduceEq, Int.cast_ofNat_Int, Bool.false_eq_true, xblkG_exit3, List.length_map, hf', e1, bS, bT, bA, bF]
          all_goals first | rfl | (simp [parseA, adrA, adr0, num, str]; done) | (simp_all; done)
  · have bS : aftB s pS = false := aft_excl bF exFS
    have bT : aftB s pT = false := aft_excl bF exFT
    have bA : aftB s pA = false := aft_excl bF exFA
    have e1 : (s == [47, 109, 97, 112]) = false := by
      cases h : (s == [47, 109, 97, 112]) with
      | false => rfl
      | true =>
        have := aft_excl bF exFM
        rw [show s = 47 :: wMap from beq_iff_eq.1 h] at this
        simp [aftB] at this
    have hcand : rcand s = ⟨5, aftR s pF, 0, []⟩ := by rw [rcand, if_pos bF]
    have hr1 := aftR_len s pF
    have hr2 := cutL_len (aftR s pF)
    have hn1 : (aftR s pF).length ≤ 1000000000 := by first | omega | simp
    have hn2 : (([] : Str)).length ≤ 1000000000 := by first | omega | simp
    repeat' first|refine Spl.on (fun _=>?_) (fun _=>?_)|with_reducible refine gd ?_|simp only [go_sem, Int.reduceEq, Int.cast_ofNat_Int, Bool.false_eq_true, xblkG_exit3, List.length_map, e1, bS, bT, bA, bF]
    refine ((after38 s pS hs (by decide)).wk ?_).mono ?_
    · simp only [str, pS]
      repeat first | exact Wk.nil | exact Wk.refl _ | refine wk_agg ?_ ?_ | refine wk_ownsl ?_ | refine wk_nilsl ?_ | refine Wk.same ?_
    rintro r rfl
    try simp only [tru, num, str]
    repeat' first|refine Spl.on (fun _=>?_) (fun _=>?_)|with_reducible refine gd ?_|simp only [go_sem, Int.reduceEq, Int.cast_ofNat_Int, Bool.false_eq_true, xblkG_exit3, List.length_map, e1, bS, bT, bA, bF]
    refine ((after38 s pT hs (by decide)).wk ?_).mono ?_
    · simp only [str, pT]
      repeat first | exact Wk.nil | exact Wk.refl _ | refine wk_agg ?_ ?_ | refine wk_ownsl ?_ | refine wk_nilsl ?_ | refine Wk.same ?_
    rintro r rfl
    try simp only [tru, num, str]
    repeat' first|refine Spl.on (fun _=>?_) (fun _=>?_)|with_reducible refine gd ?_|simp only [go_sem, Int.reduceEq, Int.cast_ofNat_Int, Bool.false_eq_true, xblkG_exit3, List.length_map, e1, bS, bT, bA, bF]
    refine ((after38 s pA hs (by decide)).wk ?_).mono ?_
    · simp only [str, pA]
      repeat first | exact Wk.nil | exact Wk.refl _ | refine wk_agg ?_ ?_ | refine wk_ownsl ?_ | refine wk_nilsl ?_ | refine Wk.same ?_
    rintro r rfl
    try simp only [tru, num, str]
    repeat' first|refine Spl.on (fun _=>?_) (fun _=>?_)|with_reducible refine gd ?_|simp only [go_sem, Int.reduceEq, Int.cast_ofNat_Int, Bool.false_eq_true, xblkG_exit3, List.length_map, e1, bS, bT, bA, bF]
    refine ((after38 s pF hs (by decide)).wk ?_).mono ?_
    · simp only [str, pF]
      repeat first | exact Wk.nil | exact Wk.refl _ | refine wk_agg ?_ ?_ | refine wk_ownsl ?_ | refine wk_nilsl ?_ | refine Wk.same ?_
    rintro r rfl
    try simp only [tru, num, str]
    repeat' first|refine Spl.on (fun _=>?_) (fun _=>?_)|with_reducible refine gd ?_|simp only [go_sem, Int.reduceEq, Int.cast_ofNat_Int, Bool.false_eq_true, xblkG_exit3, List.length_map, e1, bS, bT, bA, bF]
    refine ((rformat15 ⟨5, aftR s pF, 0, []⟩ hn1 hn2).wk ?_).mono ?_
    · try simp only [adrA, num, str]
      repeat first | exact Wk.nil | exact Wk.refl _ | refine wk_agg ?_ ?_ | refine wk_ownsl ?_ | refine wk_nilsl ?_ | refine Wk.same ?_
    rintro r rfl
    try simp only [tru, num, str]
    repeat' first|refine Spl.on (fun _=>?_) (fun _=>?_)|with_reducible refine gd ?_|simp only [go_sem, Int.reduceEq, Int.cast_ofNat_Int, Bool.false_eq_true, xblkG_exit3, List.length_map, e1, bS, bT, bA, bF]
    rw [← parse_by rcand_fmt s, hcand]
    cases hv : validL ⟨5, aftR s pF, 0, []⟩
    · simp only [fmtA, hv, Bool.false_eq_true, if_false, false_and, num, str]
      repeat' first|refine Spl.on (fun _=>?_) (fun _=>?_)|with_reducible refine gd ?_|simp only [go_sem, Int.reduceEq, Int.cast_ofNat_Int, Bool.false_eq_true, xblkG_exit3, List.length_map, e1, bS, bT, bA, bF]
      all_goals first | rfl | (simp [parseA, adrA, adr0, num, str]; done)
    · by_cases hf : fmtL ⟨5, aftR s pF, 0, []⟩ = s
      · simp only [fmtA, hv, hf, if_true, and_self, num, str]
        repeat' first|refine Spl.on (fun _=>?_) (fun _=>?_)|with_reducible refine gd ?_|simp only [go_sem, Int.reduceEq, Int.cast_ofNat_Int, Bool.false_eq_true, xblkG_exit3, List.length_map, hf, e1, bS, bT, bA, bF]
        all_goals first | rfl | (simp [parseA, adrA, num, str]; done) | (simp_all; done)
      · have hf' : (fmtL ⟨5, aftR s pF, 0, []⟩ == s) = false := by
          cases h : (fmtL ⟨5, aftR s pF, 0, []⟩ == s) with
          | false => rfl
          | true => exact absurd (beq_iff_eq.1 h) hf
        simp only [fmtA, hv, hf, if_true, if_false, and_false, num, str]
        repeat' first|refine Spl.on (fun _=>?_) (fun _=>?_)|with_reducible refine gd ?_|simp only [go_sem, Int.reduceEq, Int.cast_ofNat_Int, Bool.false_eq_true, xblkG_exit3, List.length_map, hf', e1, bS, bT, bA, bF]
        all_goals first | rfl | (simp [parseA, adrA, adr0, num, str]; done) | (simp_all; done)
end Go.Proofs.YtkafbgdokgfjmaaGreatDoor
