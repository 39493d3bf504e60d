/- All (without the reference) -/
import Derived.Test.YtkafbgdokgfjmaaGreatDoorT
import Derived.Test.YtkafbgdokgfjmaaGreatDoorA10
import Derived.Test.YtkafbgdokgfjmaaGreatDoorA11
import Derived.Test.YtkafbgdokgfjmaaGreatDoorV1
import Derived.Test.YtkafbgdokgfjmaaGreatDoorM3
namespace Go.Proofs.YtkafbgdokgfjmaaGreatDoor
open Go.RowKit Go.Proofs
set_option linter.unusedSimpArgs false
set_option linter.unusedVariables false
set_option maxRecDepth 100000
set_option maxHeartbeats 4000000

def edl (x : AV) : Str := match x with
  | .agg (.raw (.string b) :: _) => b.data.toList
  | _ => []
def EdOk (s : Sto) : Prop := ∀ e ∈ s.ed, ∃ l a b c d, e = .agg [str l, a, b, c, d]
def edF (s : Sto) : List Adr := if s.tk then [] else s.ed.map fun e => ⟨2, [], s.id, edl e⟩
def pgN (L : List Sto) (t : Str) : Nat := ((newL t L).length + 4) / 5
def tpF (L : List Sto) (t : Str) : List Adr := if nameL t = true then ⟨5, t, 0, []⟩ :: (List.range (min (pgN L t) 64)).map fun (p : Nat) => (⟨3, t, (p : Int) + 1, []⟩ : Adr) else []
def auF (t : Str) : Adr := ⟨4, t, 0, []⟩
def adr1 : Adr := ⟨1, [], 0, []⟩
def adr6 : Adr := ⟨6, [], 0, []⟩
def adL (L : List Sto) : List Adr := [adr1, adr6] ++ (L.flatMap edF ++ ((topR L).flatMap (tpF L) ++ (autR L).map auF))
def adY (L : List Sto) (k : Nat) (args : List AV) : Prop := ∃ a, (adL L)[k]? = some a ∧ args = [adrA a]
section
variable {α β : Type} {f : α → List β} {l : List α} {i : Nat} {s : α}
theorem fm_take (hx : l[i]? = some s) : ((l.take (i + 1)).flatMap f).length = ((l.take i).flatMap f).length + (f s).length := by
  rw [List.take_add_one, hx, List.flatMap_append, List.length_append]; simp
theorem fm_at {j : Nat} {x : β} (hx : l[i]? = some s) (hj : (f s)[j]? = some x) : (l.flatMap f)[((l.take i).flatMap f).length + j]? = some x := by
  have hi := (List.getElem?_eq_some_iff.1 hx).1
  have hd : l.drop i = s :: l.drop (i + 1) := by
    rw [List.drop_eq_getElem_cons hi]; congr 1; exact (List.getElem?_eq_some_iff.1 hx).2
  have e : l.flatMap f = (l.take i).flatMap f ++ (f s ++ (l.drop (i + 1)).flatMap f) := by
    conv => lhs; rw [← List.take_append_drop i l, hd, List.flatMap_append, List.flatMap_cons]
  have hjl := (List.getElem?_eq_some_iff.1 hj).1
  rw [e, List.getElem?_append_right (by omega), Nat.add_sub_cancel_left, List.getElem?_append_left hjl, hj]
end
theorem ad_ed {L : List Sto} {k : Nat} {a : Adr} (h : (L.flatMap edF)[k]? = some a) : (adL L)[2 + k]? = some a := by
  have := (List.getElem?_eq_some_iff.1 h).1
  unfold adL
  rw [List.getElem?_append_right (by simp only [List.length_cons, List.length_nil]; omega), List.getElem?_append_left (by simp only [List.length_cons, List.length_nil]; omega)]
  rw [← h]; congr 1; simp only [List.length_cons, List.length_nil]; omega
theorem ad_tp {L : List Sto} {k : Nat} {a : Adr} (h : ((topR L).flatMap (tpF L))[k]? = some a) : (adL L)[2 + (L.flatMap edF).length + k]? = some a := by
  have := (List.getElem?_eq_some_iff.1 h).1
  unfold adL
  rw [List.getElem?_append_right (by simp only [List.length_cons, List.length_nil]; omega), List.getElem?_append_right (by simp only [List.length_cons, List.length_nil]; omega), List.getElem?_append_left (by simp only [List.length_cons, List.length_nil]; omega)]
  rw [← h]; congr 1; simp only [List.length_cons, List.length_nil]; omega
theorem ad_au {L : List Sto} {k : Nat} {a : Str} (h : (autR L)[k]? = some a) : (adL L)[2 + (L.flatMap edF).length + ((topR L).flatMap (tpF L)).length + k]? = some (auF a) := by
  unfold adL
  rw [List.getElem?_append_right (by simp only [List.length_cons, List.length_nil]; omega), List.getElem?_append_right (by simp only [List.length_cons, List.length_nil]; omega), List.getElem?_append_right (by simp only [List.length_cons, List.length_nil]; omega), List.getElem?_map]
  rw [show 2 + (L.flatMap edF).length + ((topR L).flatMap (tpF L)).length + k - [adr1, adr6].length - (L.flatMap edF).length - ((topR L).flatMap (tpF L)).length = k by simp only [List.length_cons, List.length_nil]; omega, h]
  rfl
theorem edF_len {s : Sto} (h : s.tk = false) : (edF s).length = s.ed.length := by simp [edF, h]
theorem edF_at {s : Sto} {j : Nat} {l : Str} {a b c d : AV} (h : s.tk = false) (hj : s.ed[j]? = some (.agg [str l, a, b, c, d])) : (edF s)[j]? = some ⟨2, [], s.id, l⟩ := by
  simp [edF, h, hj, edl, str]
theorem tpF_len {L : List Sto} {t : Str} (h : nameL t = true) : (tpF L t).length = 1 + min (pgN L t) 64 := by
  simp [tpF, h]; omega
theorem tpF_no {L : List Sto} {t : Str} (h : nameL t = false) : tpF L t = [] := by simp [tpF, h]
theorem tpF_at0 {L : List Sto} {t : Str} (h : nameL t = true) : (tpF L t)[0]? = some ⟨5, t, 0, []⟩ := by simp [tpF, h]
theorem tpF_at {L : List Sto} {t : Str} {p : Nat} (h : nameL t = true) (hp : p < pgN L t) (hp2 : p < 64) : (tpF L t)[1 + p]? = some ⟨3, t, ((p + 1 : Nat) : Int), []⟩ := by
  rw [tpF, if_pos h, Nat.add_comm, List.getElem?_cons_succ, List.getElem?_map, List.getElem?_range (by omega)]
  simp
theorem adEach64 (L : List Sto) (tm : List AV) (hl : L.length ≤ 10000) (hs : ∀ s ∈ L, StOk s) (ht : ∀ s ∈ L, s.tp.length ≤ 1000) (he : ∀ s ∈ L, EdOk s) (hT : (topR L).length ≤ 1000000000) (hA : (autR L).length ≤ 1000000000) :
    AIter Tryz.prog 64 [.elt (.agg [.sl 8 (L.map sto), .sl 2 tm])] (adL L).length (adY L) := by
  refine iter_short [] [(0, 7002), (8, 6), (15, 3), (21, 4), (26, 3)] [] ttok hmix Tryz.func64 (by decide) (by decide +kernel) (by simp only [Tryz.f64, Option.bind_some, compG, ylook, compY, compY2, Nat.reduceMod, Nat.reduceDiv, Nat.reduceLT, comp, isLend, lendOf, lendX, lendC, lendH, Nat.reduceLeDiff, Nat.reduceSub, ne_eq, not_false_eq_true, and_self, cops, cguard, gslot, List.getElem?_toArray, List.getElem?_cons_succ, List.getElem?_cons_zero, vlook, tlook, List.take_succ_cons, List.take_zero, List.drop_succ_cons, List.drop_zero, Option.map_some, Nat.reduceEqDiff, if_true, if_false, Nat.succ_ne_self, Nat.reduceAdd, reduceIte, reduceCtorEq, Bool.false_eq_true, cutAt_nil, cutAt, firstReg, isCut, mkSeq, mkSeqG]; rfl) Tryz.ntmps64 Tryz.results64 rfl ?_
  intro l
  simp only [List.length_cons, List.length_nil, Nat.reduceAdd, Nat.reduceSub, List.replicate_succ, List.replicate_zero, List.cons_append, List.nil_append, num, str, tru]
  repeat' first|refine Spl.on (fun _=>?_) (fun _=>?_)|with_reducible refine gd ?_|simp only [go_sem, Int.reduceEq, Int.cast_ofNat_Int, Bool.false_eq_true, xblkG_exit3, List.length_map]
  refine yc_mk ⟨adr1, rfl, rfl⟩ ?_ ?_
  · repeat' first|refine Spl.on (fun _=>?_) (fun _=>?_)|with_reducible refine gd ?_|simp only [go_sem, Int.reduceEq, Int.cast_ofNat_Int, Bool.false_eq_true, xblkG_exit3, List.length_map]
    refine yc_mk ⟨adr6, rfl, rfl⟩ ?_ ?_
    · repeat' first|refine Spl.on (fun _=>?_) (fun _=>?_)|with_reducible refine gd ?_|simp only [go_sem, Int.reduceEq, Int.cast_ofNat_Int, Bool.false_eq_true, xblkG_exit3, List.length_map]
      refine cwpG_loop [false, false, false, false, true, false, true, false, false, false, false, false, false, false, false, false, false, false, false, false, false, false, false, false, false, false, false, true, true, true, true, true, true, true, true, true, true, true, true, true, true, true, true, true, true, true, true, true, true, true, false, false, false, false, false, false, false, false, false, false, false, false, false, false, false, false, false, false, false, false, false, false, false, false, false, false, false, false, false, false, false, false, false, false, false, false, false, false, false, false, false, false, false, false, false, false, false, false, false] [27] (fun n st xs => ∃ i k : Nat, st = some k ∧ i ≤ L.length ∧ i + n = L.length ∧ k = 2 + ((L.take i).flatMap edF).length ∧ xs = [num i]) ⟨L.length, _, ⟨0, 2, rfl, by omega, by omega, rfl, rfl⟩, ?_⟩ ?_
      · simp only [hvm_t, hvm_f, hvm_nil, puts_cons, puts_nil, List.set_cons_zero, List.set_cons_succ, num]
        repeat first | exact Wk.nil | refine wk_ownsl ?_ | refine Wk.same ?_ | refine wk_any ?_
      · rintro n st1 xs ⟨i, k, rfl, hi1, hi2, hk, rfl⟩
        simp only [hvm_t, hvm_f, hvm_nil, puts_cons, puts_nil, List.set_cons_zero, List.set_cons_succ, num]
        rcases Nat.lt_or_ge i L.length with hlt | hge
        · have ej := eq_true (show (i : Int) < (L.length : Int) by omega)
          obtain ⟨s, hx, hd⟩ := drop_at hlt
          have hso := hs s (List.mem_of_getElem? hx)
          have heo := he s (List.mem_of_getElem? hx)
          have hed := hso.2
          have hgx := sto_at hx
          simp only [num, str, tru] at hgx
          have hw : IntKind.i64.wrap ((i : Int) + 1) = ((i + 1 : Nat) : Int) := wrap_succ (by omega)
          cases htk : s.tk
          · rw [htk] at hgx
            repeat' first|refine Spl.on (fun _=>?_) (fun _=>?_)|with_reducible refine gd ?_|simp only [go_sem, Int.reduceEq, Int.cast_ofNat_Int, Bool.false_eq_true, xblkG_exit3, List.length_map, ej, hgx, hw]
            refine cwpG_loop [false, false, false, false, false, false, true, false, false, false, false, false, false, false, false, false, false, false, false, false, false, false, false, false, false, false, false, false, false, false, false, false, false, false, false, false, true, true, true, true, true, true, true, true, true, true, true, true, true, false, false, false, false, false, false, false, false, false, false, false, false, false, false, false, false, false, false, false, false, false, false, false, false, false, false, false, false, false, false, false, false, false, false, false, false, false, false, false, false, false, false, false, false, false, false, false, false, false, false] [36] (fun n st xs => ∃ j k2 : Nat, st = some k2 ∧ j ≤ s.ed.length ∧ j + n = s.ed.length ∧ k2 = 2 + ((L.take i).flatMap edF).length + j ∧ xs = [num j]) ⟨s.ed.length, _, ⟨0, k, rfl, by omega, by omega, by omega, rfl⟩, ?_⟩ ?_
            · simp only [hvm_t, hvm_f, hvm_nil, puts_cons, puts_nil, List.set_cons_zero, List.set_cons_succ, num]
              repeat first | exact Wk.nil | refine wk_ownsl ?_ | refine Wk.same ?_ | refine wk_any ?_
            · rintro n2 st2 xs ⟨j, k2, rfl, hj1, hj2, hk2, rfl⟩
              simp only [hvm_t, hvm_f, hvm_nil, puts_cons, puts_nil, List.set_cons_zero, List.set_cons_succ, num]
              rcases Nat.lt_or_ge j s.ed.length with hjl | hjg
              · have hwj : IntKind.i64.wrap ((j : Int) + 1) = ((j + 1 : Nat) : Int) := wrap_succ (by omega)
                have ek := eq_true (show (j : Int) < (s.ed.length : Int) by omega)
                obtain ⟨e, hjx, hjd⟩ := drop_at hjl
                obtain ⟨l, c1, c2, c3, c4, rfl⟩ := heo e (List.mem_of_getElem? hjx)
                have hge : s.ed.getD j .any = .agg [str l, c1, c2, c3, c4] := by simp [hjx]
                simp only [str] at hge
                have hyk := ad_ed (fm_at hx (edF_at htk hjx))
                rw [← Nat.add_assoc, ← hk2] at hyk
                repeat' first|refine Spl.on (fun _=>?_) (fun _=>?_)|with_reducible refine gd ?_|simp only [go_sem, Int.reduceEq, Int.cast_ofNat_Int, Bool.false_eq_true, xblkG_exit3, List.length_map, ek, hge, hwj, hw]
                refine yc_mk ⟨_, hyk, rfl⟩ ?_ ?_
                · repeat' first|refine Spl.on (fun _=>?_) (fun _=>?_)|with_reducible refine gd ?_|simp only [go_sem, Int.reduceEq, Int.cast_ofNat_Int, Bool.false_eq_true, xblkG_exit3, List.length_map, ek, hge, hwj, hw]
                  refine lendG_mk (n2 - 1) [num ((j + 1 : Nat) : Int)] (by omega) ⟨j + 1, k2 + 1, rfl, by omega, by omega, by omega, rfl⟩ ?_
                  simp only [hvm_t, hvm_f, hvm_nil, puts_cons, puts_nil, List.set_cons_zero, List.set_cons_succ, num]
                  repeat first | exact Wk.nil | refine wk_ownsl ?_ | refine Wk.same ?_ | refine wk_any ?_
                · repeat' first|refine Spl.on (fun _=>?_) (fun _=>?_)|with_reducible refine gd ?_|simp only [go_sem, Int.reduceEq, Int.cast_ofNat_Int, Bool.false_eq_true, xblkG_exit3, List.length_map, ek, hge, hwj, hw]
                  all_goals first | exact .inr rfl | exact .inr trivial
              · have ek := eq_false (show ¬ (j : Int) < (s.ed.length : Int) by omega)
                repeat' first|refine Spl.on (fun _=>?_) (fun _=>?_)|with_reducible refine gd ?_|simp only [go_sem, Int.reduceEq, Int.cast_ofNat_Int, Bool.false_eq_true, xblkG_exit3, List.length_map, ek, hw]
                refine lendG_mk (n - 1) [num ((i + 1 : Nat) : Int)] (by omega) ⟨i + 1, k2, rfl, by omega, by omega, by rw [fm_take hx, edF_len htk]; omega, rfl⟩ ?_
                simp only [hvm_t, hvm_f, hvm_nil, puts_cons, puts_nil, List.set_cons_zero, List.set_cons_succ, num]
                repeat first | exact Wk.nil | refine wk_ownsl ?_ | refine Wk.same ?_ | refine wk_any ?_
          · rw [htk] at hgx
            repeat' first|refine Spl.on (fun _=>?_) (fun _=>?_)|with_reducible refine gd ?_|simp only [go_sem, Int.reduceEq, Int.cast_ofNat_Int, Bool.false_eq_true, xblkG_exit3, List.length_map, ej, hgx, hw]
            refine lendG_mk (n - 1) [num ((i + 1 : Nat) : Int)] (by omega) ⟨i + 1, k, rfl, by omega, by omega, by rw [fm_take hx, edF, if_pos htk]; simp only [List.length_nil]; omega, rfl⟩ ?_
            simp only [hvm_t, hvm_f, hvm_nil, puts_cons, puts_nil, List.set_cons_zero, List.set_cons_succ, num]
            repeat first | exact Wk.nil | refine wk_ownsl ?_ | refine Wk.same ?_ | refine wk_any ?_
        · have ej := eq_false (show ¬ (i : Int) < (L.length : Int) by omega)
          rw [List.take_of_length_le hge] at hk
          repeat' first|refine Spl.on (fun _=>?_) (fun _=>?_)|with_reducible refine gd ?_|simp only [go_sem, Int.reduceEq, Int.cast_ofNat_Int, Bool.false_eq_true, xblkG_exit3, List.length_map, ej]
          refine ((topics23 L tm hl hs ht).wk ?_).mono ?_
          · try simp only [num, str]
            repeat first | exact Wk.nil | exact Wk.refl _ | refine wk_agg ?_ ?_ | refine wk_ownsl ?_ | refine wk_nilsl ?_ | refine Wk.same ?_
          rintro r rfl
          try simp only [tru, num, str]
          repeat' first|refine Spl.on (fun _=>?_) (fun _=>?_)|with_reducible refine gd ?_|simp only [go_sem, Int.reduceEq, Int.cast_ofNat_Int, Bool.false_eq_true, xblkG_exit3, List.length_map, ej]
          refine cwpG_loop [false, false, false, false, false, false, false, false, true, true, true, true, false, false, false, false, false, false, false, false, false, false, false, false, false, false, false, false, false, false, false, false, false, false, false, false, false, false, false, false, false, false, false, false, false, false, false, false, false, false, false, true, false, true, true, true, true, true, true, true, true, true, true, true, true, true, true, true, true, true, true, true, true, true, true, true, true, true, true, true, true, true, true, true, true, true, false, false, false, false, false, false, false, false, false, false, false, false, false] [51, 53] (fun n st xs => ∃ i k : Nat, st = some k ∧ i ≤ (topR L).length ∧ i + n = (topR L).length ∧ k = 2 + (L.flatMap edF).length + (((topR L).take i).flatMap (tpF L)).length ∧ xs = [.sl 1 ((topR L).map str), num i]) ⟨(topR L).length, _, ⟨0, k, rfl, by omega, by omega, by simp only [List.take_zero, List.flatMap_nil, List.length_nil]; omega, rfl⟩, ?_⟩ ?_
          · simp only [hvm_t, hvm_f, hvm_nil, puts_cons, puts_nil, List.set_cons_zero, List.set_cons_succ, num]
            repeat first | exact Wk.nil | refine wk_ownsl ?_ | refine Wk.same ?_ | refine wk_any ?_
          · rintro n st3 xs ⟨i, k, rfl, hi1, hi2, hk, rfl⟩
            simp only [hvm_t, hvm_f, hvm_nil, puts_cons, puts_nil, List.set_cons_zero, List.set_cons_succ, num]
            rcases Nat.lt_or_ge i (topR L).length with hlt | hge
            · have ej := eq_true (show (i : Int) < ((topR L).length : Int) by omega)
              obtain ⟨t, hx, hd⟩ := drop_at hlt
              have hgx := strs_at hx
              have hw : IntKind.i64.wrap ((i : Int) + 1) = ((i + 1 : Nat) : Int) := wrap_succ (by omega)
              repeat' first|refine Spl.on (fun _=>?_) (fun _=>?_)|with_reducible refine gd ?_|simp only [go_sem, Int.reduceEq, Int.cast_ofNat_Int, Bool.false_eq_true, xblkG_exit3, List.length_map, ej, hgx, hw]
              refine ((isName_33 ndZ t).wk ?_).mono ?_
              · try simp only [num, str]
                repeat first | exact Wk.nil | exact Wk.refl _ | refine wk_agg ?_ ?_ | refine wk_ownsl ?_ | refine wk_nilsl ?_ | refine Wk.same ?_
              rintro r rfl
              simp only [tru]
              cases hnm : nameL t
              · repeat' first|refine Spl.on (fun _=>?_) (fun _=>?_)|with_reducible refine gd ?_|simp only [go_sem, Int.reduceEq, Int.cast_ofNat_Int, Bool.false_eq_true, xblkG_exit3, List.length_map, ej, hgx, hw]
                refine lendG_mk (n - 1) [.sl 1 ((topR L).map str), num ((i + 1 : Nat) : Int)] (by omega) ⟨i + 1, k, rfl, by omega, by omega, by rw [fm_take hx, tpF_no hnm]; simp only [List.length_nil]; omega, rfl⟩ ?_
                simp only [hvm_t, hvm_f, hvm_nil, puts_cons, puts_nil, List.set_cons_zero, List.set_cons_succ, num]
                repeat first | exact Wk.nil | refine wk_ownsl ?_ | refine Wk.same ?_ | refine wk_any ?_
              · have hyk := ad_tp (fm_at hx (tpF_at0 (L := L) hnm))
                rw [Nat.add_zero, ← hk] at hyk
                repeat' first|refine Spl.on (fun _=>?_) (fun _=>?_)|with_reducible refine gd ?_|simp only [go_sem, Int.reduceEq, Int.cast_ofNat_Int, Bool.false_eq_true, xblkG_exit3, List.length_map, ej, hgx, hw]
                refine yc_mk ⟨_, hyk, rfl⟩ ?_ ?_
                · repeat' first|refine Spl.on (fun _=>?_) (fun _=>?_)|with_reducible refine gd ?_|simp only [go_sem, Int.reduceEq, Int.cast_ofNat_Int, Bool.false_eq_true, xblkG_exit3, List.length_map, ej, hgx, hw]
                  refine ((page20 L tm t 1 ⟨by omega, by omega⟩ (by omega) hs).wk ?_).mono ?_
                  · try simp only [num, str]
                    repeat first | exact Wk.nil | exact Wk.refl _ | refine wk_agg ?_ ?_ | refine wk_ownsl ?_ | refine wk_nilsl ?_ | refine Wk.same ?_
                  rintro r rfl
                  try simp only [tru, num, str]
                  repeat' first|refine Spl.on (fun _=>?_) (fun _=>?_)|with_reducible refine gd ?_|simp only [go_sem, Int.reduceEq, Int.cast_ofNat_Int, Bool.false_eq_true, xblkG_exit3, List.length_map, ej, hgx, hw]
                  refine cwpG_loop [false, false, false, false, false, false, false, false, false, false, false, true, false, false, false, false, false, false, false, false, false, false, false, false, false, false, false, false, false, false, false, false, false, false, false, false, false, false, false, false, false, false, false, false, false, false, false, false, false, false, false, false, false, false, false, false, false, false, false, false, false, false, false, false, false, false, false, false, false, false, false, true, true, true, true, true, true, true, true, true, true, true, true, true, true, false, false, false, false, false, false, false, false, false, false, false, false, false, false] [11] (fun n st xs => ∃ p k4 : Nat, st = some k4 ∧ p ≤ 64 ∧ p ≤ pgN L t ∧ p + n = 65 ∧ k4 = 2 + (L.flatMap edF).length + (((topR L).take i).flatMap (tpF L)).length + 1 + p ∧ xs = [num ((p + 1 : Nat) : Int)]) ⟨65, _, ⟨0, k + 1, rfl, by omega, by omega, by omega, by omega, rfl⟩, ?_⟩ ?_
                  · simp only [hvm_t, hvm_f, hvm_nil, puts_cons, puts_nil, List.set_cons_zero, List.set_cons_succ, num]
                    repeat first | exact Wk.nil | refine wk_ownsl ?_ | refine Wk.same ?_ | refine wk_any ?_
                  · rintro n4 st4 xs ⟨p, k4, rfl, hp1, hp2, hpn, hk4, rfl⟩
                    simp only [hvm_t, hvm_f, hvm_nil, puts_cons, puts_nil, List.set_cons_zero, List.set_cons_succ, num]
                    have hwp : IntKind.i64.wrap (((p + 1 : Nat) : Int) + 1) = ((p + 1 + 1 : Nat) : Int) := wrap_succ (by omega)
                    rcases Nat.lt_or_ge p (pgN L t) with hpl | hpg
                    · have hpl' : p < ((newL t L).length + 4) / 5 := hpl
                      have ep := eq_true (show ((p + 1 : Nat) : Int) ≤ ((((newL t L).length + 4) / 5 : Nat) : Int) by omega)
                      repeat' first|refine Spl.on (fun _=>?_) (fun _=>?_)|with_reducible refine gd ?_|simp only [go_sem, Int.reduceEq, Int.cast_ofNat_Int, Bool.false_eq_true, xblkG_exit3, List.length_map, ep, hwp, hw]
                      refine ((isNumber32 ((p + 1 : Nat) : Int)).wk ?_).mono ?_
                      · try simp only [num, str]
                        repeat first | exact Wk.nil | exact Wk.refl _ | refine wk_agg ?_ ?_ | refine wk_ownsl ?_ | refine wk_nilsl ?_ | refine Wk.same ?_
                      rintro r rfl
                      rcases Nat.lt_or_ge p 64 with h64 | h64
                      · have hnb : numB ((p + 1 : Nat) : Int) = true := numB_iff.2 ⟨by omega, by omega⟩
                        simp only [tru, hnb]
                        have hyk := ad_tp (fm_at hx (tpF_at hnm hpl h64))
                        rw [show 2 + (L.flatMap edF).length + ((((topR L).take i).flatMap (tpF L)).length + (1 + p)) = k4 by omega] at hyk
                        repeat' first|refine Spl.on (fun _=>?_) (fun _=>?_)|with_reducible refine gd ?_|simp only [go_sem, Int.reduceEq, Int.cast_ofNat_Int, Bool.false_eq_true, xblkG_exit3, List.length_map, ep, hwp, hw]
                        refine yc_mk ⟨_, hyk, rfl⟩ ?_ ?_
                        · repeat' first|refine Spl.on (fun _=>?_) (fun _=>?_)|with_reducible refine gd ?_|simp only [go_sem, Int.reduceEq, Int.cast_ofNat_Int, Bool.false_eq_true, xblkG_exit3, List.length_map, ep, hwp, hw]
                          refine lendG_mk (n4 - 1) [num ((p + 1 + 1 : Nat) : Int)] (by omega) ⟨p + 1, k4 + 1, rfl, by omega, by omega, by omega, by omega, rfl⟩ ?_
                          simp only [hvm_t, hvm_f, hvm_nil, puts_cons, puts_nil, List.set_cons_zero, List.set_cons_succ, num]
                          repeat first | exact Wk.nil | refine wk_ownsl ?_ | refine Wk.same ?_ | refine wk_any ?_
                        · repeat' first|refine Spl.on (fun _=>?_) (fun _=>?_)|with_reducible refine gd ?_|simp only [go_sem, Int.reduceEq, Int.cast_ofNat_Int, Bool.false_eq_true, xblkG_exit3, List.length_map, ep, hwp, hw]
                          all_goals first | exact .inr rfl | exact .inr trivial
                      · have hnb : numB ((p + 1 : Nat) : Int) = false := by
                          cases h : numB ((p + 1 : Nat) : Int) with
                          | false => rfl
                          | true => have := numB_iff.1 h; omega
                        simp only [tru, hnb]
                        repeat' first|refine Spl.on (fun _=>?_) (fun _=>?_)|with_reducible refine gd ?_|simp only [go_sem, Int.reduceEq, Int.cast_ofNat_Int, Bool.false_eq_true, xblkG_exit3, List.length_map, ep, hwp, hw]
                        refine lendG_mk (n - 1) [.sl 1 ((topR L).map str), num ((i + 1 : Nat) : Int)] (by omega) ⟨i + 1, k4, rfl, by omega, by omega, by rw [fm_take hx, tpF_len hnm]; omega, rfl⟩ ?_
                        simp only [hvm_t, hvm_f, hvm_nil, puts_cons, puts_nil, List.set_cons_zero, List.set_cons_succ, num]
                        repeat first | exact Wk.nil | refine wk_ownsl ?_ | refine Wk.same ?_ | refine wk_any ?_
                    · have hpg' : p ≥ ((newL t L).length + 4) / 5 := hpg
                      have ep := eq_false (show ¬ ((p + 1 : Nat) : Int) ≤ ((((newL t L).length + 4) / 5 : Nat) : Int) by omega)
                      repeat' first|refine Spl.on (fun _=>?_) (fun _=>?_)|with_reducible refine gd ?_|simp only [go_sem, Int.reduceEq, Int.cast_ofNat_Int, Bool.false_eq_true, xblkG_exit3, List.length_map, ep, hwp, hw]
                      refine lendG_mk (n - 1) [.sl 1 ((topR L).map str), num ((i + 1 : Nat) : Int)] (by omega) ⟨i + 1, k4, rfl, by omega, by omega, by rw [fm_take hx, tpF_len hnm]; omega, rfl⟩ ?_
                      simp only [hvm_t, hvm_f, hvm_nil, puts_cons, puts_nil, List.set_cons_zero, List.set_cons_succ, num]
                      repeat first | exact Wk.nil | refine wk_ownsl ?_ | refine Wk.same ?_ | refine wk_any ?_
                · repeat' first|refine Spl.on (fun _=>?_) (fun _=>?_)|with_reducible refine gd ?_|simp only [go_sem, Int.reduceEq, Int.cast_ofNat_Int, Bool.false_eq_true, xblkG_exit3, List.length_map, ej, hgx, hw]
                  all_goals first | exact .inr rfl | exact .inr trivial
            · have ej := eq_false (show ¬ (i : Int) < ((topR L).length : Int) by omega)
              rw [List.take_of_length_le hge] at hk
              repeat' first|refine Spl.on (fun _=>?_) (fun _=>?_)|with_reducible refine gd ?_|simp only [go_sem, Int.reduceEq, Int.cast_ofNat_Int, Bool.false_eq_true, xblkG_exit3, List.length_map, ej]
              refine ((authors25 L tm hl hs).wk ?_).mono ?_
              · try simp only [num, str]
                repeat first | exact Wk.nil | exact Wk.refl _ | refine wk_agg ?_ ?_ | refine wk_ownsl ?_ | refine wk_nilsl ?_ | refine Wk.same ?_
              rintro r rfl
              try simp only [tru, num, str]
              repeat' first|refine Spl.on (fun _=>?_) (fun _=>?_)|with_reducible refine gd ?_|simp only [go_sem, Int.reduceEq, Int.cast_ofNat_Int, Bool.false_eq_true, xblkG_exit3, List.length_map, ej]
              refine cwpG_loop [false, false, false, false, false, false, false, false, false, false, false, false, false, true, false, false, false, false, false, false, false, false, false, false, false, false, false, false, false, false, false, false, false, false, false, false, false, false, false, false, false, false, false, false, false, false, false, false, false, false, false, false, false, false, false, false, false, false, false, false, false, false, false, false, false, false, false, false, false, false, false, false, false, false, false, false, false, false, false, false, false, false, false, false, false, false, false, true, false, true, true, true, true, true, true, true, true, true, true] [87, 89] (fun n st xs => ∃ q k5 : Nat, st = some k5 ∧ q ≤ (autR L).length ∧ q + n = (autR L).length ∧ k5 = 2 + (L.flatMap edF).length + ((topR L).flatMap (tpF L)).length + q ∧ xs = [.sl 1 ((autR L).map str), num q]) ⟨(autR L).length, _, ⟨0, k, rfl, by omega, by omega, by omega, rfl⟩, ?_⟩ ?_
              · simp only [hvm_t, hvm_f, hvm_nil, puts_cons, puts_nil, List.set_cons_zero, List.set_cons_succ, num]
                repeat first | exact Wk.nil | refine wk_ownsl ?_ | refine Wk.same ?_ | refine wk_any ?_
              · rintro n5 st5 xs ⟨q, k5, rfl, hq1, hq2, hk5, rfl⟩
                simp only [hvm_t, hvm_f, hvm_nil, puts_cons, puts_nil, List.set_cons_zero, List.set_cons_succ, num]
                rcases Nat.lt_or_ge q (autR L).length with hq | hq
                · have ej := eq_true (show (q : Int) < ((autR L).length : Int) by omega)
                  obtain ⟨u, hux, hud⟩ := drop_at hq
                  have hgx := strs_at hux
                  have hw : IntKind.i64.wrap ((q : Int) + 1) = ((q + 1 : Nat) : Int) := wrap_succ (by omega)
                  have hyk := ad_au hux
                  rw [← hk5] at hyk
                  repeat' first|refine Spl.on (fun _=>?_) (fun _=>?_)|with_reducible refine gd ?_|simp only [go_sem, Int.reduceEq, Int.cast_ofNat_Int, Bool.false_eq_true, xblkG_exit3, List.length_map, ej, hgx, hw]
                  refine yc_mk ⟨_, hyk, rfl⟩ ?_ ?_
                  · repeat' first|refine Spl.on (fun _=>?_) (fun _=>?_)|with_reducible refine gd ?_|simp only [go_sem, Int.reduceEq, Int.cast_ofNat_Int, Bool.false_eq_true, xblkG_exit3, List.length_map, ej, hgx, hw]
                    refine lendG_mk (n5 - 1) [.sl 1 ((autR L).map str), num ((q + 1 : Nat) : Int)] (by omega) ⟨q + 1, k5 + 1, rfl, by omega, by omega, by omega, rfl⟩ ?_
                    simp only [hvm_t, hvm_f, hvm_nil, puts_cons, puts_nil, List.set_cons_zero, List.set_cons_succ, num]
                    repeat first | exact Wk.nil | refine wk_ownsl ?_ | refine Wk.same ?_ | refine wk_any ?_
                  · repeat' first|refine Spl.on (fun _=>?_) (fun _=>?_)|with_reducible refine gd ?_|simp only [go_sem, Int.reduceEq, Int.cast_ofNat_Int, Bool.false_eq_true, xblkG_exit3, List.length_map, ej, hgx, hw]
                    all_goals first | exact .inr rfl | exact .inr trivial
                · have ej := eq_false (show ¬ (q : Int) < ((autR L).length : Int) by omega)
                  repeat' first|refine Spl.on (fun _=>?_) (fun _=>?_)|with_reducible refine gd ?_|simp only [go_sem, Int.reduceEq, Int.cast_ofNat_Int, Bool.false_eq_true, xblkG_exit3, List.length_map, ej]
                  refine .inl ?_
                  have : (adL L).length = 2 + ((L.flatMap edF).length + (((topR L).flatMap (tpF L)).length + (autR L).length)) := by simp only [adL, List.length_append, List.length_map, List.length_cons, List.length_nil]
                  rw [this, hk5]
                  first | omega | exact congrArg some (by omega)
    · repeat' first|refine Spl.on (fun _=>?_) (fun _=>?_)|with_reducible refine gd ?_|simp only [go_sem, Int.reduceEq, Int.cast_ofNat_Int, Bool.false_eq_true, xblkG_exit3, List.length_map]
      all_goals first | exact .inr rfl | exact .inr trivial
  · repeat' first|refine Spl.on (fun _=>?_) (fun _=>?_)|with_reducible refine gd ?_|simp only [go_sem, Int.reduceEq, Int.cast_ofNat_Int, Bool.false_eq_true, xblkG_exit3, List.length_map]
    all_goals first | exact .inr rfl | exact .inr trivial
end Go.Proofs.YtkafbgdokgfjmaaGreatDoor
namespace Go.Proofs.YtkafbgdokgfjmaaGreatDoor
open Go.RowKit Go.Proofs
set_option linter.unusedSimpArgs false
set_option linter.unusedVariables false
set_option maxRecDepth 100000
set_option maxHeartbeats 4000000

def fmF (l : List Adr) : List Str := (l.filter validL).map fmtL
def allL (L : List Sto) : List Str := dst (fmF (adL L))
theorem fmF_take {l : List Adr} {k : Nat} {a : Adr} (h : l[k]? = some a) : fmF (l.take (k + 1)) = fmF (l.take k) ++ if validL a = true then [fmtL a] else [] := by
  rw [List.take_add_one, h]
  unfold fmF
  rw [List.filter_append, List.map_append]
  congr 1
  cases hv : validL a <;> simp [hv]
theorem fmF_len (l : List Adr) : (fmF l).length ≤ l.length := by
  unfold fmF
  rw [List.length_map]
  exact List.length_filter_le _ _
theorem newF_len0 (v : Str) (s : Sto) (l : List Sto) : True := trivial
theorem pgN_le (L : List Sto) (t : Str) (h : L.length ≤ 10000) : pgN L t ≤ 10000 := by
  have := newL_len t L
  unfold pgN
  omega
theorem adr_each41 (L : List Sto) (tm : List AV) : ACalls Tryz.prog 41 [stA L tm] (fun r => r = .clo 64 [.elt (.agg [.sl 8 (L.map sto), .sl 2 tm])]) := by
  simp only [stA]
  refine calls_short [(1,[1],[])] ttok hmix Tryz.func41 (by decide) (by decide +kernel) (by simp only [Tryz.f41, Option.bind_some, comp, isLend, lendOf, lendX, lendC, lendH, Nat.reduceLeDiff, Nat.reduceSub, ne_eq, not_false_eq_true, and_self, cops, cguard, gslot, List.getElem?_toArray, List.getElem?_cons_succ, List.getElem?_cons_zero, vlook, tlook, cutAt_nil, cutAt, firstReg, isCut, mkSeq, Nat.reduceAdd, Nat.reduceEqDiff, reduceIte]; rfl) Tryz.ntmps41 Tryz.results41 ⟨_, rfl⟩ rfl ?_
  simp only [List.length_cons, List.length_nil, Nat.reduceAdd, Nat.reduceSub, List.replicate_succ, List.replicate_zero, List.cons_append, List.nil_append, num, str, tru]
  repeat' first|refine Spl.on (fun _=>?_) (fun _=>?_)|with_reducible refine gd ?_|simp only [go_sem, Int.reduceEq, Int.cast_ofNat_Int, Bool.false_eq_true, xblkG_exit3, List.length_map]
  all_goals rfl
theorem all24 (L : List Sto) (tm : List AV) (hl : L.length ≤ 10000) (hs : ∀ s ∈ L, StOk s) (ht : ∀ s ∈ L, s.tp.length ≤ 1000) (he : ∀ s ∈ L, EdOk s) (hT : (topR L).length ≤ 1000000000) (hA : (autR L).length ≤ 1000000000) (hZ : (adL L).length ≤ 10000000) :
    ACalls Tryz.prog 24 [stA L tm] (fun r => r = .own 9 1 ((allL L).map str)) := by
  simp only [stA]
  refine calls_shortG [(7,[200003],[])] [] [4,5,6,9,10,11,12,13,14,15,16,17,18,19,20] ttok hmix Tryz.func24 (by decide) (by decide +kernel) (by simp only [Tryz.f24, Option.bind_some, compG, ylook, compY, compY2, Nat.reduceMod, Nat.reduceDiv, Nat.reduceLT, comp, isLend, lendOf, lendX, lendC, lendH, Nat.reduceLeDiff, Nat.reduceSub, ne_eq, not_false_eq_true, and_self, cops, cguard, gslot, List.getElem?_toArray, List.getElem?_cons_succ, List.getElem?_cons_zero, vlook, tlook, List.take_succ_cons, List.take_zero, List.drop_succ_cons, List.drop_zero, Option.map_some, Nat.reduceEqDiff, if_true, if_false, Nat.succ_ne_self, Nat.reduceAdd, reduceIte, reduceCtorEq, Bool.false_eq_true, cutAt_nil, cutAt, firstReg, isCut, mkSeq, mkSeqG]; rfl) Tryz.ntmps24 Tryz.results24 ⟨_, rfl⟩ rfl ?_
  skip
  simp only [List.length_cons, List.length_nil, Nat.reduceAdd, Nat.reduceSub, List.replicate_succ, List.replicate_zero, List.cons_append, List.nil_append, num, str, tru]
  repeat' first|refine Spl.on (fun _=>?_) (fun _=>?_)|with_reducible refine gd ?_|simp only [go_sem, Int.reduceEq, Int.cast_ofNat_Int, Bool.false_eq_true, xblkG_exit3, List.length_map]
  refine ((adr_each41 L tm).wk ?_).mono ?_
  · simp only [stA]
    repeat first | exact Wk.nil | exact Wk.refl _ | refine wk_ownsl ?_ | refine wk_nilown ?_ | refine wk_nilmine ?_ | refine wk_nilsl ?_ | refine Wk.same ?_ | refine wk_any ?_
  rintro r rfl
  repeat' first|refine Spl.on (fun _=>?_) (fun _=>?_)|with_reducible refine gd ?_|simp only [go_sem, Int.reduceEq, Int.cast_ofNat_Int, Bool.false_eq_true, xblkG_exit3, List.length_map]
  have hi := adEach64 L tm hl hs ht he hT hA
  obtain ⟨Z, hX⟩ : ∃ Z, adL L = Z := ⟨_, rfl⟩
  have hYX : adY L = fun k args => ∃ a, Z[k]? = some a ∧ args = [adrA a] := by funext k args; simp only [adY, hX]
  unfold allL
  rw [hYX] at hi
  rw [hX] at hi hZ ⊢
  refine cwpG_range [false, false, false, true, true, true, true, false, false, true, true, true, true, true, true, true, true, true, true, true, true, false, false, false, false] [3] (fun k xs => xs = [.box 41 [.mine 9 1 ((fmF (Z.take k)).map str)]]) (Nat.le_refl 25) ?_ hi ?_ ?_ ?_
  · exact .inl rfl
  · refine ⟨_, rfl, ?_⟩
    simp only [hvm_t, hvm_f, hvm_nil, puts_cons, puts_nil, List.set_cons_zero, List.set_cons_succ, num]
    simp only [List.take_zero, fmF, List.filter_nil, List.map_nil]
    repeat first | exact Wk.nil | exact Wk.refl _ | refine Wk.box (W1.box ?_) ?_ | refine wk_agg ?_ ?_ | refine wk_ownsl ?_ | refine wk_nilown ?_ | refine wk_nilmine ?_ | refine wk_nilsl ?_ | refine Wk.same ?_ | refine wk_any ?_
  · rintro k args xs ⟨a, hk, rfl⟩ rfl
    refine ⟨rfl, rfl, ?_⟩
    have hlk : k < Z.length := (List.getElem?_eq_some_iff.1 hk).1
    have hfl := fmF_len (Z.take k)
    rw [List.length_take] at hfl
    have hsn := fmF_take hk
    obtain ⟨G, hG⟩ : ∃ G, fmF (Z.take k) = G := ⟨_, rfl⟩
    rw [hG] at hfl hsn
    rw [hG]
    simp only [adrA, num, str, tru]
    simp only [hvm_t, hvm_f, hvm_nil, puts_cons, puts_nil, List.set_cons_zero, List.set_cons_succ, num]
    repeat' first|refine Spl.on (fun _=>?_) (fun _=>?_)|with_reducible refine gd ?_|simp only [go_sem, Int.reduceEq, Int.cast_ofNat_Int, Bool.false_eq_true, xblkG_exit3, List.length_map, List.length_map]
    refine ((format14 a).wk ?_).mono ?_
    · simp only [adrA, num, str]
      repeat first | exact Wk.nil | exact Wk.refl _ | refine wk_ownsl ?_ | refine wk_nilown ?_ | refine wk_nilmine ?_ | refine wk_nilsl ?_ | refine Wk.same ?_ | refine wk_any ?_
    rintro r rfl
    cases hv : validL a
    · simp only [fmtA, hv, Bool.false_eq_true, if_false, num, str]
      repeat' first|refine Spl.on (fun _=>?_) (fun _=>?_)|with_reducible refine gd ?_|simp only [go_sem, Int.reduceEq, Int.cast_ofNat_Int, Bool.false_eq_true, xblkG_exit3, List.length_map, List.length_map]
      refine rend_mk [.box 41 [.mine 9 1 ((fmF (Z.take (k + 1))).map str)]] rfl ?_
      rw [hsn, hv]
      simp only [Bool.false_eq_true, if_false, List.append_nil]
      simp only [hvm_t, hvm_f, hvm_nil, puts_cons, puts_nil, List.set_cons_zero, List.set_cons_succ, num]
      repeat first | exact Wk.nil | exact Wk.refl _ | refine Wk.box (W1.box ?_) ?_ | refine wk_agg ?_ ?_ | refine wk_ownsl ?_ | refine wk_nilown ?_ | refine wk_nilmine ?_ | refine wk_nilsl ?_ | refine Wk.same ?_ | refine wk_any ?_
    · simp only [fmtA, hv, if_true, num, str]
      repeat' first|refine Spl.on (fun _=>?_) (fun _=>?_)|with_reducible refine gd ?_|simp only [go_sem, Int.reduceEq, Int.cast_ofNat_Int, Bool.false_eq_true, xblkG_exit3, List.length_map, List.length_map]
      refine rend_mk [.box 41 [.mine 9 1 ((fmF (Z.take (k + 1))).map str)]] rfl ?_
      rw [hsn, hv]
      simp only [if_true, List.map_append, List.map_cons, List.map_nil, str]
      simp only [hvm_t, hvm_f, hvm_nil, puts_cons, puts_nil, List.set_cons_zero, List.set_cons_succ, num]
      repeat first | exact Wk.nil | exact Wk.refl _ | refine Wk.box (W1.box ?_) ?_ | refine wk_agg ?_ ?_ | refine wk_ownsl ?_ | refine wk_nilown ?_ | refine wk_nilmine ?_ | refine wk_nilsl ?_ | refine Wk.same ?_ | refine wk_any ?_
  · rintro xs rfl
    simp only [hvm_t, hvm_f, hvm_nil, puts_cons, puts_nil, List.set_cons_zero, List.set_cons_succ, num]
    rw [List.take_length]
    have hfl := fmF_len Z
    repeat' first|refine Spl.on (fun _=>?_) (fun _=>?_)|with_reducible refine gd ?_|simp only [go_sem, Int.reduceEq, Int.cast_ofNat_Int, Bool.false_eq_true, xblkG_exit3, List.length_map]
    refine RCalls.mono (sort66 (fmF Z) (by omega)) ?_
    rintro r y ⟨rfl, rfl⟩
    repeat' first|refine Spl.on (fun _=>?_) (fun _=>?_)|with_reducible refine gd ?_|simp only [go_sem, Int.reduceEq, Int.cast_ofNat_Int, Bool.false_eq_true, xblkG_exit3, List.length_map]
    refine (compact67 _ (by rw [List.length_mergeSort]; omega)).mono ?_
    rintro r rfl
    repeat' first|refine Spl.on (fun _=>?_) (fun _=>?_)|with_reducible refine gd ?_|simp only [go_sem, Int.reduceEq, Int.cast_ofNat_Int, Bool.false_eq_true, xblkG_exit3, List.length_map]
    all_goals rfl
end Go.Proofs.YtkafbgdokgfjmaaGreatDoor
