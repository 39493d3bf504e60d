/- A slice in any field of a box, lent to the rest of a region; answers whose slice is frozen. -/
import Derived.Test.YtohelofjlkoboaaA13
namespace Go.Proofs.Ytohelofjlkoboaa
open Go.RowKit
set_option linter.unusedVariables false
set_option linter.unusedSimpArgs false
set_option linter.unusedSectionVars false
variable [Env]
variable {dfs : List Deferred}

def lbkF1 (x : AV) (s d2 Te off : Nat) (cs : List AV) (K : List AV → Prop) (σ : List AV) : Prop := match x with
  | .mine e k es => K (((σ.map (kr s)).set d2 .any).set s (.box Te (cs.set off (.mine e k es))))
  | .own e k es => K (((σ.map (kr s)).set d2 .any).set s (.box Te (cs.set off (.own e k es))))
  | _ => False
def lbkF (s d2 Te off : Nat) (cs : List AV) (K : List AV → Prop) (σ : List AV) : Prop := lbkF1 (σ.getD d2 .any) s d2 Te off cs K σ
def lndF1 (y : AV) (P : Program) (T : Tab) (ts2 : List Nat) (s d1 d2 Te off : Nat) (cs : List AV) (l : List CO) (K : List AV → Prop) (σ : List AV) : Prop := match y with
  | .mine e k es => twp [100000 + d2] (copl P T (twp ts2 (lbkF s d2 Te off cs K)) l) (((σ.set s .any).set d1 .any).set d2 (.mine e k es))
  | _ => False
def lndF (x : AV) (P : Program) (T : Tab) (ts2 : List Nat) (s d1 d2 off : Nat) (l : List CO) (K : List AV → Prop) (σ : List AV) : Prop := match x with
  | .box Te cs => lndF1 (cs.getD off .any) P T ts2 s d1 d2 Te off cs l K σ
  | _ => False
section
variable {P : Program} {T : Tab}
theorem lendsF_core (ts2 : List Nat) (hT : TabOk P T) {ops : Array Oper} {ia ib : Nat} {L : List Nat} {o1 o2 : Oper} {os : List Oper} {l : List CO} {T1 t s d1 d2 n f off : Nat} {ag : Bool} {i1 i2 : TI} {σ : List AV} {Q : Exit → List AV → Prop} {w0 w : World} {S0 c0 : Nat → Nat} {a : Act} (hst : Stt dfs w0 S0 c0 σ a w)
    (hg0 : ops[ia]? = some o1) (hg1' : ops[ib]? = some o2) (hL : L.map (ops[·]?) = os.map some) (hcs : cops ops os = some l) (ho1 : o1.op = .fieldAddr T1 (.tmp s) f) (hd1 : o1.dst = some d1) (hg1 : o1.guard = none) (ho2 : o2.op = .load t (.tmp d1)) (hd2 : o2.dst = some d2) (hg2 : o2.guard = none)
    (hi1 : T T1 = some i1) (hf : i1.td.flds[f]? = some (off, some n, some ag)) (hn : n ≠ 0) (hi2 : T t = some i2) (hagg : i2.td.agg = false) (hok : lokd s d1 d2 σ.length os = true)
    (h : lndF (σ.getD s .any) P T ts2 s d1 d2 off l (Q .normal) σ) : wpOps P ops (lift dfs w0 S0 c0 Q) (ia :: ib :: L) a w := by
  simp only [lokd, Bool.and_eq_true, bne_iff_ne, ne_eq, Nat.blt_eq, List.all_eq_true] at hok
  obtain ⟨⟨⟨⟨⟨hds1, hds2⟩, hd12⟩, hl1⟩, hl2⟩, hos⟩ := hok
  unfold lndF at h
  split at h
  · rename_i Te cs hx
    unfold lndF1 at h
    split at h
    case h_2 => exact h.elim
    rename_i e k es hy
    obtain ⟨hrf, S, cc, hr, h1, hd, hz, hs⟩ := hst
    obtain ⟨b, cur, d0, c2, hev, hb, hS, hcs', hone, hr2, hcc, hv⟩ := take_box hr hx
    obtain ⟨v, e1, e2, hcv, hm, hrest, hde⟩ := hcs'.take off (rep_at hcs' hy (by simp))
    have hol : off < cur.toList.length := (List.getElem?_eq_some_iff.1 hcv).1
    obtain ⟨fs, fd, hu, hfd, hoff, hsz, hag⟩ := fld_get (hT T1 i1 hi1) hf
    have hrun1 : (execOp a.eval o1).run P w = .ok (.value (.pointer (some ⟨b, off, none⟩))) w := by
      unfold execOp
      simp [ho1, hev, Instr.fieldAt, run_underlying hu, hfd, Instr.sureAddr, fplace hsz hn, add_mk, hoff]
    have hw1 : Region.wanted o1 (yielded ops a.tmps) = true := by simp [Region.wanted, hg1]
    simp only [wpOps, hg0]
    rw [if_pos hw1]
    refine .inl (wp_value hrun1 ?_)
    rw [hd1]
    obtain ⟨a1, ha1⟩ : ∃ a1, a.put (some d1) (.pointer (some ⟨b, off, none⟩)) = a1 := ⟨_, rfl⟩
    have ht1 : a1.tmps.toList = a.tmps.toList.set d1 (.pointer (some ⟨b, off, none⟩)) := by rw [← ha1, put_tmps]
    have hdf1 : a1.defers = dfs := by rw [← ha1, put_defers]; exact hd
    rw [ha1]
    have hal : a.tmps.toList.length = σ.length := hr.length
    have hev1 : a1.eval (.tmp d1) = .pointer (some ⟨b, off, none⟩) := eval_tmp (by rw [ht1, List.getElem?_set_self (by omega)])
    have hl1' : lsz i2 = 1 := by unfold lsz; rw [hagg]; rfl
    have hrun2 := run_loadBox (P := P) (t := t) (off := off) (n := 1) (hT t i2 hi2) hb hl1'.symm (by rw [← Array.length_toList]; omega)
    have hdr : cur.toList.drop off = v :: cur.toList.drop (off + 1) := by
      rw [List.drop_eq_getElem_cons hol]; congr 1; exact (List.getElem?_eq_some_iff.1 hcv).2
    rw [hagg, hdr] at hrun2
    simp only [Bool.false_eq_true, if_false, List.take_succ_cons, List.take_zero, List.headD_cons] at hrun2
    have hexec2 : (execOp a1.eval o2).run P w = .ok (.value v) w := by
      unfold execOp
      simp [ho2, hev1, hrun2]
    simp only [wpOps, hg1']
    have hw2 : Region.wanted o2 (yielded ops a1.tmps) = true := by simp [Region.wanted, hg2]
    rw [if_pos hw2]
    refine .inl (wp_value hexec2 ?_)
    rw [hd2]
    obtain ⟨a2, ha2⟩ : ∃ a2, a1.put (some d2) v = a2 := ⟨_, rfl⟩
    have ht2 : a2.tmps.toList = a1.tmps.toList.set d2 v := by rw [← ha2, put_tmps]
    have hdf2 : a2.defers = dfs := by rw [← ha2, put_defers]; exact hdf1
    rw [ha2]
    have hsl : s < σ.length := (List.getElem?_eq_some_iff.1 (rep_at hr hx (by simp))).1
    -- the hidden state
    obtain ⟨c3, hr3, hle3⟩ := hr2.put (y := .any) (u := .pointer (some ⟨b, off, none⟩)) (cy := fun _ => 0) (.any (.nil zc0)) d1 (by simpa using hl1)
    rw [← ht1] at hr3
    obtain ⟨c4, hr4, hle4⟩ := hr3.put hm d2 (by simpa using hl2)
    rw [← ht2] at hr4
    have hrf2 : RefOk (((σ.set s .any).set d1 .any).set d2 (.mine e k es)) a2.tmps.toList := by
      rw [ht2, ht1]
      exact ((hrf.less s (y := .any) rfl).set d1 _ (y := .any) rfl).set d2 v rfl
    have hbound : ∀ x, (if x = b then 1 else 0) + e2 x + c4 x ≤ 1 := fun x => by
      have := h1 x; have := hcc x; have := hle3 x; have := hle4 x; have := hde x; omega
    have hbs : b < w.heap.size := (Array.getElem?_eq_some_iff.1 hb).1
    have hb0 : c4 b = 0 := by have := hbound b; simp at this; omega
    have hst2 : Stt dfs w S c4 (((σ.set s .any).set d1 .any).set d2 (.mine e k es)) a2 w := ⟨hrf2, S, c4, hr4, fun x => by have := hbound x; omega, hdf2, hz, Stp.refl w S c4⟩
    obtain ⟨σ3, h3, hst3⟩ := twp_sound _ hst2 h
    rw [← copl_eq _ _ _ hcs] at h3
    have hvs2 : a2.tmps[s]? = some (.pointer (some ⟨b, 0, none⟩)) := by
      rw [← Array.getElem?_toList, ht2, set_other hds2, ht1, set_other hds1]; exact hv
    have hvd2 : a2.tmps[d2]? = some v := by
      rw [← Array.getElem?_toList, ht2, List.getElem?_set_self (by rw [ht1, List.length_set]; omega)]
    refine aopl_sound (fr := [s, d2]) hT _ os σ3 a2 w ?_ ?_ hst3 h3 fun σ4 a' w' hst4 hK hkeep => ?_
    · exact hL
    · intro s' hs' o ho
      have := hos o ho
      rcases List.mem_cons.1 hs' with rfl | hs'
      · exact this.1
      · rcases List.mem_cons.1 hs' with rfl | hs'
        · exact this.2
        · cases hs'
    · obtain ⟨σ5, h5, hst5⟩ := twp_sound _ hst4 hK
      have hst6 := (kr_wk s σ5).stt hst5
      have hall : (σ5.map (kr s)).all (nrf s) = true := by
        rw [List.all_map]
        exact List.all_eq_true.2 fun x _ => kr_nrf s x
      obtain ⟨x5, hx5, hkx, h5⟩ : ∃ x5, σ5.getD d2 .any = x5 ∧ (x5 ≠ .any ∧ kr s x5 = x5) ∧ Q .normal (((σ5.map (kr s)).set d2 .any).set s (.box Te (cs.set off x5))) := by
        unfold lbkF lbkF1 at h5
        split at h5
        · rename_i e' k' es' hx5; exact ⟨_, hx5, ⟨by simp, rfl⟩, h5⟩
        · rename_i e' k' es' hx5; exact ⟨_, hx5, ⟨by simp, rfl⟩, h5⟩
        · exact h5.elim
      obtain ⟨hrf6, S', c6, hr6, h16, hd6, hz6, hstp⟩ := hst6
      have hx6 : (σ5.map (kr s))[d2]? = some x5 := by
        rw [List.getElem?_map]
        rw [List.getD_eq_getElem?_getD] at hx5
        cases hq : σ5[d2]? with
        | none => rw [hq] at hx5; exact absurd hx5.symm hkx.1
        | some y => rw [hq] at hx5; simp only [Option.getD_some] at hx5; subst hx5; rw [Option.map_some, hkx.2]
      obtain ⟨v', f1, f2, hv', hm', hr7, hff⟩ := hr6.take d2 hx6
      have hvv : v' = v := by
        have := hkeep d2 (by simp)
        rw [hvd2, ← Array.getElem?_toList, hv'] at this
        injection this
      subst hvv
      have hvs' : a'.tmps.toList[s]? = some (.pointer (some ⟨b, 0, none⟩)) := by
        rw [Array.getElem?_toList, hkeep s (by simp)]; exact hvs2
      have hkb := hstp.keep b hbs hb0
      have hrest' := hrest.step hstp fun x => by have := hbound x; omega
      have hbox : RepC w' S' [.box Te (cs.set off x5)] [.pointer (some ⟨b, 0, none⟩)] (fun x => (if x = b then 1 else 0) + (f1 x + e2 x)) :=
        .box (c2 := fun _ => 0) (hkb.1.trans hb) (hkb.2.trans hS) (by
          have := hrest'.fill hm' off (by rw [List.getElem?_set_self (by rw [hcs'.length] at hol; exact hol)])
          rw [List.set_set, list_set_same hcv] at this
          exact this) hone (.nil zc0) (fun x => by simp)
      have hsl5 : s < (σ5.map (kr s)).length := by
        have g1 := hr6.length
        have g2 := (List.getElem?_eq_some_iff.1 hvs').1
        omega
      obtain ⟨cb, hrb, hle⟩ := hr7.put hbox s (by simpa using hsl5)
      rw [list_set_same hvs'] at hrb
      have hrfb : RefOk (((σ5.map (kr s)).set d2 .any).set s (.box Te (cs.set off x5))) a'.tmps.toList := by
        have := (hrf6.less d2 (y := .any) rfl).newbox (d := s) Te (cs.set off x5) (.pointer (some ⟨b, 0, none⟩)) (List.all_eq_true.2 fun x hx => by
          rcases List.mem_or_eq_of_mem_set hx with hx | rfl
          · exact List.all_eq_true.1 hall x hx
          · rfl)
        rwa [list_set_same hvs'] at this
      have hfr : Stp w S cc w' S' (fun x => (if x = b then 1 else 0) + (f1 x + e2 x) + f2 x) := by
        have := hstp.frame (c := cc) (c2 := fun x => cc x - c4 x) (fun x => by have := hcc x; have := hle3 x; have := hle4 x; have := hde x; show cc x = c4 x + (cc x - c4 x); omega)
        refine this.drop fun x => ?_
        have := hcc x; have := hle3 x; have := hle4 x; have := hde x; have := hff x
        show (if x = b then 1 else 0) + (f1 x + e2 x) + f2 x ≤ c6 x + (cc x - c4 x)
        omega
      refine ⟨_, h5, hrfb, S', cb, hrb, fun x => ?_, hd6, hz6, (hs.trans hfr).drop hle⟩
      have hle := hle x
      have hff := hff x
      rcases Nat.lt_or_ge x w.heap.size with hbx | hbx
      · have := hstp.own x hbx
        have := hbound x
        omega
      · have g1 : e2 x = 0 := by
          rcases Nat.eq_zero_or_pos (e2 x) with h | h
          · exact h
          · have := hrest.lt x h; omega
        have g2 : x ≠ b := by omega
        have := h16 x
        simp only [g1, g2, if_false] at hle
        omega
  · exact h.elim
theorem cwpX_lendsF (ts2 : List Nat) (hT : TabOk P T) {id : Nat} {ops : Array Oper} {o1 o2 : Oper} {os : List Oper} {l : List CO} {T1 t s d1 d2 n f off : Nat} {ag : Bool} {i1 i2 : TI} {σ : List AV} {Q : Exit → List AV → Prop}
    (hops : ops.toList = o1 :: o2 :: os) (hcs : cops ops os = some l) (ho1 : o1.op = .fieldAddr T1 (.tmp s) f) (hd1 : o1.dst = some d1) (hg1 : o1.guard = none) (ho2 : o2.op = .load t (.tmp d1)) (hd2 : o2.dst = some d2) (hg2 : o2.guard = none)
    (hi1 : T T1 = some i1) (hf : i1.td.flds[f]? = some (off, some n, some ag)) (hn : n ≠ 0) (hi2 : T t = some i2) (hagg : i2.td.agg = false) (hok : lokd s d1 d2 σ.length os = true)
    (h : lndF (σ.getD s .any) P T ts2 s d1 d2 off l (Q .normal) σ) : cwpX P T (.ext (.region id ops false)) Q σ := by
  intro dfs w0 S0 c0 a w hst
  have hsize : ops.size = os.length + 2 := by rw [← Array.length_toList, hops]; rfl
  have hat : ∀ j, ops[j + 2]? = os[j]? := fun j => by rw [← Array.getElem?_toList, hops]; rfl
  refine wp_region ?_
  rw [hsize, List.range_succ_eq_map, List.range_succ_eq_map, List.map_cons]
  refine lendsF_core ts2 hT hst (by rw [← Array.getElem?_toList, hops]; rfl) (by rw [← Array.getElem?_toList, hops]; rfl) ?_ hcs ho1 hd1 hg1 ho2 hd2 hg2 hi1 hf hn hi2 hagg hok h
  apply List.ext_getElem?
  intro j
  simp only [List.getElem?_map, Option.map_map, List.map_map]
  rcases Nat.lt_or_ge j os.length with hj | hj
  · rw [List.getElem?_range hj, List.getElem?_eq_getElem hj]
    simp only [Option.map_some, Function.comp_apply, Nat.succ_eq_add_one]
    rw [hat j, List.getElem?_eq_getElem hj]
  · rw [List.getElem?_eq_none (by simpa using hj), List.getElem?_eq_none hj]
    rfl
/-- The same, behind one operation. -/
theorem cwpX_lendsM (ts2 : List Nat) (hT : TabOk P T) {id : Nat} {ops : Array Oper} {o0 o1 o2 : Oper} {os : List Oper} {l : List CO} {T1 t s d1 d2 n f off : Nat} {ag : Bool} {i1 i2 : TI} {σ : List AV} {Q : Exit → List AV → Prop}
    {q dd : Nat} {v : Value} (hops : ops.toList = o0 :: o1 :: o2 :: os) (hg : o0.guard = none) (hmv : o0.op = .move (.tmp q)) (hd0 : o0.dst = some dd) (hq : σ.getD q .any = .raw v) (hcs : cops ops os = some l) (ho1 : o1.op = .fieldAddr T1 (.tmp s) f) (hd1 : o1.dst = some d1) (hg1 : o1.guard = none) (ho2 : o2.op = .load t (.tmp d1)) (hd2 : o2.dst = some d2) (hg2 : o2.guard = none)
    (hi1 : T T1 = some i1) (hf : i1.td.flds[f]? = some (off, some n, some ag)) (hn : n ≠ 0) (hi2 : T t = some i2) (hagg : i2.td.agg = false) 
    (hok : lokd s d1 d2 σ.length os = true) (h : lndF ((σ.set dd (.raw v)).getD s .any) P T ts2 s d1 d2 off l (Q .normal) (σ.set dd (.raw v))) : cwpX P T (.ext (.region id ops false)) Q σ := by
  intro dfs w0 S0 c0 a w hst
  have hsize : ops.size = os.length + 3 := by rw [← Array.length_toList, hops]; rfl
  have hat : ∀ j, ops[j + 3]? = os[j]? := fun j => by rw [← Array.getElem?_toList, hops]; rfl
  have h0 : ops[0]? = some o0 := by rw [← Array.getElem?_toList, hops]; rfl
  refine wp_region ?_
  rw [hsize, List.range_succ_eq_map, List.range_succ_eq_map, List.range_succ_eq_map, List.map_cons, List.map_cons]
  have hw : Region.wanted o0 (yielded ops a.tmps) = true := by simp [Region.wanted, hg]
  simp only [wpOps, h0]
  rw [if_pos hw]
  have hr : rop P T o0 σ (fun σ' => σ' = σ.set dd (.raw v)) := by
    unfold rop
    rw [hmv]
    simp only [hq]
    unfold aop
    rw [hmv]
    have hq2 := hq
    rw [List.getD_eq_getElem?_getD] at hq2
    simp [aset, hd0, aev, hq2, pl, amv, amv1]
  refine .inl (wp_mono' (fun a' w' ⟨σ', he, hs'⟩ => ?_) (rop_sound hT hst hr))
  subst he
  refine lendsF_core ts2 hT hs' (by rw [← Array.getElem?_toList, hops]; rfl) (by rw [← Array.getElem?_toList, hops]; rfl) ?_ hcs ho1 hd1 hg1 ho2 hd2 hg2 hi1 hf hn hi2 hagg (by rw [List.length_set]; exact hok) h
  apply List.ext_getElem?
  intro j
  simp only [List.getElem?_map, Option.map_map, List.map_map]
  rcases Nat.lt_or_ge j os.length with hj | hj
  · rw [List.getElem?_range hj, List.getElem?_eq_getElem hj]
    simp only [Option.map_some, Function.comp_apply, Nat.succ_eq_add_one]
    rw [hat j, List.getElem?_eq_getElem hj]
  · rw [List.getElem?_eq_none (by simpa using hj), List.getElem?_eq_none hj]
    rfl
end

section
variable {P : Program} {T : Tab}
def frzF1 (y : AV) (P : Program) (T : Tab) (s off Te : Nat) (cs : List AV) (d : CC) (K : List AV → Prop) (σ : List AV) : Prop := match y with
  | .mine e k es => (cs.set off .any).all zc1 = true ∧ cwp P T d (frzK s (.box Te cs) K) (σ.set s (.elt (.agg (cs.set off (.sl k es)))))
  | _ => False
def frzF (x : AV) (P : Program) (T : Tab) (s off : Nat) (d : CC) (K : List AV → Prop) (σ : List AV) : Prop := match x with
  | .box Te cs => frzF1 (cs.getD off .any) P T s off Te cs d K σ
  | _ => False
theorem cwpX_frozenF (A : Ann) (hT : TabOk P T) (hm : P.follows .mixedOrders = true) {id : Nat} {ops : Array Oper} {dr : Bool} {d : CC} (s off : Nat) {σ : List AV} {Q : Exit → List AV → Prop} (hl : isLend A id = none) (hd : comp A (.region id ops dr) = some d) (hk : cok A (.region id ops dr) = true) (hn : vchk [s] ops.toList = true)
    (h : frzF (σ.getD s .any) P T s off d (Q .normal) σ) : cwpX P T (.ext (.region id ops dr)) Q σ := by
  intro dfs w0 S0 c0 a w hst
  unfold frzF at h
  split at h
  · rename_i Te cs hx
    unfold frzF1 at h
    split at h
    case h_2 => exact h.elim
    rename_i e k es hy
    obtain ⟨hcz, h⟩ := h
    obtain ⟨hrf, S, cc, hr, h1, hd', hz, hs⟩ := hst
    obtain ⟨b, cur, d0, c2, hev, hb, hS, hcs', hone, hr2, hcc, hv⟩ := take_box hr hx
    have hyo := rep_at hcs' hy (by simp)
    obtain ⟨v, e1, e2, hcv, hmi, hrest, hde⟩ := hcs'.take off hyo
    have hoff : off < cs.length := (List.getElem?_eq_some_iff.1 hyo).1
    have hsl : s < σ.length := (List.getElem?_eq_some_iff.1 (rep_at hr hx (by simp))).1
    have hbs : b < w.heap.size := (Array.getElem?_eq_some_iff.1 hb).1
    have hmz := mine_zero hmi
    -- what is read stands still
    obtain ⟨S1, hS1⟩ : ∃ S1 : Nat → Nat, S1 = fun x => if x = b then cur.size else if e1 x = 0 then S x else es.length * k := ⟨_, rfl⟩
    have hle1 : ∀ x, S x ≤ S1 x := fun x => by
      rw [hS1]; dsimp only
      split
      · rename_i h; subst h; omega
      · split
        · exact Nat.le_refl _
        · rename_i h; have := (hmz x h).1; omega
    have hb1 : e1 b = 0 := by have := h1 b; have := hcc b; have := hde b; simp at *; omega
    have hc2b : c2 b = 0 := by have := h1 b; have := hcc b; simp at *; omega
    have hc2e : ∀ x, e1 x ≠ 0 → c2 x = 0 := fun x hx => by have := h1 x; have := hcc x; have := hde x; omega
    have hsame : ∀ x, x ≠ b → e1 x = 0 → S1 x = S x := fun x n1 n2 => by rw [hS1]; simp [n1, n2]
    have hr3 : RepC w S1 (σ.set s .any) a.tmps.toList c2 := hr2.keep (fun _ _ _ => rfl) hle1 fun x hx => ⟨rfl, hsame x (by rintro rfl; omega) (by rcases Nat.eq_zero_or_pos (e1 x) with h | h; exact h; have := hc2e x (by omega); omega)⟩
    have hz1 : Sz w S1 := ⟨fun x hx => by
        have : x ≠ b := by omega
        rw [hS1]; dsimp only
        rw [if_neg this]
        split
        · exact hz x hx
        · rename_i h; have := (hmz x h).2; omega,
      fun g hg => by
        obtain ⟨k1, v1, k2, k3⟩ := hz.g g hg
        exact ⟨Nat.lt_of_lt_of_le k1 (hle1 _), v1, k2, k3⟩⟩
    have he2 := zc1s_spec hrest hcz
    have hview : RepC w S1 (cs.set off (.sl k es)) cur.toList (fun _ => 0) := by
      have h1 := (hrest.keep (w' := w) (S' := S1) (fun _ _ _ => rfl) hle1 fun x hx => by have := he2 x; omega).fill (mine_view hmi hle1 fun x hx => by
        have : x ≠ b := by rintro rfl; exact hx hb1
        rw [hS1]; simp [this, hx]) off (by rw [List.getElem?_set_self hoff])
      rw [List.set_set, list_set_same hcv] at h1
      exact h1.congr fun x => by rw [he2 x]
    have helt : RepC w S1 [.elt (.agg (cs.set off (.sl k es)))] [.pointer (some ⟨b, 0, none⟩)] (fun _ => 0) := by
      refine .elt (cv := cur.toList) rfl hview zc0 (fun j u hj => ⟨?_, hone u (List.mem_of_getElem? hj)⟩) (by rw [hS1]; simp) (.nil zc0)
      simp only [Nat.zero_add]
      rw [cell_of_row w b j cur Te (0, 0) hb]
      simpa using hj
    have hfill := hr3.fill helt s (by simp [hsl])
    rw [List.set_set, list_set_same hv] at hfill
    have hst1 : Stt dfs w S1 c2 (σ.set s (.elt (.agg (cs.set off (.sl k es))))) a w :=
      ⟨hrf.less s rfl, S1, c2, hfill.congr (fun x => by simp), fun x => by have := h1 x; have := hcc x; omega, hd', hz1, Stp.refl w S1 c2⟩
    refine wp_mono (reg_keep hT hm hl hd hk hn hst1 h) fun e' a' w' hq => ?_
    obtain ⟨rfl, σ2, hK, hst2, hks⟩ := hq
    obtain ⟨hrf3, S', c3, hr4, h13, hd3, hz3, hstp⟩ := (kf_wk σ2).stt hst2
    have hBs : ∀ x, x = b ∨ e1 x ≠ 0 → S x = 0 ∧ x < w.heap.size ∧ c2 x = 0 := fun x hx => by
      rcases hx with rfl | hx
      · exact ⟨hS, hbs, hc2b⟩
      · exact ⟨(hmz x hx).1, (hmz x hx).2, hc2e x hx⟩
    obtain ⟨S2, hS2⟩ : ∃ S2 : Nat → Nat, S2 = fun x => if x = b ∨ e1 x ≠ 0 then 0 else S' x := ⟨_, rfl⟩
    have hS2n : ∀ x, ¬ (x = b ∨ e1 x ≠ 0) → S2 x = S' x := fun x hx => by rw [hS2]; dsimp only; rw [if_neg hx]
    have hS2y : ∀ x, (x = b ∨ e1 x ≠ 0) → S2 x = 0 := fun x hx => by rw [hS2]; dsimp only; rw [if_pos hx]
    have hr5 := hr4.low (B := fun x => x = b ∨ e1 x ≠ 0) hS2n (List.all_eq_true.2 fun x hx => by
      obtain ⟨y, _, rfl⟩ := List.mem_map.1 hx
      exact kf_kfl y) fun x hB => by
        have g1 := hBs x hB
        have := hstp.own x g1.2.1
        omega
    have hle2 : ∀ x, S x ≤ S2 x := fun x => by
      by_cases hx : x = b ∨ e1 x ≠ 0
      · rw [(hBs x hx).1]; exact Nat.zero_le _
      · rw [hS2n x hx]; exact Nat.le_trans (hle1 x) (hstp.le x)
    have hcell : ∀ x o, o < S x → w'.cell? ⟨x, o, none⟩ = w.cell? ⟨x, o, none⟩ := fun x o ho => hstp.cell x o (Nat.lt_of_lt_of_le ho (hle1 x))
    have hmi' := hmi.keep hcell hle2 fun x hx => by
      have hB : x = b ∨ e1 x ≠ 0 := .inr (by omega)
      have g1 := hBs x hB
      exact ⟨(hstp.keep x g1.2.1 g1.2.2).1, by rw [hS2y x hB, g1.1]⟩
    have hrest' := hrest.keep hcell hle2 fun x hx => by have := he2 x; omega
    have hkb := hstp.keep b hbs hc2b
    have hbox : RepC w' S2 [.box Te cs] [.pointer (some ⟨b, 0, none⟩)] (fun x => (if x = b then 1 else 0) + e1 x) :=
      .box (c1 := e1) (c2 := fun _ => 0) (hkb.1.trans hb) (hS2y b (.inl rfl)) (by
        have h1 := hrest'.fill hmi' off (by rw [List.getElem?_set_self hoff])
        rw [List.set_set, list_set_same hcv, list_set_same hyo] at h1
        exact h1.congr fun x => by rw [he2 x]; omega) hone (.nil zc0) (fun x => by simp)
    have hvs' : a'.tmps.toList[s]? = some (.pointer (some ⟨b, 0, none⟩)) := by
      rw [Array.getElem?_toList, hks, ← Array.getElem?_toList]; exact hv
    have hsl5 : s < (σ2.map kf).length := by
      have g1 := hr4.length
      have g2 := (List.getElem?_eq_some_iff.1 hvs').1
      omega
    obtain ⟨cb, hrb, hleb⟩ := hr5.put hbox s hsl5
    rw [list_set_same hvs'] at hrb
    have hrfb : RefOk ((σ2.map kf).set s (.box Te cs)) a'.tmps.toList := by
      have := hrf3.newbox (d := s) Te cs (.pointer (some ⟨b, 0, none⟩)) (List.all_eq_true.2 fun x hx => by
        obtain ⟨y, _, rfl⟩ := List.mem_map.1 hx
        exact kfl_nrf s _ (kf_kfl y))
      rwa [list_set_same hvs'] at this
    have hcb : ∀ x, cb x ≤ (if x = b then 1 else 0) + e1 x + c3 x := fun x => by have := hleb x; omega
    have hfr : Stp w S cc w' S2 cb := ⟨hstp.os, hstp.tape, hstp.output, hstp.size, fun x hx hx0 => by
        have g1 := hcc x; have g2 := hde x
        have hB : ¬ (x = b ∨ e1 x ≠ 0) := by
          rintro (rfl | h)
          · simp at g1; omega
          · omega
        have g3 := hstp.keep x hx (by omega)
        refine ⟨g3.1, ?_⟩
        rw [hS2n x hB, g3.2]
        exact hsame x (fun h => hB (.inl h)) (by rcases Nat.eq_zero_or_pos (e1 x) with h | h; exact h; exact absurd (.inr (by omega)) hB),
      hcell, hle2, fun x hx => by
        have g1 := hcc x; have g2 := hde x; have g3 := hstp.own x hx; have g4 := hcb x
        omega⟩
    refine ⟨_, hK, hrfb, S2, cb, hrb, fun x => ?_, hd3, ⟨fun x hx => ?_, fun g hg => ?_⟩, hs.trans hfr⟩
    · have g4 := hcb x
      rcases Nat.lt_or_ge x w.heap.size with hbx | hbx
      · have g1 := hcc x; have g2 := hde x; have g3 := hstp.own x hbx; have := h1 x
        omega
      · have g2 : x ≠ b := by omega
        have g3 : e1 x = 0 := by
          rcases Nat.eq_zero_or_pos (e1 x) with h | h
          · exact h
          · have := (hmz x (by omega)).2; omega
        have := h13 x
        simp only [g2, g3, if_false] at g4
        omega
    · by_cases hB : x = b ∨ e1 x ≠ 0
      · exact hS2y x hB
      · rw [hS2n x hB]; exact hz3 x hx
    · obtain ⟨k1, _⟩ := hz.g g hg
      obtain ⟨k2, v1, k3, k4⟩ := hz3.g g hg
      have hB : ¬ (g.1 = b ∨ e1 g.1 ≠ 0) := fun hB => by have := (hBs _ hB).1; omega
      exact ⟨by rw [hS2n _ hB]; exact k2, v1, k3, k4⟩
  · exact h.elim
end
/-- A slice that is its holder's alone, in an answer's struct: frozen. -/
theorem ACalls.freezeAt {P : Program} {f : Nat} {args : List AV} {e k : Nat} {es ps ys : List AV} (h : ACalls P f args (fun r => r = .agg (ps ++ .mine e k es :: ys))) : ACalls P f args (fun r => r = .agg (ps ++ .own e k es :: ys)) := by
  obtain ⟨hf, _, h3⟩ := h
  refine ⟨hf, ⟨_, rfl⟩, fun w S vs c hz hv hc => (h3 w S vs c hz hv hc).mono fun e' w' ⟨v, r, S', c', he, hR, hp, hr, h4, h5, h6⟩ => ?_⟩
  subst hR
  cases hr with
  | agg h1 ho hn hcc =>
    rename_i vs1 c1 c2
    obtain ⟨us1, us2, p1, p2, rfl, hps, h1, hpp⟩ := h1.unapp
    obtain ⟨u, us, e1, e2, rfl, hm, hys, hde⟩ := h1.uncons
    cases hm with
    | mineE hn1 => exact ⟨_, _, S', c', he, rfl, rfl, .agg (RepC.app hps (RepC.cons (.ownE hn1) hys hde) hpp) ho hn hcc, h4, h5, h6⟩
    | mine hn1 hcap hk hb hs' hS hx1 h0 hoc hnil hcc1 =>
      rename_i b cap cur c0 c3 _
      obtain ⟨_, hz2⟩ := hnil.zero
      have hcb : 0 < e1 b := by rw [hcc1]; simp; omega
      have hone := h4 b
      have hcb' : c' b = 1 ∧ e1 b = 1 ∧ e2 b = 0 ∧ c2 b = 0 ∧ p1 b = 0 := by
        have := hcc b; have := hde b; have := hpp b
        omega
      have hle : ∀ x, S' x ≤ upd S' b (es.length * k) x := by
        intro x
        unfold upd
        split
        · rename_i hx; subst hx; rw [hS]; exact Nat.zero_le _
        · exact Nat.le_refl _
      have hkeep : ∀ {xs vs c1}, RepC w' S' xs vs c1 → c1 b = 0 → RepC w' (upd S' b (es.length * k)) xs vs c1 := fun h hb0 =>
        h.keep (fun _ _ _ => rfl) hle (fun x hx => ⟨rfl, by unfold upd; rw [if_neg]; intro hxb; subst hxb; omega⟩)
      have hown : RepC w' (upd S' b (es.length * k)) [.own e k es] [.slice (some ⟨b, 0, none⟩) es.length cap] e1 :=
        .own hn1 hcap hk hb hs' (by simp [upd]) (hkeep hx1 (h0 b)) h0 hoc (.nil hz2) hcc1
      have hagg : RepC w' (upd S' b (es.length * k)) [.agg (ps ++ .own e k es :: ys)] [.agg (us1 ++ .slice (some ⟨b, 0, none⟩) es.length cap :: us).toArray] c' :=
        .agg (RepC.app (hkeep hps hcb'.2.2.2.2) (RepC.cons hown (hkeep hys hcb'.2.2.1) hde) hpp) ho (hkeep hn hcb'.2.2.2.1) hcc
      refine ⟨_, _, _, c', he, rfl, rfl, hagg, h4, ⟨fun x hx => ?_, h5.g.upd0 hS _⟩, ⟨h6.os, h6.tape, h6.output, h6.size, fun x hx hx0 => ⟨(h6.keep x hx hx0).1, ?_⟩, h6.cell, fun x => Nat.le_trans (h6.le x) (hle x), h6.own⟩⟩
      · unfold upd
        rw [if_neg]
        · exact h5 x hx
        · intro hxb; subst hxb
          have := (Array.getElem?_eq_some_iff.1 hb).1
          omega
      · unfold upd
        rw [if_neg]
        · exact (h6.keep x hx hx0).2
        · intro hxb; subst hxb
          have := h6.own x hx
          omega
/-! ## rules -/
section
variable {P : Program} {T : Tab} {K : List AV → Prop} {σ : List AV}
def lndFr (P : Program) (T : Tab) (ts2 : List Nat) (s d2 Te off : Nat) (cs : List AV) (l : List CO) (K : List AV → Prop) (σ : List AV) : Prop := copl P T (twp ts2 (lbkF s d2 Te off cs K)) l σ
theorem lndFr_eq (ts2 : List Nat) (s d2 Te off : Nat) (cs : List AV) (l : List CO) : lndFr P T ts2 s d2 Te off cs l K σ = copl P T (twp ts2 (lbkF s d2 Te off cs K)) l σ := (rfl)
theorem lndF_box (ts2 : List Nat) (s d1 d2 Te off : Nat) (cs : List AV) (l : List CO) : lndF (.box Te cs) P T ts2 s d1 d2 off l K σ = lndF1 (cs.getD off .any) P T ts2 s d1 d2 Te off cs l K σ := (rfl)
theorem lndF1_mine (ts2 : List Nat) (s d1 d2 Te off e k : Nat) (es cs : List AV) (l : List CO) : lndF1 (.mine e k es) P T ts2 s d1 d2 Te off cs l K σ = twp [100000 + d2] (lndFr P T ts2 s d2 Te off cs l K) (((σ.set s .any).set d1 .any).set d2 (.mine e k es)) := (rfl)
theorem lbkF_eq (s d2 Te off : Nat) (cs : List AV) : lbkF s d2 Te off cs K σ = lbkF1 (σ.getD d2 .any) s d2 Te off cs K σ := (rfl)
theorem lbkF1_mine (s d2 Te off e k : Nat) (es cs : List AV) : lbkF1 (.mine e k es) s d2 Te off cs K σ = K (((σ.map (kr s)).set d2 .any).set s (.box Te (cs.set off (.mine e k es)))) := (rfl)
theorem lbkF1_own (s d2 Te off e k : Nat) (es cs : List AV) : lbkF1 (.own e k es) s d2 Te off cs K σ = K (((σ.map (kr s)).set d2 .any).set s (.box Te (cs.set off (.own e k es)))) := (rfl)
end
attribute [go_sem] lndFr_eq lndF_box lndF1_mine lbkF_eq lbkF1_mine lbkF1_own
theorem frzF_box {P : Program} {T : Tab} {K : List AV → Prop} {σ : List AV} (s off Te : Nat) (cs : List AV) (d : CC) : frzF (.box Te cs) P T s off d K σ = frzF1 (cs.getD off .any) P T s off Te cs d K σ := (rfl)
theorem frzF1_mine {P : Program} {T : Tab} {K : List AV → Prop} {σ : List AV} (s off Te e k : Nat) (es cs : List AV) (d : CC) : frzF1 (.mine e k es) P T s off Te cs d K σ = ((cs.set off .any).all zc1 = true ∧ cwp P T d (frzK s (.box Te cs) K) (σ.set s (.elt (.agg (cs.set off (.sl k es)))))) := (rfl)
attribute [go_sem] frzF_box frzF1_mine
end Go.Proofs.Ytohelofjlkoboaa
