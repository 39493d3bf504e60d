/- The operations that leave the world as it is. -/
import Derived.Test.YtohelofjlkoboaaA3
import Derived.Lib.Strings
namespace Go.Proofs.Ytohelofjlkoboaa
open Go.RowKit
set_option linter.unusedSectionVars false
variable [Env]
variable {dfs : List Deferred}
set_option linter.unusedVariables false
set_option linter.unusedSimpArgs false

def allOne (vs : List Value) : Bool := vs.all Value.oneCell'

/-- A load through an address: what is loaded, what is left. -/
def lsz (i : TI) : Nat := if i.td.agg then i.size else 1
def aload (σ : List AV) (i : TI) (x : Operand) (d : Option Nat) (K : List AV → Prop) : Prop :=
  match x with
  | .tmp s =>
    match σ.getD s .any with
    | .box T cs => lsz i ≤ cs.length ∧ K (aset (σ.set s (.box T (pleft cs 0 (lsz i) ((pcells cs 0 (lsz i)).map v1)))) d (pl (pval i.td.agg (pcells cs 0 (lsz i)))))
    | .ref s' off =>
      match σ.getD s' .any with
      | .box T cs => off + lsz i ≤ cs.length ∧ K (aset (σ.set s' (.box T (pleft cs off (lsz i) ((pcells cs off (lsz i)).map v1)))) d (pl (pval i.td.agg (pcells cs off (lsz i)))))
      | _ => False
    | .elt y => okc y = true ∧ (cellsOf y).length = lsz i ∧ K (aset σ d (pl (pval i.td.agg (cellsOf y))))
    | _ => False
  | _ => False

/-- A field's address. -/
def afieldAddr (σ : List AV) (i : TI) (x : Operand) (f : Nat) (d : Option Nat) (K : List AV → Prop) : Prop :=
  match i.td.flds[f]?, d with
  | some (off, some n, some agg), some d =>
    match x with
    | .tmp s =>
      match σ.getD s .any with
      | .box _ _ => n ≠ 0 ∧ s ≠ d ∧ K (σ.set d (.ref s off))
      | .ref s' o => match σ.getD s' .any with
        | .box _ _ => n ≠ 0 ∧ s' ≠ d ∧ K (σ.set d (.ref s' (o + off)))
        | _ => False
      | .elt y => n ≠ 0 ∧ okc y = true ∧ (agg = false → n = 1) ∧ off + n ≤ (cellsOf y).length ∧ K (σ.set d (.elt (pval agg (pcells (cellsOf y) off n))))
      | _ => False
    | _ => False
  | _, _ => False

def afield (i : TI) (f : Nat) (x : AV) (K : AV → Prop) : Prop :=
  match i.td.flds[f]?, x with
  | some (off, some n, some agg), .agg cs => (agg = false → n = 1) ∧ off + n ≤ cs.length ∧ K (pl (pval agg ((pcells cs off n).map v1)))
  | _, _ => False

/-- A field of a slot's aggregate: taken out of it; a view stays. -/
def afieldM (σ : List AV) (i : TI) (x : Operand) (f : Nat) (d : Option Nat) (K : List AV → Prop) : Prop :=
  match x with
  | .tmp s =>
    match σ.getD s .any with
    | .agg cs =>
      match i.td.flds[f]? with
      | some (off, some n, some agg) => (agg = false → n = 1) ∧ off + n ≤ cs.length ∧ K (aset (σ.set s (.agg (pleft cs off n ((pcells cs off n).map v1)))) d (pl (pval agg (pcells cs off n))))
      | _ => False
    | _ => False
  | x => afield i f (aev σ x) fun z => K (aset σ d z)
/-- The places of an array's elements, as of fields. -/
def arrF (size : Nat) (agg : Bool) : Nat → Nat → List (Nat × Option Nat × Option Bool)
  | _, 0 => []
  | off, n + 1 => (off, some size, some agg) :: arrF size agg (off + size) n
theorem arrF_get (size : Nat) (agg : Bool) : ∀ (n off k : Nat) (p : Nat × Option Nat × Option Bool), (arrF size agg off n)[k]? = some p → p = (off + k * size, some size, some agg)
  | 0, off, k, p, h => by simp [arrF] at h
  | n + 1, off, 0, p, h => by simp [arrF] at h; simp [← h]
  | n + 1, off, k + 1, p, h => by
    simp only [arrF, List.getElem?_cons_succ] at h
    have := arrF_get size agg n (off + size) k p h
    rw [this, Nat.succ_mul]; congr 1; omega
def bok (T : Tab) (i : TI) : Bool := i.td.struct || match i.td.arr with
  | some (_, e) => (T e).isSome
  | none => false
def bflds (T : Tab) (i : TI) : List (Nat × Option Nat × Option Bool) :=
  if i.td.struct then i.td.flds else match i.td.arr with
    | some (n, e) => match T e with
      | some j => arrF j.size j.td.agg 0 n
      | none => []
    | none => []

def aextract (σ : List AV) (x : Operand) (n : Nat) (d : Option Nat) (K : List AV → Prop) : Prop :=
  match x with
  | .tmp s =>
    match σ.getD s .any with
    | .tup cs => n < cs.length ∧ K (aset (σ.set s (.tup (cs.set n (v2 (cs.getD n .any))))) d (pl (cs.getD n .any)))
    | _ => False
  | _ => False

/-- An element: of a string, of an array. -/
def aindex (T : Tab) (i : TI) (x y : AV) (K : AV → Prop) : Prop :=
  match x, y with
  | .raw (.string s), .raw (.int _ n) => i.td.str = true ∧ 0 ≤ n ∧ n.toNat < s.data.toList.length ∧ K (.raw (.int .u8 ((s.data.toList.getD n.toNat 0).toNat : Int)))
  | .agg cs, .raw (.int _ n) =>
    match i.td.arr with
    | some (len, e) =>
      match T e with
      | some j => 0 ≤ n ∧ n < len ∧ (j.td.agg = false → j.size = 1) ∧ n.toNat * j.size + j.size ≤ cs.length ∧ K (pl (pval j.td.agg ((pcells cs (n.toNat * j.size) j.size).map v1)))
      | none => False
    | none => False
  | _, _ => False

/-- The address of an element of a slice. -/
def aindexAddr (T : Tab) (i : TI) (x y : AV) (K : AV → Prop) : Prop :=
  match i.td.elem with
  | some e =>
    match T e with
    | some j =>
      match x, y with
      | .sl k es, .raw (.int _ n) => k = j.size ∧ 0 ≤ n ∧ n.toNat < es.length ∧ K (.elt (es.getD n.toNat .any))
      | .own _ k es, .raw (.int _ n) => k = j.size ∧ 0 ≤ n ∧ n.toNat < es.length ∧ K (.elt (es.getD n.toNat .any))
      | _, _ => False
    | none => False
  | none => False

/-- A bound of a slice expression. -/
def abound (dflt : Int) : Option AV → (Int → Prop) → Prop
  | none, K => K dflt
  | some (.raw (.int _ n)), K => K n
  | _, _ => False
/-- A part of a string, of a slice. -/
def aslice (T : Tab) (i : TI) (x : AV) (lo hi : Option AV) (K : AV → Prop) : Prop :=
  match x with
  | .raw (.string s) => i.td.str = true ∧ abound 0 lo fun l => abound s.data.toList.length hi fun h =>
      0 ≤ l ∧ l ≤ h ∧ h ≤ s.data.toList.length ∧ K (.raw (.string ⟨((s.data.toList.drop l.toNat).take (h.toNat - l.toNat)).toArray⟩))
  | .sl k es =>
    match i.td.elem with
    | some e => match T e with
      | some j => k = j.size ∧ abound 0 lo fun l => abound es.length hi fun h => 0 ≤ l ∧ l ≤ h ∧ h ≤ es.length ∧ K (.sl k ((es.drop l.toNat).take (h.toNat - l.toNat)))
      | none => False
    | none => False
  | .own _ k es =>
    match i.td.elem with
    | some e => match T e with
      | some j => k = j.size ∧ abound 0 lo fun l => abound es.length hi fun h => 0 ≤ l ∧ l ≤ h ∧ h ≤ es.length ∧ K (.sl k ((es.drop l.toNat).take (h.toNat - l.toNat)))
      | none => False
    | none => False
  | .slx k es zs =>
    match i.td.elem with
    | some e => match T e with
      | some j => k = j.size ∧ abound 0 lo fun l => abound es.length hi fun h => (l = 0 ∧ h = ((es ++ zs).length : Int)) ∧ K (.sl k (es ++ zs))
      | none => False
    | none => False
  | _ => False

def alen (i : TI) : AV → (AV → Prop) → Prop
  | .raw (.string s), K => i.td.str = true ∧ K (.raw (.int .i64 (s.data.toList.length : Int)))
  | .sl _ es, K => i.td.elem.isSome = true ∧ K (.raw (.int .i64 (es.length : Int)))
  | .own _ _ es, K => i.td.elem.isSome = true ∧ K (.raw (.int .i64 (es.length : Int)))
  | .nil, K => i.td.elem.isSome = true ∧ K (.raw (.int .i64 0))
  | _, _ => False

def aconv (T : Tab) (s d : TI) (x : AV) (K : AV → Prop) : Prop :=
  match x with
  | .raw (.int _ n) => match d.td.ik with
    | some k => K (.raw (.int k (k.wrap n)))
    | none => False
  | .raw (.string t) => d.td.str = true ∧ K (.raw (.string t))
  | _ => False

section
variable {P : Program} {T : Tab} {w : World} {S : Nat → Nat}

theorem wp_value {o : Oper} {a : Act} {next : Act → World → Prop} {Q : Exit → Act → World → Prop} {v : Value} {w' : World} (h : (execOp a.eval o).run P w = .ok (.value v) w') (hn : next (a.put o.dst v) w') : o.wp P a w next Q := by
  unfold Oper.wp; rw [h]; exact hn

theorem rep_at {σ : List AV} {vs : List Value} {c : Nat → Nat} (h : RepC w S σ vs c) {s : Nat} {x : AV} (hx : σ.getD s .any = x) (hne : x ≠ .any) : σ[s]? = some x := by
  rw [List.getD_eq_getElem?_getD] at hx
  cases hs : σ[s]? with
  | none => rw [hs] at hx; exact absurd hx.symm hne
  | some y => rw [hs] at hx; simp at hx; rw [hx]

/-- A load from a box at an offset. -/
theorem run_loadBox {t b off n : Nat} {i : TI} {cur : Array Value} {Te : TypeId} (hi : TIok P t i) (hb : w.heap[b]? = some (.cells cur Te (0, 0))) (hn : n = lsz i) (hl : off + n ≤ cur.size) :
    (Instr.loadAt t (.pointer (some ⟨b, off, none⟩))).run P w = .ok (if i.td.agg then .agg ((cur.toList.drop off).take n).toArray else ((cur.toList.drop off).take n).headD undef) w := by
  obtain ⟨inf, z, d, h1, _, _, h4, _, h6, h7⟩ := hi.get
  unfold lsz at hn
  cases ha : i.td.agg with
  | true =>
    simp only [ha, if_true] at hn ⊢
    refine run_loadAt_mid w b off t _ d ?_ h6 ?_ ?_
    · intro j v hj
      rw [cell_of_row w b (off + j) cur Te (0, 0) hb]
      rw [List.getElem?_take] at hj
      split at hj
      · rw [List.getElem?_drop] at hj; simpa using hj
      · cases hj
    · have := td_agg (P := P) (d := d)
      rw [h7, ha] at this
      cases d <;> simp_all [aggB]
    · rw [h1]; simp; omega
  | false =>
    simp only [ha, Bool.false_eq_true, if_false] at hn ⊢
    subst hn
    have hagg : (isAgg t).run P w = .ok false w := by
      have := td_agg (P := P) (d := d)
      rw [h7, ha] at this
      unfold isAgg
      rw [Sem.run_bind, run_underlying h6 w]
      cases d <;> simp_all [aggB]
    have hc : w.cell? ⟨b, off, none⟩ = some cur[off] := by
      rw [cell_of_row w b off cur Te (0, 0) hb]; simp
    have hd : (cur.toList.drop off).take 1 = [cur[off]] := by
      rw [List.drop_eq_getElem_cons (by simp; omega)]; simp
    rw [hd]
    simp [Instr.loadAt, Instr.sureAddr, loadVar, hagg, hc]

theorem eval_tmp {a : Act} {s : Nat} {v : Value} (hv : a.tmps.toList[s]? = some v) : a.eval (.tmp s) = v := by
  simp only [Act.eval, Array.getD_eq_getD_getElem?]
  rw [← Array.getElem?_toList, hv]
  rfl

/-- A box taken out of its slot. -/
theorem take_box {σ : List AV} {a : Act} {c : Nat → Nat} (h : RepC w S σ a.tmps.toList c) {s Te : Nat} {cs : List AV} (hx : σ.getD s .any = .box Te cs) :
    ∃ b cur d1 c2, a.eval (.tmp s) = .pointer (some ⟨b, 0, none⟩) ∧ w.heap[b]? = some (.cells cur Te (0, 0)) ∧ S b = 0 ∧ RepC w S cs cur.toList d1 ∧ (∀ u ∈ cur.toList, u.oneCell' = true) ∧
      RepC w S (σ.set s .any) a.tmps.toList c2 ∧ (∀ x, c x = (if x = b then 1 else 0) + d1 x + c2 x) ∧ a.tmps.toList[s]? = some (.pointer (some ⟨b, 0, none⟩)) := by
  have hs := rep_at h hx (by simp)
  obtain ⟨v, c1, c2, hv, h1, h2, hc⟩ := h.take s hs
  cases h1 with
  | box hb hS h1 hoc h hcc =>
    cases h with | nil hz =>
    exact ⟨_, _, _, c2, eval_tmp hv, hb, hS, h1, hoc, h2, fun x => by rw [hc, hcc, hz x]; omega, hv⟩

theorem put_box {σ : List AV} {a : Act} {c2 d1 c : Nat → Nat} {s b Te : Nat} {cs : List AV} {cur : Array Value} (hr : RepC w S (σ.set s .any) a.tmps.toList c2) (hs : s < σ.length) (hv : a.tmps.toList[s]? = some (.pointer (some ⟨b, 0, none⟩)))
    (hb : w.heap[b]? = some (.cells cur Te (0, 0))) (hS : S b = 0) (h1 : RepC w S cs cur.toList d1) (ho : ∀ u ∈ cur.toList, u.oneCell' = true) (hc : ∀ x, c x = (if x = b then 1 else 0) + d1 x + c2 x) :
    RepC w S (σ.set s (.box Te cs)) a.tmps.toList c := by
  have := hr.fill (RepC.box (c := fun x => (if x = b then 1 else 0) + d1 x) hb hS h1 ho (.nil zc0) (fun x => by simp)) s (by simp [hs])
  rw [List.set_set, list_set_same hv] at this
  exact this.congr fun x => by rw [hc]

theorem getD_lt {σ : List AV} {s : Nat} {x : AV} (hx : σ.getD s .any = x) (hne : x ≠ .any) : s < σ.length := by
  rcases Nat.lt_or_ge s σ.length with h | h
  · exact h
  · rw [List.getD_eq_getElem?_getD, List.getElem?_eq_none h] at hx; exact absurd hx.symm hne

theorem pleft_self (vs : List Value) (off n : Nat) : vs.take off ++ (vs.drop off).take n ++ vs.drop (off + n) = vs := by
  rw [List.append_assoc, ← List.drop_drop, List.take_append_drop, List.take_append_drop]

section
variable {w0 : World} {S0 c0 : Nat → Nat} {σ : List AV} {a : Act} {K : List AV → Prop} {Q : Exit → Act → World → Prop} {o : Oper}

/-- What a load from a box's part leaves. -/
theorem load_part {t n off s Te : Nat} {x : Operand} {i : TI} {cs : List AV} (ho : o.op = .load t x) (hi : TIok P t i) (hst : Stt dfs w0 S0 c0 σ a w) (hn : n = lsz i)
    (hx : σ.getD s .any = .box Te cs) (he : ∀ b, a.tmps.toList[s]? = some (.pointer (some ⟨b, 0, none⟩)) → a.eval x = .pointer (some ⟨b, off, none⟩)) (hl : off + n ≤ cs.length)
    (h : K (aset (σ.set s (.box Te (pleft cs off n ((pcells cs off n).map v1)))) o.dst (pl (pval i.td.agg (pcells cs off n))))) :
    o.wp P a w (fun a' w' => ∃ σ', K σ' ∧ Stt dfs w0 S0 c0 σ' a' w') Q := by
  obtain ⟨hrf, S, c, hr, h1, hd, hz, hs⟩ := hst
  obtain ⟨b, cur, d1, c2, hev, hb, hS, hcs, hone, hr2, hc, hv⟩ := take_box hr hx
  have he := he b hv
  have hcl := hcs.length
  obtain ⟨e1, e2, hp, hput, hce⟩ := hcs.part off n
  obtain ⟨c', hp2, hc'⟩ := hput _ _ _ (RepC.map_v RepC.v1 hp)
  rw [pleft_self] at hp2
  have hr3 := put_box (c := fun x => (if x = b then 1 else 0) + c' x + c2 x) hr2 (getD_lt hx (by simp)) hv hb hS hp2 hone (fun x => rfl)
  have hval := rep_pval hp (fun u hu => hone u (List.mem_of_mem_drop (List.mem_of_mem_take hu))) i.td.agg (fun ha => by
    unfold lsz at hn
    rw [ha] at hn; simp at hn; subst hn
    simp [pcells]; omega)
  obtain ⟨e3, hval, hle⟩ := hval.pl
  refine wp_value (w' := w) (v := if i.td.agg then .agg ((cur.toList.drop off).take n).toArray else ((cur.toList.drop off).take n).headD undef) ?_ ⟨_, h, Stt.value (hrf.rebox _ _ (rep_at hr hx (by simp))) (pb_pl _) h1 hd hz hs hr3 hval (fun x => ?_) _⟩
  · have hrun := run_loadBox (off := off) hi hb hn (by simp at hcl; omega)
    unfold execOp
    simp only [ho, he, Sem.run_bind, hrun, Result.andThen_ok, Sem.run_pure]
  · rw [hc, hce]; have := hc' x; have := hle x; show e3 x + ((if x = b then 1 else 0) + c' x + c2 x) ≤ _; omega

theorem aload_sound {t : Nat} {x : Operand} {i : TI} (ho : o.op = .load t x) (hi : TIok P t i) (hst : Stt dfs w0 S0 c0 σ a w) (h : aload σ i x o.dst K) :
    o.wp P a w (fun a' w' => ∃ σ', K σ' ∧ Stt dfs w0 S0 c0 σ' a' w') Q := by
  unfold aload at h
  cases x with
  | tmp s =>
    simp only [] at h
    split at h
    · rename_i Te cs hx
      exact load_part ho hi hst rfl hx (fun b hb => eval_tmp hb) (by omega) h.2
    · rename_i s' off hx
      split at h
      · rename_i Te cs hx'
        obtain ⟨hl, hK⟩ := h
        have hst' := hst
        obtain ⟨hrf, S, c, hr, hrest⟩ := hst
        obtain ⟨b, hb1, hb2⟩ := hrf.ref s s' off Te cs (rep_at hr hx (by simp)) (rep_at hr hx' (by simp))
        exact load_part ho hi hst' rfl hx' (fun b' hb' => by
          rw [hb1] at hb'; cases hb'
          exact eval_tmp hb2) hl hK
      · exact h.elim
    · rename_i y hx
      obtain ⟨hok, hlen, hK⟩ := h
      obtain ⟨hrf, S, c, hr, h1, hd, hz, hs⟩ := hst
      have hsl := rep_at hr hx (by simp)
      obtain ⟨v, c1, c2, hv, hy, h2, hc⟩ := hr.take s hsl
      cases hy with
      | elt hsp hcv h0 hcell hst hnil =>
        rename_i ad cv ce
        have hev := eval_tmp hv
        have hcl := hcv.length
        unfold lsz at hlen
        have hval := rep_pval hcv (fun u hu => by
          obtain ⟨j, hj⟩ := List.getElem?_of_mem hu
          exact (hcell j u hj).2) i.td.agg (fun ha => by rw [ha] at hlen; simpa using hlen)
        obtain ⟨e3, hval, hle⟩ := hval.pl
        obtain ⟨bb, oo, sp⟩ := ad
        simp at hsp; subst hsp
        obtain ⟨inf, z, d, g1, _, _, g4, _, g6, g7⟩ := hi.get
        have htd := td_agg (P := P) (d := d)
        refine wp_value (w' := w) (v := if i.td.agg then .agg cv.toArray else cv.headD undef) ?_ ⟨_, hK, Stt.value hrf (pb_pl _) h1 hd hz hs hr hval (fun x => by have := hle x; rw [h0 x] at this; omega) _⟩
        have : (Instr.loadAt t (.pointer (some ⟨bb, oo, none⟩))).run P w = .ok (if i.td.agg then .agg cv.toArray else cv.headD undef) w := by
          cases ha : i.td.agg with
          | true =>
            simp only [if_true]
            refine run_loadAt_mid w bb oo t cv d (fun j v hj => (hcell j v hj).1) g6 ?_ ?_
            · rw [g7, ha] at htd; cases d <;> simp_all [aggB]
            · rw [g1]; rw [ha] at hlen; simp at hlen ⊢; omega
          | false =>
            have hagg : (isAgg t).run P w = .ok false w := by
              rw [g7, ha] at htd
              unfold isAgg
              rw [Sem.run_bind, run_underlying g6 w]
              cases d <;> simp_all [aggB]
            rw [ha] at hlen; simp at hlen
            match cv, hcl with
            | [u], _ =>
              have := (hcell 0 u rfl).1
              simp only [Nat.add_zero] at this
              simp [Instr.loadAt, Instr.sureAddr, loadVar, hagg, this]
            | [], hcl => simp at hcl; omega
            | _ :: _ :: _, hcl => simp at hcl; omega
        unfold execOp
        simp only [ho, hev, Sem.run_bind, this, Result.andThen_ok, Sem.run_pure]
    · exact h.elim
  | _ => exact h.elim

/-- A step that only reads: its value is one that owns nothing. -/
theorem quiet_sound {v : Value} {y : AV} (hst : Stt dfs w0 S0 c0 σ a w) (hp : pb y = true) (hrun : (execOp a.eval o).run P w = .ok (.value v) w) (hy : ∀ S c, RepC w S σ a.tmps.toList c → ∃ cy, RepC w S [y] [v] cy ∧ Zc cy)
    (hK : K (aset σ o.dst y)) : o.wp P a w (fun a' w' => ∃ σ', K σ' ∧ Stt dfs w0 S0 c0 σ' a' w') Q := by
  obtain ⟨hrf, S, c, hr, h1, hd, hz, hs⟩ := hst
  obtain ⟨cy, h2, h3⟩ := hy S c hr
  exact wp_value hrun ⟨_, hK, Stt.value hrf hp h1 hd hz hs hr h2 (fun x => by rw [h3 x]; omega) _⟩

theorem aev_rep {S : Nat → Nat} {c : Nat → Nat} (hr : RepC w S σ a.tmps.toList c) (x : Operand) : ∃ cx, RepC w S [aev σ x] [a.eval x] cx := by
  obtain ⟨c1, c2, h1, _⟩ := grab1 hr x
  exact ⟨c1, h1⟩

theorem fplace {f : Field} {n : Nat} (hsz : (P.info? f.type).map (·.size) = some n) (hn : n ≠ 0) (ad : Addr) : (fieldPlace ad f).run P w = .ok (ad.add f.offset) w := by
  cases hq : P.info? f.type with
  | none => rw [hq] at hsz; simp at hsz
  | some inf =>
    rw [hq] at hsz; simp at hsz
    simp [fieldPlace, sizeOf, typeInfo, hq, hsz, hn]
theorem fld_get {t f off : Nat} {n : Option Nat} {ag : Option Bool} {i : TI} (hi : TIok P t i) (h : i.td.flds[f]? = some (off, n, ag)) :
    ∃ fs fd, P.underlying t = some (.struct fs) ∧ fs[f]? = some fd ∧ fd.offset = off ∧ (P.info? fd.type).map (·.size) = n ∧ (P.underlying fd.type).map aggB = ag := by
  obtain ⟨inf, z, d, h1, _, _, h4, _, h6, h7⟩ := hi.get
  rw [← h7] at h
  cases d <;> simp [tdesc] at h
  rename_i fs
  obtain ⟨fd, hf, rfl, rfl, rfl⟩ := h
  exact ⟨fs, fd, h6, hf, rfl, rfl, rfl⟩
theorem add_mk (b o n : Nat) : (⟨b, o, none⟩ : Addr).add n = ⟨b, o + n, none⟩ := by unfold Addr.add; split <;> simp_all

theorem rep_cell {S : Nat → Nat} {z : AV} {u : Value} {c : Nat → Nat} (h : RepC w S [z] [u] c) (ho : u.oneCell' = true) : cellsOf z = [z] := by
  cases h with
  | agg h1 hoc h hcc => simp [Value.oneCell'] at ho
  | _ => rfl
theorem ref_sound {s d off b Te : Nat} {cs : List AV} (hod : o.dst = some d) (hst : Stt dfs w0 S0 c0 σ a w) (hs : σ[s]? = some (.box Te cs)) (hsd : s ≠ d) (hb : a.tmps.toList[s]? = some (.pointer (some ⟨b, 0, none⟩)))
    (hrun : (execOp a.eval o).run P w = .ok (.value (.pointer (some ⟨b, off, none⟩))) w) (hK : K (σ.set d (.ref s off))) : o.wp P a w (fun a' w' => ∃ σ', K σ' ∧ Stt dfs w0 S0 c0 σ' a' w') Q := by
  obtain ⟨hrf, S, c, hr, h1, hd, hz, hs'⟩ := hst
  refine wp_value hrun ⟨_, hK, ?_⟩
  have hl := hr.length
  rw [hod]
  refine ⟨?_, ?_⟩
  · rw [put_tmps]; exact hrf.newref hs hsd hb hl
  · obtain ⟨c', h2, h3⟩ := hr.aset (y := .ref s off) (u := .pointer (some ⟨b, off, none⟩)) (c1 := fun _ => 0) (.ref (.nil zc0)) (some d)
    exact ⟨S, c', h2, fun x => by have := h1 x; have := h3 x; omega, by rw [put_defers]; exact hd, hz, hs'.drop fun x => by have := h3 x; omega⟩
theorem afieldAddr_sound {t f : Nat} {x : Operand} {i : TI} (ho : o.op = .fieldAddr t x f) (hi : TIok P t i) (hst : Stt dfs w0 S0 c0 σ a w) (h : afieldAddr σ i x f o.dst K) :
    o.wp P a w (fun a' w' => ∃ σ', K σ' ∧ Stt dfs w0 S0 c0 σ' a' w') Q := by
  unfold afieldAddr at h
  split at h
  · rename_i off n agg d hfl hod
    obtain ⟨fs, fd, hu, hfd, hoff, hsz, hag⟩ := fld_get hi hfl
    cases x with
    | tmp s =>
      simp only [] at h
      split at h
      · rename_i Te cs hx
        obtain ⟨hn, hsd, hK⟩ := h
        have hst' := hst
        obtain ⟨_, S, c, hr, _⟩ := hst
        obtain ⟨b, cur, d1, c2, hev, _, _, _, _, _, _, hv⟩ := take_box hr hx
        refine ref_sound hod hst' (rep_at hr hx (by simp)) hsd hv ?_ hK
        unfold execOp
        simp [ho, hev, Instr.fieldAt, run_underlying hu, hfd, Instr.sureAddr, fplace hsz hn, add_mk, hoff]
      · rename_i s' o' hx
        split at h
        · rename_i Te cs hx'
          obtain ⟨hn, hsd, hK⟩ := h
          have hst' := hst
          obtain ⟨hrf, S, c, hr, _⟩ := hst
          obtain ⟨b, hb1, hb2⟩ := hrf.ref s s' o' Te cs (rep_at hr hx (by simp)) (rep_at hr hx' (by simp))
          have hev := eval_tmp hb2
          refine ref_sound hod hst' (rep_at hr hx' (by simp)) hsd hb1 ?_ hK
          unfold execOp
          simp [ho, hev, Instr.fieldAt, run_underlying hu, hfd, Instr.sureAddr, fplace hsz hn, add_mk, hoff]
        · exact h.elim
      · rename_i y hx
        obtain ⟨hn, hok, hag1, hlen, hK⟩ := h
        have hst' := hst
        obtain ⟨_, S, c, hr, _⟩ := hst
        have hsl := rep_at hr hx (by simp)
        obtain ⟨v, c1, c2, hv, hy, h2, hc⟩ := hr.take s hsl
        cases hy with
        | elt hsp hcv h0 hcell hst2 hnil =>
          rename_i ad cv ce
          obtain ⟨bb, oo, sp⟩ := ad
          simp at hsp; subst hsp
          have hev := eval_tmp hv
          have hK' : K (aset σ o.dst (.elt (pval agg (pcells (cellsOf y) off n)))) := by rw [hod]; exact hK
          refine quiet_sound hst' rfl (v := .pointer (some ⟨bb, oo + off, none⟩)) ?_ (fun S' c' hr' => ?_) hK'
          · unfold execOp
            simp [ho, hev, Instr.fieldAt, run_underlying hu, hfd, Instr.sureAddr, fplace hsz hn, add_mk, hoff]
          · have hsl' := rep_at hr' hx (by simp)
            obtain ⟨v', c1', c2', hv', hy', _, _⟩ := hr'.take s hsl'
            rw [hv] at hv'
            cases hv'
            cases hy' with
            | elt hsp hcv h0 hcell hst2 hnil =>
              rename_i cv ce
              have hcl := hcv.length
              obtain ⟨d1, hp, hd⟩ := hcv.sub0 off n
              refine ⟨fun _ => 0, ?_, zc0⟩
              have hpl : (pcells (cellsOf y) off n).length = n := by simp [pcells]; omega
              have hce : cellsOf (pval agg (pcells (cellsOf y) off n)) = pcells (cellsOf y) off n := by
                cases agg with
                | true => rfl
                | false =>
                  have := hag1 rfl
                  subst this
                  have hvl : ((cv.drop off).take 1).length = 1 := by simp; omega
                  revert hp hpl
                  generalize pcells (cellsOf y) off 1 = q
                  intro hp hpl
                  match q, hpl with
                  | [z], _ =>
                    match hvq : (cv.drop off).take 1, hvl with
                    | [u], _ =>
                      rw [hvq] at hp
                      refine rep_cell hp ?_
                      have hj : ((cv.drop off).take 1)[0]? = some u := by rw [hvq]; rfl
                      rw [List.getElem?_take] at hj
                      simp only [Nat.lt_one_iff, if_true, List.getElem?_drop, Nat.add_zero] at hj
                      exact (hcell off u hj).2
              refine .elt (cv := (cv.drop off).take n) (c0 := d1) rfl (by rw [hce]; exact hp) (fun b => by have := hd b; rw [h0 b] at this; omega) (fun j u hj => ?_) ?_ (.nil zc0)
              · rw [List.getElem?_take] at hj
                split at hj
                · rw [List.getElem?_drop] at hj
                  have := hcell (off + j) u hj
                  simpa [Nat.add_assoc] using this
                · cases hj
              · simp at hst2 ⊢
                omega
      · exact h.elim
    | _ => exact h.elim
  · exact h.elim

theorem rep_int {S : Nat → Nat} {k : IntKind} {n : Int} {v : Value} {c : Nat → Nat} (h : RepC w S [.raw (.int k n)] [v] c) : v = .int k n := (rep_raw h).1

theorem run_part {e : Nat} {j : TI} (hj : TIok P e j) {cs : Array Value} {off : Nat} (hl : off + j.size ≤ cs.size) (h1 : j.td.agg = false → j.size = 1) :
    (part e cs off).run P w = .ok (if j.td.agg then .agg ((cs.toList.drop off).take j.size).toArray else ((cs.toList.drop off).take j.size).headD undef) w := by
  obtain ⟨inf, z, d, g1, _, _, g4, _, g6, g7⟩ := hj.get
  have htd := td_agg (P := P) (d := d)
  rw [g7] at htd
  cases ha : j.td.agg with
  | true =>
    have hagg : (isAgg e).run P w = .ok true w := by
      rw [ha] at htd
      unfold isAgg
      rw [Sem.run_bind, run_underlying g6 w]
      cases d <;> simp_all [aggB]
    have he : cs.extract off (off + j.size) = ((cs.toList.drop off).take j.size).toArray := by
      apply Array.ext'
      simp [Array.toList_extract, List.extract]
    simp [part, hagg, sizeOf, typeInfo, g1, g4, he]
  | false =>
    have hagg : (isAgg e).run P w = .ok false w := by
      rw [ha] at htd
      unfold isAgg
      rw [Sem.run_bind, run_underlying g6 w]
      cases d <;> simp_all [aggB]
    have hs := h1 ha
    rw [hs] at hl ⊢
    have hd : (cs.toList.drop off).take 1 = [cs[off]] := by
      rw [List.drop_eq_getElem_cons (by simp; omega)]; simp
    rw [hd]
    have hc : cs[off]? = some cs[off] := by simp
    simp [part, hagg, hc]

/-- Values that own nothing. -/
def zc1 : AV → Bool
  | .raw _ | .nil | .sl _ _ | .elt _ | .clo _ _ | .any => true
  | _ => false
theorem zc1_spec {S : Nat → Nat} {x : AV} {v : Value} {c : Nat → Nat} (h : RepC w S [x] [v] c) (hz : zc1 x = true) : Zc c := by
  cases h with
  | any h => cases h with | nil hc => exact hc
  | raw h1 h => cases h with | nil hc => exact hc
  | nilS h => cases h with | nil hc => exact hc
  | slE hcap h => cases h with | nil hc => exact hc
  | sl hn hcap hsp hk h1 h0 hcell hst h => cases h with | nil hc => exact hc
  | elt hsp h1 h0 hcell hst h => cases h with | nil hc => exact hc
  | clo h1 h0 h => cases h with | nil hc => exact hc
  | _ => simp [zc1] at hz
theorem zc1s_spec {S : Nat → Nat} : ∀ {xs : List AV} {vs : List Value} {c : Nat → Nat}, RepC w S xs vs c → xs.all zc1 = true → Zc c
  | [], vs, c, h, _ => h.zero.2
  | x :: xs, vs, c, h, hz => by
    obtain ⟨v, us, d1, d2, rfl, h1, h2, hd⟩ := h.uncons
    simp only [List.all_cons, Bool.and_eq_true] at hz
    have e1 := zc1_spec h1 hz.1
    have e2 := zc1s_spec h2 hz.2
    exact fun b => by rw [hd, e1 b, e2 b]
theorem aevs_rep {S : Nat → Nat} {c : Nat → Nat} (hr : RepC w S σ a.tmps.toList c) : ∀ (xs : List Operand), (xs.map (aev σ)).all zc1 = true → RepC w S (xs.map (aev σ)) (xs.map a.eval) (fun _ => 0)
  | [], _ => .nil zc0
  | x :: xs, h => by
    simp only [List.map_cons, List.all_cons, Bool.and_eq_true] at h
    obtain ⟨cx, h1⟩ := aev_rep hr x
    exact RepC.cons h1 (aevs_rep hr xs h.2) (fun b => by rw [zc1_spec h1 h.1 b])
theorem rep_agg {S : Nat → Nat} {cs : List AV} {v : Value} {c : Nat → Nat} (h : RepC w S [.agg cs] [v] c) : ∃ vs c1, v = .agg (List.toArray vs) ∧ RepC w S cs vs c1 ∧ (∀ u ∈ vs, u.oneCell' = true) ∧ ∀ b, c b = c1 b := by
  cases h with
  | agg h1' hoc h hcc => cases h with | nil hz => exact ⟨_, _, rfl, h1', hoc, fun b => by rw [hcc, hz b]; omega⟩
/-- A part of an aggregate, by value. -/
theorem rep_part {S : Nat → Nat} {cs : List AV} {v : Value} {c : Nat → Nat} (h : RepC w S [.agg cs] [v] c) {e : Nat} {j : TI} (hj : TIok P e j) {off : Nat} (hl : off + j.size ≤ cs.length) (h1 : j.td.agg = false → j.size = 1) :
    ∃ vs r, v = .agg vs ∧ (part e vs off).run P w = .ok r w ∧ RepC w S [pval j.td.agg ((pcells cs off j.size).map v1)] [r] (fun _ => 0) ∧ vs.size = cs.length := by
  cases h with
  | agg h1' hoc h hcc =>
    rename_i vs c1 c2
    have hcl := h1'.length
    obtain ⟨d1, hp, hd⟩ := h1'.sub0 off j.size
    refine ⟨vs.toArray, _, rfl, run_part hj (by simp; omega) h1, ?_, by simpa using hcl⟩
    exact rep_pval (RepC.map_v RepC.v1 hp) (fun u hu => hoc u (List.mem_of_mem_drop (List.mem_of_mem_take hu))) j.td.agg (fun ha => by have := h1 ha; simp [pcells]; omega)

theorem afield_sound {t f : Nat} {x : Operand} {i : TI} (ho : o.op = .field t x f) (hi : TIok P t i) (hst : Stt dfs w0 S0 c0 σ a w) (h : afield i f (aev σ x) fun y => K (aset σ o.dst y)) :
    o.wp P a w (fun a' w' => ∃ σ', K σ' ∧ Stt dfs w0 S0 c0 σ' a' w') Q := by
  unfold afield at h
  split at h
  · rename_i off n agg cs hfl hx
    obtain ⟨h1, hl, hK⟩ := h
    obtain ⟨fs, fd, hu, hfd, hoff, hsz, hag⟩ := fld_get hi hfl
    have hst' := hst
    obtain ⟨_, S, c, hr, _⟩ := hst
    obtain ⟨cx, hrx⟩ := aev_rep hr x
    rw [hx] at hrx
    -- the field's type
    cases hq : P.info? fd.type with
    | none => rw [hq] at hsz; simp at hsz
    | some inf =>
      cases hqu : P.underlying fd.type with
      | none => rw [hqu] at hag; simp at hag
      | some d =>
        rw [hq] at hsz; rw [hqu] at hag
        simp at hsz hag
        generalize hj : (⟨(inf.zero.map (·.cells.toList)).getD [], inf.size, inf.bytes, tdesc P d, none⟩ : TI) = j
        have hjs : j.size = n := by rw [← hj]; exact hsz
        have hja : j.td.agg = agg := by rw [← hj, ← hag]; exact td_agg.symm
        have hrun : ∀ (vs : Array Value), off + n ≤ vs.size → (part fd.type vs off).run P w = .ok (if agg then .agg ((vs.toList.drop off).take n).toArray else ((vs.toList.drop off).take n).headD undef) w := by
          intro vs hvl
          cases ha : agg with
          | true =>
            have hagg : (isAgg fd.type).run P w = .ok true w := by
              unfold isAgg
              rw [Sem.run_bind, run_underlying hqu w]
              rw [ha] at hag
              cases d <;> simp_all [aggB]
            have he : vs.extract off (off + n) = ((vs.toList.drop off).take n).toArray := by
              apply Array.ext'
              simp [Array.toList_extract, List.extract]
            simp [part, hagg, sizeOf, typeInfo, hq, hsz, he]
          | false =>
            have hagg : (isAgg fd.type).run P w = .ok false w := by
              unfold isAgg
              rw [Sem.run_bind, run_underlying hqu w]
              rw [ha] at hag
              cases d <;> simp_all [aggB]
            have hs := h1 ha
            rw [hs] at hvl ⊢
            have hd : (vs.toList.drop off).take 1 = [vs[off]] := by
              rw [List.drop_eq_getElem_cons (by simp; omega)]; simp
            rw [hd]
            have hc : vs[off]? = some vs[off] := by simp
            simp [part, hagg, hc]
        obtain ⟨vs, c1, hev, hcs, hoc, _⟩ := rep_agg hrx
        have hcl := hcs.length
        refine quiet_sound hst' (pb_pl _) (v := if agg then .agg ((vs.drop off).take n).toArray else ((vs.drop off).take n).headD undef) ?_ (fun S' c' hr' => ?_) hK
        · unfold execOp
          have := hrun vs.toArray (by simp; omega)
          simp only [ho, hev, Instr.field, Sem.run_bind, run_underlying hu, Result.andThen_ok, hfd, asAgg, Sem.run_pure, hoff, this]
        · obtain ⟨cx', hrx'⟩ := aev_rep hr' x
          rw [hx, hev] at hrx'
          obtain ⟨vs', c1', hev', hcs', hoc', _⟩ := rep_agg hrx'
          have : vs' = vs := by simpa using hev'.symm
          subst this
          obtain ⟨d1, hp, hd⟩ := hcs'.sub0 off n
          obtain ⟨e3, hval, hle⟩ := (rep_pval (RepC.map_v RepC.v1 hp) (fun u hu => hoc u (List.mem_of_mem_drop (List.mem_of_mem_take hu))) agg (fun ha => by have := h1 ha; simp [pcells]; omega)).pl
          exact ⟨_, hval, fun b => Nat.le_zero.1 (hle b)⟩
  · exact h.elim

theorem afieldM_sound {t f : Nat} {x : Operand} {i : TI} (ho : o.op = .field t x f) (hi : TIok P t i) (hst : Stt dfs w0 S0 c0 σ a w) (h : afieldM σ i x f o.dst K) :
    o.wp P a w (fun a' w' => ∃ σ', K σ' ∧ Stt dfs w0 S0 c0 σ' a' w') Q := by
  unfold afieldM at h
  split at h
  · rename_i s
    split at h
    · rename_i cs hx
      split at h
      · rename_i off n agg hfl
        obtain ⟨h1, hl, hK⟩ := h
        obtain ⟨fs, fd, hu, hfd, hoff, hsz, hag⟩ := fld_get hi hfl
        obtain ⟨hrf, S, c, hr, h1', hd, hz, hs⟩ := hst
        obtain ⟨v, c1, c2, hv, hy, h2, hc⟩ := hr.take s (rep_at hr hx (by simp))
        have hslt := getD_lt hx (by simp)
        have hev0 := eval_tmp hv
        cases hq : P.info? fd.type with
        | none => rw [hq] at hsz; simp at hsz
        | some inf =>
          cases hqu : P.underlying fd.type with
          | none => rw [hqu] at hag; simp at hag
          | some d =>
        rw [hq] at hsz; rw [hqu] at hag
        simp at hsz hag
        generalize hj : (⟨(inf.zero.map (·.cells.toList)).getD [], inf.size, inf.bytes, tdesc P d, none⟩ : TI) = j
        have hjs : j.size = n := by rw [← hj]; exact hsz
        have hja : j.td.agg = agg := by rw [← hj, ← hag]; exact td_agg.symm
        have hrun : ∀ (vs : Array Value), off + n ≤ vs.size → (part fd.type vs off).run P w = .ok (if agg then .agg ((vs.toList.drop off).take n).toArray else ((vs.toList.drop off).take n).headD undef) w := by
          intro vs hvl
          cases ha : agg with
          | true =>
            have hagg : (isAgg fd.type).run P w = .ok true w := by
              unfold isAgg
              rw [Sem.run_bind, run_underlying hqu w]
              rw [ha] at hag
              cases d <;> simp_all [aggB]
            have he : vs.extract off (off + n) = ((vs.toList.drop off).take n).toArray := by
              apply Array.ext'
              simp [Array.toList_extract, List.extract]
            simp [part, hagg, sizeOf, typeInfo, hq, hsz, he]
          | false =>
            have hagg : (isAgg fd.type).run P w = .ok false w := by
              unfold isAgg
              rw [Sem.run_bind, run_underlying hqu w]
              rw [ha] at hag
              cases d <;> simp_all [aggB]
            have hs := h1 ha
            rw [hs] at hvl ⊢
            have hd : (vs.toList.drop off).take 1 = [vs[off]] := by
              rw [List.drop_eq_getElem_cons (by simp; omega)]; simp
            rw [hd]
            have hc : vs[off]? = some vs[off] := by simp
            simp [part, hagg, hc]
        obtain ⟨vs, e1, rfl, hcs, hoc, he1⟩ := rep_agg hy
        have hcl := hcs.length
        obtain ⟨d1, d2, hp, hput, hdd⟩ := hcs.part off n
        obtain ⟨c', hleft, hle⟩ := hput _ _ _ (RepC.map_v RepC.v1 hp)
        have hvs : vs.take off ++ (vs.drop off).take n ++ vs.drop (off + n) = vs := by
          rw [List.append_assoc, ← List.drop_drop, List.take_append_drop, List.take_append_drop]
        rw [hvs] at hleft
        have hr3 := h2.fill (RepC.agg (c := fun b => c' b) (xs := []) (us := []) (c2 := fun _ => 0) hleft hoc (.nil zc0) (fun b => by simp)) s (by simp [hslt])
        rw [List.set_set, list_set_same hv] at hr3
        obtain ⟨e3, hval, hle3⟩ := (rep_pval hp (fun u hu => hoc u (List.mem_of_mem_drop (List.mem_of_mem_take hu))) agg (fun ha => by have := h1 ha; simp [pcells]; omega)).pl
        refine wp_value (w' := w) (v := if agg then .agg ((vs.drop off).take n).toArray else ((vs.drop off).take n).headD undef) ?_ ⟨_, hK, Stt.value (hrf.less s rfl) (pb_pl _) h1' hd hz hs hr3 hval (fun b => ?_) _⟩
        · unfold execOp
          have := hrun vs.toArray (by simp; omega)
          simp only [ho, hev0, Instr.field, Sem.run_bind, run_underlying hu, Result.andThen_ok, hfd, asAgg, Sem.run_pure, hoff, this]
        · have := hc b; have := he1 b; have := hdd b; have := hle b; have := hle3 b; show e3 b + (c' b + c2 b) ≤ c b; omega
      · exact h.elim
    · exact h.elim
  · exact afield_sound ho hi hst h

theorem aextract_sound {n : Nat} {x : Operand} (ho : o.op = .extract x n) (hst : Stt dfs w0 S0 c0 σ a w) (h : aextract σ x n o.dst K) :
    o.wp P a w (fun a' w' => ∃ σ', K σ' ∧ Stt dfs w0 S0 c0 σ' a' w') Q := by
  unfold aextract at h
  cases x with
  | tmp s =>
    simp only [] at h
    split at h
    · rename_i cs hx
      obtain ⟨hn, hK⟩ := h
      obtain ⟨hrf, S, c, hr, h1, hd, hz, hs⟩ := hst
      obtain ⟨v, c1, c2, hv, hy, h2, hc⟩ := hr.take s (rep_at hr hx (by simp))
      have hev := eval_tmp hv
      have hslt := getD_lt hx (by simp)
      cases hy with
      | tup hcs hnil hcc =>
        rename_i vs d1 d2
        cases hnil with | nil hz2 =>
        have hcl := hcs.length
        have hget : cs[n]? = some (cs.getD n .any) := by simp [hn]
        obtain ⟨u, e1, e2, hu, hu1, hu2, he⟩ := hcs.take n hget
        have hfill := hu2.fill hu1.v2 n (by simp [hn])
        rw [List.set_set, list_set_same hu] at hfill
        have hr3 := h2.fill (RepC.tup (c := fun b => e2 b) (xs := []) (us := []) (c2 := fun _ => 0) hfill (.nil zc0) (fun b => by simp)) s (by simp [hslt])
        rw [List.set_set, list_set_same hv] at hr3
        obtain ⟨e3, hu1, hle⟩ := hu1.pl
        refine wp_value (w' := w) (v := u) ?_ ⟨_, hK, Stt.value (hrf.less s rfl) (pb_pl _) h1 hd hz hs hr3 hu1 (fun b => ?_) _⟩
        · unfold execOp
          have : vs.toArray[n]? = some u := by simpa using hu
          simp [ho, hev, Instr.extract, this]
        · have := hc b; have := hcc b; have := he b; have := hz2 b; have := hle b; show e3 b + (e2 b + c2 b) ≤ c b; omega
    · exact h.elim
  | _ => exact h.elim

theorem aindex_sound {t : Nat} {x y : Operand} {i : TI} (hT : TabOk P T) (ho : o.op = .index t x y) (hi : TIok P t i) (hst : Stt dfs w0 S0 c0 σ a w) (h : aindex T i (aev σ x) (aev σ y) fun z => K (aset σ o.dst z)) :
    o.wp P a w (fun a' w' => ∃ σ', K σ' ∧ Stt dfs w0 S0 c0 σ' a' w') Q := by
  have hst' := hst
  obtain ⟨_, S, c, hr, _⟩ := hst
  obtain ⟨cx, hrx⟩ := aev_rep hr x
  obtain ⟨cy, hry⟩ := aev_rep hr y
  obtain ⟨inf, zz, d, g1, _, _, g4, _, g6, g7⟩ := hi.get
  unfold aindex at h
  split at h
  · rename_i s k n hx hy
    rw [hx] at hrx; rw [hy] at hry
    have e1 := (rep_raw hrx).1
    have e2 := (rep_raw hry).1
    obtain ⟨hstr, h0, hl, hK⟩ := h
    have hd : d = .string := td_str (P := P) (by rw [g7]; exact hstr)
    subst hd
    have hl' : n.toNat < s.size := hl
    refine quiet_sound hst' rfl (v := .int .u8 ((s.data.toList.getD n.toNat 0).toNat : Int)) ?_ (fun S' c' hr' => ⟨_, rep_mk rfl zc0, zc0⟩) hK
    unfold execOp
    have hg : s[n.toNat]? = some (s.data.toList.getD n.toNat 0) := by
      have : s[n.toNat]? = some s[n.toNat] := getElem?_pos s n.toNat hl'
      rw [this]
      have hlt : n.toNat < s.data.size := hl'
      have : s.data.toList.getD n.toNat 0 = s.data[n.toNat] := by
        rw [List.getD_eq_getElem?_getD, Array.getElem?_toList, Array.getElem?_eq_getElem hlt]; rfl
      rw [this]; rfl
    simp only [ho, e1, e2, Instr.index, Sem.run_bind, asIntOf, Sem.run_pure, Result.andThen_ok, run_underlying g6, h0, if_true, hg]
  · rename_i cs k n hx hy
    rw [hx] at hrx; rw [hy] at hry
    have e2 := (rep_raw hry).1
    split at h
    · rename_i len e harr
      split at h
      · rename_i j hj
        obtain ⟨h0, hlt, hag, hl, hK⟩ := h
        have hd : d = .array len e := by
          rw [← g7] at harr
          cases d <;> simp [tdesc] at harr <;> simp [harr]
        subst hd
        obtain ⟨vs, r, e1, hrun, hrr, hsz⟩ := rep_part hrx (hT e j hj) hl hag
        refine quiet_sound hst' (pb_pl _) (v := r) ?_ (fun S' c' hr' => ?_) hK
        · unfold execOp
          obtain ⟨inf2, _, _, g1', _, _, g4', _⟩ := (hT e j hj).get
          have hsz2 : (sizeOf e).run P w = .ok j.size w := by simp [sizeOf, typeInfo, g1', g4']
          simp only [ho, e1, e2, Instr.index, Sem.run_bind, asIntOf, Sem.run_pure, Result.andThen_ok, run_underlying g6, h0, hlt, and_self, if_true, hsz2, hrun]
        · obtain ⟨cx', hrx'⟩ := aev_rep hr' x
          rw [hx] at hrx'
          obtain ⟨vs', r', e1', hrun', hrr', hsz'⟩ := rep_part hrx' (hT e j hj) hl hag
          have : vs' = vs := by rw [e1] at e1'; simpa using e1'.symm
          subst this
          rw [hrun] at hrun'
          cases hrun'
          obtain ⟨e3, hval, hle⟩ := hrr'.pl
          exact ⟨_, hval, fun b => Nat.le_zero.1 (hle b)⟩
      · exact h.elim
    · exact h.elim
  · exact h.elim

theorem rep_sl {S : Nat → Nat} {k : Nat} {es : List AV} {v : Value} {c : Nat → Nat} (h : RepC w S [.sl k es] [v] c) :
    ∃ a cap, v = .slice a es.length cap ∧ es.length ≤ cap ∧ cap ≤ maxLen ∧ (∀ x ∈ es, (cellsOf x).length = k) ∧
      (es ≠ [] → ∃ ad cv c0, a = some ad ∧ ad.spot = none ∧ RepC w S (flat es) cv c0 ∧ Zc c0 ∧ (∀ j u, cv[j]? = some u → w.cell? ⟨ad.block, ad.off + j, none⟩ = some u ∧ u.oneCell' = true) ∧ ad.off + cv.length ≤ S ad.block) := by
  cases h with
  | slE hcap h => exact ⟨_, _, rfl, Nat.zero_le _, hcap, by simp, fun h => absurd rfl h⟩
  | sl hn hcap hsp hk h1 h0 hcell hst h => exact ⟨_, _, rfl, hn, hcap, hk, fun _ => ⟨_, _, _, rfl, hsp, h1, h0, hcell, hst⟩⟩
theorem rep_own_sl {S : Nat → Nat} {e k : Nat} {es : List AV} {v : Value} {c : Nat → Nat} (h : RepC w S [.own e k es] [v] c) : RepC w S [.sl k es] [v] (fun _ => 0) := h.view

theorem flat_split {k : Nat} : ∀ {es : List AV} (n : Nat), (∀ x ∈ es, (cellsOf x).length = k) → n ≤ es.length → (flat es).take (n * k) = flat (es.take n) ∧ (flat es).drop (n * k) = flat (es.drop n)
  | es, 0, h, _ => by simp [flat]
  | [], n + 1, h, hn => by simp at hn
  | x :: es, n + 1, h, hn => by
    have hx := h x (by simp)
    have ih := flat_split (es := es) n (fun y hy => h y (by simp [hy])) (by simpa using hn)
    simp only [flat, List.take_succ_cons, List.drop_succ_cons]
    have e1 : (n + 1) * k = (cellsOf x).length + n * k := by rw [hx, Nat.add_mul]; omega
    rw [e1]
    exact ⟨by rw [List.take_length_add_append, ih.1], by rw [List.drop_length_add_append, ih.2]⟩
theorem flat_len {k : Nat} : ∀ {es : List AV}, (∀ x ∈ es, (cellsOf x).length = k) → (flat es).length = es.length * k
  | [], _ => by simp [flat]
  | x :: es, h => by
    rw [flat, List.length_append, h x (by simp), flat_len (fun y hy => h y (by simp [hy])), List.length_cons, Nat.add_mul]; omega

theorem rep_elt {S : Nat → Nat} {k : Nat} {es : List AV} {ad : Addr} {cv : List Value} {c0 : Nat → Nat} (hk : ∀ x ∈ es, (cellsOf x).length = k) (hsp : ad.spot = none) (h1 : RepC w S (flat es) cv c0) (h0 : Zc c0)
    (hcell : ∀ j u, cv[j]? = some u → w.cell? ⟨ad.block, ad.off + j, none⟩ = some u ∧ u.oneCell' = true) (hst : ad.off + cv.length ≤ S ad.block) (n : Nat) (hn : n < es.length) :
    RepC w S [.elt (es.getD n .any)] [.pointer (some (ad.add (n * k)))] (fun _ => 0) := by
  obtain ⟨bb, oo, sp⟩ := ad
  simp at hsp; subst hsp
  rw [add_mk]
  have hcl := h1.length
  have hfl := flat_len hk
  obtain ⟨d1, hp, hd⟩ := h1.sub0 (n * k) k
  have hx : es.getD n .any = es[n] := by simp [hn]
  have hcells : pcells (flat es) (n * k) k = cellsOf (es.getD n .any) := by
    rw [pcells, (flat_split n hk (by omega)).2, List.drop_eq_getElem_cons hn, flat, hx]
    have := hk es[n] (List.getElem_mem hn)
    rw [List.take_append_of_le_length (by omega), List.take_of_length_le (by omega)]
  rw [hcells] at hp
  have hb : n * k + k ≤ es.length * k := by
    have : (n + 1) * k ≤ es.length * k := Nat.mul_le_mul_right k hn
    rw [Nat.add_mul] at this; omega
  refine .elt (cv := (cv.drop (n * k)).take k) (c0 := d1) rfl hp (fun b => by have := hd b; rw [h0 b] at this; omega) (fun j u hj => ?_) ?_ (.nil zc0)
  · rw [List.getElem?_take] at hj
    split at hj
    · rw [List.getElem?_drop] at hj
      have := hcell (n * k + j) u hj
      simpa [Nat.add_assoc] using this
    · cases hj
  · simp at hst ⊢
    omega

theorem aindexAddr_sound {t : Nat} {x y : Operand} {i : TI} (hT : TabOk P T) (ho : o.op = .indexAddr t x y) (hi : TIok P t i) (hst : Stt dfs w0 S0 c0 σ a w) (h : aindexAddr T i (aev σ x) (aev σ y) fun z => K (aset σ o.dst z)) :
    o.wp P a w (fun a' w' => ∃ σ', K σ' ∧ Stt dfs w0 S0 c0 σ' a' w') Q := by
  have hst' := hst
  obtain ⟨_, S, c, hr, _⟩ := hst
  obtain ⟨cx, hrx⟩ := aev_rep hr x
  obtain ⟨cy, hry⟩ := aev_rep hr y
  obtain ⟨inf, zz, d, g1, _, _, g4, _, g6, g7⟩ := hi.get
  unfold aindexAddr at h
  split at h
  · rename_i e he
    have hd : d = .slice e := td_elem (P := P) (by rw [g7]; exact he)
    subst hd
    split at h
    · rename_i j hj
      obtain ⟨inf2, _, _, g1', _, _, g4', _⟩ := (hT e j hj).get
      have hsz2 : (sizeOf e).run P w = .ok j.size w := by simp [sizeOf, typeInfo, g1', g4']
      have key : ∀ (k : Nat) (es : List AV) (kk : IntKind) (n : Int), (∀ S c, RepC w S σ a.tmps.toList c → ∃ cx, RepC w S [.sl k es] [a.eval x] cx) → aev σ y = .raw (.int kk n) → k = j.size → 0 ≤ n → n.toNat < es.length → K (aset σ o.dst (.elt (es.getD n.toNat .any))) →
          o.wp P a w (fun a' w' => ∃ σ', K σ' ∧ Stt dfs w0 S0 c0 σ' a' w') Q := by
        intro k es kk n hrx hy hk h0 hl hK
        rw [hy] at hry
        have e2 := (rep_raw hry).1
        obtain ⟨cx, hrx1⟩ := hrx S c hr
        obtain ⟨A, cap, e1, hn, hcap, hks, hmem⟩ := rep_sl hrx1
        have hne : es ≠ [] := by intro h; subst h; simp at hl
        obtain ⟨ad, cv, c0', rfl, hsp, h1, hz0, hcell, hstb⟩ := hmem hne
        refine quiet_sound hst' rfl (v := .pointer (some (ad.add (n.toNat * k)))) ?_ (fun S' c' hr' => ?_) hK
        · have hb : n < (es.length : Int) := by omega
          unfold execOp
          simp only [ho, e1, e2, Instr.indexAt, Sem.run_bind, asIntOf, Sem.run_pure, Result.andThen_ok, run_underlying g6, h0, hb, and_self, if_true, hsz2, hk]
        · obtain ⟨cx', hrx'⟩ := hrx S' c' hr'
          obtain ⟨A', cap', e1', hn', hcap', hks', hmem'⟩ := rep_sl hrx'
          obtain ⟨ad', cv', c0'', hA', hsp', h1', hz0', hcell', hstb'⟩ := hmem' hne
          rw [e1] at e1'
          injection e1' with e3 e4 e5
          subst hA'
          injection e3 with e3
          subst e3
          exact ⟨_, rep_elt hks' hsp' h1' hz0' hcell' hstb' _ hl, zc0⟩
      split at h
      · rename_i k es kk n hx hy
        obtain ⟨hk, h0, hl, hK⟩ := h
        exact key k es kk n (fun S c hr => by obtain ⟨cx, h⟩ := aev_rep hr x; rw [hx] at h; exact ⟨_, h⟩) hy hk h0 hl hK
      · rename_i e' k es kk n hx hy
        obtain ⟨hk, h0, hl, hK⟩ := h
        exact key k es kk n (fun S c hr => by obtain ⟨cx, h⟩ := aev_rep hr x; rw [hx] at h; exact ⟨_, rep_own_sl h⟩) hy hk h0 hl hK
      · exact h.elim
    · exact h.elim
  · exact h.elim


/-- The address of an element, also of an array in a box. -/
def aindexAddrB (T : Tab) (σ : List AV) (i : TI) (x y : Operand) (d : Option Nat) (K : List AV → Prop) : Prop :=
  match x with
  | .tmp s =>
    match σ.getD s .any with
    | .box _ _ =>
      match i.td.arr, aev σ y, d with
      | some (len, e), .raw (.int _ n), some d =>
        match T e with
        | some j => 0 ≤ n ∧ n < len ∧ s ≠ d ∧ K (σ.set d (.ref s (n.toNat * j.size)))
        | none => False
      | _, _, _ => False
    | _ => aindexAddr T i (aev σ x) (aev σ y) fun z => K (aset σ d z)
  | _ => aindexAddr T i (aev σ x) (aev σ y) fun z => K (aset σ d z)
theorem aindexAddrB_sound {t : Nat} {x y : Operand} {i : TI} (hT : TabOk P T) (ho : o.op = .indexAddr t x y) (hi : TIok P t i) (hst : Stt dfs w0 S0 c0 σ a w) (h : aindexAddrB T σ i x y o.dst K) :
    o.wp P a w (fun a' w' => ∃ σ', K σ' ∧ Stt dfs w0 S0 c0 σ' a' w') Q := by
  unfold aindexAddrB at h
  split at h
  · rename_i s
    split at h
    · rename_i Te cs hx
      split at h
      · rename_i len e kk n d harr hy hod
        split at h
        · rename_i j hj
          obtain ⟨h0, hn, hsd, hK⟩ := h
          have hst' := hst
          obtain ⟨_, S, c, hr, _⟩ := hst
          obtain ⟨b, cur, d1, c2, hev, _, _, _, _, _, _, hv⟩ := take_box hr hx
          obtain ⟨cy, hry⟩ := aev_rep hr y
          rw [hy] at hry
          have e2 := (rep_raw hry).1
          obtain ⟨inf, zz, dd, g1, _, _, g4, _, g6, g7⟩ := hi.get
          have hd : dd = .array len e := by
            rw [← g7] at harr
            cases dd <;> simp [tdesc] at harr
            rw [harr.1, harr.2]
          subst hd
          obtain ⟨inf2, _, _, g1', _, _, g4', _⟩ := (hT e j hj).get
          have hsz2 : (sizeOf e).run P w = .ok j.size w := by simp [sizeOf, typeInfo, g1', g4']
          refine ref_sound hod hst' (rep_at hr hx (by simp)) hsd hv ?_ hK
          unfold execOp
          simp only [ho, e2, hev, Instr.indexAt, Sem.run_bind, asIntOf, Sem.run_pure, Result.andThen_ok, run_underlying g6, Instr.sureAddr, h0, hn, and_self, if_true, hsz2, add_mk, Nat.zero_add]
        · exact h.elim
      · exact h.elim
    · exact aindexAddr_sound hT ho hi hst h
  · exact aindexAddr_sound hT ho hi hst h

theorem abound_run {op : Option Operand} {dflt : Int} {K' : Int → Prop} (h : abound dflt (op.map (aev σ)) K') : ∃ n : Int, K' n ∧
    ((op = none ∧ n = dflt) ∨ ∃ x k, op = some x ∧ aev σ x = .raw (.int k n)) := by
  cases op with
  | none => exact ⟨dflt, h, .inl ⟨rfl, rfl⟩⟩
  | some x =>
    simp only [Option.map_some, abound] at h
    split at h
    · rename_i heq; cases heq
    · rename_i heq
      injection heq with heq
      exact ⟨_, h, .inr ⟨x, _, rfl, heq⟩⟩
    · exact h.elim

theorem run_sliceBound {k : IntKind} {i : Int} {y : Nat} (h0 : 0 ≤ i) (h1 : i ≤ y) (code : BoundsCode) : (Instr.sliceBound (.int k i) y code).run P w = .ok i.toNat w := by
  simp [Instr.sliceBound, asIntOf, h0, h1]

/-- The bounds of a slice expression. -/
theorem run_bounds {isS : Bool} {len cap : Nat} {lo hi : Option Operand} {l h : Int} (hl : (lo = none ∧ l = 0) ∨ ∃ x k, lo = some x ∧ a.eval x = .int k l) (hh : (hi = none ∧ h = len) ∨ ∃ x k, hi = some x ∧ a.eval x = .int k h)
    (h0 : 0 ≤ l) (h1 : l ≤ h) (h2 : h ≤ len) (h3 : len ≤ cap) : (Instr.sliceBounds isS len cap (lo.map a.eval) (hi.map a.eval) none).run P w = .ok (l.toNat, h.toNat, cap) w := by
  have s1 : ∀ k code, (Instr.sliceBound (.int k h) cap code).run P w = .ok h.toNat w := fun k code => run_sliceBound (by omega) (by omega) code
  have s2 : ∀ k code, (Instr.sliceBound (.int k l) h.toNat code).run P w = .ok l.toNat w := fun k code => run_sliceBound (by omega) (by omega) code
  unfold Instr.sliceBounds
  rcases hl with ⟨rfl, rfl⟩ | ⟨x, k, rfl, hx⟩ <;> rcases hh with ⟨rfl, rfl⟩ | ⟨y, k', rfl, hy⟩ <;> simp_all

theorem run_bounds2 {isS : Bool} {len cap : Nat} {lo hi : Option Operand} {l h : Int} (hl : (lo = none ∧ l = 0) ∨ ∃ x k, lo = some x ∧ a.eval x = .int k l) (hh : (hi = none ∧ h = len) ∨ ∃ x k, hi = some x ∧ a.eval x = .int k h)
    (h0 : 0 ≤ l) (h1 : l ≤ h) (h2 : h ≤ cap) : (Instr.sliceBounds isS len cap (lo.map a.eval) (hi.map a.eval) none).run P w = .ok (l.toNat, h.toNat, cap) w := by
  have s1 : ∀ k code, (Instr.sliceBound (.int k h) cap code).run P w = .ok h.toNat w := fun k code => run_sliceBound (by omega) (by omega) code
  have s2 : ∀ k code, (Instr.sliceBound (.int k l) h.toNat code).run P w = .ok l.toNat w := fun k code => run_sliceBound (by omega) (by omega) code
  unfold Instr.sliceBounds
  rcases hl with ⟨rfl, rfl⟩ | ⟨x, k, rfl, hx⟩ <;> rcases hh with ⟨rfl, rfl⟩ | ⟨y, k', rfl, hy⟩ <;> simp_all
theorem aslice_sound {t : Nat} {x : Operand} {lo hi : Option Operand} {i : TI} (hT : TabOk P T) (ho : o.op = .slice t x lo hi none) (hi' : TIok P t i) (hst : Stt dfs w0 S0 c0 σ a w) (h : aslice T i (aev σ x) (lo.map (aev σ)) (hi.map (aev σ)) fun z => K (aset σ o.dst z)) :
    o.wp P a w (fun a' w' => ∃ σ', K σ' ∧ Stt dfs w0 S0 c0 σ' a' w') Q := by
  have hst' := hst
  obtain ⟨_, S, c, hr, _⟩ := hst
  obtain ⟨cx, hrx⟩ := aev_rep hr x
  obtain ⟨inf, zz, d, g1, _, _, g4, _, g6, g7⟩ := hi'.get
  have hb : ∀ {op : Option Operand} {n dflt : Int}, ((op = none ∧ n = dflt) ∨ ∃ x k, op = some x ∧ aev σ x = .raw (.int k n)) → (op = none ∧ n = dflt) ∨ ∃ x k, op = some x ∧ a.eval x = .int k n := by
    intro op n dflt h
    rcases h with h | ⟨x, k, hx, he⟩
    · exact .inl h
    · obtain ⟨cx, hrx⟩ := aev_rep hr x
      rw [he] at hrx
      exact .inr ⟨x, k, hx, (rep_raw hrx).1⟩
  have key : ∀ (k : Nat) (es : List AV) (e : Nat) (j : TI), (∀ S c, RepC w S σ a.tmps.toList c → ∃ cx, RepC w S [.sl k es] [a.eval x] cx) → i.td.elem = some e → T e = some j → k = j.size →
      (abound 0 (lo.map (aev σ)) fun l => abound es.length (hi.map (aev σ)) fun h => 0 ≤ l ∧ l ≤ h ∧ h ≤ es.length ∧ K (aset σ o.dst (.sl k ((es.drop l.toNat).take (h.toNat - l.toNat))))) →
      o.wp P a w (fun a' w' => ∃ σ', K σ' ∧ Stt dfs w0 S0 c0 σ' a' w') Q := by
    intro k es e j hrx he hj hk h
    have hd : d = .slice e := td_elem (P := P) (by rw [g7]; exact he)
    subst hd
    obtain ⟨inf2, _, _, g1', _, _, g4', _⟩ := (hT e j hj).get
    have hsz2 : (sizeOf e).run P w = .ok j.size w := by simp [sizeOf, typeInfo, g1', g4']
    obtain ⟨l, h, hL⟩ := abound_run h
    obtain ⟨hh, h, hH⟩ := abound_run h
    obtain ⟨h0, h1, h2, hK⟩ := h
    obtain ⟨cx, hrx1⟩ := hrx S c hr
    obtain ⟨A, cap, e1, hn, hcap, hks, hmem⟩ := rep_sl hrx1
    have hrb := run_bounds (P := P) (w := w) (isS := true) (cap := cap) (hb hL) (hb hH) h0 h1 h2 hn
    refine quiet_sound hst' rfl (v := .slice (if cap = l.toNat then A else A.map (·.add (l.toNat * j.size))) (hh.toNat - l.toNat) (cap - l.toNat)) ?_ (fun S' c' hr' => ?_) hK
    · unfold execOp
      have hna : ∀ (m : Option Value), (Instr.sliceAt t (a.eval x) (lo.map a.eval) (hi.map a.eval) m).run P w = (Instr.slice t (a.eval x) (lo.map a.eval) (hi.map a.eval) m).run P w := by
        intro m; simp [Instr.sliceAt, run_underlying g6]
      simp only [ho, Option.map_none, Sem.run_bind, hna]
      rw [e1]
      simp only [Instr.slice, Sem.run_bind, run_underlying g6, Result.andThen_ok, hrb, hsz2, Sem.run_pure]
    · obtain ⟨cx', hrx'⟩ := hrx S' c' hr'
      obtain ⟨A', cap', e1', hn', hcap', hks', hmem'⟩ := rep_sl hrx'
      rw [e1] at e1'
      injection e1' with e3 e4 e5
      subst e3; subst e5
      have hlen : ((es.drop l.toNat).take (hh.toNat - l.toNat)).length = hh.toNat - l.toNat := by simp; omega
      have hsub : ∀ x ∈ (es.drop l.toNat).take (hh.toNat - l.toNat), (cellsOf x).length = k := fun x hx => hks' x (List.mem_of_mem_drop (List.mem_of_mem_take hx))
      have hks2 : ∀ x ∈ es.drop l.toNat, (cellsOf x).length = k := fun x hx => hks' x (List.mem_of_mem_drop hx)
      have hfe : pcells (flat es) (l.toNat * k) ((hh.toNat - l.toNat) * k) = flat ((es.drop l.toNat).take (hh.toNat - l.toNat)) := by
        rw [pcells, (flat_split l.toNat hks' (by omega)).2, (flat_split (hh.toNat - l.toNat) hks2 (by simp; omega)).1]
      have hne0 : (es.drop l.toNat).take (hh.toNat - l.toNat) ≠ [] → es ≠ [] := by intro hemp h; subst h; simp at hemp
      revert hlen hsub hfe hne0
      generalize (es.drop l.toNat).take (hh.toNat - l.toNat) = L
      intro hlen hsub hfe hne0
      rw [← hlen]
      refine ⟨fun _ => 0, ?_, zc0⟩
      by_cases hemp : L = []
      · rw [hemp]
        exact .slE (by omega) (.nil zc0)
      · have hne : es ≠ [] := hne0 hemp
        have hlt : l.toNat < hh.toNat := by
          rcases Nat.lt_or_ge l.toNat hh.toNat with h | h
          · exact h
          · exact absurd (List.eq_nil_of_length_eq_zero (by rw [hlen]; omega)) hemp
        obtain ⟨ad, cv, cc, rfl, hsp, h1c, hz0, hcell, hstb⟩ := hmem' hne
        rw [if_neg (show ¬ cap = l.toNat by omega)]
        obtain ⟨bb, oo, sp⟩ := ad
        simp at hsp; subst hsp
        simp only [Option.map_some, add_mk]
        have hcl := h1c.length
        have hfl := flat_len hks'
        obtain ⟨d1, hp, hdd⟩ := h1c.sub0 (l.toNat * k) ((hh.toNat - l.toNat) * k)
        rw [hfe] at hp
        have hpl := hp.length
        refine .sl (c0 := d1) (cap := cap - l.toNat) (ad := ⟨bb, oo + l.toNat * j.size, none⟩) (by rw [hlen]; omega) (by omega) rfl hsub hp (fun b => by have := hdd b; rw [hz0 b] at this; omega) (fun jj u hj' => ?_) ?_ (.nil zc0)
        · rw [List.getElem?_take] at hj'
          split at hj'
          · rw [List.getElem?_drop] at hj'
            have := hcell (l.toNat * k + jj) u hj'
            rw [← hk]
            simpa [Nat.add_assoc] using this
          · cases hj'
        · have : l.toNat * k + (hh.toNat - l.toNat) * k ≤ es.length * k := by
            rw [← Nat.add_mul]; exact Nat.mul_le_mul_right k (by omega)
          simp only [List.length_take, List.length_drop, ← hk] at hstb ⊢
          omega
  unfold aslice at h
  split at h
  · rename_i s hx
    rw [hx] at hrx
    have e1 := (rep_raw hrx).1
    obtain ⟨hstr, h⟩ := h
    have hd : d = .string := td_str (P := P) (by rw [g7]; exact hstr)
    subst hd
    obtain ⟨l, h, hL⟩ := abound_run h
    obtain ⟨hh, h, hH⟩ := abound_run h
    obtain ⟨h0, h1, h2, hK⟩ := h
    have hsz : s.data.toList.length = s.size := rfl
    have hrb := run_bounds (P := P) (w := w) (isS := false) (len := s.size) (cap := s.size) (hb hL) (hb hH) h0 h1 (by omega) (Nat.le_refl _)
    refine quiet_sound hst' rfl (v := .string ⟨((s.data.toList.drop l.toNat).take (hh.toNat - l.toNat)).toArray⟩) ?_ (fun S' c' hr' => ⟨_, rep_mk rfl zc0, zc0⟩) hK
    have he : s.extract l.toNat hh.toNat = ⟨((s.data.toList.drop l.toNat).take (hh.toNat - l.toNat)).toArray⟩ := by
      have := Go.Lib.extract_data s l.toNat hh.toNat
      generalize s.extract l.toNat hh.toNat = r at this
      cases r; simp at this; simp [← this]
    unfold execOp
    have hna : ∀ (m : Option Value), (Instr.sliceAt t (a.eval x) (lo.map a.eval) (hi.map a.eval) m).run P w = (Instr.slice t (a.eval x) (lo.map a.eval) (hi.map a.eval) m).run P w := by
      intro m; simp [Instr.sliceAt, run_underlying g6]
    simp only [ho, Option.map_none, Sem.run_bind, hna]
    rw [e1]
    simp [Instr.slice, run_underlying g6, hrb, he]
  · rename_i k es hx
    split at h
    · rename_i e he
      split at h
      · rename_i j hj
        exact key k es e j (fun S c hr => by obtain ⟨cx, h⟩ := aev_rep hr x; rw [hx] at h; exact ⟨_, h⟩) he hj h.1 h.2
      · exact h.elim
    · exact h.elim
  · rename_i e' k es hx
    split at h
    · rename_i e he
      split at h
      · rename_i j hj
        exact key k es e j (fun S c hr => by obtain ⟨cx, h⟩ := aev_rep hr x; rw [hx] at h; exact ⟨_, rep_own_sl h⟩) he hj h.1 h.2
      · exact h.elim
    · exact h.elim
  · rename_i k es zs hx
    split at h
    · rename_i e he
      split at h
      · rename_i j hj
        obtain ⟨hk, h⟩ := h
        have hd : d = .slice e := td_elem (P := P) (by rw [g7]; exact he)
        subst hd
        obtain ⟨inf2, _, _, g1', _, _, g4', _⟩ := (hT e j hj).get
        have hsz2 : (sizeOf e).run P w = .ok j.size w := by simp [sizeOf, typeInfo, g1', g4']
        obtain ⟨l, h, hL⟩ := abound_run h
        obtain ⟨hh, h, hH⟩ := abound_run h
        obtain ⟨⟨rfl, rfl⟩, hK⟩ := h
        have hx0 := hrx
        rw [hx] at hx0
        obtain ⟨ad, e1⟩ : ∃ ad, a.eval x = .slice (some ad) es.length (es.length + zs.length) := by
          generalize hv : a.eval x = v at hx0
          cases hx0 with | slx => exact ⟨_, rfl⟩
        have hrb := run_bounds2 (P := P) (w := w) (isS := true) (len := es.length) (cap := es.length + zs.length) (hb hL) (hb hH) (Int.le_refl 0) (Int.natCast_nonneg _) (by simp)
        refine quiet_sound hst' rfl (v := .slice (some ad) (es ++ zs).length (es ++ zs).length) ?_ (fun S' c' hr' => ?_) hK
        · unfold execOp
          have hna : ∀ (m : Option Value), (Instr.sliceAt t (a.eval x) (lo.map a.eval) (hi.map a.eval) m).run P w = (Instr.slice t (a.eval x) (lo.map a.eval) (hi.map a.eval) m).run P w := by
            intro m; simp [Instr.sliceAt, run_underlying g6]
          simp only [ho, Option.map_none, Sem.run_bind, hna]
          rw [e1]
          simp only [Instr.slice, Sem.run_bind, run_underlying g6, Result.andThen_ok, hrb, hsz2, Sem.run_pure, Int.toNat_zero, Int.toNat_natCast, Nat.zero_mul, Nat.sub_zero, List.length_append]
          split
          · rfl
          · have : ad.add 0 = ad := rfl
            simp [this]
        · obtain ⟨cx', h2⟩ := aev_rep hr' x
          rw [hx, e1] at h2
          cases h2 with
          | slx hcap hsp hks h1 h0 hcell hst h => exact ⟨_, .sl (Nat.le_refl _) (by rw [List.length_append]; exact hcap) hsp hks h1 h0 hcell hst (.nil zc0), zc0⟩
      · exact h.elim
    · exact h.elim
  · exact h.elim

theorem alen_sound {t : Nat} {x : Operand} {c : Call} {i : TI} (ho : o.op = .call c) (hc : c.callee = .builtin .len) (hca : c.args = #[x]) (hct : c.argTypes = #[t]) (hi : TIok P t i)
    (hst : Stt dfs w0 S0 c0 σ a w) (h : alen i (aev σ x) fun z => K (aset σ o.dst z)) : o.wp P a w (fun a' w' => ∃ σ', K σ' ∧ Stt dfs w0 S0 c0 σ' a' w') Q := by
  have hst' := hst
  obtain ⟨_, S, cc, hr, _⟩ := hst
  obtain ⟨cx, hrx⟩ := aev_rep hr x
  obtain ⟨inf, zz, d, g1, _, _, g4, _, g6, g7⟩ := hi.get
  have key : ∀ (v : Value) (n : Nat), a.eval x = v → ((∃ s, v = .string s ∧ d = .string ∧ n = s.size) ∨ (∃ A cap e, v = .slice A n cap ∧ d = .slice e)) → K (aset σ o.dst (.raw (.int .i64 (n : Int)))) →
      o.wp P a w (fun a' w' => ∃ σ', K σ' ∧ Stt dfs w0 S0 c0 σ' a' w') Q := by
    intro v n hev hv hK
    refine quiet_sound hst' rfl (v := .int .i64 (n : Int)) ?_ (fun S' c' hr' => ⟨_, rep_mk rfl zc0, zc0⟩) hK
    unfold execOp
    rcases hv with ⟨s, rfl, rfl, rfl⟩ | ⟨A, cap, e, rfl, rfl⟩
    · simp [ho, resolve, hc, hca, hct, invoke, builtin, Builtin.len_, run_underlying g6, hev, goInt]
    · simp [ho, resolve, hc, hca, hct, invoke, builtin, Builtin.len_, run_underlying g6, hev, goInt]
  have hds : i.td.str = true → d = .string := fun hk => td_str (P := P) (by rw [g7]; exact hk)
  have hdl : i.td.elem.isSome = true → ∃ e, d = .slice e := fun hk => by
    obtain ⟨e, he⟩ := Option.isSome_iff_exists.1 hk
    exact ⟨e, td_elem (P := P) (by rw [g7]; exact he)⟩
  unfold alen at h
  split at h
  · rename_i s hx
    rw [hx] at hrx
    have e1 := (rep_raw hrx).1
    exact key _ s.size e1 (.inl ⟨s, rfl, hds h.1, rfl⟩) h.2
  · rename_i k es hx
    rw [hx] at hrx
    obtain ⟨A, cap, e1, _⟩ := rep_sl hrx
    obtain ⟨e, hd⟩ := hdl h.1
    exact key _ es.length e1 (.inr ⟨A, cap, e, rfl, hd⟩) h.2
  · rename_i e' k es hx
    rw [hx] at hrx
    obtain ⟨A, cap, e1, _⟩ := rep_sl (rep_own_sl hrx)
    obtain ⟨e, hd⟩ := hdl h.1
    exact key _ es.length e1 (.inr ⟨A, cap, e, rfl, hd⟩) h.2
  · rename_i hx
    rw [hx] at hrx
    have e1 : a.eval x = .slice none 0 0 := by
      revert hrx; generalize a.eval x = v; intro hrx; cases hrx with | nilS h => rfl
    obtain ⟨e, hd⟩ := hdl h.1
    exact key _ 0 e1 (.inr ⟨none, 0, e, rfl, hd⟩) h.2
  · exact h.elim
end
end
end Go.Proofs.Ytohelofjlkoboaa
