/- Rows: slices whose elements are their holder's alone. -/
import Derived.Test.YtohelofjlkoboaaA7
import Derived.Lib.SliceRun
namespace Go.Proofs.Ytohelofjlkoboaa
open Go.RowKit
set_option linter.unusedSectionVars false
variable [Env]
variable {dfs : List Deferred}
set_option linter.unusedVariables false
set_option linter.unusedSimpArgs false

/-- The slot that holds the row which this slot shows. -/
def rbase (σ : List AV) (t : Nat) : Option (Nat × Nat × Nat × List AV) :=
  match σ.getD t .any with
  | .row e k es => some (t, e, k, es)
  | .alias s => match σ.getD s .any with
    | .row e k es => some (s, e, k, es)
    | _ => none
  | _ => none
def rappend (σ : List AV) (e : Nat) (j : TI) (t s e' k : Nat) (xs : List AV) (y : Operand) (d : Option Nat) (K : List AV → Prop) : Prop :=
  match asrc j.size (aev σ y), d with
  | some ys, some d => e' = e ∧ k = j.size ∧ 0 < j.size ∧ j.zero.length = j.size ∧ xs.length + ys.length ≤ 9223372036854775807 ∧ (xs.length + ys.length) * j.bytes ≤ 140737488355328 ∧
      ((σ.set s .any).set t .any).all (nrf d) = true ∧ K (((σ.set s .any).set t .any).set d (.row e j.size (xs ++ ys)))
  | _, _ => False
/-- A call that may write the elements of its first argument's row: what it hands back, and what the row holds then. -/
def RCalls (P : Program) (f : Nat) (x : AV) (args : List AV) (R : AV → AV → Prop) : Prop :=
  FnOk P f ∧ (∃ r y, R r y) ∧ ∀ w S v vs c, Sz w S → RepC w S (x :: args) (v :: vs) c → (∀ b, c b ≤ 1) → Calls P f (v :: vs).toArray w fun e w' =>
    ∃ u r y S' c', e = .returned u ∧ R r y ∧ pb r = true ∧ (y = .any ∨ ∃ e k es, y = .row e k es) ∧ RepC w' S' [r, y] [u, v] c' ∧ (∀ b, c' b ≤ 1) ∧ Sz w' S' ∧ Stp w S c w' S' c'
def rcall (P : Program) (σ : List AV) (g s e k : Nat) (es : List AV) (rest : List Operand) (d : Option Nat) (K : List AV → Prop) : Prop :=
  d ≠ some s ∧ RCalls P g (.row e k es) (agrab (σ.set s .any) rest).1 fun r y => K (aset ((agrab (σ.set s .any) rest).2.set s y) d r)
/-- A slice held against nil: of one without elements both answers are possible. -/
def rnl (n : Nat) (pos : Bool) (K : AV → Prop) : Prop := (n = 0 → K (.raw (.bool pos))) ∧ K (.raw (.bool (!pos)))
def rnil1 (pos : Bool) (K : AV → Prop) : AV → Prop
  | .nil => K (.raw (.bool pos))
  | .sl _ es => rnl es.length pos K
  | .own _ _ es => rnl es.length pos K
  | .mine _ _ es => rnl es.length pos K
  | _ => False
def isEl (o : Option TI) : Bool := match o with
  | some i => i.td.elem.isSome
  | none => false
def rbin (T : Tab) (op : BinOp) (t : Nat) (x y : AV) (K : AV → Prop) : Prop := match y with
  | .nil => (match op with
    | .eql => isEl (T t) = true ∧ rnil1 true K x
    | .neq => isEl (T t) = true ∧ rnil1 false K x
    | _ => False)
  | y => abinT T op t x y K
/-- A slice of no elements that is built. -/
def rbs0 (T : Tab) (t n : Nat) (K : AV → Prop) : Prop := match T t with
  | some i => match i.td.elem with
    | some e => match T e with
      | some j => n = 0 ∧ K (.mine e j.size [])
      | none => False
    | none => False
  | none => False
/-- The address of an element of a row; of a part of it; its value; another value for it. -/
def rixb (j : TI) (s k n : Nat) (y : AV) (d : Option Nat) (σ : List AV) (K : List AV → Prop) : Prop := match y, d with
  | .raw (.int _ m), some d => k = j.size ∧ 0 ≤ m ∧ m.toNat < n ∧ s ≠ d ∧ K (σ.set d (.pref s k m.toNat 0))
  | _, _ => False
def rixa (T : Tab) (t s k n : Nat) (y : AV) (d : Option Nat) (σ : List AV) (K : List AV → Prop) : Prop := match T t with
  | some i => match i.td.elem with
    | some e => match T e with
      | some j => rixb j s k n y d σ K
      | none => False
    | none => False
  | none => False
def rfad (p : Option (Nat × Option Nat × Option Bool)) (x : AV) (s k j off : Nat) (d : Option Nat) (σ : List AV) (K : List AV → Prop) : Prop := match p, x, d with
  | some (f, some n, some _), .row _ _ _, some d => n ≠ 0 ∧ s ≠ d ∧ K (σ.set d (.pref s k j (off + f)))
  | _, _, _ => False
def rpld (i : TI) (x : AV) (k j off : Nat) (d : Option Nat) (σ : List AV) (K : List AV → Prop) : Prop := match x with
  | .row _ k' es => k' = k ∧ j < es.length ∧ off + lsz i ≤ k ∧ K (aset σ d (pl (pval i.td.agg (pcells (cellsOf (es.getD j .any)) off (lsz i)))))
  | _ => False
def mkel (x : AV) (cs : List AV) : AV := match x with
  | .agg _ => .agg cs
  | _ => cs.headD .any
def rpst (i : TI) (x : AV) (s k j off : Nat) (y : AV) (d : Option Nat) (σ : List AV) (K : List AV → Prop) : Prop := match x with
  | .row e k' es => k' = k ∧ j < es.length ∧ off + i.size ≤ k ∧ okc y = true ∧ (cellsOf y).length = i.size ∧ K (aset (σ.set s (.row e k (es.set j (mkel (es.getD j .any) (pleft (cellsOf (es.getD j .any)) off i.size (cellsOf y)))))) d .any)
  | _ => False
def rop (P : Program) (T : Tab) (o : Oper) (σ : List AV) (K : List AV → Prop) : Prop :=
  match o.op with
  | .move (.tmp t) =>
    match σ.getD t .any, o.dst with
    | .row _ _ _, some d => t ≠ d ∧ K (σ.set d (.alias t))
    | .alias s, some d => s ≠ d ∧ K (σ.set d (.alias s))
    | _, _ => aop P T o σ K
  | .assign (.tmp t) =>
    match σ.getD t .any, o.dst with
    | .row e k es, some d => t ≠ d ∧ (σ.set t .any).all (nrf d) = true ∧ K ((σ.set t .any).set d (.row e k es))
    | _, _ => aop P T o σ K
  | .call c =>
    match c.callee, c.args.toList with
    | .builtin .len, [.tmp t] =>
      match rbase σ t with
      | some (s, e, k, es) => match c.argTypes.toList with
        | [ty] => match T ty with
          | some i => i.td.elem.isSome = true ∧ K (aset σ o.dst (.raw (.int .i64 (es.length : Int))))
          | none => False
        | _ => False
      | none => aop P T o σ K
    | .builtin .append, [.tmp t, y] =>
      match rbase σ t with
      | some (s, e, k, es) => match c.argTypes.toList with
        | [ty, ty'] => ty = ty' ∧ match T ty with
          | some i => match i.td.elem with
            | some e' => match T e' with
              | some j => rappend σ e' j t s e k es y o.dst K
              | none => False
            | none => False
          | none => False
        | _ => False
      | none => aop P T o σ K
    | .value (.func g), .tmp t :: rest =>
      match rbase σ t with
      | some (s, e, k, es) => rcall P σ g s e k es rest o.dst K
      | none => aop P T o σ K
    | _, _ => aop P T o σ K
  | .indexAddr t (.tmp q) y => match rbase σ q with
    | some (s, _, k, es) => rixa T t s k es.length (aev σ y) o.dst σ K
    | none => aop P T o σ K
  | .fieldAddr t (.tmp q) f => match σ.getD q .any with
    | .pref s k j off => (match T t with
      | some i => rfad i.td.flds[f]? (σ.getD s .any) s k j off o.dst σ K
      | none => False)
    | _ => aop P T o σ K
  | .load t (.tmp q) => match σ.getD q .any with
    | .pref s k j off => (match T t with
      | some i => rpld i (σ.getD s .any) k j off o.dst σ K
      | none => False)
    | _ => aop P T o σ K
  | .store t (.tmp q) y => match σ.getD q .any with
    | .pref s k j off => (match T t with
      | some i => rpst i ((amv σ y).getD s .any) s k j off (view (aev σ y)) o.dst (amv σ y) K
      | none => False)
    | _ => aop P T o σ K
  | .binOp op t x y _ => rbin T op t (aev σ x) (aev σ y) fun z => K (aset σ o.dst z)
  | .buildSlice t n ps => match ps.toList with
    | [] => rbs0 T t n fun z => K (aset σ o.dst z)
    | _ => aop P T o σ K
  | _ => aop P T o σ K

section
variable {P : Program} {T : Tab} {w : World} {S : Nat → Nat}
variable {w0 : World} {S0 c0 : Nat → Nat} {σ : List AV} {a : Act} {K : List AV → Prop} {Q : Exit → Act → World → Prop} {o : Oper}

theorem rbase_spec {c : Nat → Nat} {t s e k : Nat} {es : List AV} (hr : RepC w S σ a.tmps.toList c) (hrf : RefOk σ a.tmps.toList) (h : rbase σ t = some (s, e, k, es)) :
    σ[s]? = some (.row e k es) ∧ a.tmps.toList[t]? = a.tmps.toList[s]? ∧ (t = s ∨ σ[t]? = some (.alias s)) := by
  unfold rbase at h
  split at h
  · rename_i e' k' es' hx
    injection h with h
    cases h
    exact ⟨rep_at hr hx (by simp), rfl, .inl rfl⟩
  · rename_i s' hx
    split at h
    · rename_i e' k' es' hx'
      injection h with h
      cases h
      have h1 := rep_at hr hx (by simp)
      have h2 := rep_at hr hx' (by simp)
      exact ⟨h2, hrf.al _ _ _ _ _ h1 h2, .inr h1⟩
    · cases h
  · cases h
theorem eval_of {t : Nat} {v : Value} (h : a.tmps.toList[t]? = some v) : a.eval (.tmp t) = v := by
  simp only [Act.eval, Array.getD_eq_getD_getElem?]
  rw [← Array.getElem?_toList, h]
  rfl
theorem Stt.newrow {σ' : List AV} {c c1 c2 : Nat → Nat} {v : Value} {cur : Array Value} {T d k : Nat} {es : List AV} (hrf : RefOk σ' a.tmps.toList) (hn : σ'.all (nrf d) = true) (h1 : ∀ b, c b ≤ 1) (hlt : ∀ b, 0 < c b → b < w.heap.size) (hd : a.defers = dfs) (hz : Sz w S) (hs : Stp w0 S0 c0 w S c)
    (hr : RepC w S σ' a.tmps.toList c2) (hy : RepC (w.alloc (.cells cur T)) (upd S w.heap.size 0) [.row T k es] [v] (fun x => (if x = w.heap.size then 1 else 0) + c1 x)) (hc : ∀ b, c1 b + c2 b ≤ c b) :
    Stt dfs w0 S0 c0 (σ'.set d (.row T k es)) (a.put (some d) v) (w.alloc (.cells cur T)) := by
  have hk := Stp.alloc (c := fun _ => 0) hz (.cells cur T) 0
  have hr2 := hr.step hk (fun b => by have := h1 b; have := hc b; show c2 b + 0 ≤ 1; omega)
  have hk2 := Stp.alloc (c := c) hz (.cells cur T) 0
  obtain ⟨c', h2, h3⟩ := hr2.aset hy (some d)
  refine ⟨by rw [put_tmps]; exact hrf.newrow T k es v hn, _, c', h2, fun b => ?_, by rw [put_defers]; exact hd, hz.alloc _ 0, (hs.trans hk2).drop fun b => ?_⟩
  · have h3b := h3 b
    have := h1 b
    have := hlt b
    have := hc b
    split at h3b <;> omega
  · have h3b := h3 b
    have := hc b
    show c' b ≤ (if b = w.heap.size then 1 else 0) + c b
    omega
/-- A row put into a slot that nothing points to; the world as it is. -/
theorem Stt.putrow {σ' : List AV} {c c1 c2 : Nat → Nat} {v : Value} {T d k : Nat} {es : List AV} (hrf : RefOk σ' a.tmps.toList) (hn : σ'.all (nrf d) = true) (h1 : ∀ b, c b ≤ 1) (hd : a.defers = dfs) (hz : Sz w S) (hs : Stp w0 S0 c0 w S c)
    (hr : RepC w S σ' a.tmps.toList c2) (hy : RepC w S [.row T k es] [v] c1) (hc : ∀ b, c1 b + c2 b ≤ c b) :
    Stt dfs w0 S0 c0 (σ'.set d (.row T k es)) (a.put (some d) v) w := by
  obtain ⟨c', h2, h3⟩ := hr.aset hy (some d)
  refine ⟨by rw [put_tmps]; exact hrf.newrow T k es v hn, _, c', h2, fun b => ?_, by rw [put_defers]; exact hd, hz, hs.drop fun b => ?_⟩
  · have := h3 b; have := h1 b; have := hc b; omega
  · have := h3 b; have := hc b; omega
/-- A row taken out of its slot, and what showed it forgotten. -/
theorem take_row {c : Nat → Nat} {t s e k : Nat} {es : List AV} (hr : RepC w S σ a.tmps.toList c) (hrf : RefOk σ a.tmps.toList) (h : rbase σ t = some (s, e, k, es)) :
    ∃ v c1 c2, a.eval (.tmp t) = v ∧ a.tmps.toList[s]? = some v ∧ RepC w S [.row e k es] [v] c1 ∧ RepC w S (σ.set s .any) a.tmps.toList c2 ∧ (∀ b, c b = c1 b + c2 b) ∧
      RepC w S ((σ.set s .any).set t .any) a.tmps.toList c2 ∧ RefOk ((σ.set s .any).set t .any) a.tmps.toList ∧ RefOk (σ.set s .any) a.tmps.toList ∧ s < σ.length := by
  obtain ⟨h1, h2, h3⟩ := rbase_spec hr hrf h
  obtain ⟨v, c1, c2, hv, hx, hr2, hc⟩ := hr.take s h1
  have hlt := (List.getElem?_eq_some_iff.1 h1).1
  refine ⟨v, c1, c2, eval_of (h2.trans hv), hv, hx, hr2, hc, ?_, (hrf.less s rfl).less t rfl, hrf.less s rfl, hlt⟩
  rcases h3 with rfl | h3
  · rw [List.set_set]; exact hr2
  · by_cases hts : t = s
    · subst hts; rw [List.set_set]; exact hr2
    · have h4 : (σ.set s .any)[t]? = some (.alias s) := by rw [set_other (fun h => hts h.symm)]; exact h3
      obtain ⟨v', d1, d2, hv', hx', hr3, hd⟩ := hr2.take t h4
      have hz : Zc d1 := by cases hx' with | alias h => cases h with | nil hz => exact hz
      exact hr3.congr fun b => by rw [hd, hz b]; omega
theorem rep_row {e k : Nat} {es : List AV} {v : Value} {c : Nat → Nat} (h : RepC w S [.row e k es] [v] c) : ∃ A cap, v = .slice A es.length cap ∧ es.length ≤ cap ∧ (∀ x ∈ es, (cellsOf x).length = k) := by
  cases h with
  | rowE h => exact ⟨none, 0, rfl, Nat.le_refl _, by simp⟩
  | row hn hcap hk hb hs hS h1 h0 hoc h hcc => exact ⟨_, _, rfl, hn, hk⟩
end
end Go.Proofs.Ytohelofjlkoboaa
