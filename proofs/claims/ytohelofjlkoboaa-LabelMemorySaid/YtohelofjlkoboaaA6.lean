/- Conversions, made rows, calls; all operations in one. -/
import Derived.Test.YtohelofjlkoboaaA5
namespace Go.Proofs.Ytohelofjlkoboaa
open Go.RowKit
set_option linter.unusedSectionVars false
variable [Env]
variable {dfs : List Deferred}
set_option linter.unusedVariables false
set_option linter.unusedSimpArgs false

def byteA (c : UInt8) : AV := .raw (.int .u8 (c.toNat : Int))
def bytesA (l : List UInt8) : List AV := l.map byteA
theorem bytesA_snoc (l : List UInt8) (c : UInt8) : bytesA l ++ [.raw (.int .u8 (c.toNat : Int))] = bytesA (l ++ [c]) := by simp [bytesA, byteA]
theorem bytesA_nil : bytesA [] = [] := rfl

theorem cellsOf_ac1 (u : Value) : cellsOf (ac1 u) = [ac1 u] := by unfold ac1; split <;> rfl
def aconv2 (T : Tab) (s d : TI) (x : AV) (K : AV → Prop) : Prop :=
  match x with
  | .raw (.int _ n) => match d.td.ik with
    | some k => K (.raw (.int k (k.wrap n)))
    | none => False
  | .raw (.string t) => d.td.str = true ∧ K (.raw (.string t))
  | .sl 1 es => d.td.str = true ∧ (match s.td.elem with
    | some e => (match T e with
      | some j => j.td.ik = some .u8
      | none => False)
    | none => False) ∧ ∃ l, es = bytesA l ∧ K (.raw (.string ⟨l.toArray⟩))
  | .own _ 1 es => d.td.str = true ∧ (match s.td.elem with
    | some e => (match T e with
      | some j => j.td.ik = some .u8
      | none => False)
    | none => False) ∧ ∃ l, es = bytesA l ∧ K (.raw (.string ⟨l.toArray⟩))
  | _ => False

def amakeSlice (e : Nat) (j : TI) (x y : AV) (K : AV → Prop) : Prop :=
  match x, y with
  | .raw (.int _ l), .raw (.int _ c) => 0 ≤ l ∧ l ≤ c ∧ c ≤ 9223372036854775807 ∧ (j.bytes : Int) * c ≤ 281474976710656 ∧ (l = 0 ∨ (j.size = 1 ∧ j.zero.length = 1 ∧ allOne j.zero = true)) ∧ K (.own e j.size (List.replicate l.toNat (ac1 (j.zero.headD undef))))
  | _, _ => False

def amax (mx : Bool) : AV → AV → (AV → Prop) → Prop
  | .raw (.int k a), .raw (.int k' b), K => k = k' ∧ K (.raw (.int k (if mx then (if b > a then b else a) else (if b < a then b else a))))
  | _, _, _ => False

section
variable {P : Program} {T : Tab} {w : World}
variable {w0 : World} {S0 c0 : Nat → Nat} {σ : List AV} {a : Act} {K : List AV → Prop} {Q : Exit → Act → World → Prop} {o : Oper}

theorem bytes_rep {S : Nat → Nat} : ∀ (l : List UInt8) {vs : List Value} {c : Nat → Nat}, RepC w S (flat (bytesA l)) vs c → vs = l.map fun c => Value.int .u8 (c.toNat : Int)
  | [], vs, c, h => h.zero.1
  | x :: l, vs, c, h => by
    simp only [bytesA, List.map_cons, flat, byteA, cellsOf, List.cons_append, List.nil_append] at h
    obtain ⟨v, us, c1, c2, rfl, h1, h2, _⟩ := h.uncons
    rw [(rep_raw h1).1, bytes_rep l h2]
    rfl

theorem aconv_sound {s d : Nat} {x : Operand} {i j : TI} (hT : TabOk P T) (ho : o.op = .convert s d x) (hi : TIok P s i) (hj : TIok P d j) (hst : Stt dfs w0 S0 c0 σ a w)
    (h : aconv2 T i j (aev σ x) fun z => K (aset σ o.dst z)) : o.wp P a w (fun a' w' => ∃ σ', K σ' ∧ Stt dfs w0 S0 c0 σ' a' w') Q := by
  have hst' := hst
  obtain ⟨_, S, c, hr, _⟩ := hst
  obtain ⟨cx, hrx⟩ := aev_rep hr x
  obtain ⟨inf, z, ds, g1, gz, gzz, g4, _, g6, g7⟩ := hi.get
  obtain ⟨inf2, z2, dd, f1, fz, fzz, f4, f5, f6, f7⟩ := hj.get
  have key : ∀ (k : Nat) (es : List AV) (l : List UInt8), k = 1 → (∃ cx, RepC w S [.sl k es] [a.eval x] cx) → j.td.str = true → (match i.td.elem with
    | some e => (match T e with
      | some j => j.td.ik = some .u8
      | none => False)
    | none => False) → es = bytesA l → K (aset σ o.dst (.raw (.string ⟨l.toArray⟩))) → o.wp P a w (fun a' w' => ∃ σ', K σ' ∧ Stt dfs w0 S0 c0 σ' a' w') Q := by
    intro k es l hk ⟨cx, hrx⟩ hstr hel hes hK
    subst hk; subst hes
    have hdd : dd = .string := td_str (P := P) (by rw [f7]; exact hstr)
    subst hdd
    split at hel
    · rename_i e he
      split at hel
      · rename_i je hje
        have hds : ds = .slice e := td_elem (P := P) (by rw [g7]; exact he)
        subst hds
        obtain ⟨_, _, de, _, _, _, _, _, e6, e7⟩ := (hT e je hje).get
        have hde : de = .int .u8 := td_ik (P := P) (by rw [e7]; exact hel)
        subst hde
        obtain ⟨A, cap, e1, hn, hcap, hks, hmem⟩ := rep_sl hrx
        have hrun : (convert s d (a.eval x)).run P w = .ok (.string ⟨l.toArray⟩) w := by
          rw [e1]
          by_cases hne : l = []
          · subst hne
            cases A with
            | none =>
              rw [show (bytesA []).length = 0 from rfl, run_convert_bytes_nil w s e g6 e6 0 cap d f6]; rfl
            | some ad =>
              exact run_convert_bytes_back w s d e ad cap [] g6 e6 f6 (fun j hj => by simp at hj)
          · obtain ⟨ad, cv, cc, rfl, hsp, h1, hz0, hcell, _⟩ := hmem (by simpa [bytesA] using hne)
            have hcv := bytes_rep l h1
            have := run_convert_bytes_back w s d e ad cap l g6 e6 f6 (fun j hj => by
              obtain ⟨bb, oo, sp⟩ := ad
              simp at hsp; subst hsp
              rw [add_mk]
              refine (hcell j _ ?_).1
              rw [hcv]; simp [hj])
            simpa [bytesA] using this
        refine quiet_sound hst' rfl (v := .string ⟨l.toArray⟩) ?_ (fun S' c' hr' => ⟨_, rep_mk rfl zc0, zc0⟩) hK
        unfold execOp
        simp only [ho, Sem.run_bind, hrun, Result.andThen_ok, Sem.run_pure]
      · exact hel.elim
    · exact hel.elim
  unfold aconv2 at h
  split at h
  · rename_i k n hx
    split at h
    · rename_i k' hk
      have hdd : dd = .int k' := td_ik (P := P) (by rw [f7]; exact hk)
      subst hdd
      rw [hx] at hrx
      have e1 := (rep_raw hrx).1
      refine quiet_sound hst' rfl (v := .int k' (k'.wrap n)) ?_ (fun S' c' hr' => ⟨_, rep_mk rfl zc0, zc0⟩) h
      unfold execOp
      have : (convert s d (.int k n)).run P w = .ok (.int k' (k'.wrap n)) w := by
        cases ds <;> simp [convert, run_underlying g6, run_underlying f6, Conv.intToInt]
      simp only [ho, e1, Sem.run_bind, this, Result.andThen_ok, Sem.run_pure]
    · exact h.elim
  · rename_i t hx
    obtain ⟨hstr, hK⟩ := h
    have hdd : dd = .string := td_str (P := P) (by rw [f7]; exact hstr)
    subst hdd
    rw [hx] at hrx
    have e1 := (rep_raw hrx).1
    refine quiet_sound hst' rfl (v := .string t) ?_ (fun S' c' hr' => ⟨_, rep_mk rfl zc0, zc0⟩) hK
    unfold execOp
    have : (convert s d (.string t)).run P w = .ok (.string t) w := by
      cases ds <;> simp [convert, run_underlying g6, run_underlying f6]
    simp only [ho, e1, Sem.run_bind, this, Result.andThen_ok, Sem.run_pure]
  · rename_i es hx
    obtain ⟨hstr, hel, l, hes, hK⟩ := h
    rw [hx] at hrx
    exact key 1 es l rfl ⟨_, hrx⟩ hstr hel hes hK
  · rename_i e' es hx
    obtain ⟨hstr, hel, l, hes, hK⟩ := h
    rw [hx] at hrx
    exact key 1 es l rfl ⟨_, rep_own_sl hrx⟩ hstr hel hes hK
  · exact h.elim

theorem amakeSlice_sound {t e : Nat} {x y : Operand} {i j : TI} (ho : o.op = .makeSlice t x y) (hi : TIok P t i) (he : i.td.elem = some e) (hj : TIok P e j) (hst : Stt dfs w0 S0 c0 σ a w)
    (h : amakeSlice e j (aev σ x) (aev σ y) fun z => K (aset σ o.dst z)) : o.wp P a w (fun a' w' => ∃ σ', K σ' ∧ Stt dfs w0 S0 c0 σ' a' w') Q := by
  obtain ⟨hrf, S, c, hr, h1, hd, hz, hs⟩ := hst
  obtain ⟨cx, hrx⟩ := aev_rep hr x
  obtain ⟨cy, hry⟩ := aev_rep hr y
  obtain ⟨inf, z, ds, g1, gz, gzz, g4, _, g6, g7⟩ := hi.get
  obtain ⟨inf2, z2, dd, f1, fz, fzz, f4, f5, f6, f7⟩ := hj.get
  have hds : ds = .slice e := td_elem (P := P) (by rw [g7]; exact he)
  subst hds
  unfold amakeSlice at h
  split at h
  · rename_i kl l kc cc hx hy
    rw [hx] at hrx; rw [hy] at hry
    have e1 := (rep_raw hrx).1
    have e2 := (rep_raw hry).1
    obtain ⟨h0, hlc, hmax, hby, hsz, hK⟩ := h
    have hrun := run_make (P := P) (w := w) t e inf2 z2 g6 f1 fz kl kc l cc h0 hlc (by rw [f5]; exact hby) hmax
    rw [← e1, ← e2, f4] at hrun
    refine wp_value (w' := w.alloc (.cells (madeCells z2.cells (cc.toNat * j.size)) e)) (v := .slice (some ⟨w.heap.size, 0, none⟩) l.toNat cc.toNat) ?_ ⟨_, hK, Stt.new (s := l.toNat * j.size) hrf rfl h1 hr.lt hd hz hs hr (c1 := fun _ => 0) ?_ (fun b => by omega) _⟩
    · unfold execOp
      simp only [ho, Sem.run_bind, hrun, Result.andThen_ok, Sem.run_pure]
    · have hcm : cc.toNat ≤ maxLen := by unfold maxLen; omega
      rcases hsz with rfl | ⟨hs1, hzl, hone⟩
      · refine .own (cur := madeCells z2.cells (cc.toNat * j.size)) (c0 := fun _ => 0) (c2 := fun _ => 0) (Nat.zero_le _) hcm (by simp) (heap_alloc_new w _) (size_madeCells _ _) (by simp [upd]) ?_ zc0 (by simp) (.nil zc0) (fun x => rfl)
        simp [flat]; exact .nil zc0
      · obtain ⟨u, hu⟩ : ∃ u, j.zero = [u] := by
          match hz : j.zero, hzl with
          | [u], _ => exact ⟨u, rfl⟩
        have huo : u.oneCell' = true := by rw [hu] at hone; simpa [allOne] using hone
        have hzc : z2.cells = #[u] := by apply Array.ext'; rw [fzz, hu]
        have hcells : (madeCells z2.cells (cc.toNat * j.size)).toList = List.replicate cc.toNat u := by
          rw [hs1, Nat.mul_one, hzc]
          apply List.ext_getElem?
          intro q
          by_cases hq : q < cc.toNat
          · simp [madeCells, hq, Nat.mod_one]
          · simp [madeCells, hq]
        have hrow : ∀ n, RepC (w.alloc (.cells (madeCells z2.cells (cc.toNat * j.size)) e)) (upd S w.heap.size (l.toNat * j.size)) (flat (List.replicate n (ac1 u))) (List.replicate n u) (fun _ => 0) := by
          intro n
          induction n with
          | zero => exact .nil zc0
          | succ n ih =>
            have : cellsOf (ac1 u) = [ac1 u] := cellsOf_ac1 u
            simp only [List.replicate_succ, flat, this, List.cons_append, List.nil_append]
            exact RepC.cons (rep_ac1 u) ih (fun b => by simp)
        rw [hu]
        simp only [List.headD_cons]
        have hlen : (List.replicate l.toNat (ac1 u)).length = l.toNat := by simp
        have hr2 := hrow l.toNat
        have hkk : ∀ x ∈ List.replicate l.toNat (ac1 u), (cellsOf x).length = j.size := by
          intro x hx
          rw [List.eq_of_mem_replicate hx, hs1, cellsOf_ac1]
          rfl
        have htk : (madeCells z2.cells (cc.toNat * j.size)).toList.take (l.toNat * j.size) = List.replicate l.toNat u := by
          rw [hcells, hs1, List.take_replicate]; congr 1; omega
        revert hlen hr2 hkk
        generalize List.replicate l.toNat (ac1 u) = es
        intro hlen hr2 hkk
        rw [← hlen]
        rw [← hlen] at hr2 htk
        refine .own (cur := madeCells z2.cells (cc.toNat * j.size)) (c0 := fun _ => 0) (c2 := fun _ => 0) (by omega) hcm hkk (heap_alloc_new w _) (size_madeCells _ _) (by simp [upd]) (by rw [htk]; exact hr2) zc0 ?_ (.nil zc0) (fun x => rfl)
        rw [htk]; intro v hv; rw [List.eq_of_mem_replicate hv]; exact huo
  · exact h.elim

theorem amax_sound {mx : Bool} {x y : Operand} {c : Call} (ho : o.op = .call c) (hc : c.callee = .builtin (if mx then .max else .min)) (hca : c.args = #[x, y]) (hst : Stt dfs w0 S0 c0 σ a w)
    (h : amax mx (aev σ x) (aev σ y) fun z => K (aset σ o.dst z)) : o.wp P a w (fun a' w' => ∃ σ', K σ' ∧ Stt dfs w0 S0 c0 σ' a' w') Q := by
  have hst' := hst
  obtain ⟨_, S, cc, hr, _⟩ := hst
  obtain ⟨cx, hrx⟩ := aev_rep hr x
  obtain ⟨cy, hry⟩ := aev_rep hr y
  unfold amax at h
  split at h
  · rename_i Kz k x' k' y' hx hy
    rw [hx] at hrx; rw [hy] at hry
    have e1 := (rep_raw hrx).1
    have e2 := (rep_raw hry).1
    obtain ⟨rfl, hK⟩ := h
    refine quiet_sound hst' rfl (v := .int k (if mx then (if y' > x' then y' else x') else (if y' < x' then y' else x'))) ?_ (fun S' c' hr' => ⟨_, rep_mk rfl zc0, zc0⟩) hK
    unfold execOp
    cases mx
    · simp [ho, resolve, hc, hca, invoke, builtin, Builtin.min_, Builtin.min2, e1, e2]
    · simp [ho, resolve, hc, hca, invoke, builtin, Builtin.max_, Builtin.max2, e1, e2]
  · exact h.elim

/-! ## calls of functions -/
theorem Stp.frame {S S' c c1 c2 c' : Nat → Nat} {w' : World} (h : Stp w S c1 w' S' c') (hc : ∀ b, c b = c1 b + c2 b) : Stp w S c w' S' (fun b => c' b + c2 b) :=
  ⟨h.os, h.tape, h.output, h.size, fun b hb h0 => h.keep b hb (by have := hc b; omega), h.cell, h.le, fun b hb => by have := h.own b hb; have := hc b; show c' b + c2 b ≤ c b; omega⟩

theorem run_enter {f : FuncId} {fn : Func} {c : Code} (hf : P.funcs[f]? = some fn) (hname : (fn.name == "runtime.NumGoroutine") = false) (hb : fn.body = some c) (args : Array Value) (w : World) :
    (callFunc f args).run P w = .ok (.enter f args) w := by
  have h1 : fn.name ≠ "runtime.NumGoroutine" := by simpa using hname
  simp [callFunc, hf, h1, hb]
def acall (P : Program) (σ : List AV) (f : Operand) (args : List Operand) (d : Option Nat) (K : List AV → Prop) : Prop :=
  match aev σ f with
  | .raw (.func (.func g) first caps) => first.toList = [] ∧ ACalls P g ((agrab σ args).1 ++ caps.toList.map ac1) fun r => K (aset (agrab σ args).2 d r)
  | .clo g cs => ACalls P g ((agrab σ args).1 ++ cs) fun r => K (aset (agrab σ args).2 d r)
  | _ => False

theorem acall_sound {f : Operand} {c : Call} (ho : o.op = .call c) (hc : c.callee = .value f) (hst : Stt dfs w0 S0 c0 σ a w) (h : acall P σ f c.args.toList o.dst K) :
    o.wp P a w (fun a' w' => ∃ σ', K σ' ∧ Stt dfs w0 S0 c0 σ' a' w') Q := by
  unfold acall at h
  split at h
  · rename_i g first caps hf
    obtain ⟨hfirst, ⟨fn, code, hfn, hbody, hname⟩, _, hcall⟩ := h
    obtain ⟨hrf, S, cc, hr, h1, hd, hz, hs⟩ := hst
    obtain ⟨cx, hrx⟩ := aev_rep hr f
    rw [hf] at hrx
    have e1 := (rep_raw hrx).1
    obtain ⟨c1, c2, hv, hr2, hcc⟩ := grabs c.args.toList hr
    have hvs := RepC.app hv (rep_ac1s (w := w) (S := S) caps.toList) (c := c1) (fun b => by simp)
    have hrun := run_enter (P := P) hfn hname hbody ((c.args.map a.eval) ++ caps) w
    have hfe : first = #[] := by apply Array.ext'; simpa using hfirst
    subst hfe
    have hargs : ((c.args.toList.map a.eval) ++ caps.toList).toArray = c.args.map a.eval ++ caps := by
      apply Array.ext'; simp
    have := hcall w S _ c1 hz hvs (fun b => by have := h1 b; have := hcc b; omega)
    rw [hargs] at this
    have hexec : (execOp a.eval o).run P w = .ok (.enter g (c.args.map a.eval ++ caps)) w := by
      unfold execOp
      simp [ho, resolve, hc, e1, Deferred.ofValue, invoke, hrun]
    unfold Oper.wp
    rw [hexec, Oper.upon_enter]
    refine this.mono fun e w' ⟨v, r, S', c', he, hR, hpb, hrr, hc1, hz', hstp⟩ => ?_
    subst he
    have hr3 := hr2.step hstp (fun b => by have := h1 b; have := hcc b; omega)
    have hfr := hstp.frame (c2 := c2) hcc
    refine ⟨_, hR, Stt.value (c := fun b => c' b + c2 b) (hrf.agrab _) hpb ?_ hd hz' (hs.trans hfr) hr3 hrr (fun b => Nat.le_refl _) _⟩
    intro b
    show c' b + c2 b ≤ 1
    have := h1 b
    have := hcc b
    have := hc1 b
    rcases Nat.lt_or_ge b w.heap.size with hb | hb
    · have := hstp.own b hb; omega
    · have : c2 b = 0 := by
        rcases Nat.eq_zero_or_pos (c2 b) with h | h
        · exact h
        · have := hr2.lt b h; omega
      omega
  · rename_i g cs hf
    obtain ⟨⟨fn, code, hfn, hbody, hname⟩, _, hcall⟩ := h
    obtain ⟨hrf, S, cc, hr, h1, hd, hz, hs⟩ := hst
    obtain ⟨cx, hrx⟩ := aev_rep hr f
    rw [hf] at hrx
    obtain ⟨us, e0, e1, hcs, hz0⟩ : ∃ (us : List Value) (e0 : Nat → Nat), a.eval f = .func (.func g) #[] us.toArray ∧ RepC w S cs us e0 ∧ Zc e0 := by
      generalize a.eval f = v at hrx
      cases hrx with
      | clo h1 h0 h => exact ⟨_, _, rfl, h1, h0⟩
    obtain ⟨c1, c2, hv, hr2, hcc⟩ := grabs c.args.toList hr
    have hvs := RepC.app hv hcs (c := c1) (fun b => by rw [hz0 b]; rfl)
    have hrun := run_enter (P := P) hfn hname hbody ((c.args.map a.eval) ++ us.toArray) w
    have hargs : ((c.args.toList.map a.eval) ++ us).toArray = c.args.map a.eval ++ us.toArray := by
      apply Array.ext'; simp
    have := hcall w S _ c1 hz hvs (fun b => by have := h1 b; have := hcc b; omega)
    rw [hargs] at this
    have hexec : (execOp a.eval o).run P w = .ok (.enter g (c.args.map a.eval ++ us.toArray)) w := by
      unfold execOp
      simp [ho, resolve, hc, e1, Deferred.ofValue, invoke, hrun]
    unfold Oper.wp
    rw [hexec, Oper.upon_enter]
    refine this.mono fun e w' ⟨v, r, S', c', he, hR, hpb, hrr, hc1, hz', hstp⟩ => ?_
    subst he
    have hr3 := hr2.step hstp (fun b => by have := h1 b; have := hcc b; omega)
    have hfr := hstp.frame (c2 := c2) hcc
    refine ⟨_, hR, Stt.value (c := fun b => c' b + c2 b) (hrf.agrab _) hpb ?_ hd hz' (hs.trans hfr) hr3 hrr (fun b => Nat.le_refl _) _⟩
    intro b
    show c' b + c2 b ≤ 1
    have := h1 b
    have := hcc b
    have := hc1 b
    rcases Nat.lt_or_ge b w.heap.size with hb | hb
    · have := hstp.own b hb; omega
    · have : c2 b = 0 := by
        rcases Nat.eq_zero_or_pos (c2 b) with h | h
        · exact h
        · have := hr2.lt b h; omega
      omega
  · exact h.elim

def aop (P : Program) (T : Tab) (o : Oper) (σ : List AV) (K : List AV → Prop) : Prop :=
  match o.op with
  | .move x => K (aset (amv σ x) o.dst (aev σ x))
  | .assign x => K (aset (amv σ x) o.dst (aev σ x))
  | .pick c x y =>
    match aev σ c with
    | .raw (.bool e) => asplit e (K (aset (amv σ x) o.dst (aev σ x))) (K (aset (amv σ y) o.dst (aev σ y)))
    | _ => False
  | .alloc t => match T t with
    | some i => aalloc σ t i o.dst K
    | none => False
  | .box t x => abox σ t x o.dst K
  | .build t ps => match T t with
    | some i => bok T i = true ∧ ((bflds T i).all fun f => f.2.1.isSome) = true ∧ allOne i.zero = true ∧
        afill (bflds T i) ((ps.toList.map (·.1)).zip (agrab σ (ps.toList.map (·.2))).1) (i.zero.map ac1) fun cs => K (aset (agrab σ (ps.toList.map (·.2))).2 o.dst (.agg cs))
    | none => False
  | .buildSlice t n ps => match T t with
    | some i => match i.td.elem with
      | some e => match T e with
        | some j => abuildSlice σ e j n ps.toList o.dst K
        | none => False
      | none => False
    | none => False
  | .load t x => match T t with
    | some i => aload σ i x o.dst K
    | none => False
  | .store t x y => match T t with
    | some i => astore σ i x y o.dst K
    | none => False
  | .binOp op t x y _ => abinT T op t (aev σ x) (aev σ y) fun z => K (aset σ o.dst z)
  | .unOp op _ x => aun op (aev σ x) fun z => K (aset σ o.dst z)
  | .convert s d x => match T s, T d with
    | some i, some j => aconv2 T i j (aev σ x) fun z => K (aset σ o.dst z)
    | _, _ => False
  | .makeFunc (.func f) first caps => match first.toList, caps.toList with
    | [], [] => K (aset σ o.dst (.raw (.func (.func f) #[] #[])))
    | [], x :: xs => ((x :: xs).map (aev σ)).all zc1 = true ∧ K (aset σ o.dst (.clo f ((x :: xs).map (aev σ))))
    | _, _ => False
  | .makeSlice t x y => match T t with
    | some i => match i.td.elem with
      | some e => match T e with
        | some j => amakeSlice e j (aev σ x) (aev σ y) fun z => K (aset σ o.dst z)
        | none => False
      | none => False
    | none => False
  | .slice t x lo hi none => match T t with
    | some i => aslice T i (aev σ x) (lo.map (aev σ)) (hi.map (aev σ)) fun z => K (aset σ o.dst z)
    | none => False
  | .fieldAddr t x f => match T t with
    | some i => afieldAddr σ i x f o.dst K
    | none => False
  | .field t x f => match T t with
    | some i => afieldM σ i x f o.dst K
    | none => False
  | .indexAddr t x y => match T t with
    | some i => aindexAddrB T σ i x y o.dst K
    | none => False
  | .index t x y => match T t with
    | some i => aindex T i (aev σ x) (aev σ y) fun z => K (aset σ o.dst z)
    | none => False
  | .extract x n => aextract σ x n o.dst K
  | .call c =>
    match c.callee with
    | .value f => acall P σ f c.args.toList o.dst K
    | .builtin .len => match c.args.toList, c.argTypes.toList with
      | [x], [t] => match T t with
        | some i => alen i (aev σ x) fun z => K (aset σ o.dst z)
        | none => False
      | _, _ => False
    | .builtin .append => match c.args.toList, c.argTypes.toList with
      | [x, y], [t, t'] => t = t' ∧ match T t with
        | some i => match i.td.elem with
          | some e => match T e with
            | some j => aappend σ e j x y o.dst K
            | none => False
          | none => False
        | none => False
      | _, _ => False
    | .builtin .min => match c.args.toList with
      | [x, y] => amax false (aev σ x) (aev σ y) fun z => K (aset σ o.dst z)
      | _ => False
    | .builtin .max => match c.args.toList with
      | [x, y] => amax true (aev σ x) (aev σ y) fun z => K (aset σ o.dst z)
      | _ => False
    | _ => False
  | _ => False
end
end Go.Proofs.Ytohelofjlkoboaa
