/- Regions in the order of the text; what is only looked at. -/
import Derived.Test.YtohelofjlkoboaaD5
import Derived.Test.YtohelofjlkoboaaR2
namespace Go.Proofs.Ytohelofjlkoboaa
open Go.RowKit
set_option linter.unusedSectionVars false
variable [Env]
variable {dfs : List Deferred}
set_option linter.unusedVariables false
set_option linter.unusedSimpArgs false

section
variable (P : Program) (T : Tab)
def cop (d : Option Nat) (op : Op) (σ : List AV) (K : List AV → Prop) : Prop := rop P T { dst := d, op := op, type := 0, pos := "", after := #[], guard := none } σ K
def dcop (d : Option Nat) (op : Op) (σ : List AV) (K : List AV → Prop) : Prop := bop P T { dst := d, op := op, type := 0, pos := "", after := #[], guard := none } σ K
def copl (K : List AV → Prop) : List CO → List AV → Prop
  | [], σ => K σ
  | ⟨d, op, none⟩ :: l, σ => cop P T d op σ (copl K l)
  | ⟨d, op, some (t, want)⟩ :: l, σ =>
    match σ.getD t .any with
    | .raw (.bool e) =>
      asplit e
        (if want then cop P T d op (σ.set t (.raw (.bool true))) (copl K l) else copl K l (aset (σ.set t (.raw (.bool true))) d (.tup [])))
        (if want then copl K l (aset (σ.set t (.raw (.bool false))) d (.tup [])) else cop P T d op (σ.set t (.raw (.bool false))) (copl K l))
    | .tup [] => copl K l (aset σ d (.tup []))
    | _ => False

def fxp (d : Option Nat) (σ σ' : List AV) (A : Prop) : List Nat → Prop
  | [] => A
  | s :: sh => (d ≠ some s → σ'.getD s .any = σ.getD s .any) ∧ fxp d σ σ' A sh
def nrp (σ : List AV) (A : Prop) : List Nat → Prop
  | [] => A
  | d :: bm => nrq d σ = true ∧ nrp σ A bm
def fin2 (sh bm : List Nat) (d : Option Nat) (σ σ' : List AV) (A : Prop) : Prop := fxp d σ σ' (nrp σ' A bm) sh
def tchp (rb : List Nat) (op : Op) (σ : List AV) (A : Prop) : Prop :=
  match op with
  | .load _ (.tmp s) => (match σ.getD s .any with
    | .ref s' _ => rb.contains (s * 100000 + s') = true ∧ s' < 100000 ∧ A
    | .pref s' _ _ _ => rb.contains (s * 100000 + s') = true ∧ s' < 100000 ∧ A
    | _ => A)
  | .store _ (.tmp s) _ => (match σ.getD s .any with
    | .ref s' _ => rb.contains (s * 100000 + s') = true ∧ s' < 100000 ∧ A
    | .pref s' _ _ _ => rb.contains (s * 100000 + s') = true ∧ s' < 100000 ∧ A
    | _ => A)
  | .indexAddr _ (.tmp s) _ => (match σ.getD s .any with
    | .alias s' => rb.contains (s * 100000 + s') = true ∧ s' < 100000 ∧ A
    | _ => A)
  | .fieldAddr _ (.tmp s) _ => (match σ.getD s .any with
    | .ref s' _ => rb.contains (s * 100000 + s') = true ∧ s' < 100000 ∧ A
    | .pref s' _ _ _ => rb.contains (s * 100000 + s') = true ∧ s' < 100000 ∧ A
    | _ => A)
  | _ => A
/-- A region whose order is drawn, reckoned in the order of the text. -/
def dopl (sh rb bm : List Nat) (K : List AV → Prop) : List CO → List AV → Prop
  | [], σ => K σ
  | ⟨d, op, none⟩ :: l, σ => tchp rb op σ (dcop P T d op σ fun σ' => fin2 (shO sh op) bm d σ σ' (dopl sh rb bm K l σ'))
  | ⟨d, op, some (t, want)⟩ :: l, σ =>
    match σ.getD t .any with
    | .raw (.bool e) =>
      asplit e
        (if want then tchp rb op (σ.set t (.raw (.bool true))) (dcop P T d op (σ.set t (.raw (.bool true))) fun σ' => fin2 (shO sh op) bm d (σ.set t (.raw (.bool true))) σ' (dopl sh rb bm K l σ'))
          else fin2 (shO sh op) bm d (σ.set t (.raw (.bool true))) (aset (σ.set t (.raw (.bool true))) d (.tup [])) (dopl sh rb bm K l (aset (σ.set t (.raw (.bool true))) d (.tup []))))
        (if want then fin2 (shO sh op) bm d (σ.set t (.raw (.bool false))) (aset (σ.set t (.raw (.bool false))) d (.tup [])) (dopl sh rb bm K l (aset (σ.set t (.raw (.bool false))) d (.tup [])))
          else tchp rb op (σ.set t (.raw (.bool false))) (dcop P T d op (σ.set t (.raw (.bool false))) fun σ' => fin2 (shO sh op) bm d (σ.set t (.raw (.bool false))) σ' (dopl sh rb bm K l σ')))
    | .tup [] => fin2 (shO sh op) bm d σ (aset σ d (.tup [])) (dopl sh rb bm K l (aset σ d (.tup [])))
    | _ => False
end

section
variable {P : Program} {T : Tab} {sh rb bm : List Nat}
theorem nrp_iff {σ : List AV} {A : Prop} : ∀ {bm : List Nat}, nrp σ A bm ↔ Nr bm σ ∧ A
  | [] => by simp [nrp, Nr]
  | d :: bm => by
    simp only [nrp, nrp_iff (bm := bm), Nr, List.mem_cons, forall_eq_or_imp, and_assoc]
theorem fxp_iff {d : Option Nat} {σ σ' : List AV} {A : Prop} : ∀ {sh : List Nat}, fxp d σ σ' A sh ↔ Fx sh d σ σ' ∧ A
  | [] => by simp [fxp, Fx]
  | s :: sh => by
    simp only [fxp, fxp_iff (sh := sh), Fx, List.mem_cons, forall_eq_or_imp, and_assoc]
theorem fin2_iff {d : Option Nat} {σ σ' : List AV} {A : Prop} : fin2 sh bm d σ σ' A ↔ Fx sh d σ σ' ∧ Nr bm σ' ∧ A := by
  rw [fin2, fxp_iff, nrp_iff]
theorem tchp_spec {op : Op} {c : CO} {σ : List AV} {A : Prop} (ho : c.op = op) (hb : isbx rb op = false) (h : tchp rb op σ A) : tch (dslots rb c) op σ ∧ A := by
  have hin : ∀ s s', s ∈ abase op → rb.contains (s * 100000 + s') = true → s' < 100000 → (dslots rb c).contains s' = true := by
    intro s s' hs h1 h2
    rw [con_mem]
    have : s' ∈ (abase op).flatMap (rtOf rb) := List.mem_flatMap.2 ⟨s, hs, rtOf_mem h1 h2⟩
    simp [dslots, ho, hb, this]
  cases op <;> try exact ⟨trivial, h⟩
  case load t x =>
    cases x <;> try exact ⟨trivial, h⟩
    rename_i s
    simp only [tchp, tch] at *
    generalize σ.getD s .any = v at *
    cases v <;> first
      | exact ⟨trivial, h⟩
      | exact ⟨hin s _ (by simp [abase]) h.1 h.2.1, h.2.2⟩
  case store t x y =>
    cases x <;> try exact ⟨trivial, h⟩
    rename_i s
    simp only [tchp, tch] at *
    generalize σ.getD s .any = v at *
    cases v <;> first
      | exact ⟨trivial, h⟩
      | exact ⟨hin s _ (by simp [abase]) h.1 h.2.1, h.2.2⟩
  case indexAddr t x y =>
    cases x <;> try exact ⟨trivial, h⟩
    rename_i s
    simp only [tchp, tch] at *
    generalize σ.getD s .any = v at *
    cases v <;> first
      | exact ⟨trivial, h⟩
      | exact ⟨hin s _ (by simp [abase]) h.1 h.2.1, h.2.2⟩
  case fieldAddr t x f =>
    cases x <;> try exact ⟨trivial, h⟩
    rename_i s
    simp only [tchp, tch] at *
    generalize σ.getD s .any = v at *
    cases v <;> first
      | exact ⟨trivial, h⟩
      | exact ⟨hin s _ (by simp [abase]) h.1 h.2.1, h.2.2⟩
theorem tchp_out {op : Op} {σ : List AV} {A : Prop} (h : tchp rb op σ A) : A := by
  cases op <;> try exact h
  case load t x =>
    cases x <;> try exact h
    rename_i s
    simp only [tchp] at h
    generalize σ.getD s .any = v at *
    cases v <;> first
      | exact h
      | exact h.2.2
  case store t x y =>
    cases x <;> try exact h
    rename_i s
    simp only [tchp] at h
    generalize σ.getD s .any = v at *
    cases v <;> first
      | exact h
      | exact h.2.2
  case indexAddr t x y =>
    cases x <;> try exact h
    rename_i s
    simp only [tchp] at h
    generalize σ.getD s .any = v at *
    cases v <;> first
      | exact h
      | exact h.2.2
  case fieldAddr t x f =>
    cases x <;> try exact h
    rename_i s
    simp only [tchp] at h
    generalize σ.getD s .any = v at *
    cases v <;> first
      | exact h
      | exact h.2.2
/-- A field's address of a box, in the short form. -/
theorem bxs_of {c : CO} {σ : List AV} {K : List AV → Prop} (hb : isbx rb c.op = true) (hbm : dstbm rb bm c = true) (hn : Nr bm σ) (h : bop P T (mkO c) σ K) : bxs T c σ K := by
  obtain ⟨dst, op, gd⟩ := c
  cases op <;> try (simp [isbx] at hb; done)
  rename_i t x f
  cases x <;> try (simp [isbx] at hb; done)
  rename_i s
  simp only [isbx] at hb
  simp only [dstbm, hb, Bool.not_true, Bool.false_or] at hbm
  have hx := (nrq_iff.1 (hn _ (con_mem.1 hbm))).1 (Nat.le_add_right _ _)
  rw [Nat.add_sub_cancel_left] at hx
  cases hv : σ.getD s .any with
  | box U cs =>
    simp only [bop, bop0, mkO, aop, hv] at h
    cases hi : T t with
    | none => rw [hi] at h; exact h.elim
    | some i =>
      rw [hi] at h
      simp only [afieldAddr, hv] at h
      split at h
      · rename_i off n ag d hf
        simp only [bxs, hi, hf]
        exact h
      · exact h.elim
  | _ => rw [hv] at hx; cases hx
/-- A field's address turns nothing but its own slot. -/
theorem bxs_loc {c : CO} {σ : List AV} {K : List AV → Prop} (hb : isbx rb c.op = true) (h : dcop P T c.dst c.op σ K) :
    dcop P T c.dst c.op σ (fun σ' => (∀ t, (dslots rb c).contains t = false → σ'.getD t .any = σ.getD t .any) ∧ K σ') := by
  obtain ⟨dst, op, gd⟩ := c
  cases op <;> try (simp [isbx] at hb; done)
  rename_i t x f
  cases x <;> try (simp [isbx] at hb; done)
  rename_i s
  have hset : ∀ (d : Nat) (y : AV), dst = some d → ∀ u, (dslots rb ⟨dst, .fieldAddr t (.tmp s) f, gd⟩).contains u = false → (σ.set d y).getD u .any = σ.getD u .any := by
    intro d y hd u hu
    have hne : d ≠ u := by
      rintro rfl
      have := d_dst (rb := rb) (c := ⟨dst, .fieldAddr t (.tmp s) f, gd⟩) d hd
      rw [this] at hu; cases hu
    by_cases hl : u < σ.length
    · rw [getD_set' hl, if_neg hne]
    · rw [getD_out (by rw [List.length_set]; omega), getD_out (by omega)]
  have h0 : ∀ (K : List AV → Prop), bop0 P T { dst := dst, op := .fieldAddr t (.tmp s) f, type := 0, pos := "", after := #[], guard := none } σ K →
      bop0 P T { dst := dst, op := .fieldAddr t (.tmp s) f, type := 0, pos := "", after := #[], guard := none } σ (fun σ' => (∀ u, (dslots rb ⟨dst, .fieldAddr t (.tmp s) f, gd⟩).contains u = false → σ'.getD u .any = σ.getD u .any) ∧ K σ') := by
    intro K h
    simp only [bop0, aop] at h ⊢
    cases hi : T t with
    | none => rw [hi] at h; exact h.elim
    | some i =>
      rw [hi] at h
      simp only [afieldAddr] at h ⊢
      split at h
      · rename_i off n ag d hf
        try simp only [hf]
        split at h
        · rename_i hv; (try simp only [hv]); exact ⟨h.1, h.2.1, hset _ _ rfl, h.2.2⟩
        · rename_i s' o hv
          try simp only [hv]
          split at h
          · rename_i hv2; (try simp only [hv2]); exact ⟨h.1, h.2.1, hset _ _ rfl, h.2.2⟩
          · exact h.elim
        · rename_i y hv; (try simp only [hv]); exact ⟨h.1, h.2.1, h.2.2.1, h.2.2.2.1, hset _ _ rfl, h.2.2.2.2⟩
        · exact h.elim
      · exact h.elim
  simp only [dcop, bop] at h ⊢
  generalize hv : σ.getD s .any = v at h ⊢
  cases v <;> first | exact h0 _ h | skip
  simp only [] at h ⊢
  cases hi : T t with
  | none => rw [hi] at h; exact h.elim
  | some i =>
    rw [hi] at h
    simp only [] at h ⊢
    unfold rfad at h ⊢
    split at h
    · exact ⟨h.1, h.2.1, hset _ _ rfl, h.2.2⟩
    · exact h.elim
theorem dopl_dl {cs : List CO} {K : List AV → Prop} (hbm : ∀ c ∈ cs, dstbm rb bm c = true) : ∀ (l : List CO) (k : Nat) (σ : List AV), cs.drop k = l → Nr bm σ → dopl P T sh rb bm K l σ → dl P T sh rb bm cs K (List.range' k l.length) σ
  | [], k, σ, hl, hn, h => h
  | ⟨d, op, g⟩ :: l, k, σ, hl, hn, h => by
    have hk : cs[k]? = some ⟨d, op, g⟩ := by
      have := congrArg (·[0]?) hl
      simpa [List.getElem?_drop] using this
    have hl' : cs.drop (k + 1) = l := by
      have := congrArg (List.drop 1) hl
      simpa [List.drop_drop, Nat.add_comm] using this
    simp only [List.length_cons, List.range'_succ, dl, hk]
    unfold stp cst
    have hbc := hbm _ (List.mem_of_getElem? hk)
    have step : ∀ σ, Nr bm σ → tchp rb op σ (dcop P T d op σ fun σ' => fin2 (shO sh op) bm d σ σ' (dopl P T sh rb bm K l σ')) →
        cact P T rb ⟨d, op, g⟩ σ (fun σ' => Fx (shO sh op) d σ σ' ∧ Nr bm σ' ∧ dl P T sh rb bm cs K (List.range' (k + 1) l.length) σ') := by
      intro σ hn h
      have next : ∀ x, fin2 (shO sh op) bm d σ x (dopl P T sh rb bm K l x) → Fx (shO sh op) d σ x ∧ Nr bm x ∧ dl P T sh rb bm cs K (List.range' (k + 1) l.length) x := fun x hx => by
        obtain ⟨g1, g2, g3⟩ := fin2_iff.1 hx
        exact ⟨g1, g2, dopl_dl hbm l (k + 1) x hl' g2 g3⟩
      unfold cact
      split
      · rename_i hb
        exact bxs_mono (bxs_of (c := ⟨d, op, g⟩) hb hbc hn (tchp_out h)) next
      · rename_i hb
        have hb : isbx rb op = false := by simpa using hb
        obtain ⟨h1, h2⟩ := tchp_spec (c := ⟨d, op, g⟩) rfl hb h
        exact ⟨h1, bop_mono (o := mkO ⟨d, op, g⟩) h2 next⟩
    have skip : ∀ σ, fin2 (shO sh op) bm d σ (aset σ d (.tup [])) (dopl P T sh rb bm K l (aset σ d (.tup []))) → Fx (shO sh op) d σ (aset σ d (.tup [])) ∧ Nr bm (aset σ d (.tup [])) ∧ dl P T sh rb bm cs K (List.range' (k + 1) l.length) (aset σ d (.tup [])) := by
      intro σ h
      obtain ⟨g1, g2, g3⟩ := fin2_iff.1 h
      exact ⟨g1, g2, dopl_dl hbm l (k + 1) _ hl' g2 g3⟩
    cases g with
    | none => exact step σ hn h
    | some tw =>
      obtain ⟨t, want⟩ := tw
      simp only [dopl] at h
      simp only []
      split at h
      · rename_i e he
        have hts := getD_lt he (by simp)
        have hset : ∀ b, e = b → σ.set t (.raw (.bool b)) = σ := fun b hb => by subst hb; exact set_self hts he
        rw [he]
        cases e with
        | true =>
          have h := h.1 rfl
          rw [hset true rfl] at h
          cases want with
          | true => exact step σ hn h
          | false => exact skip σ h
        | false =>
          have h := h.2 rfl
          rw [hset false rfl] at h
          cases want with
          | true => exact skip σ h
          | false => exact step σ hn h
      · rename_i he
        rw [he]
        exact skip σ h
      · exact h.elim

/-! ## what is only looked at -/
def nv : AV → AV
  | .box T cs => .box T (cs.map v1)
  | .ref s o => .ref s o
  | .pref s k j o => .pref s k j o
  | .nbox b T cs => .nbox b T cs
  | .nmap b ks vs => .nmap b ks vs
  | .row e k es => .row e k es
  | .alias s => .alias s
  | .mine e k es => .mine e k es
  | x => view x
def rv (x y : AV) : AV := match x with
  | .own _ _ _ => x
  | .agg _ => x
  | .tup _ => x
  | _ => y
def rgn (run : (List AV → Prop) → List AV → Prop) : List Nat → (List AV → Prop) → List AV → Prop
  | [], K, σ => run K σ
  | s :: vs, K, σ => rgn run vs (fun σ' => K (σ'.set s (rv (σ.getD s .any) (σ'.getD s .any)))) (σ.set s (nv (σ.getD s .any)))

/-- A run that keeps the slots fr. -/
def RunOk (X : Act → World → (Act → World → Prop) → Prop) (fr : List Nat) (run : (List AV → Prop) → List AV → Prop) : Prop :=
  ∀ (dfs : List Deferred) (w0 : World) (S0 c0 : Nat → Nat) (σ : List AV) (a : Act) (w : World) (K : List AV → Prop) (post : Act → World → Prop), Stt dfs w0 S0 c0 σ a w → run K σ →
    (∀ σ' a' w', Stt dfs w0 S0 c0 σ' a' w' → K σ' → (∀ s ∈ fr, a'.tmps[s]? = a.tmps[s]?) → post a' w') → X a w post

theorem set_getD_self {σ : List AV} {s : Nat} : σ.set s (σ.getD s .any) = σ := by
  by_cases h : s < σ.length
  · exact set_self h rfl
  · rw [List.set_eq_of_length_le (by omega)]

theorem rgn_sound {X : Act → World → (Act → World → Prop) → Prop} {fr : List Nat} {run : (List AV → Prop) → List AV → Prop} (hrun : RunOk X fr run) :
    ∀ (vs : List Nat), (∀ s ∈ vs, s ∈ fr) → RunOk X fr (rgn run vs)
  | [], _ => hrun
  | s :: vs, hvs => by
    have ih := rgn_sound hrun vs fun t ht => hvs t (by simp [ht])
    have hsf := hvs s (by simp)
    intro dfs w0 S0 c0 σ a w K post hst h hpost
    simp only [rgn] at h
    by_cases hs : s < σ.length
    case neg =>
      have e1 : σ.set s (nv (σ.getD s .any)) = σ := List.set_eq_of_length_le (by omega)
      rw [e1] at h
      refine ih dfs w0 S0 c0 σ a w _ post hst h fun σ' a' w' g1 g2 g3 => hpost _ a' w' ?_ g2 g3
      have : rv (σ.getD s .any) (σ'.getD s .any) = σ'.getD s .any := by rw [getD_out (by omega)]; rfl
      rw [this, set_getD_self]
      exact g1
    case pos =>
    -- what may be put back
    have back : ∀ x, σ.getD s .any = x → pb x = true → nv x = view x → rv x = (fun _ => x) → X a w post := by
      intro x hx hp hnv hrv
      rw [hx, hnv, hrv] at h
      have hx' : σ[s]? = some x := by rw [← hx]; simp [List.getD_eq_getElem?_getD, hs]
      obtain ⟨hrf, S, c, hr, h1, hd, hz, hstp⟩ := hst
      obtain ⟨v, c1, c2, hv, hxr, hr2, hc⟩ := hr.take s hx'
      have hr3 := hr2.fill hxr.view s (by simp [hs])
      rw [List.set_set, list_set_same hv] at hr3
      have hst2 : Stt dfs w S c2 (σ.set s (view x)) a w := ⟨hrf.less s pb_view, S, c2, hr3.congr fun b => by simp, fun b => by have := h1 b; rw [hc] at this; omega, hd, hz, Stp.refl w S c2⟩
      refine ih dfs w S c2 _ a w _ post hst2 h fun σ' a' w' g1 g2 g3 => hpost _ a' w' ?_ g2 g3
      obtain ⟨krf, S', c', kr, k1, kd, kz, kst⟩ := g1
      have hv' : a'.tmps.toList[s]? = some v := by
        have := g3 s hsf
        rw [← Array.getElem?_toList, ← Array.getElem?_toList] at this
        rw [this, hv]
      have hxr' : RepC w' S' [x] [v] c1 := hxr.step kst fun b => by have := h1 b; rw [hc] at this; exact this
      have hlen : s < σ'.length := by
        have := kr.length
        have := (List.getElem?_eq_some_iff.1 hv').1
        omega
      obtain ⟨c'', kr2, kle⟩ := kr.put hxr' s hlen
      rw [list_set_same hv'] at kr2
      refine ⟨krf.less s hp, S', c'', kr2, fun b => ?_, kd, kz, ?_⟩
      · have := kle b
        by_cases hb : b < w.heap.size
        · have := kst.own b hb
          have := h1 b
          rw [hc] at this
          omega
        · have : c1 b = 0 := by
            rcases Nat.eq_zero_or_pos (c1 b) with h | h
            · exact h
            · exact absurd (hxr.lt b h) hb
          have := k1 b
          omega
      · refine hstp.trans ⟨kst.os, kst.tape, kst.output, kst.size, fun b hb hcb => kst.keep b hb (by have := hc b; omega), kst.cell, kst.le, fun b hb => ?_⟩
        have := kle b
        have := kst.own b hb
        have := hc b
        omega
    have same : ∀ x, σ.getD s .any = x → nv x = x → rv x = (fun y => y) → X a w post := by
      intro x hx hnv hrv
      rw [hx, hnv, hrv, ← hx, set_getD_self] at h
      refine ih dfs w0 S0 c0 σ a w _ post hst h fun σ' a' w' g1 g2 g3 => hpost _ a' w' ?_ g2 g3
      simp only [set_getD_self]
      exact g1
    cases hx : σ.getD s .any with
    | any => exact same _ hx rfl rfl
    | raw v => exact same _ hx rfl rfl
    | agg cs => exact back _ hx rfl rfl rfl
    | tup cs => exact back _ hx rfl rfl rfl
    | nil => exact same _ hx rfl rfl
    | sl k es => exact same _ hx rfl rfl
    | own e k es => exact back _ hx rfl rfl rfl
    | ref s o => exact same _ hx rfl rfl
    | pref s k j o => exact same _ hx rfl rfl
    | slx k es zs => exact same _ hx rfl rfl
    | nbox b T cs => exact same _ hx rfl rfl
    | nmap b ks vs => exact same _ hx rfl rfl
    | row e k es => exact same _ hx rfl rfl
    | alias s => exact same _ hx rfl rfl
    | mine e k es => exact same _ hx rfl rfl
    | elt y => exact same _ hx rfl rfl
    | clo g cs => exact same _ hx rfl rfl
    | yld l st => exact same _ hx rfl rfl
    | box U cs =>
      rw [hx] at h
      refine ih dfs w0 S0 c0 _ a w _ post ?_ h fun σ' a' w' g1 g2 g3 => hpost _ a' w' ?_ g2 g3
      · have hx' : σ[s]? = some (.box U cs) := by rw [← hx]; simp [List.getD_eq_getElem?_getD, hs]
        obtain ⟨hrf, S, c, hr, h1, hd, hz, hstp⟩ := hst
        obtain ⟨v, c1, c2, hv, hxr, hr2, hc⟩ := hr.take s hx'
        cases hxr with
        | box hb hS h3 ho h4 hcc =>
          rename_i b cur d1 d2
          cases h4 with
          | nil hz4 =>
          have hbox := RepC.box (c := fun x => if x = b then 1 else 0) (T := U) hb hS (RepC.map_v RepC.v1 h3) ho (.nil (c := fun _ => 0) zc0) (fun x => by simp)
          have hr3 := hr2.fill hbox s (by simp [hs])
          rw [List.set_set, list_set_same hv] at hr3
          refine ⟨hrf.rebox U _ hx', S, _, hr3, fun x => ?_, hd, hz, hstp.drop fun x => ?_⟩
          · have := h1 x
            have := hc x
            have := hcc x
            show _ + c2 x ≤ 1
            omega
          · have := hc x
            have := hcc x
            show _ + c2 x ≤ c x
            omega
      · simp only [rv, set_getD_self]
        exact g1

/-! ## rows made and frozen -/
def tw1 (x : AV) (m : Bool) (s : Nat) (A : List AV → Prop) (σ : List AV) : Prop := match x with
  | .own e k [] => σ.all (nrf s) = true ∧ A (σ.set s (.row e k []))
  | .row e k es => A (σ.set s (bif m then .mine e k es else .own e k es))
  | .mine e k es => (bif m then (σ.all (nrf s) = true ∧ A (σ.set s (.row e k es))) else A σ)
  | .alias _ => A (σ.set s .any)
  | .pref _ _ _ _ => A (σ.set s .any)
  | .box _ cs => cs.all zc1 = true ∧ A (σ.set s (.elt (.agg cs)))
  | _ => A σ
def twp : List Nat → (List AV → Prop) → List AV → Prop
  | [], K, σ => K σ
  | s :: ts, K, σ => tw1 (σ.getD (s % 100000) .any) (decide (100000 ≤ s)) (s % 100000) (twp ts K) σ
theorem newrow_less {σ : List AV} {vs : List Value} {d e k : Nat} {es : List AV} (h : RefOk σ vs) (hn : σ.all (nrf d) = true) : RefOk (σ.set d (.row e k es)) vs := by
  refine ⟨fun i s off T2 cs2 hi hs => ?_, fun i s e2 k2 es2 hi hs => ?_, fun i s k3 j o e2 k2 es2 hi hs => ?_⟩
  · obtain ⟨n1, h1⟩ := set_away hi (by intro h; cases h)
    obtain ⟨n2, h2⟩ := set_away hs (by intro h; cases h)
    exact h.ref i s off T2 cs2 h1 h2
  · obtain ⟨n1, h1⟩ := set_away hi (by intro h; cases h)
    have hsd : d ≠ s := by have := nrf_at hn h1; simp [nrf] at this; exact fun h => this h.symm
    rw [set_other hsd] at hs
    exact h.al i s e2 k2 es2 h1 hs
  · obtain ⟨n1, h1⟩ := set_away hi (by intro h; cases h)
    have hsd : d ≠ s := by have := nrf_at hn h1; simp [nrf] at this; exact fun h => this h.symm
    rw [set_other hsd] at hs
    exact h.pr i s k3 j o e2 k2 es2 h1 hs
theorem twp_sound : ∀ (ts : List Nat) {w0 : World} {S0 c0 : Nat → Nat} {σ : List AV} {a : Act} {w : World} {K : List AV → Prop}, Stt dfs w0 S0 c0 σ a w → twp ts K σ → ∃ σ', K σ' ∧ Stt dfs w0 S0 c0 σ' a w
  | [], w0, S0, c0, σ, a, w, K, hst, h => ⟨σ, h, hst⟩
  | s :: ts, w0, S0, c0, σ, a, w, K, hst, h => by
    simp only [twp] at h
    generalize s % 100000 = s at h
    generalize decide (100000 ≤ _) = m at h
    unfold tw1 at h
    split at h
    · rename_i e k hx
      obtain ⟨hn, h⟩ := h
      refine twp_sound ts ?_ h
      obtain ⟨hrf, S, c, hr, h1, hd, hz, hs⟩ := hst
      obtain ⟨v, c1, c2, hv, hxr, hr2, hc⟩ := hr.take s (rep_at hr hx (by simp))
      have hlt := getD_lt hx (by simp)
      have hrow : RepC w S [.row e k []] [v] c1 := by
        cases hxr with
        | ownE h => exact .rowE h
        | own hn hcap hk hb hs' hS h1 h0 hoc h hcc => exact .row hn hcap hk hb hs' (by simpa using hS) h1 h0 hoc h hcc
      have := hr2.fill hrow s (by simp [hlt])
      rw [List.set_set, list_set_same hv] at this
      exact ⟨newrow_less hrf hn, S, c, this.congr fun b => hc b, h1, hd, hz, hs⟩
    · rename_i e k es hx
      refine twp_sound ts ?_ h
      obtain ⟨hrf, S, c, hr, h1, hd, hz, hs⟩ := hst
      obtain ⟨v, c1, c2, hv, hxr, hr2, hc⟩ := hr.take s (rep_at hr hx (by simp))
      have hlt := getD_lt hx (by simp)
      cases m with
      | true =>
        have hmine : RepC w S [.mine e k es] [v] c1 := by
          cases hxr with
          | rowE h => exact .mineE h
          | row hn hcap hk hb hs' hS hx1 h0 hoc h hcc => exact .mine hn hcap hk hb hs' hS hx1 h0 hoc h hcc
        have := hr2.fill hmine s (by simp [hlt])
        rw [List.set_set, list_set_same hv] at this
        exact ⟨hrf.less s rfl, S, c, this.congr fun b => hc b, h1, hd, hz, hs⟩
      | false =>
      cases hxr with
      | rowE h =>
        have := hr2.fill (RepC.ownE (e := e) (k := k) h) s (by simp [hlt])
        rw [List.set_set, list_set_same hv] at this
        exact ⟨hrf.less s rfl, S, c, this.congr fun b => hc b, h1, hd, hz, hs⟩
      | row hn hcap hk hb hs' hS hx1 h0 hoc h hcc =>
        rename_i b cap cur d0 d2
        cases h with
        | nil hz2 =>
        have hcb : 0 < c b := by rw [hc, hcc]; simp; omega
        have hle : ∀ x, S x ≤ upd S b (es.length * k) x := by
          intro x
          unfold upd
          split
          · rename_i hx; subst hx; rw [hS]; exact Nat.zero_le _
          · exact Nat.le_refl _
        have hkeep : ∀ {xs vs c'}, RepC w S xs vs c' → c' b = 0 → RepC w (upd S b (es.length * k)) xs vs c' := fun h hb0 =>
          h.keep (fun _ _ _ => rfl) hle (fun x hx => ⟨rfl, by unfold upd; rw [if_neg]; intro hxb; subst hxb; omega⟩)
        have hown : RepC w (upd S b (es.length * k)) [.own e k es] [.slice (some ⟨b, 0, none⟩) es.length cap] c1 :=
          .own hn hcap hk hb hs' (by simp [upd]) (hkeep hx1 (h0 b)) h0 hoc (.nil hz2) hcc
        have hb1 : c1 b = 1 := by rw [hcc, hz2 b]; simp
        have hb2 : c2 b = 0 := by have := h1 b; rw [hc, hb1] at this; omega
        have := (hkeep hr2 hb2).fill hown s (by simp [hlt])
        rw [List.set_set, list_set_same hv] at this
        refine ⟨hrf.less s rfl, _, c, this.congr fun b => hc b, h1, hd, ⟨fun x hx => ?_, hz.g.upd0 hS _⟩, ⟨hs.os, hs.tape, hs.output, hs.size, fun x hx hx0 => ⟨(hs.keep x hx hx0).1, ?_⟩, hs.cell, fun x => ?_, hs.own⟩⟩
        · unfold upd
          rw [if_neg]
          · exact hz x hx
          · intro hxb; subst hxb
            have := (Array.getElem?_eq_some_iff.1 hb).1
            omega
        · unfold upd
          rw [if_neg]
          · exact (hs.keep x hx hx0).2
          · intro hxb; subst hxb
            have := hs.own x hx
            omega
        · unfold upd
          split
          · rename_i hxb; subst hxb
            have := hs.le x
            omega
          · exact hs.le x
    · rename_i e k es hx
      cases m with
      | false => exact twp_sound ts hst h
      | true =>
        obtain ⟨hn, h⟩ := h
        refine twp_sound ts ?_ h
        obtain ⟨hrf, S, c, hr, h1, hd, hz, hs⟩ := hst
        obtain ⟨v, c1, c2, hv, hxr, hr2, hc⟩ := hr.take s (rep_at hr hx (by simp))
        have hlt := getD_lt hx (by simp)
        have hrow : RepC w S [.row e k es] [v] c1 := by
          cases hxr with
          | mineE h => exact .rowE h
          | mine hn hcap hk hb hs' hS hx1 h0 hoc h hcc => exact .row hn hcap hk hb hs' hS hx1 h0 hoc h hcc
        have := hr2.fill hrow s (by simp [hlt])
        rw [List.set_set, list_set_same hv] at this
        exact ⟨newrow_less hrf hn, S, c, this.congr fun b => hc b, h1, hd, hz, hs⟩
    · rename_i s' hx
      refine twp_sound ts ?_ h
      obtain ⟨hrf, S, c, hr, h1, hd, hz, hs⟩ := hst
      obtain ⟨v, c1, c2, hv, hxr, hr2, hc⟩ := hr.take s (rep_at hr hx (by simp))
      exact ⟨hrf.less s rfl, S, c2, hr2, fun b => by have := h1 b; have := hc b; omega, hd, hz, hs.drop fun b => by have := hc b; omega⟩
    · rename_i s' k' j' o' hx
      refine twp_sound ts ?_ h
      obtain ⟨hrf, S, c, hr, h1, hd, hz, hs⟩ := hst
      obtain ⟨v, c1, c2, hv, hxr, hr2, hc⟩ := hr.take s (rep_at hr hx (by simp))
      exact ⟨hrf.less s rfl, S, c2, hr2, fun b => by have := h1 b; have := hc b; omega, hd, hz, hs.drop fun b => by have := hc b; omega⟩
    · rename_i T cs hx
      obtain ⟨hzc, h⟩ := h
      refine twp_sound ts ?_ h
      obtain ⟨hrf, S, c, hr, h1, hd, hz, hs⟩ := hst
      obtain ⟨v, c1, c2, hv, hxr, hr2, hc⟩ := hr.take s (rep_at hr hx (by simp))
      have hlt := getD_lt hx (by simp)
      cases hxr with
      | box hb hS hx1 ho hn hcc =>
        rename_i b cur d1 d2
        cases hn with
        | nil hz2 =>
        have hz1 := zc1s_spec hx1 hzc
        have hcb : 0 < c b := by rw [hc, hcc]; simp; omega
        have hle : ∀ x, S x ≤ upd S b cur.size x := by
          intro x
          unfold upd
          split
          · rename_i hx; subst hx; rw [hS]; exact Nat.zero_le _
          · exact Nat.le_refl _
        have hkeep : ∀ {xs vs c'}, RepC w S xs vs c' → c' b = 0 → RepC w (upd S b cur.size) xs vs c' := fun h hb0 =>
          h.keep (fun _ _ _ => rfl) hle (fun x hx => ⟨rfl, by unfold upd; rw [if_neg]; intro hxb; subst hxb; omega⟩)
        have helt : RepC w (upd S b cur.size) [.elt (.agg cs)] [.pointer (some ⟨b, 0, none⟩)] (fun _ => 0) := by
          refine .elt (cv := cur.toList) rfl (hkeep hx1 (hz1 b)) hz1 (fun j u hj => ⟨?_, ho u (List.mem_of_getElem? hj)⟩) (by simp [upd]) (.nil zc0)
          simp only [Nat.zero_add]
          rw [cell_of_row w b j cur T (0, 0) hb]
          simpa using hj
        have hb1 : c1 b = 1 := by rw [hcc, hz1 b, hz2 b]; simp
        have hb2 : c2 b = 0 := by have := h1 b; rw [hc, hb1] at this; omega
        have := (hkeep hr2 hb2).fill helt s (by simp [hlt])
        rw [List.set_set, list_set_same hv] at this
        refine ⟨hrf.less s rfl, _, c2, this.congr fun b => by simp, fun b => by have := h1 b; have := hc b; omega, hd, ⟨fun x hx => ?_, hz.g.upd0 hS _⟩, ⟨hs.os, hs.tape, hs.output, hs.size, fun x hx hx0 => ⟨(hs.keep x hx hx0).1, ?_⟩, hs.cell, fun x => ?_, fun x hx => by have := hs.own x hx; have := hc x; omega⟩⟩
        · unfold upd
          rw [if_neg]
          · exact hz x hx
          · intro hxb; subst hxb
            have := (Array.getElem?_eq_some_iff.1 hb).1
            omega
        · unfold upd
          rw [if_neg]
          · exact (hs.keep x hx hx0).2
          · intro hxb; subst hxb
            have := hs.own x hx
            omega
        · unfold upd
          split
          · rename_i hxb; subst hxb
            have := hs.le x
            omega
          · exact hs.le x
    · exact twp_sound ts hst h

/-! ## regions -/
def XO (P : Program) (ops : Array Oper) (l : List Nat) (a : Act) (w : World) (post : Act → World → Prop) : Prop := ∀ Q : Exit → Act → World → Prop, (∀ a w, post a w → Q .normal a w) → wpOps P ops Q l a w
def vchk (vs : List Nat) (ops : List Oper) : Bool := vs.all fun s => ops.all fun o => o.dst != some s
theorem vchk_spec {vs : List Nat} {ops : List Oper} (h : vchk vs ops = true) : ∀ s ∈ vs, ∀ o ∈ ops, o.dst ≠ some s := by
  intro s hs o ho
  have := List.all_eq_true.1 (List.all_eq_true.1 h s hs) o ho
  simpa using this
theorem copl_eq {ops : Array Oper} (K : List AV → Prop) : ∀ (l : List Oper) (r : List CO), cops ops l = some r → aopl P T ops K l = copl P T K r
  | [], r, h => by
    simp [cops] at h; subst h; rfl
  | o :: l, r, h => by
    simp only [cops] at h
    split at h
    · rename_i g r' hg hr
      injection h with h
      subst h
      have ih := copl_eq K l r' hr
      funext σ
      cases hgd : o.guard with
      | none =>
        rw [hgd] at hg
        simp only [cguard] at hg
        injection hg with hg
        subst hg
        simp only [aopl, hgd, copl, ih]
        rfl
      | some jw =>
        obtain ⟨j, want⟩ := jw
        rw [hgd] at hg
        simp only [cguard] at hg
        split at hg
        · rename_i t ht
          injection hg with hg
          subst hg
          simp only [aopl, hgd, ht, copl, ih]
          rfl
        · cases hg
    · cases h
theorem run_text (hT : TabOk P T) {ops : Array Oper} {cs : List CO} (hcs : cops ops ops.toList = some cs) {vs : List Nat} (hv : vchk vs ops.toList = true) :
    RunOk (XO P ops (List.range ops.size)) vs fun K σ => copl P T K cs σ := by
  intro dfs w0 S0 c0 σ a w K post hst h hpost Q hQ
  rw [← copl_eq K _ _ hcs] at h
  refine aopl_sound hT (List.range ops.size) ops.toList σ a w ?_ (vchk_spec hv) hst h fun σ a w h1 h2 h3 => hQ _ _ (hpost σ a w h1 h2 h3)
  apply List.ext_getElem?
  intro i
  by_cases hi : i < ops.size
  · simp [hi]
  · simp [hi]
/-! ## only the shared slots that an operation touches are watched -/
def ann (sh rb : List Nat) (l : List CO) : List (CO × List Nat) := l.map fun c => (c, (shO sh c.op).filter fun s => (dslots rb c).contains s)
def eopl (P : Program) (T : Tab) (rb bm : List Nat) (K : List AV → Prop) : List (CO × List Nat) → List AV → Prop
  | [], σ => K σ
  | (⟨d, op, none⟩, sh) :: l, σ => tchp rb op σ (dcop P T d op σ fun σ' => fin2 sh bm d σ σ' (eopl P T rb bm K l σ'))
  | (⟨d, op, some (t, want)⟩, sh) :: l, σ =>
    match σ.getD t .any with
    | .raw (.bool e) =>
      asplit e
        (if want then tchp rb op (σ.set t (.raw (.bool true))) (dcop P T d op (σ.set t (.raw (.bool true))) fun σ' => fin2 sh bm d (σ.set t (.raw (.bool true))) σ' (eopl P T rb bm K l σ'))
          else fin2 sh bm d (σ.set t (.raw (.bool true))) (aset (σ.set t (.raw (.bool true))) d (.tup [])) (eopl P T rb bm K l (aset (σ.set t (.raw (.bool true))) d (.tup []))))
        (if want then fin2 sh bm d (σ.set t (.raw (.bool false))) (aset (σ.set t (.raw (.bool false))) d (.tup [])) (eopl P T rb bm K l (aset (σ.set t (.raw (.bool false))) d (.tup [])))
          else tchp rb op (σ.set t (.raw (.bool false))) (dcop P T d op (σ.set t (.raw (.bool false))) fun σ' => fin2 sh bm d (σ.set t (.raw (.bool false))) σ' (eopl P T rb bm K l σ')))
    | .tup [] => fin2 sh bm d σ (aset σ d (.tup [])) (eopl P T rb bm K l (aset σ d (.tup [])))
    | _ => False
theorem tchp_mono {op : Op} {σ : List AV} {A B : Prop} (h : tchp rb op σ A) (f : A → B) : tchp rb op σ B := by
  cases op <;> try exact f h
  case load t x =>
    cases x <;> try exact f h
    rename_i s
    simp only [tchp] at *
    generalize σ.getD s .any = v at *
    cases v <;> first
      | exact f h
      | exact ⟨h.1, h.2.1, f h.2.2⟩
  case store t x y =>
    cases x <;> try exact f h
    rename_i s
    simp only [tchp] at *
    generalize σ.getD s .any = v at *
    cases v <;> first
      | exact f h
      | exact ⟨h.1, h.2.1, f h.2.2⟩
  case indexAddr t x y =>
    cases x <;> try exact f h
    rename_i s
    simp only [tchp] at *
    generalize σ.getD s .any = v at *
    cases v <;> first
      | exact f h
      | exact ⟨h.1, h.2.1, f h.2.2⟩
  case fieldAddr t x g =>
    cases x <;> try exact f h
    rename_i s
    simp only [tchp] at *
    generalize σ.getD s .any = v at *
    cases v <;> first
      | exact f h
      | exact ⟨h.1, h.2.1, f h.2.2⟩
theorem dcop_loc {c : CO} {σ : List AV} {K : List AV → Prop} (hb : isbx rb c.op = false) (ht : tch (dslots rb c) c.op σ) (h : dcop P T c.dst c.op σ K) :
    dcop P T c.dst c.op σ (fun σ' => (∀ t, (dslots rb c).contains t = false → σ'.getD t .any = σ.getD t .any) ∧ K σ') := by
  have nat : ∀ K, bop P T (mkO c) σ K ↔ bop P T (mkO c) σ (fun σ' => K (pat (dslots rb c) σ' σ)) := fun K => by
    have := bop_nat (P := P) (T := T) (D := dslots rb c) (σ := σ) (τ := σ) (K := K) (o := mkO c) rfl (d_ops hb) d_dst ht
    rw [pat_self] at this
    exact this
  refine (nat _).2 (bop_mono ((nat K).1 h) fun x hx => ⟨fun t htt => ?_, hx⟩)
  by_cases hl : t < σ.length
  · rw [pat_get hl, htt]; rfl
  · rw [getD_out (by rw [pat_length]; omega), getD_out (by omega)]
theorem fin2_grow {c : CO} {σ σ' : List AV} {A B : Prop} (hU : ∀ t, (dslots rb c).contains t = false → σ'.getD t .any = σ.getD t .any) (h : fin2 (sh.filter fun s => (dslots rb c).contains s) bm c.dst σ σ' A) (f : A → B) : fin2 sh bm c.dst σ σ' B := by
  obtain ⟨h1, h2, h3⟩ := fin2_iff.1 h
  refine fin2_iff.2 ⟨fun s hs hd => ?_, h2, f h3⟩
  cases hc : (dslots rb c).contains s with
  | true => exact h1 s (List.mem_filter.2 ⟨hs, hc⟩) hd
  | false => exact hU s hc
theorem eopl_dopl {K : List AV → Prop} : ∀ (l : List CO) (σ : List AV), eopl P T rb bm K (ann sh rb l) σ → dopl P T sh rb bm K l σ
  | [], σ, h => h
  | ⟨d, op, g⟩ :: l, σ, h => by
    have ih := eopl_dopl (K := K) l
    have step : ∀ σ, tchp rb op σ (dcop P T d op σ fun σ' => fin2 ((shO sh op).filter fun s => (dslots rb ⟨d, op, g⟩).contains s) bm d σ σ' (eopl P T rb bm K (ann sh rb l) σ')) →
        tchp rb op σ (dcop P T d op σ fun σ' => fin2 (shO sh op) bm d σ σ' (dopl P T sh rb bm K l σ')) := by
      intro σ h
      refine tchp_mono h fun h' => ?_
      by_cases hb : isbx rb op = true
      · exact bop_mono (bxs_loc (c := ⟨d, op, g⟩) (rb := rb) hb h') fun x ⟨hx, hy⟩ => fin2_grow (c := ⟨d, op, g⟩) hx hy (ih x)
      have hb : isbx rb op = false := by simpa using hb
      obtain ⟨h1, h⟩ := tchp_spec (c := ⟨d, op, g⟩) rfl hb h
      exact bop_mono (dcop_loc (c := ⟨d, op, g⟩) (rb := rb) hb h1 h) fun x ⟨hx, hy⟩ => fin2_grow (c := ⟨d, op, g⟩) hx hy (ih x)
    have skip : ∀ σ, fin2 ((shO sh op).filter fun s => (dslots rb ⟨d, op, g⟩).contains s) bm d σ (aset σ d (.tup [])) (eopl P T rb bm K (ann sh rb l) (aset σ d (.tup []))) → fin2 (shO sh op) bm d σ (aset σ d (.tup [])) (dopl P T sh rb bm K l (aset σ d (.tup []))) := by
      intro σ h
      refine fin2_grow (c := ⟨d, op, g⟩) (fun t ht => ?_) h (ih _)
      cases hd : d with
      | none => rfl
      | some d' =>
        have hne : d' ≠ t := by
          rintro rfl
          have := d_dst (rb := rb) (c := ⟨d, op, g⟩) d' hd
          rw [this] at ht; cases ht
        simp only [aset]
        by_cases hl : t < σ.length
        · rw [getD_set' hl, if_neg hne]
        · rw [getD_out (by rw [List.length_set]; omega), getD_out (by omega)]
    cases g with
    | none => exact step σ h
    | some tw =>
      obtain ⟨t, want⟩ := tw
      simp only [ann, List.map_cons, eopl] at h
      simp only [dopl]
      split at h
      · rename_i e he
        refine ⟨fun h1 => ?_, fun h1 => ?_⟩
        · have h := h.1 h1
          cases want with
          | true => exact step _ h
          | false => exact skip _ h
        · have h := h.2 h1
          cases want with
          | true => exact skip _ h
          | false => exact step _ h
      · rename_i he
        exact skip _ h
      · exact h.elim
theorem run_draw (hT : TabOk P T) {ops : Array Oper} {cs : List CO} (hcs : cops ops ops.toList = some cs) {vs : List Nat} (hv : vchk vs ops.toList = true) (hc : dchk ops.toList cs rb sh bm = true) (t : Nat) :
    RunOk (XO P ops (Region.linearise .any ops t)) vs fun K σ => nrp σ (dopl P T sh rb bm K cs σ) bm := by
  intro dfs w0 S0 c0 σ a w K post hst h hpost Q hQ
  obtain ⟨hn, h⟩ := nrp_iff.1 h
  refine wpAny_sound ops.size t _ a w (draw_sound hT hcs hc (vchk_spec hv) ops.size _ σ a w (by simp) ?_ ?_ hst hn ?_ fun σ a w h1 h2 h3 => hQ _ _ (hpost σ a w h1 h2 h3))
  · have : rem ops.size (Array.replicate ops.size false) = List.range ops.size := by
      unfold rem
      refine List.filter_eq_self.2 fun i hi => ?_
      have := List.mem_range.1 hi
      simp [this]
    rw [this, List.length_range]
  · intro j oj _ hl
    rw [getD_replicate_false] at hl
    cases hl
  · have h1 : rem ops.size (Array.replicate ops.size false) = List.range ops.size := by
      unfold rem
      refine List.filter_eq_self.2 fun i hi => ?_
      have := List.mem_range.1 hi
      simp [this]
    rw [h1]
    have hbm : ∀ c ∈ cs, dstbm rb bm c = true := fun c hcm => by
      obtain ⟨i, hi, rfl⟩ := List.getElem_of_mem hcm
      have hl := (cops_get hcs).1
      have hio : ops.toList[i]? = some (ops.toList[i]'(by omega)) := List.getElem?_eq_getElem _
      obtain ⟨c', hc', _, _, _, h4⟩ := dchk_at hc hio
      rw [List.getElem?_eq_getElem hi] at hc'
      injection hc' with hc'
      rw [hc']; exact h4
    have := dopl_dl (P := P) (T := T) (sh := sh) (rb := rb) (bm := bm) (cs := cs) (K := K) hbm cs 0 σ rfl hn h
    rw [List.range_eq_range']
    have hl := (cops_get hcs).1
    simp at hl
    rw [← hl]
    exact this
theorem run_draw2 (hT : TabOk P T) {ops : Array Oper} {cs : List CO} (hcs : cops ops ops.toList = some cs) {vs : List Nat} (hv : vchk vs ops.toList = true) (hc : dchk ops.toList cs rb sh bm = true) (t : Nat) :
    RunOk (XO P ops (Region.linearise .any ops t)) vs fun K σ => nrp σ (eopl P T rb bm K (ann sh rb cs) σ) bm := by
  intro dfs w0 S0 c0 σ a w K post hst h hpost
  obtain ⟨h1, h2⟩ := nrp_iff.1 h
  exact run_draw hT hcs hv hc t dfs w0 S0 c0 σ a w K post hst (nrp_iff.2 ⟨h1, eopl_dopl cs σ h2⟩) hpost
end
end Go.Proofs.Ytohelofjlkoboaa
