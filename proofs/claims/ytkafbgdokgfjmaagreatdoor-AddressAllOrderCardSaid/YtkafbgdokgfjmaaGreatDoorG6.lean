/- Soundness: a range over a function. Soundness: a range over a function, the rounds and the whole. Soundness: ranges over functions, and functions that hold them. -/
import Derived.Test.YtkafbgdokgfjmaaGreatDoorG3
namespace Go.Proofs.YtkafbgdokgfjmaaGreatDoor
open Go.RowKit
set_option linter.unusedVariables false
set_option linter.unusedSimpArgs false
set_option linter.unusedSectionVars false
variable [Env]

theorem fgt_get : ∀ (asl : List Nat) (σ : List AV) (i : Nat), (fgt asl σ)[i]? = if i ∈ asl then (σ[i]?).map (fun _ => AV.any) else σ[i]?
  | [], σ, i => by simp [fgt]
  | s :: ss, σ, i => by
    rw [fgt, fgt_get ss, List.getElem?_set]
    by_cases h1 : i ∈ ss
    · simp only [h1, if_true, List.mem_cons, or_true]
      by_cases h2 : s = i
      · subst h2
        by_cases h3 : s < σ.length
        · simp [h3]
        · simp [h3]
      · simp [h2]
    · by_cases h2 : s = i
      · subst h2
        by_cases h3 : s < σ.length
        · simp [h1, h3]
        · simp [h1, h3]
      · have : ¬ i = s := fun h => h2 h.symm
        simp [h1, h2, this]
theorem fgt_length : ∀ (asl : List Nat) (σ : List AV), (fgt asl σ).length = σ.length
  | [], σ => rfl
  | s :: ss, σ => by rw [fgt, fgt_length ss, List.length_set]
section
variable {w w' : World} {S S' : Nat → Nat}
theorem RepC.forget : ∀ {xs ys : List AV} {vs us : List Value} {c : Nat → Nat}, RepC w S xs vs c → ys.length = xs.length → us.length = vs.length → (∀ i, i < xs.length → ys[i]? = some .any ∨ (ys[i]? = xs[i]? ∧ us[i]? = vs[i]?)) → ∃ c', RepC w S ys us c' ∧ ∀ b, c' b ≤ c b
  | [], ys, vs, us, c, h, hl, hl2, _ => by
    obtain ⟨rfl, hz⟩ := h.zero
    have e1 : ys = [] := List.eq_nil_of_length_eq_zero (by simpa using hl)
    have e2 : us = [] := List.eq_nil_of_length_eq_zero (by simpa using hl2)
    subst e1; subst e2
    exact ⟨c, .nil hz, fun _ => Nat.le_refl _⟩
  | x :: xs, ys, vs, us, c, h, hl, hl2, hp => by
    obtain ⟨v, vs', d1, d2, rfl, h1, h2, hd⟩ := h.uncons
    match ys, us, hl, hl2 with
    | y :: ys, u :: us, hl, hl2 =>
      obtain ⟨c', h3, hle⟩ := RepC.forget (ys := ys) (us := us) h2 (by simpa using hl) (by simpa using hl2) fun i hi => by
        have := hp (i + 1) (by simp; omega)
        simpa using this
      have h0 := hp 0 (by simp)
      simp only [List.getElem?_cons_zero, Option.some.injEq] at h0
      rcases h0 with rfl | ⟨rfl, rfl⟩
      · exact ⟨c', .any h3, fun b => by rw [hd]; have := hle b; omega⟩
      · exact ⟨_, RepC.cons h1 h3 (fun b => rfl), fun b => by rw [hd]; have := hle b; omega⟩
theorem pps_rep : ∀ (ps : List Nat) (args : List AV) (vs : List Value) (σ : List AV) (t : Array Value) (c ca : Nat → Nat), args.length = ps.length → RepC w S args vs ca → RepC w S σ t.toList c →
    ∃ c', RepC w S (pps ps args σ) ((ps.zip vs).foldl (fun t (p : Nat × Value) => t.setIfInBounds p.1 p.2) t).toList c' ∧ ∀ b, c' b ≤ ca b + c b
  | [], [], vs, σ, t, c, ca, _, ha, hr => by
    obtain ⟨rfl, _⟩ := ha.zero
    exact ⟨c, hr, fun b => by omega⟩
  | p :: ps, x :: args, vs, σ, t, c, ca, hl, ha, hr => by
    obtain ⟨v, vs', d1, d2, rfl, h1, h2, hd⟩ := ha.uncons
    have hput : ∃ c1, RepC w S (σ.set p x) (t.setIfInBounds p v).toList c1 ∧ ∀ b, c1 b ≤ d1 b + c b := by
      rw [Array.toList_setIfInBounds]
      by_cases hp : p < σ.length
      · exact hr.put h1 p hp
      · have hlen := hr.length
        rw [List.set_eq_of_length_le (by omega), List.set_eq_of_length_le (by omega)]
        exact ⟨c, hr, fun b => by omega⟩
    obtain ⟨c1, g1, g2⟩ := hput
    obtain ⟨c', g3, g4⟩ := pps_rep ps args vs' (σ.set p x) _ c1 d2 (by simpa using hl) h2 g1
    exact ⟨c', by simpa [pps] using g3, fun b => by have := g4 b; have := g2 b; have := hd b; omega⟩
theorem pps_ref : ∀ (ps : List Nat) (args : List AV) (vs : List Value) (σ : List AV) (t : Array Value), args.length = ps.length → vs.length = args.length → args.all pb = true → RefOk σ t.toList →
    RefOk (pps ps args σ) ((ps.zip vs).foldl (fun t (p : Nat × Value) => t.setIfInBounds p.1 p.2) t).toList
  | [], [], [], σ, t, _, _, _, h => h
  | p :: ps, x :: args, v :: vs, σ, t, hl, hl2, hp, h => by
    simp only [List.all_cons, Bool.and_eq_true] at hp
    have := pps_ref ps args vs (σ.set p x) (t.setIfInBounds p v) (by simpa using hl) (by simpa using hl2) hp.2 (by rw [Array.toList_setIfInBounds]; exact h.set p v hp.1)
    simpa [pps] using this
theorem pps_keep : ∀ (ps : List Nat) (vs : List Value) (t : Array Value) (s : Nat), s ∉ ps → ((ps.zip vs).foldl (fun t (p : Nat × Value) => t.setIfInBounds p.1 p.2) t)[s]? = t[s]?
  | [], vs, t, s, _ => by simp
  | p :: ps, [], t, s, _ => by simp
  | p :: ps, v :: vs, t, s, h => by
    simp only [List.mem_cons, not_or] at h
    simp only [List.zip_cons_cons, List.foldl_cons]
    rw [pps_keep ps vs _ s h.2, Array.getElem?_setIfInBounds_ne (fun e => h.1 e.symm)]
/-- A block that is no cells, turned to another that is none. -/
theorem Stp.putObj {l : Nat} {o o' : Obj} (hl : w.heap[l]? = some o) (ho : o.isCells = false) (ho' : o'.isCells = false) : Stp w S (fun x => if x = l then 1 else 0) (w.putObj l o') S (fun x => if x = l then 1 else 0) := by
  refine ⟨rfl, rfl, ⟨rfl, fun _ => Nat.le_refl _⟩, by simp, fun b hb h0 => ⟨?_, rfl⟩, fun b o2 _ => ?_, fun _ => Nat.le_refl _, fun _ _ => Nat.le_refl _⟩
  · refine World.putObj_heap_other ?_
    rintro rfl
    simp at h0
  · unfold World.cell?
    by_cases hb : b = l
    · subst hb
      have hlt := (Array.getElem?_eq_some_iff.1 hl).1
      simp only [World.putObj_heap_same hlt, hl]
      cases o <;> cases o' <;> first | rfl | (simp [Obj.isCells] at ho ho')
    · simp only [World.putObj_heap_other (w := w) (o := o') hb]
theorem Stp.grow {c c' d : Nat → Nat} (h : Stp w S c w' S' c') (hd : ∀ b, c b ≤ d b) : Stp w S d w' S' c' :=
  ⟨h.os, h.tape, h.output, h.size, fun b hb h0 => h.keep b hb (by have := hd b; omega), h.cell, h.le, fun b hb => Nat.le_trans (h.own b hb) (hd b)⟩
theorem RefOk.forget {asl : List Nat} {σ : List AV} {vs us : List Value} (h : RefOk σ vs) (hk : ∀ i, i < σ.length → i ∉ asl → us[i]? = vs[i]?) : RefOk (fgt asl σ) us := by
  have back : ∀ {i : Nat} {x : AV}, (fgt asl σ)[i]? = some x → pb x = false → i ∉ asl ∧ σ[i]? = some x := by
    intro i x hi hp
    rw [fgt_get] at hi
    split at hi
    · cases hs : σ[i]? with
      | none => rw [hs] at hi; cases hi
      | some y => rw [hs] at hi; simp at hi; subst hi; cases hp
    · exact ⟨by assumption, hi⟩
  refine ⟨fun i s off T cs hi hs => ?_, fun i s e k es hi hs => ?_, fun i s k j o e k' es hi hs => ?_⟩
  · obtain ⟨n1, h1⟩ := back hi rfl
    obtain ⟨n2, h2⟩ := back hs rfl
    obtain ⟨b, g1, g2⟩ := h.ref i s off T cs h1 h2
    exact ⟨b, by rw [hk s (List.getElem?_eq_some_iff.1 h2).1 n2]; exact g1, by rw [hk i (List.getElem?_eq_some_iff.1 h1).1 n1]; exact g2⟩
  · obtain ⟨n1, h1⟩ := back hi rfl
    obtain ⟨n2, h2⟩ := back hs rfl
    rw [hk i (List.getElem?_eq_some_iff.1 h1).1 n1, hk s (List.getElem?_eq_some_iff.1 h2).1 n2]
    exact h.al i s e k es h1 h2
  · obtain ⟨n1, h1⟩ := back hi rfl
    obtain ⟨n2, h2⟩ := back hs rfl
    obtain ⟨b, n, cap, g1, g2⟩ := h.pr i s k j o e k' es h1 h2
    exact ⟨b, n, cap, by rw [hk s (List.getElem?_eq_some_iff.1 h2).1 n2]; exact g1, by rw [hk i (List.getElem?_eq_some_iff.1 h1).1 n1]; exact g2⟩
end
end Go.Proofs.YtkafbgdokgfjmaaGreatDoor
namespace Go.Proofs.YtkafbgdokgfjmaaGreatDoor
open Go.RowKit
set_option linter.unusedVariables false
set_option linter.unusedSimpArgs false
set_option linter.unusedSectionVars false
variable [Env]

def one (l : Nat) : Nat → Nat := fun b => if b = l then 1 else 0
/-- The caller between two rounds. -/
def Core (G : Gh) (st : Option Nat) (a : Act) (ms : List Nat) (D : Nat) (σk : List AV) (w : World) (S cg : Nat → Nat) : Prop :=
  RefOk σk a.tmps.toList ∧ ∃ c cgx cm, RepC w S σk a.tmps.toList c ∧ G st w S cgx ∧ Mks (D :: ms) w cm ∧ D + 1 < w.heap.size ∧ ∀ b, cg b = c b + cgx b + cm b + one (D + 1) b
def recL (fn : FuncId) (a : Act) (ps : Array Nat) (asg bdy : Code) (D : Nat) (s : LoopState) (pe : Option Code) : Loop := { state := s, pending := pe, fn, tmps := a.tmps, params := ps, assign := asg, body := bdy, defers := D }
def GcL (G : Gh) (st : Option Nat) (a : Act) (ms : List Nat) (D : Nat) (rec : LoopState → Option Code → Loop) (I : Nat → List AV → Prop) (Q : Exit → Option Nat → List AV → Prop) : Gh := fun k w S cg => match k with
  | some k => ∃ σk, I k σk ∧ Core G st a ms D σk w S cg ∧ w.heap[D + 1]? = some (.loop (rec .ready none))
  | none => ∃ e c σk, ((c = Code.ret ∧ e = Exit.ret) ∨ ∃ id, c = Code.exit id ∧ e = Exit.exit id) ∧ Q e st σk ∧ Core G st a ms D σk w S cg ∧ w.heap[D + 1]? = some (.loop (rec .done (some c)))
section
variable {P : Program} {T : Tab} {G : Gh} {st : Option Nat} {a : Act} {ms : List Nat} {D : Nat} {w w' : World} {S S' c c' cg : Nat → Nat} {σk : List AV}
theorem Core.lt (hG : GOk G) (h : Core G st a ms D σk w S cg) : ∀ b, 0 < cg b → b < w.heap.size := by
  obtain ⟨_, c, cgx, cm, hr, hg, hm, hl, hc⟩ := h
  intro b hb
  rw [hc] at hb
  rcases Nat.lt_or_ge 0 (c b) with h | h
  · exact hr.lt b h
  rcases Nat.lt_or_ge 0 (cgx b) with h | h
  · exact hG.lt _ _ _ _ hg b h
  rcases Nat.lt_or_ge 0 (cm b) with h | h
  · exact hm.2.2 b h
  · unfold one at hb
    split at hb
    · rename_i hbl; subst hbl; exact hl
    · omega
theorem Core.keep (hG : GOk G) (h : Core G st a ms D σk w S cg) (k : Stp w S c w' S' c') (h1 : ∀ b, c b + cg b ≤ 1) (hz : Sz w S) : Core G st a ms D σk w' S' cg ∧ w'.heap[D + 1]? = w.heap[D + 1]? := by
  obtain ⟨hrf, cc, cgx, cm, hr, hg, hm, hl, hc⟩ := h
  refine ⟨⟨hrf, cc, cgx, cm, hr.step k (fun b => by have := h1 b; have := hc b; omega), hG.keep _ _ _ _ _ _ _ _ hg k (fun b => by have := h1 b; have := hc b; omega) hz, hm.keep k (fun b => by have := h1 b; have := hc b; omega), Nat.lt_of_lt_of_le hl k.size, hc⟩, ?_⟩
  refine (k.keep (D + 1) hl ?_).1
  have := h1 (D + 1)
  have := hc (D + 1)
  simp [one] at this
  omega
theorem GcL_ok (hG : GOk G) {rec : LoopState → Option Code → Loop} {I : Nat → List AV → Prop} {Q : Exit → Option Nat → List AV → Prop} : GOk (GcL G st a ms D rec I Q) := by
  refine ⟨fun k w S cg h => ?_, fun k w S cg w' S' c c' h k' h1 hz => ?_⟩
  · cases k with
    | some k => obtain ⟨σk, _, h, _⟩ := h; exact h.lt hG
    | none => obtain ⟨e, c, σk, _, _, h, _⟩ := h; exact h.lt hG
  · cases k with
    | some k =>
      obtain ⟨σk, hI, h, hh⟩ := h
      obtain ⟨g1, g2⟩ := h.keep hG k' h1 hz
      exact ⟨σk, hI, g1, g2.trans hh⟩
    | none =>
      obtain ⟨e, cd, σk, he, hq, h, hh⟩ := h
      obtain ⟨g1, g2⟩ := h.keep hG k' h1 hz
      exact ⟨e, cd, σk, he, hq, g1, g2.trans hh⟩

/-- A round. -/
theorem round_ok (hT : TabOk P T) (hm : P.follows .mixedOrders = true) (hG : GOk G) {A : Ann} {nt : Nat} {asl : List Nat} {fn : FuncId} {ps : Array Nat} {asg bdy : Code} {x y : CC} (hx : comp A asg = some x) (hy : comp A bdy = some y) (hps : (ps.toList.all fun p => asl.contains p) = true)
    (hkx : cok A asg = true) (hnx : nchk (frs nt asl) asg = true) (hky : cok A bdy = true) (hny : nchk (frs nt asl) bdy = true) {I : Nat → List AV → Prop} {Q : Exit → Option Nat → List AV → Prop} {Y' : Nat → List AV → Prop} {L : Nat} (hL : a.tmps.size = L) (hLn : L ≤ nt)
    (hround : ∀ k args σ1, Y' k args → I k σ1 → args.length = ps.toList.length ∧ args.all pb = true ∧ cwp P T x (xasg (cwp P T y (xrnd asl L (fun σ3 => ∃ σ4, Wk σ3 σ4 ∧ I (k + 1) σ4) (xst Q st)))) (pps ps.toList args σ1)) :
    YOk P (D + 1) Y' (GcL G st a ms D (recL fn a ps asg bdy D) I Q) := by
  intro k args w S vs c cg hYk hva hg h1 hz
  obtain ⟨σk, hI, ⟨hrf, cc, cgx, cm, hr, hgx, hmk, hlt, hc⟩, hh⟩ := hg
  obtain ⟨hal, hap, hwp⟩ := hround k args σk hYk hI
  have hvl := hva.length
  have hy0 := run_yield (P := P) (args := vs.toArray) hh (by simp [recL]; simp at hal; omega)
  refine ⟨fn, _, asg, bdy, hy0, fun m => roundIn_of_wpIn trivial ?_⟩
  have hfold : (ps.zip vs.toArray).foldl (fun tmps (t, a) => tmps.setIfInBounds t a) a.tmps = (ps.toList.zip vs).foldl (fun t (p : Nat × Value) => t.setIfInBounds p.1 p.2) a.tmps := by
    rw [← Array.foldl_toList, Array.toList_zip]
  have hfold' : ((recL fn a ps asg bdy D .ready none).params.zip vs.toArray).foldl (fun tmps (t, a) => tmps.setIfInBounds t a) (recL fn a ps asg bdy D .ready none).tmps = (ps.toList.zip vs).foldl (fun t (p : Nat × Value) => t.setIfInBounds p.1 p.2) a.tmps := hfold
  rw [hfold']
  obtain ⟨c1, hr1, hc1⟩ := pps_rep ps.toList args vs σk a.tmps cc c hal hva hr
  have hrf1 := pps_ref ps.toList args vs σk a.tmps hal hvl hap hrf
  generalize hT1 : (ps.toList.zip vs).foldl (fun t (p : Nat × Value) => t.setIfInBounds p.1 p.2) a.tmps = T1 at hr1 hrf1
  have hkf1 : KeepF (frs nt asl) a.tmps { tmps := T1, defers := [] } := by
    intro s hs
    rw [← hT1]
    refine pps_keep ps.toList vs a.tmps s fun hmem => ?_
    have := List.all_eq_true.1 hps s hmem
    simp only [frs, List.mem_filter] at hs
    simp at this hs
    exact hs.2 this
  have hone : ∀ b, c1 b + (cgx b + cm b + one (D + 1) b) ≤ 1 := fun b => by have := hc1 b; have := h1 b; have := hc b; omega
  have hst1 : Stt [] w S c1 (pps ps.toList args σk) { tmps := T1, defers := [] } w := ⟨hrf1, S, c1, hr1, fun b => by have := hone b; omega, rfl, hz, Stp.refl w S c1⟩
  refine wpIn_mono (cwpI_sound (dfs := []) (w0 := w) (S0 := S) (c0 := c1) hT hm (frs nt asl) a.tmps (some (D + 1)) m asg x hx hkx hnx _ _ _ w hst1 hkf1 hwp) fun e a2 w2 hq => ?_
  obtain ⟨σ2, hq, hst2, hkf2⟩ := hq
  cases e with
  | normal =>
    obtain ⟨hrf2, S2, c2, hr2, hc2, hd2, hz2, hs2⟩ := hst2
    -- what is beside
    have hl1 : c1 (D + 1) = 0 := by have := hone (D + 1); simp [one] at this; omega
    have hh2 : w2.heap[D + 1]? = some (.loop (recL fn a ps asg bdy D .ready none)) := ((hs2.keep (D + 1) hlt hl1).1).trans hh
    refine ⟨_, run_beginRound hh2 rfl, ?_⟩
    generalize hbusy : Obj.loop { recL fn a ps asg bdy D .ready none with state := .busy } = busy
    have hcb : busy.isCells = false := by rw [← hbusy]; rfl
    have hp2 := Stp.putObj (S := S2) (o' := busy) hh2 rfl hcb
    have hl2 : c2 (D + 1) = 0 := by have := hs2.own (D + 1) hlt; omega
    have hr2b := hr2.step hp2 (fun b => by have := hc2 b; split <;> (try subst_vars) <;> omega)
    have hz2b : Sz (w2.putObj (D + 1) busy) S2 := hz2.stp hp2 fun b hb => hz2 b (by simpa using hb)
    have hst2b : Stt [] (w2.putObj (D + 1) busy) S2 c2 σ2 a2 (w2.putObj (D + 1) busy) := ⟨hrf2, S2, c2, hr2b, hc2, hd2, hz2b, Stp.refl _ _ _⟩
    refine wpIn_mono (cwpI_sound (dfs := []) (w0 := w2.putObj (D + 1) busy) (S0 := S2) (c0 := c2) hT hm (frs nt asl) a.tmps (some (D + 1)) m bdy y hy hky hny _ _ _ _ hst2b hkf2 hq) fun e a3 w3 hq3 => ?_
    obtain ⟨σ3, hq3, ⟨hrf3, S3, c3, hr3, hc3, hd3, hz3, hs3⟩, hkf3⟩ := hq3
    have hlt2 : D + 1 < (w2.putObj (D + 1) busy).heap.size := by simp; exact (Array.getElem?_eq_some_iff.1 hh2).1
    have hh3 : w3.heap[D + 1]? = some busy := ((hs3.keep (D + 1) hlt2 hl2).1).trans (World.putObj_heap_same (Array.getElem?_eq_some_iff.1 hh2).1)
    have hl3 : c3 (D + 1) = 0 := by have := hs3.own (D + 1) hlt2; omega
    -- the whole round, with what is beside
    have fin : ∀ (o' : Obj), o'.isCells = false → σ3.length = L → ∃ c4, RepC (w3.putObj (D + 1) o') S3 (fgt asl σ3) a.tmps.toList c4 ∧ (∀ b, c4 b ≤ c3 b) ∧ RefOk (fgt asl σ3) a.tmps.toList ∧ G st (w3.putObj (D + 1) o') S3 cgx ∧ Mks (D :: ms) (w3.putObj (D + 1) o') cm ∧ D + 1 < (w3.putObj (D + 1) o').heap.size ∧
        (∀ b, c4 b + cgx b + cm b + one (D + 1) b ≤ 1) ∧ Sz (w3.putObj (D + 1) o') S3 ∧ Stp w S (fun b => c b + cg b) (w3.putObj (D + 1) o') S3 (fun b => c4 b + cgx b + cm b + one (D + 1) b) := by
      intro o' ho' hlen
      have hp3 := Stp.putObj (S := S3) (o' := o') hh3 hcb ho'
      have hr3b := hr3.step hp3 (fun b => by have := hc3 b; split <;> (try subst_vars) <;> omega)
      have hsz3 : a3.tmps.size = a.tmps.size := by have := hr3.length; simp at this; omega
      have hkk : ∀ i, i < σ3.length → i ∉ asl → a.tmps.toList[i]? = a3.tmps.toList[i]? := by
        intro i hi hn
        have := hkf3 i (by simp only [frs, List.mem_filter, List.mem_range]; exact ⟨by omega, by simpa using hn⟩)
        rw [Array.getElem?_toList, Array.getElem?_toList]; exact this.symm
      obtain ⟨c4, hr4, hle4⟩ := hr3b.forget (ys := fgt asl σ3) (us := a.tmps.toList) (fgt_length _ _) (by simpa using hsz3.symm) fun i hi => by
        rw [fgt_get]
        by_cases hn : i ∈ asl
        · left; simp [hn, hi]
        · right; exact ⟨by simp [hn], hkk i hi hn⟩
      -- steps of what is beside
      have t1 := hs2
      have sumOne : ∀ b, (one (D + 1) b) + (cgx b + cm b) ≤ 1 := fun b => by have := hone b; omega
      have dis3 : ∀ b, c2 b + (cgx b + cm b) ≤ 1 := by
        intro b
        rcases Nat.lt_or_ge b w.heap.size with hb | hb
        · have := hs2.own b hb; have := hone b; omega
        · have e1 : cgx b = 0 := by
            rcases Nat.eq_zero_or_pos (cgx b) with h | h
            · exact h
            · have := hG.lt _ _ _ _ hgx b h; omega
          have e2 : cm b = 0 := by
            rcases Nat.eq_zero_or_pos (cm b) with h | h
            · exact h
            · have := hmk.2.2 b h; omega
          have := hc2 b; omega
      have g1 := hG.keep _ _ _ _ _ _ _ _ hgx hs2 (fun b => by have := hone b; omega) hz
      have g2 := hG.keep _ _ _ _ _ _ _ _ g1 hp2 (fun b => by have := sumOne b; unfold one at this; omega) hz2
      have g3 := hG.keep _ _ _ _ _ _ _ _ g2 hs3 (fun b => by have := dis3 b; omega) hz2b
      have g4 := hG.keep _ _ _ _ _ _ _ _ g3 hp3 (fun b => by have := sumOne b; unfold one at this; omega) hz3
      have m1 := hmk.keep hs2 (fun b => by have := hone b; omega)
      have m2 := m1.keep hp2 (fun b => by have := sumOne b; unfold one at this; omega)
      have m3 := m2.keep hs3 (fun b => by have := dis3 b; omega)
      have m4 := m3.keep hp3 (fun b => by have := sumOne b; unfold one at this; omega)
      have szs : w.heap.size ≤ w3.heap.size := by
        have := hs2.size; have := hs3.size; simp at this; omega
      have whole : Stp w S (fun b => c1 b + (cgx b + cm b + one (D + 1) b)) (w3.putObj (D + 1) o') S3 (fun b => c3 b + (cgx b + cm b + one (D + 1) b)) := by
        have s1 := hs2.frameG (c := fun b => c1 b + (cgx b + cm b + one (D + 1) b)) (c2 := fun b => cgx b + cm b + one (D + 1) b) (fun b => rfl)
        have s2 := hp2.frameG (c := fun b => c2 b + (cgx b + cm b + one (D + 1) b)) (c2 := fun b => c2 b + (cgx b + cm b)) (fun b => by show c2 b + (cgx b + cm b + one (D + 1) b) = one (D + 1) b + (c2 b + (cgx b + cm b)); omega)
        have s2' := s2.drop (c'' := fun b => c2 b + (cgx b + cm b + one (D + 1) b)) (fun b => by show c2 b + (cgx b + cm b + one (D + 1) b) ≤ one (D + 1) b + (c2 b + (cgx b + cm b)); omega)
        have s3 := hs3.frameG (c := fun b => c2 b + (cgx b + cm b + one (D + 1) b)) (c2 := fun b => cgx b + cm b + one (D + 1) b) (fun b => rfl)
        have s4 := hp3.frameG (c := fun b => c3 b + (cgx b + cm b + one (D + 1) b)) (c2 := fun b => c3 b + (cgx b + cm b)) (fun b => by show c3 b + (cgx b + cm b + one (D + 1) b) = one (D + 1) b + (c3 b + (cgx b + cm b)); omega)
        have s4' := s4.drop (c'' := fun b => c3 b + (cgx b + cm b + one (D + 1) b)) (fun b => by show c3 b + (cgx b + cm b + one (D + 1) b) ≤ one (D + 1) b + (c3 b + (cgx b + cm b)); omega)
        exact ((s1.trans s2').trans s3).trans s4'
      refine ⟨c4, hr4, hle4, hrf3.forget hkk, g4, m4, by simp; exact (Array.getElem?_eq_some_iff.1 hh3).1, fun b => ?_, hz3.stp hp3 (fun b hb => hz3 b (by simpa using hb)), ?_⟩
      · have := hle4 b
        rcases Nat.lt_or_ge b w.heap.size with hb | hb
        · have h5 : c3 b + (cgx b + cm b + one (D + 1) b) ≤ c1 b + (cgx b + cm b + one (D + 1) b) := whole.own b hb
          have := hone b; omega
        · have e1 : cgx b = 0 := by
            rcases Nat.eq_zero_or_pos (cgx b) with h | h
            · exact h
            · have := hG.lt _ _ _ _ hgx b h; omega
          have e2 : cm b = 0 := by
            rcases Nat.eq_zero_or_pos (cm b) with h | h
            · exact h
            · have := hmk.2.2 b h; omega
          have e3 : one (D + 1) b = 0 := by unfold one; rw [if_neg (by omega)]
          have := hc3 b; omega
      · exact (whole.grow (fun b => by have := hc1 b; have := hc b; omega)).drop fun b => by have := hle4 b; omega
    have hbz : w3.heap[D + 1]? = some (.loop { recL fn a ps asg bdy D .ready none with state := .busy }) := by rw [hbusy]; exact hh3
    cases e with
    | normal =>
      obtain ⟨hlen, σ4, hw4, hI4⟩ := hq3
      obtain ⟨c4, hr4, hle4, hrf4, g4, m4, hl4, hone4, hz4, hstp⟩ := fin (.loop (recL fn a ps asg bdy D .ready none)) rfl hlen
      obtain ⟨c5, hr5, hle5⟩ := hw4.rep hr4
      have hrf5 : RefOk σ4 a.tmps.toList := (hw4.stt (dfs := a.defers) (a := a) ⟨hrf4, S3, c4, hr4, fun b => by have := hone4 b; omega, rfl, hz4, Stp.refl _ _ _⟩).1
      refine ⟨_, _, run_endRound none hbz, S3, fun b => c5 b + cgx b + cm b + one (D + 1) b, some (k + 1), .inl ⟨rfl, rfl⟩, ⟨σ4, hI4, ⟨hrf5, c5, cgx, cm, hr5, g4, m4, hl4, fun b => rfl⟩, ?_⟩, fun b => by have := hone4 b; have := hle5 b; show c5 b + cgx b + cm b + one (D + 1) b ≤ 1; omega, hz4, hstp.drop fun b => by have := hle5 b; show c5 b + cgx b + cm b + one (D + 1) b ≤ c4 b + cgx b + cm b + one (D + 1) b; omega⟩
      exact World.putObj_heap_same (Array.getElem?_eq_some_iff.1 hh3).1
    | ret =>
      obtain ⟨hlen, hq4⟩ := hq3
      obtain ⟨c4, hr4, hle4, hrf4, g4, m4, hl4, hone4, hz4, hstp⟩ := fin (.loop (recL fn a ps asg bdy D .done (some .ret))) rfl hlen
      refine ⟨_, _, run_endRound (some .ret) hbz, S3, _, none, .inr ⟨rfl, rfl⟩, ⟨.ret, .ret, _, .inl ⟨rfl, rfl⟩, hq4, ⟨hrf4, c4, cgx, cm, hr4, g4, m4, hl4, fun b => rfl⟩, ?_⟩, hone4, hz4, hstp⟩
      exact World.putObj_heap_same (Array.getElem?_eq_some_iff.1 hh3).1
    | exit id =>
      obtain ⟨hlen, hq4⟩ := hq3
      obtain ⟨c4, hr4, hle4, hrf4, g4, m4, hl4, hone4, hz4, hstp⟩ := fin (.loop (recL fn a ps asg bdy D .done (some (.exit id)))) rfl hlen
      refine ⟨_, _, run_endRound (some (.exit id)) hbz, S3, _, none, .inr ⟨rfl, rfl⟩, ⟨.exit id, .exit id, _, .inr ⟨id, rfl, rfl⟩, hq4, ⟨hrf4, c4, cgx, cm, hr4, g4, m4, hl4, fun b => rfl⟩, ?_⟩, hone4, hz4, hstp⟩
      exact World.putObj_heap_same (Array.getElem?_eq_some_iff.1 hh3).1
    | _ => exact hq3.elim
  | _ => exact hq.elim
end
end Go.Proofs.YtkafbgdokgfjmaaGreatDoor
namespace Go.Proofs.YtkafbgdokgfjmaaGreatDoor
open Go.RowKit
set_option linter.unusedVariables false
set_option linter.unusedSimpArgs false
set_option linter.unusedSectionVars false
variable [Env]
section
variable {P : Program} {T : Tab} {w0 : World} {S0 c0 : Nat → Nat} {G : Gh} {Y : Nat → List AV → Prop} {l : Nat} {A : Ann} {yr : List (Nat × Nat)} {nt : Nat} {asl : List Nat} {n : Nat} {ro : Option Nat}
theorem fnok_enter {g : Nat} (h : FnOk P g) (args : Array Value) (w : World) : (callFunc g args).run P w = .ok (.enter g args) w := by
  obtain ⟨fn, code, hfn, hbody, hname⟩ := h
  exact run_enter hfn hname hbody args w
theorem clo_rep {S : Nat → Nat} {c : Nat → Nat} {w : World} {x : AV} {v : Value} {g : Nat} {cs : List AV} (h : RepC w S [x] [v] c) (hc : isClo x g cs) : ∃ us, v = .func (.func g) #[] (List.toArray us) ∧ RepC w S cs us (fun _ => 0) := by
  rcases hc with rfl | ⟨rfl, rfl⟩
  · cases h with
    | clo h1 h0 h => exact ⟨_, rfl, h1.congr fun b => (h0 b).symm⟩
  · exact ⟨[], by rw [(rep_raw h).1], .nil zc0⟩
theorem range_sound (hT : TabOk P T) (hm : P.follows .mixedOrders = true) (hG : GOk G) {g : Operand} {ps : Array Nat} {asg bdy : Code} {x y : CC} (hx : comp A asg = some x) (hy : comp A bdy = some y) (hps : (ps.toList.all fun p => asl.contains p) = true)
    (hkx : cok A asg = true) (hnx : nchk (frs nt asl) asg = true) (hky : cok A bdy = true) (hny : nchk (frs nt asl) bdy = true) {Q : Exit → Option Nat → List AV → Prop} {st : Option Nat} {σ : List AV} {a : Act} {w : World}
    (hst : SttG G w0 S0 c0 st σ a w) (h : cwpG P T Y l nt asl (.range g ps.toList x y) Q st σ) : (Code.rangeFunc g ps asg bdy).wpIn (Fr none) n P (liftG G w0 S0 c0 Q) a w := by
  obtain ⟨gf, cs, N, Y', hln, hclo, hiter, I, ⟨σ1, hwk, hI0⟩, hround, hdone⟩ := h
  obtain ⟨hrf, ms, S, c, cg, cm, hr, hg, hmk, h1, hd, hz, hs⟩ := hst
  have hsz : a.tmps.size = σ.length := by have := hr.length; simpa using this
  obtain ⟨cx, hrx⟩ := aev_rep hr g
  obtain ⟨us, hev, hus⟩ := clo_rep hrx hclo
  obtain ⟨c1, hr1, hle1⟩ := hwk.rep hr
  have hrf1 : RefOk σ1 a.tmps.toList := (hwk.stt (dfs := a.defers) (a := a) ⟨hrf, S, c, hr, fun b => by have := h1 b; omega, rfl, hz, Stp.refl w S c⟩).1
  refine wpIn_rangeFunc ?_
  intro fn hfn
  -- the two blocks
  obtain ⟨D, hD⟩ : ∃ D, w.heap.size = D := ⟨_, rfl⟩
  have z1 := Stp.alloc (w := w) (S := S) (c := fun b => c1 b + cg b + cm b) hz (.deferred (some [])) 0
  have hz1 := hz.alloc (.deferred (some [])) 0
  have hu1 : upd S w.heap.size 0 = S := by funext b; unfold upd; split; (rename_i h; subst h; exact (hz _ (Nat.le_refl _)).symm); rfl
  rw [hu1] at z1 hz1
  have hw1s : (w.alloc (.deferred (some []))).heap.size = D + 1 := by simp [hD]
  obtain ⟨rec, hrec⟩ : ∃ rec, recL fn a ps asg bdy D = rec := ⟨_, rfl⟩
  have z2 := Stp.alloc (w := w.alloc (.deferred (some []))) (S := S) (c := fun x => (if x = w.heap.size then 1 else 0) + (c1 x + cg x + cm x)) hz1 (.loop (rec .ready none)) 0
  have hz2 := hz1.alloc (.loop (rec .ready none)) 0
  have hu2 : upd S (w.alloc (.deferred (some []))).heap.size 0 = S := by funext b; unfold upd; split; (rename_i h; subst h; exact (hz1 _ (Nat.le_refl _)).symm); rfl
  rw [hu2] at z2 hz2
  obtain ⟨W1, hW1⟩ : ∃ W1, (w.alloc (.deferred (some []))).alloc (.loop (rec .ready none)) = W1 := ⟨_, rfl⟩
  rw [hW1] at z2 hz2
  have hL1 : W1.heap[D + 1]? = some (.loop (rec .ready none)) := by
    rw [← hW1]; have := World.alloc_heap_new (w.alloc (.deferred (some []))) (.loop (rec .ready none)); rwa [hw1s] at this
  have hK1 : W1.heap[D]? = some (.deferred (some [])) := by
    rw [← hW1]; exact (Below.heap_alloc _ _ _ (by rw [hw1s]; omega)).trans (by have := World.alloc_heap_new w (.deferred (some [])); rwa [hD] at this)
  have zall := z1.trans z2
  -- what lay beside goes on
  have s1 : Stp w S (fun _ => 0) (w.alloc (.deferred (some []))) S (fun x => (if x = w.heap.size then 1 else 0) + 0) := by
    have := Stp.alloc (w := w) (S := S) (c := fun _ => 0) hz (.deferred (some [])) 0; rwa [hu1] at this
  have s2 : Stp (w.alloc (.deferred (some []))) S (fun _ => 0) W1 S (fun x => (if x = (w.alloc (.deferred (some []))).heap.size then 1 else 0) + 0) := by
    have := Stp.alloc (w := w.alloc (.deferred (some []))) (S := S) (c := fun _ => 0) hz1 (.loop (rec .ready none)) 0; rwa [hu2, hW1] at this
  have hr2 := (hr1.step s1 (fun b => by have := h1 b; have := hle1 b; show c1 b + 0 ≤ 1; omega)).step s2 (fun b => by have := h1 b; have := hle1 b; show c1 b + 0 ≤ 1; omega)
  have hus2 := (hus.step s1 (fun b => by simp)).step s2 (fun b => by simp)
  have hg2 := hG.keep _ _ _ _ _ _ _ _ (hG.keep _ _ _ _ _ _ _ _ hg s1 (fun b => by have := h1 b; show 0 + cg b ≤ 1; omega) hz) s2 (fun b => by have := h1 b; show 0 + cg b ≤ 1; omega) hz1
  have hm2 := (hmk.keep s1 (fun b => by have := h1 b; show 0 + cm b ≤ 1; omega)).keep s2 (fun b => by have := h1 b; show 0 + cm b ≤ 1; omega)
  have hnD : D ∉ ms := fun hmem => by have := hmk.2.2 D ((hmk.2.1 D hmem).1); omega
  have hmD : Mks (D :: ms) W1 (fun b => cm b + one D b) := by
    refine ⟨List.nodup_cons.2 ⟨hnD, hm2.1⟩, fun E hE => ?_, fun b hb => ?_⟩
    · rcases List.mem_cons.1 hE with rfl | hE
      · exact ⟨by simp [one], hK1⟩
      · exact ⟨by have := (hm2.2.1 E hE).1; show 0 < cm E + one D E; omega, (hm2.2.1 E hE).2⟩
    · have hb : 0 < cm b + one D b := hb
      unfold one at hb
      split at hb
      · rename_i hbD; subst hbD; have := (Array.getElem?_eq_some_iff.1 hK1).1; exact this
      · exact hm2.2.2 b (by omega)
  have hcore : Core G st a ms D σ1 W1 S (fun b => c1 b + cg b + (cm b + one D b) + one (D + 1) b) := ⟨hrf1, c1, cg, fun b => cm b + one D b, hr2, hg2, hmD, (Array.getElem?_eq_some_iff.1 hL1).1, fun b => rfl⟩
  have hnew : ∀ b, D ≤ b → c1 b = 0 ∧ cg b = 0 ∧ cm b = 0 := by
    intro b hb
    refine ⟨?_, ?_, ?_⟩
    · rcases Nat.eq_zero_or_pos (c1 b) with h | h
      · exact h
      · have := hr1.lt b h; omega
    · rcases Nat.eq_zero_or_pos (cg b) with h | h
      · exact h
      · have := hG.lt _ _ _ _ hg b h; omega
    · rcases Nat.eq_zero_or_pos (cm b) with h | h
      · exact h
      · have := hmk.2.2 b h; omega
  have hsum : ∀ b, c1 b + cg b + (cm b + one D b) + one (D + 1) b ≤ 1 := by
    intro b
    have := h1 b
    have := hle1 b
    unfold one
    by_cases hb : D ≤ b
    · obtain ⟨e1, e2, e3⟩ := hnew b hb
      rw [e1, e2, e3]
      split <;> split <;> omega
    · rw [if_neg (by omega), if_neg (by omega)]; omega
  have hyok := round_ok (P := P) (T := T) (G := G) (st := st) (a := a) (ms := ms) (D := D) (fn := fn) (Q := Q) hT hm hG hx hy hps hkx hnx hky hny hsz hln hround
  rw [hrec] at hyok
  have hgk := GcL_ok (st := st) (a := a) (ms := ms) (D := D) hG (rec := rec) (I := I) (Q := Q)
  have hcall := hiter.2 _ hgk (D + 1) hyok W1 S us (fun _ => 0) _ hz2 hus2 ⟨σ1, hI0, hcore, hL1⟩ (fun b => by have := hsum b; show 0 + (c1 b + cg b + (cm b + one D b) + one (D + 1) b) ≤ 1; omega)
  -- from the caller's beginning to the loop's
  have hbig : Stp w0 S0 c0 W1 S (fun b => c1 b + cg b + (cm b + one D b) + one (D + 1) b) := by
    have := (hs.drop (c'' := fun b => c1 b + cg b + cm b) (fun b => by have := hle1 b; show c1 b + cg b + cm b ≤ c b + cg b + cm b; omega)).trans zall
    refine this.drop fun b => ?_
    show c1 b + cg b + (cm b + one D b) + one (D + 1) b ≤ (if b = (w.alloc (.deferred (some []))).heap.size then 1 else 0) + ((if b = w.heap.size then 1 else 0) + (c1 b + cg b + cm b))
    rw [hw1s, hD]
    unfold one
    omega
  have hres : (resolve a.eval (rangeCall g (D + 1)) 0).run P W1 = .ok { target := .fn (.func gf) us.toArray, args := #[.func (.yield (D + 1)) #[] #[]] } W1 := by
    simp only [resolve, rangeCall, hev]
    simp [go_sem]
  refine ⟨D + 1, [mark D], W1, { target := .fn (.func gf) us.toArray, args := #[.func (.yield (D + 1)) #[] #[]] }, W1, gf, #[.func (.yield (D + 1)) #[] #[]] ++ us.toArray, W1, ?_, hres, fun _ _ => trivial, ?_, fun hd => by simp at hd, ?_⟩
  · have := run_enterLoop_outer (w := w) (P := P) fn a.tmps ps asg bdy
    rw [hD] at this
    rw [← hW1, ← hrec]
    exact this
  · simp [invoke, go_sem, fnok_enter hiter.1]
  · refine callsFr.2 ?_
    have hargs : (Value.func (.yield (D + 1)) #[] #[] :: us).toArray = #[.func (.yield (D + 1)) #[] #[]] ++ us.toArray := by apply Array.ext'; simp
    rw [hargs] at hcall
    refine hcall.mono fun e w' he => ?_
    obtain ⟨v, st', S', cg', rfl, hst', hgc, hcg1, hz', hstp⟩ := he
    have hstp' := hbig.trans (hstp.grow (d := fun b => c1 b + cg b + (cm b + one D b) + one (D + 1) b) (fun b => by show 0 + _ ≤ _; omega))
    -- behind it
    have fin : ∀ (σk : List AV) (lp lp' : Loop), Core G st a ms D σk w' S' cg' → w'.heap[D + 1]? = some (.loop lp) → SttG G w0 S0 c0 st σk { a with defers := [mark D] ++ a.defers } (w'.putObj (D + 1) (.loop lp')) := by
      intro σk lp lp' hcore' hh
      have hp := Stp.putObj (S := S') (o' := .loop lp') hh rfl rfl
      obtain ⟨hrf', ck, cgk, cmk, hrk, hgk', hmk', hlk, hck⟩ := hcore'
      have hdis : ∀ b, (if b = D + 1 then 1 else 0) + (ck b + cgk b + cmk b) ≤ 1 := fun b => by have := hcg1 b; have := hck b; unfold one at this; omega
      have hstpk : Stp w' S' cg' (w'.putObj (D + 1) (.loop lp')) S' (fun b => (if b = D + 1 then 1 else 0) + (ck b + cgk b + cmk b)) := hp.frameG (c2 := fun b => ck b + cgk b + cmk b) (fun b => by rw [hck]; unfold one; omega)
      refine ⟨hrf', D :: ms, S', ck, cgk, cmk, hrk.step hp (fun b => by have := hdis b; omega), hG.keep _ _ _ _ _ _ _ _ hgk' hp (fun b => by have := hdis b; omega) hz', hmk'.keep hp (fun b => by have := hdis b; omega), fun b => by have := hdis b; omega, by simp [hd], hz'.stp hp (fun b hb => hz' b (by simpa using hb)), ?_⟩
      exact (hstp'.trans hstpk).drop fun b => by show ck b + cgk b + cmk b ≤ _ + _; omega
    rcases hst' with rfl | rfl
    · obtain ⟨σk, hIk, hcore', hh⟩ := hgc
      have hne : (rec .ready none).state ≠ .busy := by rw [← hrec]; simp [recL]
      refine ⟨_, _, run_endLoop hh hne, ?_⟩
      have hpe : (rec .ready none).pending = none := by rw [← hrec]; rfl
      rw [hpe]
      exact ⟨st, σk, hdone σk hIk, fin σk _ _ hcore' hh⟩
    · obtain ⟨e, cd, σk, hcase, hq, hcore', hh⟩ := hgc
      have hne : (rec .done (some cd)).state ≠ .busy := by rw [← hrec]; simp [recL]
      refine ⟨_, _, run_endLoop hh hne, ?_⟩
      have hpe : (rec .done (some cd)).pending = some cd := by rw [← hrec]; rfl
      rw [hpe]
      rcases hcase with ⟨rfl, rfl⟩ | ⟨id, rfl, rfl⟩
      · exact wpIn_ret ⟨st, σk, hq, fin σk _ _ hcore' hh⟩
      · exact wpIn_exit ⟨st, σk, hq, fin σk _ _ hcore' hh⟩
end
end Go.Proofs.YtkafbgdokgfjmaaGreatDoor
