/- Soundness: a range over a function. -/
import Derived.Test.YtibdijaacolhkaaG3
namespace Go.Proofs.Ytibdijaacolhkaa
open Go.RowKit
set_option linter.unusedVariables false
set_option linter.unusedSimpArgs false

theorem fgt_get : ∀ (asl : List Nat) (σ : List AV) (i : Nat), (fgt asl σ)[i]? = if i ∈ asl then (σ[i]?).map (fun _ => AV.any) else σ[i]?
  | [], σ, i => by simp [fgt]
  | s :: ss, σ, i => by
    rw [fgt, fgt_get ss, List.getElem?_set]
    by_cases h1 : i ∈ ss
    · simp only [h1, if_true, List.mem_cons, or_true]
      by_cases h2 : s = i
      · subst h2
        by_cases h3 : s < σ.length
        · simp [h3]
        · simp [h3]
      · simp [h2]
    · by_cases h2 : s = i
      · subst h2
        by_cases h3 : s < σ.length
        · simp [h1, h3]
        · simp [h1, h3]
      · have : ¬ i = s := fun h => h2 h.symm
        simp [h1, h2, this]
theorem fgt_length : ∀ (asl : List Nat) (σ : List AV), (fgt asl σ).length = σ.length
  | [], σ => rfl
  | s :: ss, σ => by rw [fgt, fgt_length ss, List.length_set]
section
variable {w w' : World} {S S' : Nat → Nat}
theorem RepC.forget : ∀ {xs ys : List AV} {vs us : List Value} {c : Nat → Nat}, RepC w S xs vs c → ys.length = xs.length → us.length = vs.length → (∀ i, i < xs.length → ys[i]? = some .any ∨ (ys[i]? = xs[i]? ∧ us[i]? = vs[i]?)) → ∃ c', RepC w S ys us c' ∧ ∀ b, c' b ≤ c b
  | [], ys, vs, us, c, h, hl, hl2, _ => by
    obtain ⟨rfl, hz⟩ := h.zero
    have e1 : ys = [] := List.eq_nil_of_length_eq_zero (by simpa using hl)
    have e2 : us = [] := List.eq_nil_of_length_eq_zero (by simpa using hl2)
    subst e1; subst e2
    exact ⟨c, .nil hz, fun _ => Nat.le_refl _⟩
  | x :: xs, ys, vs, us, c, h, hl, hl2, hp => by
    obtain ⟨v, vs', d1, d2, rfl, h1, h2, hd⟩ := h.uncons
    match ys, us, hl, hl2 with
    | y :: ys, u :: us, hl, hl2 =>
      obtain ⟨c', h3, hle⟩ := RepC.forget (ys := ys) (us := us) h2 (by simpa using hl) (by simpa using hl2) fun i hi => by
        have := hp (i + 1) (by simp; omega)
        simpa using this
      have h0 := hp 0 (by simp)
      simp only [List.getElem?_cons_zero, Option.some.injEq] at h0
      rcases h0 with rfl | ⟨rfl, rfl⟩
      · exact ⟨c', .any h3, fun b => by rw [hd]; have := hle b; omega⟩
      · exact ⟨_, RepC.cons h1 h3 (fun b => rfl), fun b => by rw [hd]; have := hle b; omega⟩
theorem pps_rep : ∀ (ps : List Nat) (args : List AV) (vs : List Value) (σ : List AV) (t : Array Value) (c ca : Nat → Nat), args.length = ps.length → RepC w S args vs ca → RepC w S σ t.toList c →
    ∃ c', RepC w S (pps ps args σ) ((ps.zip vs).foldl (fun t (p : Nat × Value) => t.setIfInBounds p.1 p.2) t).toList c' ∧ ∀ b, c' b ≤ ca b + c b
  | [], [], vs, σ, t, c, ca, _, ha, hr => by
    obtain ⟨rfl, _⟩ := ha.zero
    exact ⟨c, hr, fun b => by omega⟩
  | p :: ps, x :: args, vs, σ, t, c, ca, hl, ha, hr => by
    obtain ⟨v, vs', d1, d2, rfl, h1, h2, hd⟩ := ha.uncons
    have hput : ∃ c1, RepC w S (σ.set p x) (t.setIfInBounds p v).toList c1 ∧ ∀ b, c1 b ≤ d1 b + c b := by
      rw [Array.toList_setIfInBounds]
      by_cases hp : p < σ.length
      · exact hr.put h1 p hp
      · have hlen := hr.length
        rw [List.set_eq_of_length_le (by omega), List.set_eq_of_length_le (by omega)]
        exact ⟨c, hr, fun b => by omega⟩
    obtain ⟨c1, g1, g2⟩ := hput
    obtain ⟨c', g3, g4⟩ := pps_rep ps args vs' (σ.set p x) _ c1 d2 (by simpa using hl) h2 g1
    exact ⟨c', by simpa [pps] using g3, fun b => by have := g4 b; have := g2 b; have := hd b; omega⟩
theorem pps_ref : ∀ (ps : List Nat) (args : List AV) (vs : List Value) (σ : List AV) (t : Array Value), args.length = ps.length → vs.length = args.length → args.all pb = true → RefOk σ t.toList →
    RefOk (pps ps args σ) ((ps.zip vs).foldl (fun t (p : Nat × Value) => t.setIfInBounds p.1 p.2) t).toList
  | [], [], [], σ, t, _, _, _, h => h
  | p :: ps, x :: args, v :: vs, σ, t, hl, hl2, hp, h => by
    simp only [List.all_cons, Bool.and_eq_true] at hp
    have := pps_ref ps args vs (σ.set p x) (t.setIfInBounds p v) (by simpa using hl) (by simpa using hl2) hp.2 (by rw [Array.toList_setIfInBounds]; exact h.set p v hp.1)
    simpa [pps] using this
theorem pps_keep : ∀ (ps : List Nat) (vs : List Value) (t : Array Value) (s : Nat), s ∉ ps → ((ps.zip vs).foldl (fun t (p : Nat × Value) => t.setIfInBounds p.1 p.2) t)[s]? = t[s]?
  | [], vs, t, s, _ => by simp
  | p :: ps, [], t, s, _ => by simp
  | p :: ps, v :: vs, t, s, h => by
    simp only [List.mem_cons, not_or] at h
    simp only [List.zip_cons_cons, List.foldl_cons]
    rw [pps_keep ps vs _ s h.2, Array.getElem?_setIfInBounds_ne (fun e => h.1 e.symm)]
/-- A block that is no cells, turned to another that is none. -/
theorem Stp.putObj {l : Nat} {o o' : Obj} (hl : w.heap[l]? = some o) (ho : o.isCells = false) (ho' : o'.isCells = false) : Stp w S (fun x => if x = l then 1 else 0) (w.putObj l o') S (fun x => if x = l then 1 else 0) := by
  refine ⟨rfl, rfl, rfl, by simp, fun b hb h0 => ⟨?_, rfl⟩, fun b o2 _ => ?_, fun _ => Nat.le_refl _, fun _ _ => Nat.le_refl _⟩
  · refine World.putObj_heap_other ?_
    rintro rfl
    simp at h0
  · unfold World.cell?
    by_cases hb : b = l
    · subst hb
      have hlt := (Array.getElem?_eq_some_iff.1 hl).1
      simp only [World.putObj_heap_same hlt, hl]
      cases o <;> cases o' <;> first | rfl | (simp [Obj.isCells] at ho ho')
    · simp only [World.putObj_heap_other (w := w) (o := o') hb]
theorem Stp.grow {c c' d : Nat → Nat} (h : Stp w S c w' S' c') (hd : ∀ b, c b ≤ d b) : Stp w S d w' S' c' :=
  ⟨h.os, h.tape, h.output, h.size, fun b hb h0 => h.keep b hb (by have := hd b; omega), h.cell, h.le, fun b hb => Nat.le_trans (h.own b hb) (hd b)⟩
theorem RefOk.forget {asl : List Nat} {σ : List AV} {vs us : List Value} (h : RefOk σ vs) (hk : ∀ i, i < σ.length → i ∉ asl → us[i]? = vs[i]?) : RefOk (fgt asl σ) us := by
  have back : ∀ {i : Nat} {x : AV}, (fgt asl σ)[i]? = some x → pb x = false → i ∉ asl ∧ σ[i]? = some x := by
    intro i x hi hp
    rw [fgt_get] at hi
    split at hi
    · cases hs : σ[i]? with
      | none => rw [hs] at hi; cases hi
      | some y => rw [hs] at hi; simp at hi; subst hi; cases hp
    · exact ⟨by assumption, hi⟩
  refine ⟨fun i s off T cs hi hs => ?_, fun i s e k es hi hs => ?_⟩
  · obtain ⟨n1, h1⟩ := back hi rfl
    obtain ⟨n2, h2⟩ := back hs rfl
    obtain ⟨b, g1, g2⟩ := h.ref i s off T cs h1 h2
    exact ⟨b, by rw [hk s (List.getElem?_eq_some_iff.1 h2).1 n2]; exact g1, by rw [hk i (List.getElem?_eq_some_iff.1 h1).1 n1]; exact g2⟩
  · obtain ⟨n1, h1⟩ := back hi rfl
    obtain ⟨n2, h2⟩ := back hs rfl
    rw [hk i (List.getElem?_eq_some_iff.1 h1).1 n1, hk s (List.getElem?_eq_some_iff.1 h2).1 n2]
    exact h.al i s e k es h1 h2
end
end Go.Proofs.Ytibdijaacolhkaa
