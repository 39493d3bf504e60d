/- Plain lists: ascending ones are told by their members; what compacting an ordered list leaves. -/
import Derived.Lib.SlicesCompact
import Derived.Lib.RowBridge
import Derived.Sort.Walk0
namespace Go.Proofs.YtkafbgdokgfjmaaGreatDoor
open Go.Proofs
set_option linter.unusedSimpArgs false
set_option linter.unusedVariables false
section
variable {α : Type} {R : α → α → Prop}
theorem extR (hi : ∀ x, ¬ R x x) (ht : ∀ x y z, R x y → R y z → R x z) : ∀ {l m : List α}, l.Pairwise R → m.Pairwise R → (∀ x, x ∈ l ↔ x ∈ m) → l = m
  | [], [], _, _, _ => rfl
  | [], y :: m, _, _, h => absurd ((h y).2 (by simp)) (by simp)
  | x :: l, [], _, _, h => absurd ((h x).1 (by simp)) (by simp)
  | x :: l, y :: m, hl, hm, h => by
    have hl1 := fun z hz => List.rel_of_pairwise_cons hl (a' := z) hz
    have hm1 := fun z hz => List.rel_of_pairwise_cons hm (a' := z) hz
    have hxy : x = y := by
      rcases List.mem_cons.1 ((h x).1 (by simp)) with e | hx
      · exact e
      · rcases List.mem_cons.1 ((h y).2 (by simp)) with e | hy
        · exact e.symm
        · exact absurd (ht _ _ _ (hl1 y hy) (hm1 x hx)) (hi _)
    subst hxy
    rw [extR hi ht (List.Pairwise.of_cons hl) (List.Pairwise.of_cons hm) fun z => ⟨fun hz => ?_, fun hz => ?_⟩]
    · rcases List.mem_cons.1 ((h z).1 (by simp [hz])) with e | hz'
      · have := hl1 z hz; rw [e] at this; exact absurd this (hi _)
      · exact hz'
    · rcases List.mem_cons.1 ((h z).2 (by simp [hz])) with e | hz'
      · have := hm1 z hz; rw [e] at this; exact absurd this (hi _)
      · exact hz'
variable [Inhabited α] [DecidableEq α]
theorem compact_uptoR (ht : ∀ x y z, R x y → R y z → R x z) (d : Array α) (hd : ∀ i j, i < j → j < d.size → R d[i]! d[j]! ∨ d[i]! = d[j]!) : ∀ m, m ≤ d.size → (Lib.compactUpTo d m).Pairwise R ∧ (∀ x, x ∈ Lib.compactUpTo d m ↔ ∃ j, j < m ∧ d[j]! = x)
  | 0, _ => ⟨by simp [Lib.compactUpTo], by simp [Lib.compactUpTo]⟩
  | m + 1, hm => by
    obtain ⟨h1, h2⟩ := compact_uptoR ht d hd m (by omega)
    rw [Lib.compactUpTo_succ]
    by_cases hk : Lib.keeps d m = true
    · simp only [hk, if_true]
      have hk' : m = 0 ∨ d[m]! ≠ d[m - 1]! := by simpa [Lib.keeps] using hk
      refine ⟨List.pairwise_append.2 ⟨h1, by simp, fun x hx y hy => ?_⟩, fun x => ?_⟩
      · obtain ⟨j, hj, rfl⟩ := (h2 x).1 hx
        rw [List.mem_singleton] at hy
        subst hy
        have hne : d[m]! ≠ d[m - 1]! := by
          rcases hk' with h | h
          · omega
          · exact h
        have a2 : R d[m - 1]! d[m]! := (hd (m - 1) m (by omega) (by omega)).resolve_right fun h => hne h.symm
        rcases Nat.lt_or_ge j (m - 1) with h | h
        · rcases hd j (m - 1) h (by omega) with h | h
          · exact ht _ _ _ h a2
          · rw [h]; exact a2
        · have : j = m - 1 := by omega
          subst this; exact a2
      · rw [List.mem_append, h2, List.mem_singleton]
        constructor
        · rintro (⟨j, hj, rfl⟩ | rfl)
          · exact ⟨j, by omega, rfl⟩
          · exact ⟨m, by omega, rfl⟩
        · rintro ⟨j, hj, rfl⟩
          rcases Nat.lt_or_ge j m with h | h
          · exact .inl ⟨j, h, rfl⟩
          · have : j = m := by omega
            subst this; exact .inr rfl
    · have hk2 : Lib.keeps d m = false := by simpa using hk
      simp only [hk2, Bool.false_eq_true, if_false, List.append_nil]
      have hk' : m ≠ 0 ∧ d[m]! = d[m - 1]! := by simpa [Lib.keeps] using hk2
      refine ⟨h1, fun x => ?_⟩
      rw [h2]
      constructor
      · rintro ⟨j, hj, rfl⟩; exact ⟨j, by omega, rfl⟩
      · rintro ⟨j, hj, rfl⟩
        rcases Nat.lt_or_ge j m with h | h
        · exact ⟨j, h, rfl⟩
        · have : j = m := by omega
          subst this; exact ⟨j - 1, by omega, hk'.2.symm⟩
theorem compact_sortedR (ht : ∀ x y z, R x y → R y z → R x z) {zs : List α} (h : zs.Pairwise fun x y => R x y ∨ x = y) : (Lib.compact zs).Pairwise R ∧ ∀ x, x ∈ Lib.compact zs ↔ x ∈ zs := by
  obtain ⟨h1, h2⟩ := compact_uptoR ht zs.toArray (fun i j hij hj => by
    have hj' : j < zs.length := by simpa using hj
    have := List.pairwise_iff_getElem.1 h i j (by omega) hj' hij
    simpa [getElem!_pos, hj', (by omega : i < zs.length)] using this) zs.length (by simp)
  refine ⟨h1, fun x => ?_⟩
  rw [show Lib.compact zs = Lib.compactUpTo zs.toArray zs.length from rfl, h2]
  constructor
  · rintro ⟨j, hj, rfl⟩
    have : zs.toArray[j]! = zs[j] := by simp [getElem!_pos, hj]
    rw [this]; exact List.getElem_mem hj
  · intro hx
    obtain ⟨j, hj, rfl⟩ := List.getElem_of_mem hx
    exact ⟨j, hj, by simp [getElem!_pos, hj]⟩
end

/-! ## strings -/
abbrev Str := List UInt8
theorem str_irr (x : Str) : ¬ x < x := List.lt_irrefl x
theorem str_trans (x y z : Str) : x < y → y < z → x < z := List.lt_trans
theorem str_le {x y : Str} : x ≤ y ↔ x < y ∨ x = y := by
  constructor
  · intro h
    by_cases e : x = y
    · exact .inr e
    · rcases Std.lt_trichotomy x y with h' | h' | h'
      · exact .inl h'
      · exact absurd h' e
      · exact absurd h' (List.not_lt.2 h)
  · rintro (h | rfl)
    · exact List.le_of_lt h
    · exact List.le_refl _
/-- In ascending order, each once. -/
def dst (l : List Str) : List Str := Lib.compact (l.mergeSort fun x y => decide (x ≤ y))
theorem dst_spec (l : List Str) : (dst l).Pairwise (· < ·) ∧ ∀ x, x ∈ dst l ↔ x ∈ l := by
  have hs : (l.mergeSort fun x y => decide (x ≤ y)).Pairwise fun x y => x < y ∨ x = y := by
    have := List.pairwise_mergeSort (le := fun x y : Str => decide (x ≤ y)) (fun x y z h1 h2 => by simp at h1 h2 ⊢; exact List.le_trans h1 h2) (fun x y => by simp; exact List.le_total x y) l
    exact this.imp fun h => str_le.1 (by simpa using h)
  obtain ⟨h1, h2⟩ := compact_sortedR (R := fun x y : Str => x < y) str_trans hs
  exact ⟨h1, fun x => (h2 x).trans List.mem_mergeSort⟩
theorem dst_len (l : List Str) : (dst l).length ≤ l.length := by
  have := Lib.compact_length_le (l.mergeSort fun x y => decide (x ≤ y))
  rw [List.length_mergeSort] at this
  exact this
theorem dst_of {l m : List Str} (h : m.Pairwise (· < ·)) (hm : ∀ x, x ∈ m ↔ x ∈ l) : dst l = m :=
  extR str_irr str_trans (dst_spec l).1 h fun x => ((dst_spec l).2 x).trans (hm x).symm
theorem dst_eq {l m : List Str} (h : ∀ x, x ∈ l ↔ x ∈ m) : dst l = dst m := dst_of (dst_spec m).1 fun x => ((dst_spec m).2 x).trans (h x).symm
end Go.Proofs.YtkafbgdokgfjmaaGreatDoor
