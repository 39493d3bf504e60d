/- The state of an activation, the steps that a world may take under it, operands. -/
import Derived.Test.YtohelofjlkoboaaA1
namespace Go.Proofs.Ytohelofjlkoboaa
open Go.RowKit
variable {dfs : List Deferred}
set_option linter.unusedVariables false

/-- What a text leans on beside its arguments: cells of package variables that nobody turns; and whether draws are counted. -/
class Env where
  drawn : Prop
  globs : List (Nat × (Value → Prop))
set_option linter.unusedSectionVars false
variable [Env]
/-- The cells of the package variables. -/
def Gs (w : World) (S : Nat → Nat) : Prop := ∀ g ∈ Env.globs, 0 < S g.1 ∧ ∃ v, w.cell? ⟨g.1, 0, none⟩ = some v ∧ g.2 v
structure Sz (w : World) (S : Nat → Nat) : Prop where
  z : ∀ b, w.heap.size ≤ b → S b = 0
  g : Gs w S
instance {w : World} {S : Nat → Nat} : CoeFun (Sz w S) (fun _ => ∀ b, w.heap.size ≤ b → S b = 0) := ⟨Sz.z⟩
/-- From w to w' nothing has turned but blocks that are new or owned; what is read stays. -/
structure Stp (w : World) (S c : Nat → Nat) (w' : World) (S' c' : Nat → Nat) : Prop where
  os : w'.os = w.os
  tape : w'.tape = w.tape
  output : w'.output = w.output ∧ (Env.drawn → w.drawn ≤ w'.drawn)
  size : w.heap.size ≤ w'.heap.size
  keep : ∀ b, b < w.heap.size → c b = 0 → w'.heap[b]? = w.heap[b]? ∧ S' b = S b
  cell : ∀ b o, o < S b → w'.cell? ⟨b, o, none⟩ = w.cell? ⟨b, o, none⟩
  le : ∀ b, S b ≤ S' b
  own : ∀ b, b < w.heap.size → c' b ≤ c b
theorem Gs.stp {w w' : World} {S S' c c' : Nat → Nat} (h : Gs w S) (k : Stp w S c w' S' c') : Gs w' S' := fun g hg => by
  obtain ⟨h1, v, h2, h3⟩ := h g hg
  exact ⟨Nat.lt_of_lt_of_le h1 (k.le g.1), v, by rw [k.cell g.1 0 h1]; exact h2, h3⟩
theorem Sz.stp {w w' : World} {S S' c c' : Nat → Nat} (h : Sz w S) (k : Stp w S c w' S' c') (hz : ∀ b, w'.heap.size ≤ b → S' b = 0) : Sz w' S' := ⟨hz, h.g.stp k⟩
theorem stp_sz {w w' : World} {S S' c c' : Nat → Nat} (h : Sz w S) (k : Stp w S c w' S' c') (hz : ∀ b, w'.heap.size ≤ b → S' b = 0) : Stp w S c w' S' c' ∧ Sz w' S' := ⟨k, h.stp k hz⟩
/-- The addresses into boxes, as far as they are known. -/
structure RefOk (σ : List AV) (vs : List Value) : Prop where
  ref : ∀ (i s off T : Nat) (cs : List AV), σ[i]? = some (.ref s off) → σ[s]? = some (.box T cs) →
    ∃ b, vs[s]? = some (.pointer (some ⟨b, 0, none⟩)) ∧ vs[i]? = some (.pointer (some ⟨b, off, none⟩))
  al : ∀ (i s e k : Nat) (es : List AV), σ[i]? = some (.alias s) → σ[s]? = some (.row e k es) → vs[i]? = vs[s]?
  pr : ∀ (i s k j o e k' : Nat) (es : List AV), σ[i]? = some (.pref s k j o) → σ[s]? = some (.row e k' es) →
    ∃ b n cap, vs[s]? = some (.slice (some ⟨b, 0, none⟩) n cap) ∧ vs[i]? = some (.pointer (some ⟨b, j * k + o, none⟩))
def Stt (dfs : List Deferred) (w0 : World) (S0 c0 : Nat → Nat) (σ : List AV) (a : Act) (w : World) : Prop :=
  RefOk σ a.tmps.toList ∧ ∃ S c, RepC w S σ a.tmps.toList c ∧ (∀ b, c b ≤ 1) ∧ a.defers = dfs ∧ Sz w S ∧ Stp w0 S0 c0 w S c
/-- The lists away from one slot. -/
theorem set_away {α : Type} {l : List α} {d i : Nat} {y x : α} (h : (l.set d y)[i]? = some x) (hne : y ≠ x) : d ≠ i ∧ l[i]? = some x := by
  rw [List.getElem?_set] at h
  split at h
  · split at h
    · injection h with h; exact absurd h hne
    · cases h
  · exact ⟨by assumption, h⟩
theorem set_other {α : Type} {l : List α} {d i : Nat} {y : α} (h : d ≠ i) : (l.set d y)[i]? = l[i]? := by rw [List.getElem?_set, if_neg h]
theorem RefOk.set {σ : List AV} {vs : List Value} (h : RefOk σ vs) (d : Nat) {y : AV} (v : Value) (hy : pb y = true) : RefOk (σ.set d y) (vs.set d v) := by
  refine ⟨fun i s off T cs hi hs => ?_, fun i s e k es hi hs => ?_, fun i s k j o e k' es hi hs => ?_⟩
  · obtain ⟨n1, h1⟩ := set_away hi (by rintro rfl; simp [pb] at hy)
    obtain ⟨n2, h2⟩ := set_away hs (by rintro rfl; simp [pb] at hy)
    obtain ⟨b, g1, g2⟩ := h.ref i s off T cs h1 h2
    exact ⟨b, by rw [set_other n2]; exact g1, by rw [set_other n1]; exact g2⟩
  · obtain ⟨n1, h1⟩ := set_away hi (by rintro rfl; simp [pb] at hy)
    obtain ⟨n2, h2⟩ := set_away hs (by rintro rfl; simp [pb] at hy)
    rw [set_other n1, set_other n2]
    exact h.al i s e k es h1 h2
  · obtain ⟨n1, h1⟩ := set_away hi (by rintro rfl; simp [pb] at hy)
    obtain ⟨n2, h2⟩ := set_away hs (by rintro rfl; simp [pb] at hy)
    obtain ⟨b, n, cap, g1, g2⟩ := h.pr i s k j o e k' es h1 h2
    exact ⟨b, n, cap, by rw [set_other n2]; exact g1, by rw [set_other n1]; exact g2⟩
/-- A slot of which less is known. -/
theorem RefOk.less {σ : List AV} {vs : List Value} (h : RefOk σ vs) (d : Nat) {y : AV} (hy : pb y = true) : RefOk (σ.set d y) vs := by
  refine ⟨fun i s off T cs hi hs => ?_, fun i s e k es hi hs => ?_, fun i s k j o e k' es hi hs => ?_⟩
  · obtain ⟨n1, h1⟩ := set_away hi (by rintro rfl; simp [pb] at hy)
    obtain ⟨n2, h2⟩ := set_away hs (by rintro rfl; simp [pb] at hy)
    exact h.ref i s off T cs h1 h2
  · obtain ⟨n1, h1⟩ := set_away hi (by rintro rfl; simp [pb] at hy)
    obtain ⟨n2, h2⟩ := set_away hs (by rintro rfl; simp [pb] at hy)
    exact h.al i s e k es h1 h2
  · obtain ⟨n1, h1⟩ := set_away hi (by rintro rfl; simp [pb] at hy)
    obtain ⟨n2, h2⟩ := set_away hs (by rintro rfl; simp [pb] at hy)
    exact h.pr i s k j o e k' es h1 h2
theorem RefOk.rebox {σ : List AV} {vs : List Value} (h : RefOk σ vs) {d T : Nat} {cs : List AV} (T' : Nat) (cs' : List AV) (hd : σ[d]? = some (.box T cs)) : RefOk (σ.set d (.box T' cs')) vs := by
  refine ⟨fun i s off T2 cs2 hi hs => ?_, fun i s e k es hi hs => ?_, fun i s k j o e k' es hi hs => ?_⟩
  · obtain ⟨n1, h1⟩ := set_away hi (by intro h; cases h)
    rw [List.getElem?_set] at hs
    split at hs
    · rename_i hds
      subst hds
      exact h.ref i d off T cs h1 hd
    · exact h.ref i s off T2 cs2 h1 hs
  · obtain ⟨n1, h1⟩ := set_away hi (by intro h; cases h)
    obtain ⟨n2, h2⟩ := set_away hs (by intro h; cases h)
    exact h.al i s e k es h1 h2
  · obtain ⟨n1, h1⟩ := set_away hi (by intro h; cases h)
    obtain ⟨n2, h2⟩ := set_away hs (by intro h; cases h)
    exact h.pr i s k j o e k' es h1 h2
/-- A row with other elements. -/
theorem RefOk.rerow {σ : List AV} {vs : List Value} (h : RefOk σ vs) {d e k : Nat} {es : List AV} (e' k' : Nat) (es' : List AV) (hd : σ[d]? = some (.row e k es)) : RefOk (σ.set d (.row e' k' es')) vs := by
  refine ⟨fun i s off T2 cs2 hi hs => ?_, fun i s e2 k2 es2 hi hs => ?_, fun i s k3 j o e2 k2 es2 hi hs => ?_⟩
  · obtain ⟨n1, h1⟩ := set_away hi (by intro h; cases h)
    obtain ⟨n2, h2⟩ := set_away hs (by intro h; cases h)
    exact h.ref i s off T2 cs2 h1 h2
  · obtain ⟨n1, h1⟩ := set_away hi (by intro h; cases h)
    rw [List.getElem?_set] at hs
    split at hs
    · rename_i hds
      subst hds
      exact h.al i d e k es h1 hd
    · exact h.al i s e2 k2 es2 h1 hs
  · obtain ⟨n1, h1⟩ := set_away hi (by intro h; cases h)
    rw [List.getElem?_set] at hs
    split at hs
    · rename_i hds
      subst hds
      exact h.pr i d k3 j o e k es h1 hd
    · exact h.pr i s k3 j o e2 k2 es2 h1 hs
def nrf (d : Nat) : AV → Bool
  | .ref s _ => s != d
  | .alias s => s != d
  | .pref s _ _ _ => s != d
  | _ => true
theorem nrf_at {σ : List AV} {d i : Nat} {x : AV} (hn : σ.all (nrf d) = true) (hi : σ[i]? = some x) : nrf d x = true := List.all_eq_true.1 hn _ (List.mem_of_getElem? hi)
theorem RefOk.newbox {σ : List AV} {vs : List Value} (h : RefOk σ vs) {d : Nat} (T : Nat) (cs : List AV) (v : Value) (hn : σ.all (nrf d) = true) : RefOk (σ.set d (.box T cs)) (vs.set d v) := by
  refine ⟨fun i s off T2 cs2 hi hs => ?_, fun i s e k es hi hs => ?_, fun i s k j o e k' es hi hs => ?_⟩
  · obtain ⟨n1, h1⟩ := set_away hi (by intro h; cases h)
    have hsd : d ≠ s := by have := nrf_at hn h1; simp [nrf] at this; exact fun h => this h.symm
    rw [set_other hsd] at hs
    obtain ⟨b, g1, g2⟩ := h.ref i s off T2 cs2 h1 hs
    exact ⟨b, by rw [set_other hsd]; exact g1, by rw [set_other n1]; exact g2⟩
  · obtain ⟨n1, h1⟩ := set_away hi (by intro h; cases h)
    obtain ⟨n2, h2⟩ := set_away hs (by intro h; cases h)
    rw [set_other n1, set_other n2]
    exact h.al i s e k es h1 h2
  · obtain ⟨n1, h1⟩ := set_away hi (by intro h; cases h)
    obtain ⟨n2, h2⟩ := set_away hs (by intro h; cases h)
    obtain ⟨b, n, cap, g1, g2⟩ := h.pr i s k j o e k' es h1 h2
    exact ⟨b, n, cap, by rw [set_other n2]; exact g1, by rw [set_other n1]; exact g2⟩
/-- A row in a slot that nothing points to. -/
theorem RefOk.newrow {σ : List AV} {vs : List Value} (h : RefOk σ vs) {d : Nat} (e k : Nat) (es : List AV) (v : Value) (hn : σ.all (nrf d) = true) : RefOk (σ.set d (.row e k es)) (vs.set d v) := by
  refine ⟨fun i s off T2 cs2 hi hs => ?_, fun i s e2 k2 es2 hi hs => ?_, fun i s k3 j o e2 k2 es2 hi hs => ?_⟩
  · obtain ⟨n1, h1⟩ := set_away hi (by intro h; cases h)
    obtain ⟨n2, h2⟩ := set_away hs (by intro h; cases h)
    obtain ⟨b, g1, g2⟩ := h.ref i s off T2 cs2 h1 h2
    exact ⟨b, by rw [set_other n2]; exact g1, by rw [set_other n1]; exact g2⟩
  · obtain ⟨n1, h1⟩ := set_away hi (by intro h; cases h)
    have hsd : d ≠ s := by have := nrf_at hn h1; simp [nrf] at this; exact fun h => this h.symm
    rw [set_other hsd] at hs ⊢
    rw [set_other n1]
    exact h.al i s e2 k2 es2 h1 hs
  · obtain ⟨n1, h1⟩ := set_away hi (by intro h; cases h)
    have hsd : d ≠ s := by have := nrf_at hn h1; simp [nrf] at this; exact fun h => this h.symm
    rw [set_other hsd] at hs
    obtain ⟨b, n, cap, g1, g2⟩ := h.pr i s k3 j o e2 k2 es2 h1 hs
    exact ⟨b, n, cap, by rw [set_other hsd]; exact g1, by rw [set_other n1]; exact g2⟩
theorem RefOk.newref {σ : List AV} {vs : List Value} (h : RefOk σ vs) {d s off b T : Nat} {cs : List AV} (hs : σ[s]? = some (.box T cs)) (hsd : s ≠ d) (hb : vs[s]? = some (.pointer (some ⟨b, 0, none⟩))) (hl : vs.length = σ.length) :
    RefOk (σ.set d (.ref s off)) (vs.set d (.pointer (some ⟨b, off, none⟩))) := by
  refine ⟨fun i s2 off2 T2 cs2 hi hs2 => ?_, fun i s2 e k es hi hs2 => ?_, fun i s2 k j o e k' es hi hs2 => ?_⟩
  · obtain ⟨n2, h2⟩ := set_away hs2 (by intro h; cases h)
    rw [List.getElem?_set] at hi
    split at hi
    · rename_i hdi
      split at hi
      · rename_i hdl
        injection hi with hi
        cases hi
        subst hdi
        exact ⟨b, by rw [set_other n2]; exact hb, by rw [List.getElem?_set, if_pos rfl, if_pos (by omega)]⟩
      · cases hi
    · rename_i hdi
      obtain ⟨b', g1, g2⟩ := h.ref i s2 off2 T2 cs2 hi h2
      exact ⟨b', by rw [set_other n2]; exact g1, by rw [set_other hdi]; exact g2⟩
  · obtain ⟨n1, h1⟩ := set_away hi (by intro h; cases h)
    obtain ⟨n2, h2⟩ := set_away hs2 (by intro h; cases h)
    rw [set_other n1, set_other n2]
    exact h.al i s2 e k es h1 h2
  · obtain ⟨n1, h1⟩ := set_away hi (by intro h; cases h)
    obtain ⟨n2, h2⟩ := set_away hs2 (by intro h; cases h)
    obtain ⟨b', n, cap, g1, g2⟩ := h.pr i s2 k j o e k' es h1 h2
    exact ⟨b', n, cap, by rw [set_other n2]; exact g1, by rw [set_other n1]; exact g2⟩
/-- The slice of a row, in another slot. -/
theorem RefOk.newal {σ : List AV} {vs : List Value} (h : RefOk σ vs) {d s : Nat} {v : Value} (hsd : s ≠ d) (hv : vs[s]? = some v) (hl : vs.length = σ.length) : RefOk (σ.set d (.alias s)) (vs.set d v) := by
  refine ⟨fun i s2 off2 T2 cs2 hi hs2 => ?_, fun i s2 e k es hi hs2 => ?_, fun i s2 k j o e k' es hi hs2 => ?_⟩
  · obtain ⟨n1, h1⟩ := set_away hi (by intro h; cases h)
    obtain ⟨n2, h2⟩ := set_away hs2 (by intro h; cases h)
    obtain ⟨b, g1, g2⟩ := h.ref i s2 off2 T2 cs2 h1 h2
    exact ⟨b, by rw [set_other n2]; exact g1, by rw [set_other n1]; exact g2⟩
  · obtain ⟨n2, h2⟩ := set_away hs2 (by intro h; cases h)
    rw [List.getElem?_set] at hi
    split at hi
    · rename_i hdi
      split at hi
      · rename_i hdl
        injection hi with hi
        cases hi
        subst hdi
        rw [set_other hsd.symm, hv]
        rw [List.getElem?_set, if_pos rfl, if_pos (by omega)]
      · cases hi
    · rename_i hdi
      rw [set_other hdi, set_other n2]
      exact h.al i s2 e k es hi h2
  · obtain ⟨n1, h1⟩ := set_away hi (by intro h; cases h)
    obtain ⟨n2, h2⟩ := set_away hs2 (by intro h; cases h)
    obtain ⟨b, n, cap, g1, g2⟩ := h.pr i s2 k j o e k' es h1 h2
    exact ⟨b, n, cap, by rw [set_other n2]; exact g1, by rw [set_other n1]; exact g2⟩
/-- The address of a part of a row's element. -/
theorem RefOk.newpref {σ : List AV} {vs : List Value} (h : RefOk σ vs) {d s k j o b n cap : Nat} (hsd : s ≠ d) (hv : vs[s]? = some (.slice (some ⟨b, 0, none⟩) n cap)) (hl : vs.length = σ.length) :
    RefOk (σ.set d (.pref s k j o)) (vs.set d (.pointer (some ⟨b, j * k + o, none⟩))) := by
  refine ⟨fun i s2 off2 T2 cs2 hi hs2 => ?_, fun i s2 e k es hi hs2 => ?_, fun i s2 k2 j2 o2 e k' es hi hs2 => ?_⟩
  · obtain ⟨n1, h1⟩ := set_away hi (by intro h; cases h)
    obtain ⟨n2, h2⟩ := set_away hs2 (by intro h; cases h)
    obtain ⟨b, g1, g2⟩ := h.ref i s2 off2 T2 cs2 h1 h2
    exact ⟨b, by rw [set_other n2]; exact g1, by rw [set_other n1]; exact g2⟩
  · obtain ⟨n1, h1⟩ := set_away hi (by intro h; cases h)
    obtain ⟨n2, h2⟩ := set_away hs2 (by intro h; cases h)
    rw [set_other n1, set_other n2]
    exact h.al i s2 e k es h1 h2
  · obtain ⟨n2, h2⟩ := set_away hs2 (by intro h; cases h)
    rw [List.getElem?_set] at hi
    split at hi
    · rename_i hdi
      split at hi
      · rename_i hdl
        injection hi with hi
        cases hi
        subst hdi
        exact ⟨b, n, cap, by rw [set_other hsd.symm]; exact hv, by rw [List.getElem?_set, if_pos rfl, if_pos (by omega)]⟩
      · cases hi
    · rename_i hdi
      obtain ⟨b', n', cap', g1, g2⟩ := h.pr i s2 k2 j2 o2 e k' es hi h2
      exact ⟨b', n', cap', by rw [set_other n2]; exact g1, by rw [set_other hdi]; exact g2⟩
def upd (S : Nat → Nat) (b s : Nat) : Nat → Nat := fun x => if x = b then s else S x
theorem Gs.upd0 {w : World} {S : Nat → Nat} (h : Gs w S) {b : Nat} (hS : S b = 0) (n : Nat) : Gs w (upd S b n) := fun g hg => by
  obtain ⟨h1, v, h2, h3⟩ := h g hg
  have hne : g.1 ≠ b := by intro e; rw [e] at h1; omega
  exact ⟨by simpa [upd, hne] using h1, v, h2, h3⟩

section
variable {w w' w'' : World} {S S' S'' c c' c'' : Nat → Nat}

theorem Stp.refl (w : World) (S c : Nat → Nat) : Stp w S c w S c :=
  ⟨rfl, rfl, ⟨rfl, fun _ => Nat.le_refl _⟩, Nat.le_refl _, fun _ _ _ => ⟨rfl, rfl⟩, fun _ _ _ => rfl, fun _ => Nat.le_refl _, fun _ _ => Nat.le_refl _⟩
theorem Stp.trans (h : Stp w S c w' S' c') (k : Stp w' S' c' w'' S'' c'') : Stp w S c w'' S'' c'' where
  os := k.os.trans h.os
  tape := k.tape.trans h.tape
  output := ⟨k.output.1.trans h.output.1, fun e => Nat.le_trans (h.output.2 e) (k.output.2 e)⟩
  size := Nat.le_trans h.size k.size
  keep b hb hc := by
    have h1 := h.keep b hb hc
    have h2 := k.keep b (Nat.lt_of_lt_of_le hb h.size) (by have := h.own b hb; omega)
    exact ⟨h2.1.trans h1.1, h2.2.trans h1.2⟩
  cell b o ho := (k.cell b o (Nat.lt_of_lt_of_le ho (h.le b))).trans (h.cell b o ho)
  le b := Nat.le_trans (h.le b) (k.le b)
  own b hb := Nat.le_trans (k.own b (Nat.lt_of_lt_of_le hb h.size)) (h.own b hb)
theorem Stp.drop (h : Stp w S c w' S' c') (hc : ∀ b, c'' b ≤ c' b) : Stp w S c w' S' c'' :=
  ⟨h.os, h.tape, h.output, h.size, h.keep, h.cell, h.le, fun b hb => Nat.le_trans (hc b) (h.own b hb)⟩

theorem RepC.lt {xs vs c} (h : RepC w S xs vs c) : ∀ b, 0 < c b → b < w.heap.size := by
  induction h with
  | nil hc => intro b hb; have := hc b; omega
  | any h ih => exact ih
  | raw h1 h ih => exact ih
  | agg h1 hoc h hc ih1 ih =>
    intro b hb
    rw [hc] at hb
    rename_i c1 c2
    rcases Nat.lt_or_ge 0 (c1 b) with h | h
    · exact ih1 b h
    · exact ih b (by omega)
  | tup h1 h hc ih1 ih =>
    intro b hb
    rw [hc] at hb
    rename_i c1 c2
    rcases Nat.lt_or_ge 0 (c1 b) with h | h
    · exact ih1 b h
    · exact ih b (by omega)
  | nilS h ih => exact ih
  | slE hcap h ih => exact ih
  | sl hn hcap hsp hk h1 h0 hcell hst h ih1 ih => exact ih
  | ownE h ih => exact ih
  | own hn hcap hk hb hs' hS' h1 h0 hoc h hc ih1 ih =>
    intro x hx
    rw [hc] at hx
    split at hx
    · rename_i hxb
      subst hxb
      exact (Array.getElem?_eq_some_iff.1 hb).1
    · exact ih x (by omega)
  | box hb hS' h1 hoc h hc ih1 ih =>
    intro x hx
    rw [hc] at hx
    rename_i c1 c2
    split at hx
    · rename_i hxb
      subst hxb
      exact (Array.getElem?_eq_some_iff.1 hb).1
    · rcases Nat.lt_or_ge 0 (c1 x) with h | h
      · exact ih1 x h
      · exact ih x (by omega)
  | ref h ih => exact ih
  | alias h ih => exact ih
  | pref h ih => exact ih
  | slx hcap hsp hk h1 h0 hcell hst h ih1 ih => exact ih
  | nbox hb hS h1 hoc h hc ih1 ih =>
    intro x hx
    rw [hc] at hx
    rename_i c1 c2
    split at hx
    · rename_i hxb
      subst hxb
      exact (Array.getElem?_eq_some_iff.1 hb).1
    · rcases Nat.lt_or_ge 0 (c1 x) with h | h
      · exact ih1 x h
      · exact ih x (by omega)
  | nmap hb hS hks hbn h1 h hc ih1 ih =>
    intro x hx
    rw [hc] at hx
    rename_i c1 c2
    split at hx
    · rename_i hxb
      subst hxb
      exact (Array.getElem?_eq_some_iff.1 hb).1
    · rcases Nat.lt_or_ge 0 (c1 x) with h | h
      · exact ih1 x h
      · exact ih x (by omega)
  | rowE h ih => exact ih
  | mineE h ih => exact ih
  | clo h1 h0 h ih1 ih => exact ih
  | yld h ih => exact ih
  | row hn hcap hk hb hs' hS' h1 h0 hoc h hc ih1 ih =>
    intro x hx
    rw [hc] at hx
    split at hx
    · rename_i hxb
      subst hxb
      exact (Array.getElem?_eq_some_iff.1 hb).1
    · exact ih x (by omega)
  | mine hn hcap hk hb hs' hS' h1 h0 hoc h hc ih1 ih =>
    intro x hx
    rw [hc] at hx
    split at hx
    · rename_i hxb
      subst hxb
      exact (Array.getElem?_eq_some_iff.1 hb).1
    · exact ih x (by omega)
  | elt hsp h1 h0 hcell hst h ih1 ih => exact ih

/-- What is held beside the step stays. -/
theorem RepC.step {xs vs d} (h : RepC w S xs vs d) (k : Stp w S c w' S' c') (hd : ∀ b, d b + c b ≤ 1) : RepC w' S' xs vs d :=
  h.keep k.cell k.le fun b hb => k.keep b (h.lt b hb) (by have := hd b; omega)

theorem Stp.alloc (hz : Sz w S) (o : Obj) (s : Nat) : Stp w S c (w.alloc o) (upd S w.heap.size s) (fun x => (if x = w.heap.size then 1 else 0) + c x) where
  os := rfl
  tape := rfl
  output := ⟨rfl, fun _ => Nat.le_refl _⟩
  size := by simp
  keep b hb _ := ⟨Below.heap_alloc w o b hb, by simp [upd, Nat.ne_of_lt hb]⟩
  cell b o' ho := by
    have hb : b < w.heap.size := by
      rcases Nat.lt_or_ge b w.heap.size with h | h
      · exact h
      · rw [hz b h] at ho; omega
    exact World.cell?_of_block (Below.heap_alloc w o b hb)
  le b := by
    unfold upd
    split
    · rename_i h; subst h; rw [hz _ (Nat.le_refl _)]; omega
    · exact Nat.le_refl _
  own b hb := by simp [Nat.ne_of_lt hb]
theorem Sz.alloc (hz : Sz w S) (o : Obj) (s : Nat) : Sz (w.alloc o) (upd S w.heap.size s) := by
  refine hz.stp (Stp.alloc (c := fun _ => 0) hz o s) fun b hb => ?_
  simp at hb
  simp [upd, show b ≠ w.heap.size by omega, hz b (by omega)]
theorem Stp.drew : Stp w S c w.drew S c := ⟨rfl, rfl, ⟨rfl, fun _ => Nat.le_succ _⟩, Nat.le_refl _, fun _ _ _ => ⟨rfl, rfl⟩, fun _ _ _ => rfl, fun _ => Nat.le_refl _, fun _ _ => Nat.le_refl _⟩
theorem Sz.drew (hz : Sz w S) : Sz w.drew S := hz.stp (Stp.drew (c := fun _ => 0)) hz.z

theorem Stt.drew {w0 S0 c0 σ a} (h : Stt dfs w0 S0 c0 σ a w) : Stt dfs w0 S0 c0 σ a w.drew := by
  obtain ⟨hrf, S, c, hr, h1, hd, hz, hs⟩ := h
  refine ⟨hrf, S, c, ?_, h1, hd, hz.drew, hs.trans Stp.drew⟩
  exact hr.keep (fun _ _ _ => rfl) (fun _ => Nat.le_refl _) (fun _ _ => ⟨rfl, rfl⟩)
end

/-! ## operands -/
def ac1 : Value → AV
  | .slice none 0 0 => .nil
  | .agg _ => .any
  | .tuple _ => .any
  | v => .raw v
def aconst : Value → AV
  | .agg cs => if cs.toList.all Value.oneCell' then .agg (cs.toList.map ac1) else .any
  | v => ac1 v
def aev (σ : List AV) : Operand → AV
  | .tmp t => pl (σ.getD t .any)
  | .const v => aconst v
  | .global _ => .any
  | .func f => .raw (.func (.func f) #[] #[])
def amv1 (σ : List AV) (t : Nat) : AV → List AV
  | .own e k es => σ.set t (view (.own e k es))
  | .agg cs => σ.set t (view (.agg cs))
  | .tup cs => σ.set t (view (.tup cs))
  | .mine e k es => σ.set t (view (.mine e k es))
  | _ => σ
def amv (σ : List AV) : Operand → List AV
  | .tmp t => amv1 σ t (σ.getD t .any)
  | _ => σ
def agrab (σ : List AV) : List Operand → List AV × List AV
  | [] => ([], σ)
  | x :: xs => (aev σ x :: (agrab (amv σ x) xs).1, (agrab (amv σ x) xs).2)
def aset (σ : List AV) (d : Option Nat) (v : AV) : List AV :=
  match d with
  | some d => σ.set d v
  | none => σ

section
variable {w : World} {S : Nat → Nat}
theorem rep_ac1 (v : Value) : RepC w S [ac1 v] [v] (fun _ => 0) := by
  unfold ac1
  split
  · exact .nilS (.nil zc0)
  · exact .any (.nil zc0)
  · exact .any (.nil zc0)
  · rename_i h1 h2 h3
    refine .raw ?_ (.nil zc0)
    cases v <;> first | rfl | exact absurd rfl (h2 _) | exact absurd rfl (h3 _)
theorem rep_ac1s (vs : List Value) : RepC w S (vs.map ac1) vs (fun _ => 0) := by
  induction vs with
  | nil => exact .nil zc0
  | cons v vs ih => exact RepC.cons (rep_ac1 v) ih (fun b => by simp)
theorem rep_aconst (v : Value) : RepC w S [aconst v] [v] (fun _ => 0) := by
  cases v with
  | agg cs =>
    simp only [aconst]
    split
    · rename_i h
      have := RepC.agg (w := w) (S := S) (rep_ac1s cs.toList) (fun u hu => by simpa using List.all_eq_true.1 h u hu) (.nil zc0) (c := fun _ => 0) (fun b => by simp)
      simpa using this
    · exact .any (.nil zc0)
  | _ => simp only [aconst]; exact rep_ac1 _

theorem set_self {σ : List AV} {t : Nat} (ht : t < σ.length) {x : AV} (hx : σ.getD t .any = x) : σ.set t x = σ := by
  subst hx
  simp [ht]
theorem amv_tmp (σ : List AV) (t : Nat) (ht : t < σ.length) (hp : pb (σ.getD t .any) = true) : amv σ (.tmp t) = σ.set t (view (σ.getD t .any)) := by
  simp only [amv]
  revert hp
  generalize hx : σ.getD t .any = x
  intro hp
  cases x <;> first | rfl | (simp only [amv1, view, v2, v1]; exact (set_self ht hx).symm) | (simp [pb] at hp)
theorem amv_box (σ : List AV) (t : Nat) (hp : pb (σ.getD t .any) = false) : amv σ (.tmp t) = σ ∧ pl (σ.getD t .any) = .any := by
  simp only [amv]
  revert hp
  generalize σ.getD t .any = x
  intro hp
  cases x <;> simp [pb] at hp <;> exact ⟨rfl, rfl⟩
theorem pl_self {x : AV} (hp : pb x = true) : pl x = x := by cases x <;> simp [pb] at hp <;> rfl
theorem pb_view {x : AV} : pb (view x) = true := by
  cases x <;> simp [view, v2, v1, pb]
theorem RefOk.amv {σ : List AV} {vs : List Value} (h : RefOk σ vs) (x : Operand) : RefOk (amv σ x) vs := by
  cases x with
  | tmp t =>
    by_cases ht : t < σ.length
    · by_cases hp : pb (σ.getD t .any) = true
      · rw [amv_tmp σ t ht hp]; exact h.less t pb_view
      · rw [(amv_box σ t (by simpa using hp)).1]; exact h
    · have hx : σ.getD t .any = .any := by simp [show σ.length ≤ t from Nat.le_of_not_lt ht]
      simp only [Ytohelofjlkoboaa.amv, hx, amv1]; exact h
  | _ => exact h
theorem RefOk.agrab {vs : List Value} : ∀ (xs : List Operand) {σ : List AV}, RefOk σ vs → RefOk (agrab σ xs).2 vs
  | [], σ, h => h
  | x :: xs, σ, h => RefOk.agrab xs (h.amv x)
theorem list_set_same {α : Type} {l : List α} {t : Nat} {v : α} (h : l[t]? = some v) : l.set t v = l := by
  apply List.ext_getElem?
  intro j
  rw [List.getElem?_set]
  split
  · rename_i hj; subst hj
    have := (List.getElem?_eq_some_iff.1 h).1
    rw [h]; simp [this]
  · rfl
theorem grab1 {σ : List AV} {a : Act} {c : Nat → Nat} (h : RepC w S σ a.tmps.toList c) (x : Operand) :
    ∃ c1 c2, RepC w S [aev σ x] [a.eval x] c1 ∧ RepC w S (amv σ x) a.tmps.toList c2 ∧ ∀ b, c b = c1 b + c2 b := by
  cases x with
  | const v => exact ⟨_, c, rep_aconst v, h, fun b => by simp⟩
  | func f => exact ⟨_, c, .raw rfl (.nil zc0), h, fun b => by simp⟩
  | global g => exact ⟨_, c, .any (.nil zc0), h, fun b => by simp⟩
  | tmp t =>
    by_cases ht : t < σ.length
    · have hx : σ[t]? = some (σ.getD t .any) := by simp [ht]
      obtain ⟨v, c1, c2, hv, h1, h2, hc⟩ := h.take t hx
      have hev : a.eval (.tmp t) = v := by
        simp only [Act.eval, Array.getD_eq_getD_getElem?]
        rw [← Array.getElem?_toList, hv]
        rfl
      rw [hev]
      by_cases hp : pb (σ.getD t .any) = true
      · rw [amv_tmp σ t ht hp]
        have := h2.fill h1.view t (by simp [ht])
        rw [List.set_set, list_set_same hv] at this
        exact ⟨c1, c2, by simp only [aev]; rw [pl_self hp]; exact h1, this.congr fun b => by simp, hc⟩
      · obtain ⟨e1, e2⟩ := amv_box σ t (by simpa using hp)
        rw [e1]
        simp only [aev]
        rw [e2]
        exact ⟨_, c, .any (.nil zc0), h, fun b => by simp⟩
    · have hx : σ.getD t .any = .any := by simp [show σ.length ≤ t from Nat.le_of_not_lt ht]
      simp only [aev, amv, hx, amv1, pl]
      exact ⟨_, c, .any (.nil zc0), h, fun b => by simp⟩
theorem grabs : ∀ (xs : List Operand) {σ : List AV} {a : Act} {c : Nat → Nat}, RepC w S σ a.tmps.toList c →
    ∃ c1 c2, RepC w S (agrab σ xs).1 (xs.map a.eval) c1 ∧ RepC w S (agrab σ xs).2 a.tmps.toList c2 ∧ ∀ b, c b = c1 b + c2 b
  | [], σ, a, c, h => ⟨fun _ => 0, c, .nil zc0, h, fun b => by simp⟩
  | x :: xs, σ, a, c, h => by
    obtain ⟨c1, c2, h1, h2, hc⟩ := grab1 h x
    obtain ⟨d1, d2, h3, h4, hd⟩ := grabs xs h2
    exact ⟨_, d2, RepC.cons h1 h3 (fun b => rfl), h4, fun b => by rw [hc, hd]; omega⟩

theorem put_tmps (a : Act) (d : Option Tmp) (v : Value) : (a.put d v).tmps.toList = match d with | some d => a.tmps.toList.set d v | none => a.tmps.toList := by
  cases d <;> simp [Act.put]
theorem put_defers (a : Act) (d : Option Tmp) (v : Value) : (a.put d v).defers = a.defers := by cases d <;> rfl
/-- A value put into its slot. -/
theorem RepC.aset {σ : List AV} {a : Act} {c c1 : Nat → Nat} (h : RepC w S σ a.tmps.toList c) {y : AV} {u : Value} (hy : RepC w S [y] [u] c1) (d : Option Tmp) :
    ∃ c', RepC w S (aset σ d y) (a.put d u).tmps.toList c' ∧ ∀ b, c' b ≤ c1 b + c b := by
  rw [put_tmps]
  cases d with
  | none => exact ⟨c, h, fun b => by omega⟩
  | some d =>
    by_cases hd : d < σ.length
    · exact h.put hy d hd
    · have hl := h.length
      refine ⟨c, ?_, fun b => by omega⟩
      simp only [Ytohelofjlkoboaa.aset]
      have hd : σ.length ≤ d := Nat.le_of_not_lt hd
      rw [List.set_eq_of_length_le hd, List.set_eq_of_length_le (by rw [hl]; exact hd)]
      exact h
end

theorem RefOk.aset {σ : List AV} {a : Act} (h : RefOk σ a.tmps.toList) (d : Option Tmp) {y : AV} (v : Value) (hy : pb y = true) : RefOk (aset σ d y) (a.put d v).tmps.toList := by
  rw [put_tmps]
  cases d with
  | none => exact h
  | some d => exact h.set d v hy
theorem pb_aev (σ : List AV) (x : Operand) : pb (aev σ x) = true := by
  cases x with
  | tmp t => exact pb_pl _
  | const v =>
    simp only [aev]
    cases v <;> simp only [aconst] <;> first | (split <;> rfl) | (unfold ac1; split <;> rfl)
  | _ => rfl
/-- A step that takes its operands, leaves the world, and puts a value. -/
theorem Stt.value {w0 S0 c0} {w : World} {S c} {σ' : List AV} {a : Act} {c1 c2 : Nat → Nat} {y : AV} {u : Value} (hrf : RefOk σ' a.tmps.toList) (hp : pb y = true) (h1 : ∀ b, c b ≤ 1) (hd : a.defers = dfs) (hz : Sz w S) (hs : Stp w0 S0 c0 w S c)
    (hr : RepC w S σ' a.tmps.toList c2) (hy : RepC w S [y] [u] c1) (hc : ∀ b, c1 b + c2 b ≤ c b) (d : Option Nat) : Stt dfs w0 S0 c0 (aset σ' d y) (a.put d u) w := by
  obtain ⟨c', h2, h3⟩ := hr.aset hy d
  exact ⟨hrf.aset d u hp, S, c', h2, fun b => by have := h1 b; have := h3 b; have := hc b; omega, by rw [put_defers]; exact hd, hz, hs.drop fun b => by have := h3 b; have := hc b; omega⟩
end Go.Proofs.Ytohelofjlkoboaa
