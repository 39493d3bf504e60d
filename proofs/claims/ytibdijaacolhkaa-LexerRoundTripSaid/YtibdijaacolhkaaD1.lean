/- What an operation touches, and that it comes out one way: for regions whose order is drawn. -/
import Derived.Test.YtibdijaacolhkaaA7
namespace Go.Proofs.Ytibdijaacolhkaa
open Go.RowKit
set_option linter.unusedVariables false
set_option linter.unusedSimpArgs false

/-- An operation, without the watch over addresses of the slot that a new block goes to. -/
def bop (P : Program) (T : Tab) (o : Oper) (σ : List AV) (K : List AV → Prop) : Prop :=
  match o.op with
  | .alloc t => match T t with
    | some i => match o.dst with
      | some d => allOne i.zero = true ∧ K (σ.set d (.box t (i.zero.map ac1)))
      | none => False
    | none => False
  | .box t x => match o.dst with
    | some d => okc (aev σ x) = true ∧ K ((amv σ x).set d (.box t (cellsOf (aev σ x))))
    | none => False
  | _ => aop P T o σ K

/-! ## patches -/
def pat (D : List Nat) (σ τ : List AV) : List AV := τ.mapIdx fun i y => if D.contains i then σ.getD i .any else y
section
variable {D : List Nat} {σ τ : List AV}
theorem pat_length : (pat D σ τ).length = τ.length := by simp [pat]
theorem pat_get {t : Nat} (ht : t < τ.length) : (pat D σ τ).getD t .any = if D.contains t then σ.getD t .any else τ.getD t .any := by
  simp [pat, List.getD_eq_getElem?_getD, List.getElem?_mapIdx, ht]
theorem getD_out {l : List AV} {t : Nat} (h : l.length ≤ t) : l.getD t .any = .any := by simp [List.getD_eq_getElem?_getD, List.getElem?_eq_none h]
theorem pat_in (hl : σ.length = τ.length) {t : Nat} (hd : D.contains t = true) : (pat D σ τ).getD t .any = σ.getD t .any := by
  by_cases ht : t < τ.length
  · rw [pat_get ht, if_pos hd]
  · rw [getD_out (by rw [pat_length]; omega), getD_out (by omega)]
theorem list_ext {l m : List AV} (hl : l.length = m.length) (h : ∀ t, t < m.length → l.getD t .any = m.getD t .any) : l = m := by
  apply List.ext_getElem hl
  intro i h1 h2
  have := h i h2
  simpa [List.getD_eq_getElem?_getD, h1, h2] using this
theorem getD_set' {l : List AV} {i t : Nat} {x : AV} (ht : t < l.length) : (l.set i x).getD t .any = if i = t then x else l.getD t .any := by
  simp only [List.getD_eq_getElem?_getD, List.getElem?_set]
  split
  · rename_i h; subst h; simp [ht]
  · rfl
theorem pat_set (hl : σ.length = τ.length) {i : Nat} (x : AV) (hd : D.contains i = true) : (pat D σ τ).set i x = pat D (σ.set i x) τ := by
  refine list_ext (by simp [pat_length]) fun t ht => ?_
  rw [pat_length] at ht
  rw [getD_set' (by rw [pat_length]; exact ht), pat_get ht, pat_get ht, getD_set' (by omega)]
  by_cases h : i = t
  · subst h; simp [hd]; exact fun h => absurd (by simpa using hd) h
  · simp [h]
theorem pat_self : pat D σ σ = σ := list_ext pat_length fun t ht => by rw [pat_get ht]; split <;> rfl

def opin (D : List Nat) : Operand → Prop
  | .tmp t => D.contains t = true
  | _ => True
theorem aev_pat (hl : σ.length = τ.length) {x : Operand} (hx : opin D x) : aev (pat D σ τ) x = aev σ x := by
  cases x <;> simp only [aev]
  rw [pat_in hl hx]
theorem amv1_pat (hl : σ.length = τ.length) {t : Nat} (hx : D.contains t = true) (y : AV) : amv1 (pat D σ τ) t y = pat D (amv1 σ t y) τ := by
  cases y <;> simp only [amv1] <;> first | rfl | exact pat_set hl _ hx
theorem amv_pat (hl : σ.length = τ.length) {x : Operand} (hx : opin D x) : amv (pat D σ τ) x = pat D (amv σ x) τ := by
  cases x <;> simp only [amv]
  rw [pat_in hl hx]
  exact amv1_pat hl hx _
theorem amv1_length {t : Nat} {y : AV} : (amv1 σ t y).length = σ.length := by cases y <;> simp [amv1]
theorem amv_length {x : Operand} : (amv σ x).length = σ.length := by
  cases x <;> simp only [amv]
  exact amv1_length
theorem agrab_length : ∀ (xs : List Operand) {σ : List AV}, (agrab σ xs).2.length = σ.length
  | [], σ => rfl
  | x :: xs, σ => by simp only [agrab]; rw [agrab_length xs, amv_length]
theorem agrab_pat : ∀ (xs : List Operand) {σ : List AV}, σ.length = τ.length → (∀ x ∈ xs, opin D x) → agrab (pat D σ τ) xs = ((agrab σ xs).1, pat D (agrab σ xs).2 τ)
  | [], σ, hl, hx => rfl
  | x :: xs, σ, hl, hx => by
    have h1 := hx x (by simp)
    simp only [agrab]
    rw [aev_pat hl h1, amv_pat hl h1, agrab_pat xs (by rw [amv_length]; exact hl) (fun y hy => hx y (by simp [hy]))]
theorem aset_pat (hl : σ.length = τ.length) {d : Option Nat} (x : AV) (hd : ∀ t, d = some t → D.contains t = true) : aset (pat D σ τ) d x = pat D (aset σ d x) τ := by
  cases d with
  | none => rfl
  | some d => exact pat_set hl x (hd d rfl)
theorem aset_length {d : Option Nat} {x : AV} : (aset σ d x).length = σ.length := by cases d <;> simp [aset]
end

/-- The base of an address that the operation follows lies among those slots. -/
def tch (D : List Nat) (op : Op) (σ : List AV) : Prop :=
  match op with
  | .load _ (.tmp s) => match σ.getD s .any with
    | .ref s' _ => D.contains s' = true
    | _ => True
  | .store _ (.tmp s) _ => match σ.getD s .any with
    | .ref s' _ => D.contains s' = true
    | _ => True
  | .fieldAddr _ (.tmp s) _ => match σ.getD s .any with
    | .ref s' _ => D.contains s' = true
    | _ => True
  | _ => True

theorem amv_npb {σ : List AV} {y : Operand} {s : Nat} {x : AV} (hx : pb x = false) : (amv σ y).getD s .any = x ↔ σ.getD s .any = x := by
  cases y with
  | tmp t =>
    simp only [amv]
    by_cases ht : t < σ.length
    · by_cases hp : pb (σ.getD t .any) = true
      · have h1 := amv_tmp σ t ht hp
        simp only [amv] at h1
        rw [h1]
        by_cases hs : s < σ.length
        · rw [getD_set' hs]
          split
          · rename_i h; subst h
            constructor
            · intro h
              have := pb_view (x := σ.getD t .any)
              rw [h, hx] at this; cases this
            · intro h; rw [h, hx] at hp; cases hp
          · rfl
        · rw [getD_out (by rw [List.length_set]; omega), getD_out (by omega)]
      · have h1 := (amv_box σ t (by simpa using hp)).1
        simp only [amv] at h1
        rw [h1]
    · have hx : σ.getD t .any = .any := getD_out (Nat.le_of_not_lt ht)
      rw [hx]; rfl
  | _ => rfl
theorem amv_ref {σ : List AV} {y : Operand} {s s' off : Nat} : (amv σ y).getD s .any = .ref s' off ↔ σ.getD s .any = .ref s' off := amv_npb rfl
theorem all_nrf_amv {σ : List AV} {y : Operand} {d : Nat} (h : σ.all (nrf d) = true) : (amv σ y).all (nrf d) = true := by
  rw [List.all_eq_true] at *
  intro x hx
  obtain ⟨i, hi, hxi⟩ := List.getElem_of_mem hx
  have hg : (amv σ y).getD i .any = x := by simp [List.getD_eq_getElem?_getD, hi, hxi]
  have hi' : i < σ.length := by rw [amv_length] at hi; exact hi
  cases hp : pb x with
  | true => cases x <;> first | rfl | (simp [pb] at hp)
  | false =>
    have hm : σ.getD i .any ∈ σ := by simp [List.getD_eq_getElem?_getD, hi']
    rw [(amv_npb hp).1 hg] at hm
    exact h _ hm
theorem aop_of_bop {P : Program} {T : Tab} {o : Oper} {σ : List AV} {K : List AV → Prop} (h : bop P T o σ K)
    (hn : ∀ d, o.dst = some d → (match o.op with
      | .alloc _ => True
      | .box _ _ => True
      | _ => False) → σ.all (nrf d) = true) : aop P T o σ K := by
  unfold bop at h
  split at h
  · rename_i t ho
    unfold aop
    simp only [ho] at hn ⊢
    split at h
    · rename_i i hi
      simp only [hi]
      split at h
      · rename_i d hd
        simp only [hd, aalloc]
        exact ⟨h.1, hn d hd trivial, h.2⟩
      · exact h.elim
    · exact h.elim
  · rename_i t x ho
    unfold aop
    simp only [ho] at hn ⊢
    split at h
    · rename_i d hd
      simp only [hd, abox]
      exact ⟨h.1, all_nrf_amv (hn d hd trivial), h.2⟩
    · exact h.elim
  · exact h
theorem bop_of_aop {P : Program} {T : Tab} {o : Oper} {σ : List AV} {K : List AV → Prop} (h : aop P T o σ K) : bop P T o σ K := by
  unfold bop
  split
  · rename_i t ho
    unfold aop at h
    simp only [ho] at h
    split at h
    · rename_i i hi
      simp only [hi]
      unfold aalloc at h
      split at h
      · rename_i d hd; simp only [hd]; exact ⟨h.1, h.2.2⟩
      · exact h.elim
    · exact h.elim
  · rename_i t x ho
    unfold aop at h
    simp only [ho] at h
    unfold abox at h
    split at h
    · rename_i d hd; simp only [hd]; exact ⟨h.1, h.2.2⟩
    · exact h.elim
  · exact h
end Go.Proofs.Ytibdijaacolhkaa
