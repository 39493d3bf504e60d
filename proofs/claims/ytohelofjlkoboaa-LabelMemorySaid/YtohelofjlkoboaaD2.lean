/- What an operation touches, and that it comes out one way: for regions whose order is drawn. What an operation does is the same whatever stands in the slots that it does not touch. -/
import Derived.Test.YtohelofjlkoboaaR2
namespace Go.Proofs.Ytohelofjlkoboaa
open Go.RowKit
set_option linter.unusedVariables false
set_option linter.unusedSimpArgs false
set_option linter.unusedSectionVars false
variable [Env]

/-- An operation, without the watch over addresses of the slot that a new block goes to. -/
def bop0 (P : Program) (T : Tab) (o : Oper) (σ : List AV) (K : List AV → Prop) : Prop :=
  match o.op with
  | .alloc t => match T t with
    | some i => match o.dst with
      | some d => allOne i.zero = true ∧ K (σ.set d (.box t (i.zero.map ac1)))
      | none => False
    | none => False
  | .box t x => match o.dst with
    | some d => okc (aev σ x) = true ∧ K ((amv σ x).set d (.box t (cellsOf (aev σ x))))
    | none => False
  | _ => aop P T o σ K

/-- The same, rows among the slots. -/
def bop (P : Program) (T : Tab) (o : Oper) (σ : List AV) (K : List AV → Prop) : Prop :=
  match o.op with
  | .move (.tmp t) =>
    match σ.getD t .any, o.dst with
    | .row _ _ _, some d => t ≠ d ∧ K (σ.set d (.alias t))
    | .alias s, some d => s ≠ d ∧ K (σ.set d (.alias s))
    | _, _ => bop0 P T o σ K
  | .indexAddr t (.tmp q) y => match σ.getD q .any with
    | .row _ k es => rixa T t q k es.length (aev σ y) o.dst σ K
    | .alias s => (match σ.getD s .any with
      | .row _ k es => rixa T t s k es.length (aev σ y) o.dst σ K
      | _ => bop0 P T o σ K)
    | _ => bop0 P T o σ K
  | .fieldAddr t (.tmp q) f => match σ.getD q .any with
    | .pref s k j off => (match T t with
      | some i => rfad i.td.flds[f]? (σ.getD s .any) s k j off o.dst σ K
      | none => False)
    | _ => bop0 P T o σ K
  | .load t (.tmp q) => match σ.getD q .any with
    | .pref s k j off => (match T t with
      | some i => rpld i (σ.getD s .any) k j off o.dst σ K
      | none => False)
    | _ => bop0 P T o σ K
  | .store t (.tmp q) y => match σ.getD q .any with
    | .pref s k j off => (match T t with
      | some i => rpst i ((amv σ y).getD s .any) s k j off (view (aev σ y)) o.dst (amv σ y) K
      | none => False)
    | _ => bop0 P T o σ K
  | _ => bop0 P T o σ K
/-- It is an operation of one of the two kinds. -/
theorem bop_rop {P : Program} {T : Tab} {o : Oper} {σ : List AV} {K : List AV → Prop} (h : bop P T o σ K) : rop P T o σ K ∨ bop0 P T o σ K := by
  unfold bop at h
  split at h
  · rename_i t ho
    split at h
    · rename_i hx hd; left; unfold rop; simp only [ho, hx, hd]; exact h
    · rename_i hx hd; left; unfold rop; simp only [ho, hx, hd]; exact h
    · exact .inr h
  · rename_i t q y ho
    split at h
    · rename_i hx; left; unfold rop; simp only [ho, rbase, hx]; exact h
    · rename_i hx
      split at h
      · rename_i hx2; left; unfold rop; simp only [ho, rbase, hx, hx2]; exact h
      · exact .inr h
    · exact .inr h
  · rename_i t q f ho
    split at h
    · rename_i hx; left; unfold rop; simp only [ho, hx]; exact h
    · exact .inr h
  · rename_i t q ho
    split at h
    · rename_i hx; left; unfold rop; simp only [ho, hx]; exact h
    · exact .inr h
  · rename_i t q y ho
    split at h
    · rename_i hx; left; unfold rop; simp only [ho, hx]; exact h
    · exact .inr h
  · exact .inr h

/-! ## patches -/
def pat (D : List Nat) (σ τ : List AV) : List AV := τ.mapIdx fun i y => if D.contains i then σ.getD i .any else y
section
variable {D : List Nat} {σ τ : List AV}
theorem pat_length : (pat D σ τ).length = τ.length := by simp [pat]
theorem pat_get {t : Nat} (ht : t < τ.length) : (pat D σ τ).getD t .any = if D.contains t then σ.getD t .any else τ.getD t .any := by
  simp [pat, List.getD_eq_getElem?_getD, List.getElem?_mapIdx, ht]
theorem getD_out {l : List AV} {t : Nat} (h : l.length ≤ t) : l.getD t .any = .any := by simp [List.getD_eq_getElem?_getD, List.getElem?_eq_none h]
theorem pat_in (hl : σ.length = τ.length) {t : Nat} (hd : D.contains t = true) : (pat D σ τ).getD t .any = σ.getD t .any := by
  by_cases ht : t < τ.length
  · rw [pat_get ht, if_pos hd]
  · rw [getD_out (by rw [pat_length]; omega), getD_out (by omega)]
theorem list_ext {l m : List AV} (hl : l.length = m.length) (h : ∀ t, t < m.length → l.getD t .any = m.getD t .any) : l = m := by
  apply List.ext_getElem hl
  intro i h1 h2
  have := h i h2
  simpa [List.getD_eq_getElem?_getD, h1, h2] using this
theorem getD_set' {l : List AV} {i t : Nat} {x : AV} (ht : t < l.length) : (l.set i x).getD t .any = if i = t then x else l.getD t .any := by
  simp only [List.getD_eq_getElem?_getD, List.getElem?_set]
  split
  · rename_i h; subst h; simp [ht]
  · rfl
theorem pat_set (hl : σ.length = τ.length) {i : Nat} (x : AV) (hd : D.contains i = true) : (pat D σ τ).set i x = pat D (σ.set i x) τ := by
  refine list_ext (by simp [pat_length]) fun t ht => ?_
  rw [pat_length] at ht
  rw [getD_set' (by rw [pat_length]; exact ht), pat_get ht, pat_get ht, getD_set' (by omega)]
  by_cases h : i = t
  · subst h; simp [hd]; exact fun h => absurd (by simpa using hd) h
  · simp [h]
theorem pat_self : pat D σ σ = σ := list_ext pat_length fun t ht => by rw [pat_get ht]; split <;> rfl

def opin (D : List Nat) : Operand → Prop
  | .tmp t => D.contains t = true
  | _ => True
theorem aev_pat (hl : σ.length = τ.length) {x : Operand} (hx : opin D x) : aev (pat D σ τ) x = aev σ x := by
  cases x <;> simp only [aev]
  rw [pat_in hl hx]
theorem amv1_pat (hl : σ.length = τ.length) {t : Nat} (hx : D.contains t = true) (y : AV) : amv1 (pat D σ τ) t y = pat D (amv1 σ t y) τ := by
  cases y <;> simp only [amv1] <;> first | rfl | exact pat_set hl _ hx
theorem amv_pat (hl : σ.length = τ.length) {x : Operand} (hx : opin D x) : amv (pat D σ τ) x = pat D (amv σ x) τ := by
  cases x <;> simp only [amv]
  rw [pat_in hl hx]
  exact amv1_pat hl hx _
theorem amv1_length {t : Nat} {y : AV} : (amv1 σ t y).length = σ.length := by cases y <;> simp [amv1]
theorem amv_length {x : Operand} : (amv σ x).length = σ.length := by
  cases x <;> simp only [amv]
  exact amv1_length
theorem agrab_length : ∀ (xs : List Operand) {σ : List AV}, (agrab σ xs).2.length = σ.length
  | [], σ => rfl
  | x :: xs, σ => by simp only [agrab]; rw [agrab_length xs, amv_length]
theorem agrab_pat : ∀ (xs : List Operand) {σ : List AV}, σ.length = τ.length → (∀ x ∈ xs, opin D x) → agrab (pat D σ τ) xs = ((agrab σ xs).1, pat D (agrab σ xs).2 τ)
  | [], σ, hl, hx => rfl
  | x :: xs, σ, hl, hx => by
    have h1 := hx x (by simp)
    simp only [agrab]
    rw [aev_pat hl h1, amv_pat hl h1, agrab_pat xs (by rw [amv_length]; exact hl) (fun y hy => hx y (by simp [hy]))]
theorem aset_pat (hl : σ.length = τ.length) {d : Option Nat} (x : AV) (hd : ∀ t, d = some t → D.contains t = true) : aset (pat D σ τ) d x = pat D (aset σ d x) τ := by
  cases d with
  | none => rfl
  | some d => exact pat_set hl x (hd d rfl)
theorem aset_length {d : Option Nat} {x : AV} : (aset σ d x).length = σ.length := by cases d <;> simp [aset]
end

/-- The base of an address that the operation follows lies among those slots. -/
def tch (D : List Nat) (op : Op) (σ : List AV) : Prop :=
  match op with
  | .load _ (.tmp s) => match σ.getD s .any with
    | .ref s' _ => D.contains s' = true
    | .pref s' _ _ _ => D.contains s' = true
    | _ => True
  | .store _ (.tmp s) _ => match σ.getD s .any with
    | .ref s' _ => D.contains s' = true
    | .pref s' _ _ _ => D.contains s' = true
    | _ => True
  | .fieldAddr _ (.tmp s) _ => match σ.getD s .any with
    | .ref s' _ => D.contains s' = true
    | .pref s' _ _ _ => D.contains s' = true
    | _ => True
  | .indexAddr _ (.tmp s) _ => match σ.getD s .any with
    | .alias s' => D.contains s' = true
    | _ => True
  | _ => True

theorem amv_npb {σ : List AV} {y : Operand} {s : Nat} {x : AV} (hx : pb x = false) : (amv σ y).getD s .any = x ↔ σ.getD s .any = x := by
  cases y with
  | tmp t =>
    simp only [amv]
    by_cases ht : t < σ.length
    · by_cases hp : pb (σ.getD t .any) = true
      · have h1 := amv_tmp σ t ht hp
        simp only [amv] at h1
        rw [h1]
        by_cases hs : s < σ.length
        · rw [getD_set' hs]
          split
          · rename_i h; subst h
            constructor
            · intro h
              have := pb_view (x := σ.getD t .any)
              rw [h, hx] at this; cases this
            · intro h; rw [h, hx] at hp; cases hp
          · rfl
        · rw [getD_out (by rw [List.length_set]; omega), getD_out (by omega)]
      · have h1 := (amv_box σ t (by simpa using hp)).1
        simp only [amv] at h1
        rw [h1]
    · have hx : σ.getD t .any = .any := getD_out (Nat.le_of_not_lt ht)
      rw [hx]; rfl
  | _ => rfl
theorem amv_ref {σ : List AV} {y : Operand} {s s' off : Nat} : (amv σ y).getD s .any = .ref s' off ↔ σ.getD s .any = .ref s' off := amv_npb rfl
theorem all_nrf_amv {σ : List AV} {y : Operand} {d : Nat} (h : σ.all (nrf d) = true) : (amv σ y).all (nrf d) = true := by
  rw [List.all_eq_true] at *
  intro x hx
  obtain ⟨i, hi, hxi⟩ := List.getElem_of_mem hx
  have hg : (amv σ y).getD i .any = x := by simp [List.getD_eq_getElem?_getD, hi, hxi]
  have hi' : i < σ.length := by rw [amv_length] at hi; exact hi
  cases hp : pb x with
  | true => cases x <;> first | rfl | (simp [pb] at hp)
  | false =>
    have hm : σ.getD i .any ∈ σ := by simp [List.getD_eq_getElem?_getD, hi']
    rw [(amv_npb hp).1 hg] at hm
    exact h _ hm
theorem aop_of_bop {P : Program} {T : Tab} {o : Oper} {σ : List AV} {K : List AV → Prop} (h : bop0 P T o σ K)
    (hn : ∀ d, o.dst = some d → (match o.op with
      | .alloc _ => True
      | .box _ _ => True
      | _ => False) → σ.all (nrf d) = true) : aop P T o σ K := by
  unfold bop0 at h
  split at h
  · rename_i t ho
    unfold aop
    simp only [ho] at hn ⊢
    split at h
    · rename_i i hi
      simp only [hi]
      split at h
      · rename_i d hd
        simp only [hd, aalloc]
        exact ⟨h.1, hn d hd trivial, h.2⟩
      · exact h.elim
    · exact h.elim
  · rename_i t x ho
    unfold aop
    simp only [ho] at hn ⊢
    split at h
    · rename_i d hd
      simp only [hd, abox]
      exact ⟨h.1, all_nrf_amv (hn d hd trivial), h.2⟩
    · exact h.elim
  · exact h
end Go.Proofs.Ytohelofjlkoboaa
namespace Go.Proofs.Ytohelofjlkoboaa
open Go.RowKit
set_option linter.unusedVariables false
set_option linter.unusedSimpArgs false
set_option linter.unusedSectionVars false
variable [Env]

section
variable {P : Program} {T : Tab} {D : List Nat} {σ τ : List AV} {K : List AV → Prop} {dst : Option Nat}

theorem aload_nat (hl : σ.length = τ.length) {i : TI} {x : Operand} (hx : opin D x) (hd : ∀ t, dst = some t → D.contains t = true) (ht : ∀ t, tch D (.load t x) σ) :
    aload (pat D σ τ) i x dst K ↔ aload σ i x dst (fun σ' => K (pat D σ' τ)) := by
  cases x with
  | tmp s =>
    have ht := ht 0
    simp only [aload, tch, opin] at *
    rw [pat_in hl hx]
    revert ht
    generalize hv : σ.getD s .any = v
    intro ht
    cases v <;> simp only [] at ht ⊢
    case box T cs =>
      rw [pat_set hl _ hx, aset_pat (by simp [hl]) _ hd]
    case ref s' off =>
      rw [pat_in hl ht]
      generalize σ.getD s' .any = u
      cases u <;> simp only []
      rw [pat_set hl _ ht, aset_pat (by simp [hl]) _ hd]
    case elt y => rw [aset_pat hl _ hd]
  | _ => exact Iff.rfl
theorem afieldAddr_nat (hl : σ.length = τ.length) {i : TI} {x : Operand} {f : Nat} (hx : opin D x) (hd : ∀ t, dst = some t → D.contains t = true) (ht : ∀ t, tch D (.fieldAddr t x f) σ) :
    afieldAddr (pat D σ τ) i x f dst K ↔ afieldAddr σ i x f dst (fun σ' => K (pat D σ' τ)) := by
  unfold afieldAddr
  split
  · rename_i off n agg d hf
    have hd := hd d rfl
    cases x with
    | tmp s =>
      have ht := ht 0
      simp only [tch, opin] at *
      rw [pat_in hl hx]
      revert ht
      generalize hv : σ.getD s .any = v
      intro ht
      cases v <;> simp only [] at ht ⊢
      case box T cs => rw [pat_set hl _ hd]
      case ref s' off =>
        rw [pat_in hl ht]
        generalize σ.getD s' .any = u
        cases u <;> simp only []
        rw [pat_set hl _ hd]
      case elt y => rw [pat_set hl _ hd]
    | _ => exact Iff.rfl
  · exact Iff.rfl
theorem aextract_nat (hl : σ.length = τ.length) {x : Operand} {n : Nat} (hx : opin D x) (hd : ∀ t, dst = some t → D.contains t = true) :
    aextract (pat D σ τ) x n dst K ↔ aextract σ x n dst (fun σ' => K (pat D σ' τ)) := by
  unfold aextract
  cases x with
  | tmp s =>
    simp only [opin] at hx
    simp only []
    rw [pat_in hl hx]
    generalize hv : σ.getD s .any = v
    cases v <;> simp only []
    rw [pat_set hl _ hx, aset_pat (by simp [hl]) _ hd]
  | _ => exact Iff.rfl
theorem afieldM_nat (hl : σ.length = τ.length) {i : TI} {x : Operand} {n : Nat} (hx : opin D x) (hd : ∀ t, dst = some t → D.contains t = true) :
    afieldM (pat D σ τ) i x n dst K ↔ afieldM σ i x n dst (fun σ' => K (pat D σ' τ)) := by
  unfold afieldM
  cases x with
  | tmp s =>
    simp only [opin] at hx
    simp only []
    rw [pat_in hl hx]
    generalize hv : σ.getD s .any = v
    cases v <;> simp only []
    generalize i.td.flds[n]? = p
    cases p with
    | none => exact Iff.rfl
    | some p =>
      obtain ⟨off, sz, ag⟩ := p
      cases sz <;> cases ag <;> simp only []
      rw [pat_set hl _ hx, aset_pat (by simp [hl]) _ hd]
  | _ =>
    simp only []
    rw [aev_pat hl (by simp [opin])]
    simp only [aset_pat hl _ hd]
theorem abuildSlice_nat (hl : σ.length = τ.length) {e n : Nat} {j : TI} {ps : List (Nat × Operand)} (hx : ∀ x ∈ ps.map (·.2), opin D x) (hd : ∀ t, dst = some t → D.contains t = true) :
    abuildSlice (pat D σ τ) e j n ps dst K ↔ abuildSlice σ e j n ps dst (fun σ' => K (pat D σ' τ)) := by
  unfold abuildSlice
  rw [agrab_pat _ hl hx, aset_pat (by rw [agrab_length]; exact hl) _ hd]
theorem astore_nat (hl : σ.length = τ.length) {i : TI} {x y : Operand} (hx : opin D x) (hy : opin D y) (hd : ∀ t, dst = some t → D.contains t = true) (ht : ∀ t, tch D (.store t x y) σ) :
    astore (pat D σ τ) i x y dst K ↔ astore σ i x y dst (fun σ' => K (pat D σ' τ)) := by
  unfold astore
  cases x with
  | tmp s =>
    have ht := ht 0
    simp only [tch, opin] at *
    have hl2 : (amv σ y).length = τ.length := by rw [amv_length]; exact hl
    rw [aev_pat hl hy, amv_pat hl hy, pat_in hl2 hx]
    generalize hv : (amv σ y).getD s .any = v
    cases v <;> simp only []
    case box T cs => rw [pat_set hl2 _ hx, aset_pat (by simp [hl2]) _ hd]
    case ref s' off =>
      rw [amv_ref.1 hv] at ht
      simp only [] at ht
      rw [pat_in hl2 ht]
      generalize (amv σ y).getD s' .any = u
      cases u <;> simp only []
      rw [pat_set hl2 _ ht, aset_pat (by simp [hl2]) _ hd]
  | _ => exact Iff.rfl
theorem aappend_nat (hl : σ.length = τ.length) {e : Nat} {j : TI} {x y : Operand} (hx : opin D x) (hy : opin D y) (hd : ∀ t, dst = some t → D.contains t = true) :
    aappend (pat D σ τ) e j x y dst K ↔ aappend σ e j x y dst (fun σ' => K (pat D σ' τ)) := by
  unfold aappend
  have hl2 : (amv σ x).length = τ.length := by rw [amv_length]; exact hl
  rw [aev_pat hl hx, amv_pat hl hx, aev_pat hl2 hy]
  simp only [aset_pat hl2 _ hd]
theorem acall_nat (hl : σ.length = τ.length) {f : Operand} {xs : List Operand} (hf : opin D f) (hx : ∀ x ∈ xs, opin D x) (hd : ∀ t, dst = some t → D.contains t = true) :
    acall P (pat D σ τ) f xs dst K ↔ acall P σ f xs dst (fun σ' => K (pat D σ' τ)) := by
  unfold acall
  rw [aev_pat hl hf, agrab_pat _ hl hx]
  have : ∀ r, aset (pat D (agrab σ xs).2 τ) dst r = pat D (aset (agrab σ xs).2 dst r) τ := fun r => aset_pat (by rw [agrab_length]; exact hl) r hd
  simp only [this]
theorem afill_pat {flds : List (Nat × Option Nat × Option Bool)} {K K' : List AV → Prop} (h : ∀ cs, K cs ↔ K' cs) : ∀ (ps : List (Nat × AV)) (cs : List AV), afill flds ps cs K ↔ afill flds ps cs K'
  | [], cs => h cs
  | (i, x) :: r, cs => by
    simp only [afill]
    split
    · rw [afill_pat h r]
    · exact Iff.rfl

theorem bop0_nat {o : Oper} (hl : σ.length = τ.length) (hx : ∀ x ∈ o.op.operands.toList, opin D x) (hd : ∀ t, o.dst = some t → D.contains t = true) (ht : tch D o.op σ) :
    bop0 P T o (pat D σ τ) K ↔ bop0 P T o σ (fun σ' => K (pat D σ' τ)) := by
  obtain ⟨dst, op, type, pos, after, guard⟩ := o
  simp only at hx hd ht
  cases op
  case move x =>
    have h1 := hx x (by simp [Op.operands])
    simp only [bop0, aop]
    rw [aev_pat hl h1, amv_pat hl h1, aset_pat (by rw [amv_length]; exact hl) _ hd]
  case assign x =>
    have h1 := hx x (by simp [Op.operands])
    simp only [bop0, aop]
    rw [aev_pat hl h1, amv_pat hl h1, aset_pat (by rw [amv_length]; exact hl) _ hd]
  case pick c x y =>
    have h1 := hx c (by simp [Op.operands])
    have h2 := hx x (by simp [Op.operands])
    have h3 := hx y (by simp [Op.operands])
    simp only [bop0, aop]
    rw [aev_pat hl h1, aev_pat hl h2, aev_pat hl h3, amv_pat hl h2, amv_pat hl h3, aset_pat (by rw [amv_length]; exact hl) _ hd, aset_pat (by rw [amv_length]; exact hl) _ hd]
  case alloc t =>
    simp only [bop0]
    cases T t <;> simp only []
    cases dst <;> simp only []
    rw [pat_set hl _ (hd _ rfl)]
  case box t x =>
    have h1 := hx x (by simp [Op.operands])
    simp only [bop0]
    cases dst <;> simp only []
    rw [aev_pat hl h1, amv_pat hl h1, pat_set (by rw [amv_length]; exact hl) _ (hd _ rfl)]
  case build t ps =>
    have h1 : ∀ x ∈ ps.toList.map (·.2), opin D x := fun x h => hx x (by simpa [Op.operands] using h)
    simp only [bop0, aop]
    cases T t <;> simp only []
    rw [agrab_pat _ hl h1]
    rw [afill_pat (K' := fun cs => K (pat D (aset (agrab σ (ps.toList.map (·.2))).2 dst (.agg cs)) τ))]
    intro cs
    rw [aset_pat (by rw [agrab_length]; exact hl) _ hd]
  case buildSlice t n ps =>
    have h1 : ∀ x ∈ ps.toList.map (·.2), opin D x := fun x h => hx x (by simpa [Op.operands] using h)
    simp only [bop0, aop]
    cases T t with
    | none => exact Iff.rfl
    | some i =>
      simp only []
      cases i.td.elem with
      | none => exact Iff.rfl
      | some e =>
        simp only []
        cases T e <;> simp only []
        exact abuildSlice_nat hl h1 hd
  case load t x =>
    have h1 := hx x (by simp [Op.operands])
    simp only [bop0, aop]
    cases T t <;> simp only []
    exact aload_nat hl h1 hd (fun _ => by cases x <;> exact ht)
  case store t x y =>
    have h1 := hx x (by simp [Op.operands])
    have h2 := hx y (by simp [Op.operands])
    simp only [bop0, aop]
    cases T t <;> simp only []
    exact astore_nat hl h1 h2 hd (fun _ => by cases x <;> exact ht)
  case binOp op t x y t' =>
    have h1 := hx x (by simp [Op.operands])
    have h2 := hx y (by simp [Op.operands])
    simp only [bop0, aop]
    rw [aev_pat hl h1, aev_pat hl h2]
    simp only [aset_pat hl _ hd]
  case unOp op t x =>
    have h1 := hx x (by simp [Op.operands])
    simp only [bop0, aop]
    rw [aev_pat hl h1]
    simp only [aset_pat hl _ hd]
  case convert s d x =>
    have h1 := hx x (by simp [Op.operands])
    simp only [bop0, aop]
    rw [aev_pat hl h1]
    simp only [aset_pat hl _ hd]
  case makeFunc f first caps =>
    simp only [bop0, aop]
    have hcap : ∀ xs : List Operand, xs = caps.toList → xs.map (aev (pat D σ τ)) = xs.map (aev σ) := fun xs hxs => List.map_congr_left fun x h => aev_pat hl (hx x (by subst hxs; simp [Op.operands]; right; simpa using h))
    cases f <;> simp only []
    split
    · simp only [aset_pat hl _ hd]
    · rename_i x xs h1 h2
      rw [hcap (x :: xs) h2.symm]
      simp only [aset_pat hl _ hd]
    · exact Iff.rfl
  case makeSlice t x y =>
    have h1 := hx x (by simp [Op.operands])
    have h2 := hx y (by simp [Op.operands])
    simp only [bop0, aop]
    rw [aev_pat hl h1, aev_pat hl h2]
    simp only [aset_pat hl _ hd]
  case slice t x lo hi mx =>
    have h1 := hx x (by simp [Op.operands])
    cases mx with
    | some m => exact Iff.rfl
    | none =>
      have h2 : lo.map (aev (pat D σ τ)) = lo.map (aev σ) := by
        cases lo with
        | none => rfl
        | some z => exact congrArg some (aev_pat hl (hx z (by simp [Op.operands])))
      have h3 : hi.map (aev (pat D σ τ)) = hi.map (aev σ) := by
        cases hi with
        | none => rfl
        | some z => exact congrArg some (aev_pat hl (hx z (by simp [Op.operands])))
      simp only [bop0, aop]
      rw [aev_pat hl h1, h2, h3]
      simp only [aset_pat hl _ hd]
  case fieldAddr t x f =>
    have h1 := hx x (by simp [Op.operands])
    simp only [bop0, aop]
    cases T t <;> simp only []
    exact afieldAddr_nat hl h1 hd (fun _ => by cases x <;> exact ht)
  case field t x f =>
    have h1 := hx x (by simp [Op.operands])
    simp only [bop0, aop]
    cases T t <;> simp only []
    exact afieldM_nat hl h1 hd
  case indexAddr t x y =>
    have h1 := hx x (by simp [Op.operands])
    have h2 := hx y (by simp [Op.operands])
    simp only [bop0, aop]
    cases T t <;> simp only []
    unfold aindexAddrB
    cases x with
    | tmp s =>
      simp only []
      rw [pat_in hl h1]
      rw [aev_pat hl h2, aev_pat hl h1]
      generalize σ.getD s .any = v
      cases v <;> simp only [aset_pat hl _ hd]
      rename_i i Te cs
      generalize aev σ y = u
      cases i.td.arr <;> cases u <;> try exact Iff.rfl
      rename_i le vv
      cases dst <;> cases vv <;> try exact Iff.rfl
      simp only []
      cases T le.2 <;> simp only []
      rw [pat_set hl _ (hd _ rfl)]
    | _ =>
      simp only []
      rw [aev_pat hl h1, aev_pat hl h2]
      simp only [aset_pat hl _ hd]
  case index t x y =>
    have h1 := hx x (by simp [Op.operands])
    have h2 := hx y (by simp [Op.operands])
    simp only [bop0, aop]
    rw [aev_pat hl h1, aev_pat hl h2]
    simp only [aset_pat hl _ hd]
  case extract x n =>
    have h1 := hx x (by simp [Op.operands])
    simp only [bop0, aop]
    exact aextract_nat hl h1 hd
  case call c =>
    have hargs : ∀ x ∈ c.args.toList, opin D x := by
      intro x h
      have h' : x ∈ c.args := by simpa using h
      refine hx x ?_
      simp [Op.operands, Call.operands]
      cases c.callee <;> simp [h']
    simp only [bop0, aop]
    cases hc : c.callee with
    | value f =>
      have h1 := hx f (by simp [Op.operands, Call.operands, hc])
      exact acall_nat hl h1 hargs hd
    | invoke r m => exact Iff.rfl
    | builtin b =>
      cases b <;> simp only []
      case len =>
        split
        · rename_i x t ha hta
          have h1 := hargs x (by rw [ha]; simp)
          rw [aev_pat hl h1]
          simp only [aset_pat hl _ hd]
        · exact Iff.rfl
      case append =>
        split
        · rename_i x y t t' ha hta
          have h1 := hargs x (by rw [ha]; simp)
          have h2 := hargs y (by rw [ha]; simp)
          cases T t with
          | none => exact Iff.rfl
          | some i =>
            simp only []
            cases i.td.elem with
            | none => exact Iff.rfl
            | some e =>
              simp only []
              cases T e with
              | none => exact Iff.rfl
              | some j => simp only []; rw [aappend_nat hl h1 h2 hd]
        · exact Iff.rfl
      case min =>
        split
        · rename_i x y ha
          have h1 := hargs x (by rw [ha]; simp)
          have h2 := hargs y (by rw [ha]; simp)
          rw [aev_pat hl h1, aev_pat hl h2]
          simp only [aset_pat hl _ hd]
        · exact Iff.rfl
      case max =>
        split
        · rename_i x y ha
          have h1 := hargs x (by rw [ha]; simp)
          have h2 := hargs y (by rw [ha]; simp)
          rw [aev_pat hl h1, aev_pat hl h2]
          simp only [aset_pat hl _ hd]
        · exact Iff.rfl
  all_goals exact Iff.rfl
theorem rixa_nat (hl : σ.length = τ.length) {t s k n : Nat} {y : AV} (hd : ∀ t, dst = some t → D.contains t = true) :
    rixa T t s k n y dst (pat D σ τ) K ↔ rixa T t s k n y dst σ (fun σ' => K (pat D σ' τ)) := by
  unfold rixa
  split
  · split
    · split
      · unfold rixb
        split
        · rw [pat_set hl _ (hd _ rfl)]
        · exact Iff.rfl
      · exact Iff.rfl
    · exact Iff.rfl
  · exact Iff.rfl
theorem rfad_nat (hl : σ.length = τ.length) {p : Option (Nat × Option Nat × Option Bool)} {x : AV} {s k j off : Nat} (hd : ∀ t, dst = some t → D.contains t = true) :
    rfad p x s k j off dst (pat D σ τ) K ↔ rfad p x s k j off dst σ (fun σ' => K (pat D σ' τ)) := by
  unfold rfad
  split
  · rw [pat_set hl _ (hd _ rfl)]
  · exact Iff.rfl
theorem rpld_nat (hl : σ.length = τ.length) {i : TI} {x : AV} {k j off : Nat} (hd : ∀ t, dst = some t → D.contains t = true) :
    rpld i x k j off dst (pat D σ τ) K ↔ rpld i x k j off dst σ (fun σ' => K (pat D σ' τ)) := by
  unfold rpld
  split
  · rw [aset_pat hl _ hd]
  · exact Iff.rfl
theorem rpst_nat (hl : σ.length = τ.length) {i : TI} {x y : AV} {s k j off : Nat} (hs : D.contains s = true) (hd : ∀ t, dst = some t → D.contains t = true) :
    rpst i x s k j off y dst (pat D σ τ) K ↔ rpst i x s k j off y dst σ (fun σ' => K (pat D σ' τ)) := by
  unfold rpst
  split
  · rw [pat_set hl _ hs, aset_pat (by simp [hl]) _ hd]
  · exact Iff.rfl
theorem bop_nat {o : Oper} (hl : σ.length = τ.length) (hx : ∀ x ∈ o.op.operands.toList, opin D x) (hd : ∀ t, o.dst = some t → D.contains t = true) (ht : tch D o.op σ) :
    bop P T o (pat D σ τ) K ↔ bop P T o σ (fun σ' => K (pat D σ' τ)) := by
  have hb := bop0_nat (P := P) (T := T) (K := K) (o := o) hl hx hd ht
  obtain ⟨dst, op, type, pos, after, guard⟩ := o
  simp only at hx hd ht
  cases op
  case move x =>
    have h1 := hx x (by simp [Op.operands])
    cases x with
    | tmp t =>
      simp only [opin] at h1
      simp only [bop]
      rw [pat_in hl h1]
      generalize σ.getD t .any = v
      cases dst with
      | none => cases v <;> exact hb
      | some d => cases v <;> first | exact hb | (simp only []; rw [pat_set hl _ (hd _ rfl)])
    | _ => exact hb
  case indexAddr t x y =>
    have h1 := hx x (by simp [Op.operands])
    have h2 := hx y (by simp [Op.operands])
    cases x with
    | tmp q =>
      simp only [opin] at h1
      simp only [bop]
      simp only [tch] at ht
      rw [pat_in hl h1, aev_pat hl h2]
      generalize σ.getD q .any = v at ht ⊢
      cases v <;> first | exact hb | skip
      case row e k es => exact rixa_nat hl hd
      case alias s =>
        simp only [] at ht ⊢
        rw [pat_in hl ht]
        generalize σ.getD s .any = u
        cases u <;> first | exact hb | exact rixa_nat hl hd
    | _ => exact hb
  case fieldAddr t x f =>
    have h1 := hx x (by simp [Op.operands])
    cases x with
    | tmp q =>
      simp only [opin] at h1
      simp only [bop]
      simp only [tch] at ht
      rw [pat_in hl h1]
      generalize σ.getD q .any = v at ht ⊢
      cases v <;> first | exact hb | skip
      simp only [] at ht ⊢
      cases T t <;> simp only []
      rw [pat_in hl ht]
      exact rfad_nat hl hd
    | _ => exact hb
  case load t x =>
    have h1 := hx x (by simp [Op.operands])
    cases x with
    | tmp q =>
      simp only [opin] at h1
      simp only [bop]
      simp only [tch] at ht
      rw [pat_in hl h1]
      generalize σ.getD q .any = v at ht ⊢
      cases v <;> first | exact hb | skip
      simp only [] at ht ⊢
      cases T t <;> simp only []
      rw [pat_in hl ht]
      exact rpld_nat hl hd
    | _ => exact hb
  case store t x y =>
    have h1 := hx x (by simp [Op.operands])
    have h2 := hx y (by simp [Op.operands])
    cases x with
    | tmp q =>
      simp only [opin] at h1
      simp only [bop]
      simp only [tch] at ht
      rw [pat_in hl h1]
      generalize σ.getD q .any = v at ht ⊢
      cases v <;> first | exact hb | skip
      simp only [] at ht ⊢
      cases T t <;> simp only []
      have hl2 : (amv σ y).length = τ.length := by rw [amv_length]; exact hl
      rw [aev_pat hl h2, amv_pat hl h2, pat_in hl2 ht]
      exact rpst_nat hl2 ht hd
    | _ => exact hb
  all_goals exact hb
end
end Go.Proofs.Ytohelofjlkoboaa
