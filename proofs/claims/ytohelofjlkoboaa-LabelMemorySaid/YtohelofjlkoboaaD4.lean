/- Operations that touch different slots may change places. -/
import Derived.Test.YtohelofjlkoboaaD3
namespace Go.Proofs.Ytohelofjlkoboaa
open Go.RowKit
set_option linter.unusedVariables false
set_option linter.unusedSimpArgs false
set_option linter.unusedSectionVars false
variable [Env]

structure CO where
  dst : Option Nat
  op : Op
  gd : Option (Nat × Bool)
def mkO (c : CO) : Oper := { dst := c.dst, op := c.op, type := 0, pos := "", after := #[], guard := none }
def tmpOf : Operand → List Nat
  | .tmp t => [t]
  | _ => []
def oslots (op : Op) : List Nat := op.operands.toList.flatMap tmpOf
/-- The slot whose address an operation goes through. -/
def abase : Op → List Nat
  | .load _ (.tmp s) => [s]
  | .store _ (.tmp s) _ => [s]
  | .fieldAddr _ (.tmp s) _ => [s]
  | .indexAddr _ (.tmp s) _ => [s]
  | _ => []
/-- The slots that an address may point into: the entries (address * 100000 + slot). -/
def rtOf (rb : List Nat) (s : Nat) : List Nat := rb.filterMap fun e => if e / 100000 = s then some (e % 100000) else none
/-- A field's address of a slot that is a box all through the region: an entry 9999900000 + slot. -/
def isbx (rb : List Nat) : Op → Bool
  | .fieldAddr _ (.tmp s) _ => rb.contains (9999900000 + s)
  | _ => false
/-- The slots that an operation touches. -/
def dslots (rb : List Nat) (c : CO) : List Nat :=
  c.dst.toList ++ ((match c.gd with
    | some (t, _) => [t]
    | none => []) ++ (if isbx rb c.op = true then [] else oslots c.op ++ (abase c.op).flatMap (rtOf rb)))
theorem rtOf_mem {rb : List Nat} {s s' : Nat} (h : rb.contains (s * 100000 + s') = true) (hl : s' < 100000) : s' ∈ rtOf rb s := by
  unfold rtOf
  rw [List.mem_filterMap]
  refine ⟨s * 100000 + s', by simpa using h, ?_⟩
  have h1 : (s * 100000 + s') / 100000 = s := by omega
  have h2 : (s * 100000 + s') % 100000 = s' := by omega
  rw [h1, h2, if_pos rfl]

section
variable {P : Program} {T : Tab} {σ τ : List AV} {K : List AV → Prop} {rb sh bm : List Nat} {c : CO}
theorem con_mem {l : List Nat} {t : Nat} : l.contains t = true ↔ t ∈ l := by simp
theorem d_dst : ∀ t, c.dst = some t → (dslots rb c).contains t = true := by
  intro t h
  rw [con_mem]
  simp [dslots, h]
theorem d_ops (hb : isbx rb c.op = false) : ∀ x ∈ c.op.operands.toList, opin (dslots rb c) x := by
  intro x hx
  cases x with
  | tmp t =>
    simp only [opin]
    rw [con_mem]
    have : t ∈ oslots c.op := List.mem_flatMap.2 ⟨_, hx, by simp [tmpOf]⟩
    simp [dslots, this, hb]
  | _ => trivial
theorem d_gd {t : Nat} {want : Bool} (h : c.gd = some (t, want)) : (dslots rb c).contains t = true := by
  rw [con_mem]
  simp [dslots, h]

def isbxv : AV → Bool
  | .box _ _ => true
  | _ => false
/-- A field's address of a slot that is a box. -/
def bxs (T : Tab) (c : CO) (σ : List AV) (K : List AV → Prop) : Prop := match c.op, c.dst with
  | .fieldAddr t (.tmp s) f, some d => (match T t with
    | some i => (match i.td.flds[f]? with
      | some (off, some n, some _) => n ≠ 0 ∧ s ≠ d ∧ K (σ.set d (.ref s off))
      | _ => False)
    | none => False)
  | _, _ => False
def cact (P : Program) (T : Tab) (rb : List Nat) (c : CO) (σ : List AV) (K : List AV → Prop) : Prop :=
  if isbx rb c.op = true then bxs T c σ K else tch (dslots rb c) c.op σ ∧ bop P T (mkO c) σ K
/-- A step: its guard, then what it does. -/
def cst (P : Program) (T : Tab) (rb : List Nat) (c : CO) (σ : List AV) (K : List AV → Prop) : Prop :=
  match c.gd with
  | none => cact P T rb c σ K
  | some (t, want) =>
    match σ.getD t .any with
    | .raw (.bool e) => if e = want then cact P T rb c σ K else K (aset σ c.dst (.tup []))
    | .tup [] => K (aset σ c.dst (.tup []))
    | _ => False
theorem tch_nat {D : List Nat} {op : Op} (hl : σ.length = τ.length) (hx : ∀ x ∈ op.operands.toList, opin D x) : tch D op (pat D σ τ) ↔ tch D op σ := by
  cases op <;> try exact Iff.rfl
  case load t x =>
    have h1 := hx x (by simp [Op.operands])
    cases x <;> try exact Iff.rfl
    simp only [tch]
    rw [pat_in hl h1]
  case store t x y =>
    have h1 := hx x (by simp [Op.operands])
    cases x <;> try exact Iff.rfl
    simp only [tch]
    rw [pat_in hl h1]
  case indexAddr t x y =>
    have h1 := hx x (by simp [Op.operands])
    cases x <;> try exact Iff.rfl
    simp only [tch]
    rw [pat_in hl h1]
  case fieldAddr t x f =>
    have h1 := hx x (by simp [Op.operands])
    cases x <;> try exact Iff.rfl
    simp only [tch]
    rw [pat_in hl h1]
theorem bxs_nat (hl : σ.length = τ.length) : bxs T c (pat (dslots rb c) σ τ) K ↔ bxs T c σ (fun σ' => K (pat (dslots rb c) σ' τ)) := by
  unfold bxs
  split
  · rename_i t s f d h1 h2
    split
    · split
      · rw [pat_set hl _ (d_dst d h2)]
      · exact Iff.rfl
    · exact Iff.rfl
  · exact Iff.rfl
theorem bxs_mono {K' : List AV → Prop} (h : bxs T c σ K) (hm : ∀ x, K x → K' x) : bxs T c σ K' := by
  unfold bxs at *
  split at h
  · split at h
    · split at h
      · exact ⟨h.1, h.2.1, hm _ h.2.2⟩
      · exact h.elim
    · exact h.elim
  · exact h.elim
theorem bxs_ex (h : bxs T c σ K) : ∃ x, K x := by
  unfold bxs at h
  split at h
  · split at h
    · split at h
      · exact ⟨_, h.2.2⟩
      · exact h.elim
    · exact h.elim
  · exact h.elim
theorem bxs_det : Dt (bxs T c σ) := by
  intro K h
  unfold bxs at h ⊢
  split at h
  · split at h
    · split at h
      · exact ⟨_, h.2.2, fun K' => ⟨fun h' => h'.2.2, fun h' => ⟨h.1, h.2.1, h'⟩⟩⟩
      · exact h.elim
    · exact h.elim
  · exact h.elim
theorem cact_nat (hl : σ.length = τ.length) : cact P T rb c (pat (dslots rb c) σ τ) K ↔ cact P T rb c σ (fun σ' => K (pat (dslots rb c) σ' τ)) := by
  unfold cact
  split
  · exact bxs_nat hl
  · rename_i hb
    have hb : isbx rb c.op = false := by simpa using hb
    rw [tch_nat hl (d_ops hb)]
    constructor
    · rintro ⟨h1, h2⟩
      exact ⟨h1, (bop_nat (o := mkO c) hl (d_ops hb) d_dst h1).1 h2⟩
    · rintro ⟨h1, h2⟩
      exact ⟨h1, (bop_nat (o := mkO c) hl (d_ops hb) d_dst h1).2 h2⟩
theorem cact_mono {K' : List AV → Prop} (h : cact P T rb c σ K) (hm : ∀ x, K x → K' x) : cact P T rb c σ K' := by
  unfold cact at *
  split at h
  · rename_i hb; rw [if_pos hb]; exact bxs_mono h hm
  · rename_i hb; rw [if_neg hb]; exact ⟨h.1, bop_mono h.2 hm⟩
theorem cact_ex (h : cact P T rb c σ K) : ∃ x, K x := by
  unfold cact at h
  split at h
  · exact bxs_ex h
  · exact bop_ex h.2
theorem cact_det (hc : isCall c.op = false) : Dt (cact P T rb c σ) := by
  intro K h
  unfold cact at h ⊢
  split at h
  · rename_i hb
    obtain ⟨y, h1, h2⟩ := bxs_det K h
    exact ⟨y, h1, fun K' => by rw [if_pos hb]; exact h2 K'⟩
  · rename_i hb
    obtain ⟨y, h1, h2⟩ := ((bop_det (o := mkO c) hc).and _) K h
    exact ⟨y, h1, fun K' => by rw [if_neg hb]; exact h2 K'⟩
theorem cst_nat (hl : σ.length = τ.length) : cst P T rb c (pat (dslots rb c) σ τ) K ↔ cst P T rb c σ (fun σ' => K (pat (dslots rb c) σ' τ)) := by
  have key := cact_nat (P := P) (T := T) (K := K) (rb := rb) (c := c) hl
  unfold cst
  cases hg : c.gd with
  | none => exact key
  | some tw =>
    obtain ⟨t, want⟩ := tw
    simp only []
    rw [pat_in hl (d_gd hg), aset_pat hl _ d_dst]
    split
    · split
      · exact key
      · exact Iff.rfl
    · exact Iff.rfl
    · exact Iff.rfl
theorem cst_mono {K' : List AV → Prop} (h : cst P T rb c σ K) (hm : ∀ x, K x → K' x) : cst P T rb c σ K' := by
  unfold cst at *
  revert h
  cases c.gd with
  | none => exact fun h => cact_mono h hm
  | some tw =>
    obtain ⟨t, want⟩ := tw
    simp only []
    generalize σ.getD t .any = v
    intro h
    split at h
    · split at h
      · rename_i hw; simp only [if_pos hw]; exact cact_mono h hm
      · rename_i hw; simp only [if_neg hw]; exact hm _ h
    · exact hm _ h
    · exact h.elim
theorem cst_ex (h : cst P T rb c σ K) : ∃ x, K x := by
  unfold cst at h
  split at h
  · exact cact_ex h
  · split at h
    · split at h
      · exact cact_ex h
      · exact ⟨_, h⟩
    · exact ⟨_, h⟩
    · exact h.elim
theorem cst_det (hc : isCall c.op = false) : Dt (cst P T rb c σ) := by
  intro K h
  have hb : ∀ K, cact P T rb c σ K → ∃ y, K y ∧ ∀ K', cact P T rb c σ K' ↔ K' y := fun K h => cact_det hc K h
  unfold cst at h ⊢
  revert h
  cases c.gd with
  | none => intro h; exact hb K h
  | some tw =>
    obtain ⟨t, want⟩ := tw
    simp only []
    generalize σ.getD t .any = v
    intro h
    split at h
    · split at h
      · rename_i hw
        obtain ⟨y, h1, h2⟩ := hb K h
        exact ⟨y, h1, fun K' => by simp only [if_pos hw]; exact h2 K'⟩
      · rename_i hw
        exact ⟨_, h, fun K' => by simp only [if_neg hw]⟩
    · exact ⟨_, h, fun K' => Iff.rfl⟩
    · exact h.elim

theorem exch {α β : Type} {F : (α → Prop) → Prop} {G : (β → Prop) → Prop} (hF : ∀ K K', F K → (∀ x, K x → K' x) → F K') (hG : ∀ K K', G K → (∀ x, K x → K' x) → G K') (eF : ∀ K, F K → ∃ x, K x)
    (hd : Dt F ∨ Dt G) {Z : α → β → Prop} (h : F fun x => G fun y => Z x y) : G fun y => F fun x => Z x y := by
  rcases hd with hd | hd
  · obtain ⟨x0, h1, h2⟩ := hd _ h
    exact hG _ _ h1 fun y hy => (h2 _).2 hy
  · obtain ⟨x, hx⟩ := eF _ h
    obtain ⟨y0, _, h2⟩ := hd _ hx
    exact (h2 _).2 (hF _ _ h fun x hx => by
      obtain ⟨y1, h3, h4⟩ := hd _ hx
      exact (h2 (fun y => Z x y)).1 hx)

def isSt : Op → Bool
  | .store _ _ _ => true
  | _ => false
/-- The shared slots that an operation must leave: an entry 100000 + slot speaks of all operations but stores. -/
def shO (sh : List Nat) (op : Op) : List Nat := sh.filterMap fun s => bif Nat.ble 100000 s then (bif isSt op then none else some (s - 100000)) else some s
def shX (sh : List Nat) (c : CO) : List Nat := shO sh c.op
def Fx (sh : List Nat) (d : Option Nat) (σ σ' : List AV) : Prop := ∀ s ∈ sh, d ≠ some s → σ'.getD s .any = σ.getD s .any
/-- What is watched all through a region: no address of slot d lies about; or (100000 + slot) the slot is a box. -/
def nrq (d : Nat) (σ : List AV) : Bool := bif decide (100000 ≤ d) then isbxv (σ.getD (d - 100000) .any) else σ.all (nrf d)
def Nr (bm : List Nat) (σ : List AV) : Prop := ∀ d ∈ bm, nrq d σ = true
def stp (P : Program) (T : Tab) (sh rb bm : List Nat) (c : CO) (σ : List AV) (K : List AV → Prop) : Prop :=
  cst P T rb c σ fun σ' => Fx (shX sh c) c.dst σ σ' ∧ Nr bm σ' ∧ K σ'
theorem stp_mono {K' : List AV → Prop} (h : stp P T sh rb bm c σ K) (hm : ∀ x, Nr bm x → K x → K' x) : stp P T sh rb bm c σ K' :=
  cst_mono h fun x ⟨h1, h2, h3⟩ => ⟨h1, h2, hm x h2 h3⟩

theorem nr_iff {d : Nat} {σ : List AV} : σ.all (nrf d) = true ↔ ∀ t, t < σ.length → nrf d (σ.getD t .any) = true := by
  rw [List.all_eq_true]
  constructor
  · intro h t ht
    exact h _ (by simp [List.getD_eq_getElem?_getD, ht])
  · intro h x hx
    obtain ⟨i, hi, rfl⟩ := List.getElem_of_mem hx
    have := h i hi
    simpa [List.getD_eq_getElem?_getD, hi] using this

theorem nrq_iff {d : Nat} {σ : List AV} : nrq d σ = true ↔ (100000 ≤ d → isbxv (σ.getD (d - 100000) .any) = true) ∧ (d < 100000 → ∀ t, t < σ.length → nrf d (σ.getD t .any) = true) := by
  unfold nrq
  by_cases h : 100000 ≤ d
  · rw [decide_eq_true h]
    exact ⟨fun hb => ⟨fun _ => hb, fun hl => by omega⟩, fun hb => hb.1 h⟩
  · rw [decide_eq_false h]
    simp only [cond_false]
    rw [nr_iff]
    exact ⟨fun hb => ⟨fun hl => absurd hl h, fun _ => hb⟩, fun hb => hb.2 (by omega)⟩
theorem swap {a i : CO} (hsh : ∀ t, (dslots rb a).contains t = true → (dslots rb i).contains t = true → (t ∈ shX sh a ∧ t ∈ shX sh i) ∧ a.dst ≠ some t ∧ i.dst ≠ some t) (hcall : isCall a.op = false ∨ isCall i.op = false) (hn : Nr bm σ)
    (h : stp P T sh rb bm a σ fun σ1 => stp P T sh rb bm i σ1 K) : stp P T sh rb bm i σ fun σ2 => stp P T sh rb bm a σ2 K := by
  have da : ∀ t, a.dst = some t → (dslots rb a).contains t = true := d_dst
  have di : ∀ t, i.dst = some t → (dslots rb i).contains t = true := d_dst
  generalize hD1 : dslots rb a = D1 at *
  generalize hD2 : dslots rb i = D2 at *
  -- the first step, seen from σ
  have h1 : cst P T rb a σ fun ρ => Fx (shX sh a) a.dst σ (pat D1 ρ σ) ∧ Nr bm (pat D1 ρ σ) ∧ stp P T sh rb bm i (pat D1 ρ σ) K := by
    have := (cst_nat (P := P) (T := T) (rb := rb) (c := a) (σ := σ) (τ := σ) (K := fun σ1 => Fx (shX sh a) a.dst σ σ1 ∧ Nr bm σ1 ∧ stp P T sh rb bm i σ1 K) rfl).1 (by rw [pat_self]; exact h)
    rw [hD1] at this
    exact this
  let Z : List AV → List AV → Prop := fun ρ ρ' => Fx (shX sh a) a.dst σ (pat D1 ρ σ) ∧ Nr bm (pat D1 ρ σ) ∧ Fx (shX sh i) i.dst (pat D1 ρ σ) (pat D2 ρ' (pat D1 ρ σ)) ∧ Nr bm (pat D2 ρ' (pat D1 ρ σ)) ∧ K (pat D2 ρ' (pat D1 ρ σ))
  have h2 : cst P T rb a σ fun ρ => cst P T rb i σ fun ρ' => Z ρ ρ' := by
    refine cst_mono h1 fun ρ ⟨g1, g2, g3⟩ => ?_
    have heq : pat D1 ρ σ = pat D2 σ (pat D1 ρ σ) := by
      refine list_ext (by simp [pat_length]) fun t ht => ?_
      rw [pat_length, pat_length] at ht
      rw [pat_get (D := D2) (by rw [pat_length]; exact ht)]
      split
      · rename_i ht2
        by_cases ht1 : D1.contains t = true
        · exact g1 t (hsh t ht1 ht2).1.1 (hsh t ht1 ht2).2.1
        · rw [pat_get ht, if_neg ht1]
      · rfl
    unfold stp at g3
    rw [heq] at g3
    have := (cst_nat (P := P) (T := T) (rb := rb) (c := i) (σ := σ) (τ := pat D1 ρ σ) (K := fun σ' => Fx (shX sh i) i.dst (pat D2 σ (pat D1 ρ σ)) σ' ∧ Nr bm σ' ∧ K σ') (by rw [pat_length])).1 (by rw [hD2]; exact g3)
    rw [hD2] at this
    refine cst_mono this fun ρ' ⟨k1, k2, k3⟩ => ⟨g1, g2, ?_, k2, k3⟩
    rw [← heq] at k1
    exact k1
  have h3 : cst P T rb i σ fun ρ' => cst P T rb a σ fun ρ => Z ρ ρ' := by
    refine exch (F := cst P T rb a σ) (G := cst P T rb i σ) (fun _ _ => cst_mono) (fun _ _ => cst_mono) (fun _ => cst_ex) ?_ h2
    rcases hcall with h | h
    · exact .inl (cst_det h)
    · exact .inr (cst_det h)
  -- and back
  have h4 : cst P T rb i (pat D2 σ σ) fun σ2 => Fx (shX sh i) i.dst σ σ2 ∧ Nr bm σ2 ∧ stp P T sh rb bm a σ2 K := by
    have key := (cst_nat (P := P) (T := T) (rb := rb) (c := i) (σ := σ) (τ := σ) (K := fun σ2 => Fx (shX sh i) i.dst σ σ2 ∧ Nr bm σ2 ∧ stp P T sh rb bm a σ2 K) rfl).2
    rw [hD2] at key
    refine key (cst_mono h3 fun ρ' hz => ?_)
    have hg : ∀ {t}, t < σ.length → (pat D2 ρ' σ).getD t .any = if D2.contains t then ρ'.getD t .any else σ.getD t .any := fun ht => pat_get ht
    have f1 : ∀ ρ, Z ρ ρ' → ∀ s, s ∈ shX sh i → i.dst ≠ some s → s < σ.length → D2.contains s = true → ρ'.getD s .any = σ.getD s .any := by
      intro ρ ⟨k1, k2, k3, k4, k5⟩ s hs hid hlt hd
      have e1 : (pat D1 ρ σ).getD s .any = σ.getD s .any := by
        by_cases h1 : D1.contains s = true
        · exact k1 s (hsh s h1 hd).1.1 (hsh s h1 hd).2.1
        · rw [pat_get hlt, if_neg h1]
      have e2 := k3 s hs hid
      rw [pat_get (by rw [pat_length]; exact hlt), if_pos hd] at e2
      rw [e2, e1]
    obtain ⟨ρ0, hz0⟩ := cst_ex hz
    have e0 := f1 ρ0 hz0
    have hfx : Fx (shX sh i) i.dst σ (pat D2 ρ' σ) := by
      intro s hs hid
      by_cases hlt : s < σ.length
      · rw [hg hlt]
        split
        · rename_i hd; exact e0 s hs hid hlt hd
        · rfl
      · rw [getD_out (by rw [pat_length]; omega), getD_out (by omega)]
    refine ⟨hfx, ?_, ?_⟩
    · obtain ⟨k1, k2, k3, k4, k5⟩ := hz0
      intro d hd
      have n1 := nrq_iff.1 (hn d hd)
      have n2 := nrq_iff.1 (k4 d hd)
      rw [nrq_iff]
      refine ⟨fun hb => ?_, fun hb t ht => ?_⟩
      · have m1 := n1.1 hb
        have m2 := n2.1 hb
        by_cases ht : d - 100000 < σ.length
        · rw [hg ht]
          split
          · rename_i hd2
            rw [pat_get (by rw [pat_length]; exact ht), if_pos hd2] at m2
            exact m2
          · exact m1
        · rw [getD_out (by omega)] at m1
          cases m1
      · rw [pat_length] at ht
        rw [hg ht]
        split
        · rename_i hd2
          have := n2.2 hb t (by simp only [pat_length]; exact ht)
          rw [pat_get (by rw [pat_length]; exact ht), if_pos hd2] at this
          exact this
        · exact n1.2 hb t ht
    · have heq : pat D2 ρ' σ = pat D1 σ (pat D2 ρ' σ) := by
        refine list_ext (by simp [pat_length]) fun t ht => ?_
        rw [pat_length, pat_length] at ht
        rw [pat_get (D := D1) (by rw [pat_length]; exact ht)]
        split
        · rename_i ht1
          exact (hfx t |> fun f => by
            by_cases ht2 : D2.contains t = true
            · exact f (hsh t ht1 ht2).1.2 (hsh t ht1 ht2).2.2
            · rw [hg ht, if_neg ht2])
        · rfl
      unfold stp
      rw [heq]
      have key := (cst_nat (P := P) (T := T) (rb := rb) (c := a) (σ := σ) (τ := pat D2 ρ' σ) (K := fun σ' => Fx (shX sh a) a.dst (pat D1 σ (pat D2 ρ' σ)) σ' ∧ Nr bm σ' ∧ K σ') (by rw [pat_length])).2
      rw [hD1] at key
      refine key (cst_mono hz fun ρ hzz => ?_)
      have e1 := f1 ρ hzz
      obtain ⟨k1, k2, k3, k4, k5⟩ := hzz
      have hsame : pat D1 ρ (pat D2 ρ' σ) = pat D2 ρ' (pat D1 ρ σ) := by
        refine list_ext (by simp [pat_length]) fun t ht => ?_
        simp only [pat_length] at ht
        rw [pat_get (D := D1) (by rw [pat_length]; exact ht), pat_get (D := D2) (σ := ρ') (τ := pat D1 ρ σ) (by rw [pat_length]; exact ht), pat_get (D := D1) ht, hg ht]
        by_cases t1 : D1.contains t = true
        · by_cases t2 : D2.contains t = true
          · rw [if_pos t1, if_pos t2]
            have hs := hsh t t1 t2
            rw [e1 t hs.1.2 hs.2.2 ht t2]
            have := k1 t hs.1.1 hs.2.1
            rw [pat_get ht, if_pos t1] at this
            exact this
          · rw [if_pos t1, if_neg t2, if_pos t1]
        · rw [if_neg t1, if_neg t1]
      refine ⟨?_, by rw [hsame]; exact k4, by rw [hsame]; exact k5⟩
      intro s hs had
      rw [← heq]
      by_cases hlt : s < σ.length
      · rw [pat_get (D := D1) (by rw [pat_length]; exact hlt)]
        split
        · rename_i t1
          by_cases t2 : D2.contains s = true
          · have hq := hsh s t1 t2
            rw [hg hlt, if_pos t2, e1 s hq.1.2 hq.2.2 hlt t2]
            have := k1 s hs had
            rw [pat_get hlt, if_pos t1] at this
            exact this
          · rw [hg hlt, if_neg t2]
            have := k1 s hs had
            rw [pat_get hlt, if_pos t1] at this
            exact this
        · rfl
      · rw [getD_out (by simp only [pat_length]; omega), getD_out (by simp only [pat_length]; omega)]
  rw [pat_self] at h4
  exact h4
end
end Go.Proofs.Ytohelofjlkoboaa
