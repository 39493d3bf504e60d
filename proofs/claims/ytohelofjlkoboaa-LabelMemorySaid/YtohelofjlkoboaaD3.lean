/- Every operation but a call comes out one way. -/
import Derived.Test.YtohelofjlkoboaaD2
namespace Go.Proofs.Ytohelofjlkoboaa
open Go.RowKit
set_option linter.unusedVariables false
set_option linter.unusedSimpArgs false
set_option linter.unusedSectionVars false
variable [Env]

def Dt {α : Type} (F : (α → Prop) → Prop) : Prop := ∀ K, F K → ∃ y, K y ∧ ∀ K', F K' ↔ K' y
theorem Dt.map {α β : Type} {F : (α → Prop) → Prop} (h : Dt F) (g : α → β) : Dt (fun K : β → Prop => F fun z => K (g z)) := fun K hK => by
  obtain ⟨y, h1, h2⟩ := h _ hK
  exact ⟨g y, h1, fun K' => h2 _⟩
theorem Dt.none {α : Type} : Dt (fun _ : α → Prop => False) := fun _ h => h.elim
theorem Dt.and {α : Type} {F : (α → Prop) → Prop} (h : Dt F) (c : Prop) : Dt (fun K => c ∧ F K) := fun K hK => by
  obtain ⟨y, h1, h2⟩ := h _ hK.2
  exact ⟨y, h1, fun K' => ⟨fun h => (h2 K').1 h.2, fun h => ⟨hK.1, (h2 K').2 h⟩⟩⟩
theorem Dt.one {α : Type} (y : α) : Dt (fun K : α → Prop => K y) := fun K h => ⟨y, h, fun _ => Iff.rfl⟩

theorem bytesA_inj {l m : List UInt8} (h : bytesA l = bytesA m) : l = m := by
  induction l generalizing m with
  | nil => cases m with
    | nil => rfl
    | cons b m => simp [bytesA] at h
  | cons a l ih => cases m with
    | nil => simp [bytesA] at h
    | cons b m =>
      simp only [bytesA, List.map_cons, List.cons.injEq, byteA, AV.raw.injEq, Value.int.injEq, true_and] at h
      have h1 : a = b := UInt8.toNat_inj.1 (by omega)
      have h2 := ih (by simpa [bytesA] using h.2)
      rw [h1, h2]

section
variable {P : Program} {T : Tab} {σ : List AV}
theorem abin_det (op : BinOp) (x y : AV) : Dt (abin op x y) := by
  intro K h
  unfold abin at h
  split at h
  · cases op <;> first
      | exact h.elim
      | exact ⟨_, h, fun K' => Iff.rfl⟩
      | exact ⟨_, h.2, fun K' => ⟨fun h' => h'.2, fun h' => ⟨h.1, h'⟩⟩⟩
      | exact ⟨_, h.2.2, fun K' => ⟨fun h' => h'.2.2, fun h' => ⟨h.1, h.2.1, h'⟩⟩⟩
      | exact ⟨_, h.2.2.2, fun K' => ⟨fun h' => h'.2.2.2, fun h' => ⟨h.1, h.2.1, h.2.2.1, h'⟩⟩⟩
      | exact ⟨_, h.2.2.2.2, fun K' => ⟨fun h' => h'.2.2.2.2, fun h' => ⟨h.1, h.2.1, h.2.2.1, h.2.2.2.1, h'⟩⟩⟩
      | exact ⟨_, h.2.2.2.2.2, fun K' => ⟨fun h' => h'.2.2.2.2.2, fun h' => ⟨h.1, h.2.1, h.2.2.1, h.2.2.2.1, h.2.2.2.2.1, h'⟩⟩⟩
      | exact ⟨_, h.2.2.2.2.2.2, fun K' => ⟨fun h' => h'.2.2.2.2.2.2, fun h' => ⟨h.1, h.2.1, h.2.2.1, h.2.2.2.1, h.2.2.2.2.1, h.2.2.2.2.2.1, h'⟩⟩⟩
  · cases op <;> first
      | exact h.elim
      | exact ⟨_, h, fun K' => Iff.rfl⟩
      | exact ⟨_, h.2, fun K' => ⟨fun h' => h'.2, fun h' => ⟨h.1, h'⟩⟩⟩
      | exact ⟨_, h.2.2, fun K' => ⟨fun h' => h'.2.2, fun h' => ⟨h.1, h.2.1, h'⟩⟩⟩
      | exact ⟨_, h.2.2.2, fun K' => ⟨fun h' => h'.2.2.2, fun h' => ⟨h.1, h.2.1, h.2.2.1, h'⟩⟩⟩
      | exact ⟨_, h.2.2.2.2, fun K' => ⟨fun h' => h'.2.2.2.2, fun h' => ⟨h.1, h.2.1, h.2.2.1, h.2.2.2.1, h'⟩⟩⟩
      | exact ⟨_, h.2.2.2.2.2, fun K' => ⟨fun h' => h'.2.2.2.2.2, fun h' => ⟨h.1, h.2.1, h.2.2.1, h.2.2.2.1, h.2.2.2.2.1, h'⟩⟩⟩
      | exact ⟨_, h.2.2.2.2.2.2, fun K' => ⟨fun h' => h'.2.2.2.2.2.2, fun h' => ⟨h.1, h.2.1, h.2.2.1, h.2.2.2.1, h.2.2.2.2.1, h.2.2.2.2.2.1, h'⟩⟩⟩
  · exact h.elim
theorem abq1_det (o : Option TI) (xs ys : List AV) (neg : Bool) : Dt (fun K => abq1 o xs ys K neg) := by
  intro K h
  cases o with
  | none => exact h.elim
  | some i =>
    show ∃ y, _ ∧ _
    have h' : abq2 i.eqs xs ys K neg := h
    cases hq : i.eqs with
    | none => rw [hq] at h'; exact h'.elim
    | some q =>
      rw [hq] at h'
      have h2 : abq3 (aeqs xs ys q) K neg := h'
      cases hb : aeqs xs ys q with
      | none => rw [hb] at h2; exact h2.elim
      | some b =>
        rw [hb] at h2
        refine ⟨.raw (.bool (b != neg)), h2, fun K' => ?_⟩
        show abq2 i.eqs xs ys K' neg ↔ _
        rw [hq]
        show abq3 (aeqs xs ys q) K' neg ↔ _
        rw [hb]
        exact Iff.rfl
theorem abinT_det (op : BinOp) (t : Nat) (x y : AV) : Dt (abinT T op t x y) := by
  intro K h
  unfold abinT at h
  split at h
  · cases op <;> first
      | exact h.elim
      | exact ⟨_, h.2, fun K' => ⟨fun h' => h'.2, fun h' => ⟨h.1, h'⟩⟩⟩
  · cases op <;> first
      | exact h.elim
      | exact abq1_det _ _ _ _ K h
  · rename_i hno hno2
    obtain ⟨y', h1, h2⟩ := abin_det op _ _ K h
    refine ⟨y', h1, fun K' => ?_⟩
    rw [← h2 K']
    unfold abinT
    split
    · exact absurd rfl (hno _ _ rfl)
    · exact absurd rfl (hno2 _ _ rfl)
    · exact Iff.rfl
theorem aun_det (op : UnOp) (x : AV) : Dt (aun op x) := by
  intro K h
  unfold aun at h
  split at h
  · cases op <;> first
      | exact h.elim
      | exact ⟨_, h, fun K' => Iff.rfl⟩
      | exact ⟨_, h.2, fun K' => ⟨fun h' => h'.2, fun h' => ⟨h.1, h'⟩⟩⟩
      | exact ⟨_, h.2.2, fun K' => ⟨fun h' => h'.2.2, fun h' => ⟨h.1, h.2.1, h'⟩⟩⟩
      | exact ⟨_, h.2.2.2, fun K' => ⟨fun h' => h'.2.2.2, fun h' => ⟨h.1, h.2.1, h.2.2.1, h'⟩⟩⟩
      | exact ⟨_, h.2.2.2.2, fun K' => ⟨fun h' => h'.2.2.2.2, fun h' => ⟨h.1, h.2.1, h.2.2.1, h.2.2.2.1, h'⟩⟩⟩
      | exact ⟨_, h.2.2.2.2.2, fun K' => ⟨fun h' => h'.2.2.2.2.2, fun h' => ⟨h.1, h.2.1, h.2.2.1, h.2.2.2.1, h.2.2.2.2.1, h'⟩⟩⟩
      | exact ⟨_, h.2.2.2.2.2.2, fun K' => ⟨fun h' => h'.2.2.2.2.2.2, fun h' => ⟨h.1, h.2.1, h.2.2.1, h.2.2.2.1, h.2.2.2.2.1, h.2.2.2.2.2.1, h'⟩⟩⟩
  · cases op <;> first
      | exact h.elim
      | exact ⟨_, h, fun K' => Iff.rfl⟩
      | exact ⟨_, h.2, fun K' => ⟨fun h' => h'.2, fun h' => ⟨h.1, h'⟩⟩⟩
      | exact ⟨_, h.2.2, fun K' => ⟨fun h' => h'.2.2, fun h' => ⟨h.1, h.2.1, h'⟩⟩⟩
      | exact ⟨_, h.2.2.2, fun K' => ⟨fun h' => h'.2.2.2, fun h' => ⟨h.1, h.2.1, h.2.2.1, h'⟩⟩⟩
      | exact ⟨_, h.2.2.2.2, fun K' => ⟨fun h' => h'.2.2.2.2, fun h' => ⟨h.1, h.2.1, h.2.2.1, h.2.2.2.1, h'⟩⟩⟩
      | exact ⟨_, h.2.2.2.2.2, fun K' => ⟨fun h' => h'.2.2.2.2.2, fun h' => ⟨h.1, h.2.1, h.2.2.1, h.2.2.2.1, h.2.2.2.2.1, h'⟩⟩⟩
      | exact ⟨_, h.2.2.2.2.2.2, fun K' => ⟨fun h' => h'.2.2.2.2.2.2, fun h' => ⟨h.1, h.2.1, h.2.2.1, h.2.2.2.1, h.2.2.2.2.1, h.2.2.2.2.2.1, h'⟩⟩⟩
  · exact h.elim
theorem aconv2_det (s d : TI) (x : AV) : Dt (aconv2 T s d x) := by
  intro K h
  unfold aconv2 at h
  split at h
  · split at h
    · rename_i hk
      refine ⟨_, h, fun K' => ?_⟩
      simp only [aconv2, hk]
    · exact h.elim
  · first
      | exact h.elim
      | exact ⟨_, h, fun K' => Iff.rfl⟩
      | exact ⟨_, h.2, fun K' => ⟨fun h' => h'.2, fun h' => ⟨h.1, h'⟩⟩⟩
      | exact ⟨_, h.2.2, fun K' => ⟨fun h' => h'.2.2, fun h' => ⟨h.1, h.2.1, h'⟩⟩⟩
      | exact ⟨_, h.2.2.2, fun K' => ⟨fun h' => h'.2.2.2, fun h' => ⟨h.1, h.2.1, h.2.2.1, h'⟩⟩⟩
      | exact ⟨_, h.2.2.2.2, fun K' => ⟨fun h' => h'.2.2.2.2, fun h' => ⟨h.1, h.2.1, h.2.2.1, h.2.2.2.1, h'⟩⟩⟩
      | exact ⟨_, h.2.2.2.2.2, fun K' => ⟨fun h' => h'.2.2.2.2.2, fun h' => ⟨h.1, h.2.1, h.2.2.1, h.2.2.2.1, h.2.2.2.2.1, h'⟩⟩⟩
      | exact ⟨_, h.2.2.2.2.2.2, fun K' => ⟨fun h' => h'.2.2.2.2.2.2, fun h' => ⟨h.1, h.2.1, h.2.2.1, h.2.2.2.1, h.2.2.2.2.1, h.2.2.2.2.2.1, h'⟩⟩⟩
  · obtain ⟨h1, h2, l, rfl, hK⟩ := h
    refine ⟨_, hK, fun K' => ⟨fun h => ?_, fun h => ⟨h1, h2, l, rfl, h⟩⟩⟩
    obtain ⟨_, _, l', he, hK'⟩ := h
    rw [bytesA_inj he]; exact hK'
  · obtain ⟨h1, h2, l, rfl, hK⟩ := h
    refine ⟨_, hK, fun K' => ⟨fun h => ?_, fun h => ⟨h1, h2, l, rfl, h⟩⟩⟩
    obtain ⟨_, _, l', he, hK'⟩ := h
    rw [bytesA_inj he]; exact hK'
  · exact h.elim
theorem amakeSlice_det (e : Nat) (j : TI) (x y : AV) : Dt (amakeSlice e j x y) := by
  intro K h
  unfold amakeSlice at h
  split at h
  · first
      | exact h.elim
      | exact ⟨_, h, fun K' => Iff.rfl⟩
      | exact ⟨_, h.2, fun K' => ⟨fun h' => h'.2, fun h' => ⟨h.1, h'⟩⟩⟩
      | exact ⟨_, h.2.2, fun K' => ⟨fun h' => h'.2.2, fun h' => ⟨h.1, h.2.1, h'⟩⟩⟩
      | exact ⟨_, h.2.2.2, fun K' => ⟨fun h' => h'.2.2.2, fun h' => ⟨h.1, h.2.1, h.2.2.1, h'⟩⟩⟩
      | exact ⟨_, h.2.2.2.2, fun K' => ⟨fun h' => h'.2.2.2.2, fun h' => ⟨h.1, h.2.1, h.2.2.1, h.2.2.2.1, h'⟩⟩⟩
      | exact ⟨_, h.2.2.2.2.2, fun K' => ⟨fun h' => h'.2.2.2.2.2, fun h' => ⟨h.1, h.2.1, h.2.2.1, h.2.2.2.1, h.2.2.2.2.1, h'⟩⟩⟩
      | exact ⟨_, h.2.2.2.2.2.2, fun K' => ⟨fun h' => h'.2.2.2.2.2.2, fun h' => ⟨h.1, h.2.1, h.2.2.1, h.2.2.2.1, h.2.2.2.2.1, h.2.2.2.2.2.1, h'⟩⟩⟩
  · exact h.elim
theorem amax_det (mx : Bool) (x y : AV) : Dt (amax mx x y) := by
  intro K h
  unfold amax at h
  split at h
  · first
      | exact h.elim
      | exact ⟨_, h, fun K' => Iff.rfl⟩
      | exact ⟨_, h.2, fun K' => ⟨fun h' => h'.2, fun h' => ⟨h.1, h'⟩⟩⟩
      | exact ⟨_, h.2.2, fun K' => ⟨fun h' => h'.2.2, fun h' => ⟨h.1, h.2.1, h'⟩⟩⟩
      | exact ⟨_, h.2.2.2, fun K' => ⟨fun h' => h'.2.2.2, fun h' => ⟨h.1, h.2.1, h.2.2.1, h'⟩⟩⟩
      | exact ⟨_, h.2.2.2.2, fun K' => ⟨fun h' => h'.2.2.2.2, fun h' => ⟨h.1, h.2.1, h.2.2.1, h.2.2.2.1, h'⟩⟩⟩
      | exact ⟨_, h.2.2.2.2.2, fun K' => ⟨fun h' => h'.2.2.2.2.2, fun h' => ⟨h.1, h.2.1, h.2.2.1, h.2.2.2.1, h.2.2.2.2.1, h'⟩⟩⟩
      | exact ⟨_, h.2.2.2.2.2.2, fun K' => ⟨fun h' => h'.2.2.2.2.2.2, fun h' => ⟨h.1, h.2.1, h.2.2.1, h.2.2.2.1, h.2.2.2.2.1, h.2.2.2.2.2.1, h'⟩⟩⟩
  · exact h.elim
theorem alen_det (i : TI) (x : AV) : Dt (alen i x) := by
  intro K h
  unfold alen at h
  split at h <;> first
    | exact h.elim
    | exact ⟨_, h, fun K' => Iff.rfl⟩
    | exact ⟨_, h.2, fun K' => ⟨fun h' => h'.2, fun h' => ⟨h.1, h'⟩⟩⟩
    | exact ⟨_, h.2.2, fun K' => ⟨fun h' => h'.2.2, fun h' => ⟨h.1, h.2.1, h'⟩⟩⟩
    | exact ⟨_, h.2.2.2, fun K' => ⟨fun h' => h'.2.2.2, fun h' => ⟨h.1, h.2.1, h.2.2.1, h'⟩⟩⟩
    | exact ⟨_, h.2.2.2.2, fun K' => ⟨fun h' => h'.2.2.2.2, fun h' => ⟨h.1, h.2.1, h.2.2.1, h.2.2.2.1, h'⟩⟩⟩
    | exact ⟨_, h.2.2.2.2.2, fun K' => ⟨fun h' => h'.2.2.2.2.2, fun h' => ⟨h.1, h.2.1, h.2.2.1, h.2.2.2.1, h.2.2.2.2.1, h'⟩⟩⟩
    | exact ⟨_, h.2.2.2.2.2.2, fun K' => ⟨fun h' => h'.2.2.2.2.2.2, fun h' => ⟨h.1, h.2.1, h.2.2.1, h.2.2.2.1, h.2.2.2.2.1, h.2.2.2.2.2.1, h'⟩⟩⟩
theorem afield_det (i : TI) (f : Nat) (x : AV) : Dt (afield i f x) := by
  intro K h
  unfold afield at h
  split at h
  · rename_i off n agg cs hf
    refine ⟨_, h.2.2, fun K' => ?_⟩
    simp only [afield, hf]
    exact ⟨fun h' => h'.2.2, fun h' => ⟨h.1, h.2.1, h'⟩⟩
  · exact h.elim
theorem aindex_det (i : TI) (x y : AV) : Dt (aindex T i x y) := by
  intro K h
  unfold aindex at h
  split at h
  · first
      | exact h.elim
      | exact ⟨_, h, fun K' => Iff.rfl⟩
      | exact ⟨_, h.2, fun K' => ⟨fun h' => h'.2, fun h' => ⟨h.1, h'⟩⟩⟩
      | exact ⟨_, h.2.2, fun K' => ⟨fun h' => h'.2.2, fun h' => ⟨h.1, h.2.1, h'⟩⟩⟩
      | exact ⟨_, h.2.2.2, fun K' => ⟨fun h' => h'.2.2.2, fun h' => ⟨h.1, h.2.1, h.2.2.1, h'⟩⟩⟩
      | exact ⟨_, h.2.2.2.2, fun K' => ⟨fun h' => h'.2.2.2.2, fun h' => ⟨h.1, h.2.1, h.2.2.1, h.2.2.2.1, h'⟩⟩⟩
      | exact ⟨_, h.2.2.2.2.2, fun K' => ⟨fun h' => h'.2.2.2.2.2, fun h' => ⟨h.1, h.2.1, h.2.2.1, h.2.2.2.1, h.2.2.2.2.1, h'⟩⟩⟩
      | exact ⟨_, h.2.2.2.2.2.2, fun K' => ⟨fun h' => h'.2.2.2.2.2.2, fun h' => ⟨h.1, h.2.1, h.2.2.1, h.2.2.2.1, h.2.2.2.2.1, h.2.2.2.2.2.1, h'⟩⟩⟩
  · split at h
    · rename_i len e ha
      split at h
      · rename_i j hj
        refine ⟨_, h.2.2.2.2, fun K' => ?_⟩
        simp only [aindex, ha, hj]
        exact ⟨fun h' => h'.2.2.2.2, fun h' => ⟨h.1, h.2.1, h.2.2.1, h.2.2.2.1, h'⟩⟩
      · exact h.elim
    · exact h.elim
  · exact h.elim
theorem aindexAddr_det (i : TI) (x y : AV) : Dt (aindexAddr T i x y) := by
  intro K h
  unfold aindexAddr at h
  split at h
  · rename_i e he
    split at h
    · rename_i j hj
      split at h
      · refine ⟨_, h.2.2.2, fun K' => ?_⟩
        simp only [aindexAddr, he, hj]
        exact ⟨fun h' => h'.2.2.2, fun h' => ⟨h.1, h.2.1, h.2.2.1, h'⟩⟩
      · refine ⟨_, h.2.2.2, fun K' => ?_⟩
        simp only [aindexAddr, he, hj]
        exact ⟨fun h' => h'.2.2.2, fun h' => ⟨h.1, h.2.1, h.2.2.1, h'⟩⟩
      · exact h.elim
    · exact h.elim
  · exact h.elim
theorem abound_det (dflt : Int) (x : Option AV) : Dt (abound dflt x) := by
  intro K h
  unfold abound at h
  split at h <;> first
    | exact h.elim
    | exact ⟨_, h, fun K' => Iff.rfl⟩
    | exact ⟨_, h.2, fun K' => ⟨fun h' => h'.2, fun h' => ⟨h.1, h'⟩⟩⟩
    | exact ⟨_, h.2.2, fun K' => ⟨fun h' => h'.2.2, fun h' => ⟨h.1, h.2.1, h'⟩⟩⟩
    | exact ⟨_, h.2.2.2, fun K' => ⟨fun h' => h'.2.2.2, fun h' => ⟨h.1, h.2.1, h.2.2.1, h'⟩⟩⟩
    | exact ⟨_, h.2.2.2.2, fun K' => ⟨fun h' => h'.2.2.2.2, fun h' => ⟨h.1, h.2.1, h.2.2.1, h.2.2.2.1, h'⟩⟩⟩
    | exact ⟨_, h.2.2.2.2.2, fun K' => ⟨fun h' => h'.2.2.2.2.2, fun h' => ⟨h.1, h.2.1, h.2.2.1, h.2.2.2.1, h.2.2.2.2.1, h'⟩⟩⟩
    | exact ⟨_, h.2.2.2.2.2.2, fun K' => ⟨fun h' => h'.2.2.2.2.2.2, fun h' => ⟨h.1, h.2.1, h.2.2.1, h.2.2.2.1, h.2.2.2.2.1, h.2.2.2.2.2.1, h'⟩⟩⟩
theorem abound2_det (d1 d2 : Int) (x y : Option AV) (c : Int → Int → Prop) {α : Type} (g : Int → Int → α) : Dt (fun K : α → Prop => abound d1 x fun l => abound d2 y fun h => c l h ∧ K (g l h)) := by
  intro K h
  obtain ⟨l, h1, h2⟩ := abound_det d1 x _ h
  obtain ⟨m, h3, h4⟩ := abound_det d2 y _ h1
  refine ⟨g l m, h3.2, fun K' => ?_⟩
  show (abound d1 x fun l => abound d2 y fun h => c l h ∧ K' (g l h)) ↔ _
  rw [h2, h4]
  exact ⟨fun h => h.2, fun h => ⟨h3.1, h⟩⟩
theorem aslice_det (i : TI) (x : AV) (lo hi : Option AV) : Dt (aslice T i x lo hi) := by
  intro K h
  have key : ∀ (d1 d2 : Int) (n : Int) (g : Int → Int → AV), Dt (fun K : AV → Prop => abound d1 lo fun l => abound d2 hi fun h => 0 ≤ l ∧ l ≤ h ∧ h ≤ n ∧ K (g l h)) := by
    intro d1 d2 n g
    have := abound2_det d1 d2 lo hi (fun l h => 0 ≤ l ∧ l ≤ h ∧ h ≤ n) g
    simpa only [and_assoc] using this
  unfold aslice at h
  split at h
  · obtain ⟨y, h1, h2⟩ := ((key 0 _ _ fun l h => _).and _) K h
    exact ⟨y, h1, h2⟩
  · split at h
    · rename_i e he
      split at h
      · rename_i j hj
        obtain ⟨y, h1, h2⟩ := ((key 0 _ _ fun l h => _).and _) K h
        exact ⟨y, h1, fun K' => by simp only [aslice, he, hj]; exact h2 K'⟩
      · exact h.elim
    · exact h.elim
  · split at h
    · rename_i e he
      split at h
      · rename_i j hj
        obtain ⟨y, h1, h2⟩ := ((key 0 _ _ fun l h => _).and _) K h
        exact ⟨y, h1, fun K' => by simp only [aslice, he, hj]; exact h2 K'⟩
      · exact h.elim
    · exact h.elim
  · rename_i k es zs
    split at h
    · rename_i e he
      split at h
      · rename_i j hj
        obtain ⟨y, h1, h2⟩ := ((abound2_det 0 _ lo hi (fun l h => l = 0 ∧ h = ((es ++ zs).length : Int)) (fun _ _ => AV.sl k (es ++ zs))).and (k = j.size)) K h
        exact ⟨y, h1, fun K' => by simp only [aslice, he, hj]; exact h2 K'⟩
      · exact h.elim
    · exact h.elim
  · exact h.elim
theorem afill_det (flds : List (Nat × Option Nat × Option Bool)) : ∀ (ps : List (Nat × AV)) (cs : List AV), Dt (afill flds ps cs)
  | [], cs => Dt.one cs
  | (i, x) :: r, cs => by
    intro K h
    simp only [afill] at h
    split at h
    · rename_i off size ag hf
      obtain ⟨y, h1, h2⟩ := afill_det flds r _ K h.2.2.2
      refine ⟨y, h1, fun K' => ?_⟩
      simp only [afill, hf]
      exact ⟨fun h' => (h2 K').1 h'.2.2.2, fun h' => ⟨h.1, h.2.1, h.2.2.1, (h2 K').2 h'⟩⟩
    · exact h.elim
theorem aload_det (i : TI) (x : Operand) (d : Option Nat) : Dt (aload σ i x d) := by
  intro K h
  unfold aload at h ⊢
  cases x with
  | tmp s =>
    revert h
    simp only []
    generalize σ.getD s .any = v
    intro h
    cases v <;> simp only [] at h ⊢ <;> try exact h.elim
    case box U cs => first
      | exact h.elim
      | exact ⟨_, h, fun K' => Iff.rfl⟩
      | exact ⟨_, h.2, fun K' => ⟨fun h' => h'.2, fun h' => ⟨h.1, h'⟩⟩⟩
      | exact ⟨_, h.2.2, fun K' => ⟨fun h' => h'.2.2, fun h' => ⟨h.1, h.2.1, h'⟩⟩⟩
      | exact ⟨_, h.2.2.2, fun K' => ⟨fun h' => h'.2.2.2, fun h' => ⟨h.1, h.2.1, h.2.2.1, h'⟩⟩⟩
      | exact ⟨_, h.2.2.2.2, fun K' => ⟨fun h' => h'.2.2.2.2, fun h' => ⟨h.1, h.2.1, h.2.2.1, h.2.2.2.1, h'⟩⟩⟩
      | exact ⟨_, h.2.2.2.2.2, fun K' => ⟨fun h' => h'.2.2.2.2.2, fun h' => ⟨h.1, h.2.1, h.2.2.1, h.2.2.2.1, h.2.2.2.2.1, h'⟩⟩⟩
      | exact ⟨_, h.2.2.2.2.2.2, fun K' => ⟨fun h' => h'.2.2.2.2.2.2, fun h' => ⟨h.1, h.2.1, h.2.2.1, h.2.2.2.1, h.2.2.2.2.1, h.2.2.2.2.2.1, h'⟩⟩⟩
    case ref s' off =>
      revert h
      generalize σ.getD s' .any = u
      intro h
      cases u <;> simp only [] at h ⊢ <;> try exact h.elim
      case box U cs => first
        | exact h.elim
        | exact ⟨_, h, fun K' => Iff.rfl⟩
        | exact ⟨_, h.2, fun K' => ⟨fun h' => h'.2, fun h' => ⟨h.1, h'⟩⟩⟩
        | exact ⟨_, h.2.2, fun K' => ⟨fun h' => h'.2.2, fun h' => ⟨h.1, h.2.1, h'⟩⟩⟩
        | exact ⟨_, h.2.2.2, fun K' => ⟨fun h' => h'.2.2.2, fun h' => ⟨h.1, h.2.1, h.2.2.1, h'⟩⟩⟩
        | exact ⟨_, h.2.2.2.2, fun K' => ⟨fun h' => h'.2.2.2.2, fun h' => ⟨h.1, h.2.1, h.2.2.1, h.2.2.2.1, h'⟩⟩⟩
        | exact ⟨_, h.2.2.2.2.2, fun K' => ⟨fun h' => h'.2.2.2.2.2, fun h' => ⟨h.1, h.2.1, h.2.2.1, h.2.2.2.1, h.2.2.2.2.1, h'⟩⟩⟩
        | exact ⟨_, h.2.2.2.2.2.2, fun K' => ⟨fun h' => h'.2.2.2.2.2.2, fun h' => ⟨h.1, h.2.1, h.2.2.1, h.2.2.2.1, h.2.2.2.2.1, h.2.2.2.2.2.1, h'⟩⟩⟩
    case elt y => first
      | exact h.elim
      | exact ⟨_, h, fun K' => Iff.rfl⟩
      | exact ⟨_, h.2, fun K' => ⟨fun h' => h'.2, fun h' => ⟨h.1, h'⟩⟩⟩
      | exact ⟨_, h.2.2, fun K' => ⟨fun h' => h'.2.2, fun h' => ⟨h.1, h.2.1, h'⟩⟩⟩
      | exact ⟨_, h.2.2.2, fun K' => ⟨fun h' => h'.2.2.2, fun h' => ⟨h.1, h.2.1, h.2.2.1, h'⟩⟩⟩
      | exact ⟨_, h.2.2.2.2, fun K' => ⟨fun h' => h'.2.2.2.2, fun h' => ⟨h.1, h.2.1, h.2.2.1, h.2.2.2.1, h'⟩⟩⟩
      | exact ⟨_, h.2.2.2.2.2, fun K' => ⟨fun h' => h'.2.2.2.2.2, fun h' => ⟨h.1, h.2.1, h.2.2.1, h.2.2.2.1, h.2.2.2.2.1, h'⟩⟩⟩
      | exact ⟨_, h.2.2.2.2.2.2, fun K' => ⟨fun h' => h'.2.2.2.2.2.2, fun h' => ⟨h.1, h.2.1, h.2.2.1, h.2.2.2.1, h.2.2.2.2.1, h.2.2.2.2.2.1, h'⟩⟩⟩
  | _ => exact h.elim
theorem afieldAddr_det (i : TI) (x : Operand) (f : Nat) (d : Option Nat) : Dt (afieldAddr σ i x f d) := by
  intro K h
  unfold afieldAddr at h ⊢
  revert h
  generalize i.td.flds[f]? = fl
  intro h
  split at h
  · cases x with
    | tmp s =>
      revert h
      simp only []
      generalize σ.getD s .any = v
      intro h
      cases v <;> simp only [] at h ⊢ <;> try exact h.elim
      case box U cs => first
        | exact h.elim
        | exact ⟨_, h, fun K' => Iff.rfl⟩
        | exact ⟨_, h.2, fun K' => ⟨fun h' => h'.2, fun h' => ⟨h.1, h'⟩⟩⟩
        | exact ⟨_, h.2.2, fun K' => ⟨fun h' => h'.2.2, fun h' => ⟨h.1, h.2.1, h'⟩⟩⟩
        | exact ⟨_, h.2.2.2, fun K' => ⟨fun h' => h'.2.2.2, fun h' => ⟨h.1, h.2.1, h.2.2.1, h'⟩⟩⟩
        | exact ⟨_, h.2.2.2.2, fun K' => ⟨fun h' => h'.2.2.2.2, fun h' => ⟨h.1, h.2.1, h.2.2.1, h.2.2.2.1, h'⟩⟩⟩
        | exact ⟨_, h.2.2.2.2.2, fun K' => ⟨fun h' => h'.2.2.2.2.2, fun h' => ⟨h.1, h.2.1, h.2.2.1, h.2.2.2.1, h.2.2.2.2.1, h'⟩⟩⟩
        | exact ⟨_, h.2.2.2.2.2.2, fun K' => ⟨fun h' => h'.2.2.2.2.2.2, fun h' => ⟨h.1, h.2.1, h.2.2.1, h.2.2.2.1, h.2.2.2.2.1, h.2.2.2.2.2.1, h'⟩⟩⟩
      case ref s' off =>
        revert h
        generalize σ.getD s' .any = u
        intro h
        cases u <;> simp only [] at h ⊢ <;> try exact h.elim
        case box U cs => first
          | exact h.elim
          | exact ⟨_, h, fun K' => Iff.rfl⟩
          | exact ⟨_, h.2, fun K' => ⟨fun h' => h'.2, fun h' => ⟨h.1, h'⟩⟩⟩
          | exact ⟨_, h.2.2, fun K' => ⟨fun h' => h'.2.2, fun h' => ⟨h.1, h.2.1, h'⟩⟩⟩
          | exact ⟨_, h.2.2.2, fun K' => ⟨fun h' => h'.2.2.2, fun h' => ⟨h.1, h.2.1, h.2.2.1, h'⟩⟩⟩
          | exact ⟨_, h.2.2.2.2, fun K' => ⟨fun h' => h'.2.2.2.2, fun h' => ⟨h.1, h.2.1, h.2.2.1, h.2.2.2.1, h'⟩⟩⟩
          | exact ⟨_, h.2.2.2.2.2, fun K' => ⟨fun h' => h'.2.2.2.2.2, fun h' => ⟨h.1, h.2.1, h.2.2.1, h.2.2.2.1, h.2.2.2.2.1, h'⟩⟩⟩
          | exact ⟨_, h.2.2.2.2.2.2, fun K' => ⟨fun h' => h'.2.2.2.2.2.2, fun h' => ⟨h.1, h.2.1, h.2.2.1, h.2.2.2.1, h.2.2.2.2.1, h.2.2.2.2.2.1, h'⟩⟩⟩
      case elt y => first
        | exact h.elim
        | exact ⟨_, h, fun K' => Iff.rfl⟩
        | exact ⟨_, h.2, fun K' => ⟨fun h' => h'.2, fun h' => ⟨h.1, h'⟩⟩⟩
        | exact ⟨_, h.2.2, fun K' => ⟨fun h' => h'.2.2, fun h' => ⟨h.1, h.2.1, h'⟩⟩⟩
        | exact ⟨_, h.2.2.2, fun K' => ⟨fun h' => h'.2.2.2, fun h' => ⟨h.1, h.2.1, h.2.2.1, h'⟩⟩⟩
        | exact ⟨_, h.2.2.2.2, fun K' => ⟨fun h' => h'.2.2.2.2, fun h' => ⟨h.1, h.2.1, h.2.2.1, h.2.2.2.1, h'⟩⟩⟩
        | exact ⟨_, h.2.2.2.2.2, fun K' => ⟨fun h' => h'.2.2.2.2.2, fun h' => ⟨h.1, h.2.1, h.2.2.1, h.2.2.2.1, h.2.2.2.2.1, h'⟩⟩⟩
        | exact ⟨_, h.2.2.2.2.2.2, fun K' => ⟨fun h' => h'.2.2.2.2.2.2, fun h' => ⟨h.1, h.2.1, h.2.2.1, h.2.2.2.1, h.2.2.2.2.1, h.2.2.2.2.2.1, h'⟩⟩⟩
    | _ => exact h.elim
  · exact h.elim
theorem aextract_det (x : Operand) (n : Nat) (d : Option Nat) : Dt (aextract σ x n d) := by
  intro K h
  unfold aextract at h ⊢
  cases x with
  | tmp s =>
    revert h
    simp only []
    generalize σ.getD s .any = v
    intro h
    cases v <;> simp only [] at h ⊢ <;> try exact h.elim
    case tup cs => first
      | exact h.elim
      | exact ⟨_, h, fun K' => Iff.rfl⟩
      | exact ⟨_, h.2, fun K' => ⟨fun h' => h'.2, fun h' => ⟨h.1, h'⟩⟩⟩
      | exact ⟨_, h.2.2, fun K' => ⟨fun h' => h'.2.2, fun h' => ⟨h.1, h.2.1, h'⟩⟩⟩
      | exact ⟨_, h.2.2.2, fun K' => ⟨fun h' => h'.2.2.2, fun h' => ⟨h.1, h.2.1, h.2.2.1, h'⟩⟩⟩
      | exact ⟨_, h.2.2.2.2, fun K' => ⟨fun h' => h'.2.2.2.2, fun h' => ⟨h.1, h.2.1, h.2.2.1, h.2.2.2.1, h'⟩⟩⟩
      | exact ⟨_, h.2.2.2.2.2, fun K' => ⟨fun h' => h'.2.2.2.2.2, fun h' => ⟨h.1, h.2.1, h.2.2.1, h.2.2.2.1, h.2.2.2.2.1, h'⟩⟩⟩
      | exact ⟨_, h.2.2.2.2.2.2, fun K' => ⟨fun h' => h'.2.2.2.2.2.2, fun h' => ⟨h.1, h.2.1, h.2.2.1, h.2.2.2.1, h.2.2.2.2.1, h.2.2.2.2.2.1, h'⟩⟩⟩
  | _ => exact h.elim
theorem afieldM_det (i : TI) (x : Operand) (n : Nat) (d : Option Nat) : Dt (afieldM σ i x n d) := by
  intro K h
  unfold afieldM at h ⊢
  cases x with
  | tmp s =>
    revert h
    simp only []
    generalize σ.getD s .any = v
    intro h
    cases v <;> simp only [] at h ⊢ <;> try exact h.elim
    revert h
    generalize i.td.flds[n]? = p
    intro h
    cases p with
    | none => exact h.elim
    | some p =>
      obtain ⟨off, sz, ag⟩ := p
      cases sz <;> cases ag <;> simp only [] at h ⊢ <;> try exact h.elim
      exact ⟨_, h.2.2, fun K' => ⟨fun h' => h'.2.2, fun h' => ⟨h.1, h.2.1, h'⟩⟩⟩
  | _ => exact ((afield_det _ _ _).map _) K h
theorem abuildSlice_det (e n : Nat) (j : TI) (ps : List (Nat × Operand)) (d : Option Nat) : Dt (abuildSlice σ e j n ps d) := by
  intro K h
  unfold abuildSlice at h ⊢
  first
    | exact h.elim
    | exact ⟨_, h, fun K' => Iff.rfl⟩
    | exact ⟨_, h.2, fun K' => ⟨fun h' => h'.2, fun h' => ⟨h.1, h'⟩⟩⟩
    | exact ⟨_, h.2.2, fun K' => ⟨fun h' => h'.2.2, fun h' => ⟨h.1, h.2.1, h'⟩⟩⟩
    | exact ⟨_, h.2.2.2, fun K' => ⟨fun h' => h'.2.2.2, fun h' => ⟨h.1, h.2.1, h.2.2.1, h'⟩⟩⟩
    | exact ⟨_, h.2.2.2.2, fun K' => ⟨fun h' => h'.2.2.2.2, fun h' => ⟨h.1, h.2.1, h.2.2.1, h.2.2.2.1, h'⟩⟩⟩
    | exact ⟨_, h.2.2.2.2.2, fun K' => ⟨fun h' => h'.2.2.2.2.2, fun h' => ⟨h.1, h.2.1, h.2.2.1, h.2.2.2.1, h.2.2.2.2.1, h'⟩⟩⟩
    | exact ⟨_, h.2.2.2.2.2.2, fun K' => ⟨fun h' => h'.2.2.2.2.2.2, fun h' => ⟨h.1, h.2.1, h.2.2.1, h.2.2.2.1, h.2.2.2.2.1, h.2.2.2.2.2.1, h'⟩⟩⟩
theorem astore_det (i : TI) (x y : Operand) (d : Option Nat) : Dt (astore σ i x y d) := by
  intro K h
  unfold astore at h ⊢
  cases x with
  | tmp s =>
    revert h
    simp only []
    generalize (amv σ y).getD s .any = v
    intro h
    cases v <;> simp only [] at h ⊢ <;> try exact h.elim
    case box U cs => first
      | exact h.elim
      | exact ⟨_, h, fun K' => Iff.rfl⟩
      | exact ⟨_, h.2, fun K' => ⟨fun h' => h'.2, fun h' => ⟨h.1, h'⟩⟩⟩
      | exact ⟨_, h.2.2, fun K' => ⟨fun h' => h'.2.2, fun h' => ⟨h.1, h.2.1, h'⟩⟩⟩
      | exact ⟨_, h.2.2.2, fun K' => ⟨fun h' => h'.2.2.2, fun h' => ⟨h.1, h.2.1, h.2.2.1, h'⟩⟩⟩
      | exact ⟨_, h.2.2.2.2, fun K' => ⟨fun h' => h'.2.2.2.2, fun h' => ⟨h.1, h.2.1, h.2.2.1, h.2.2.2.1, h'⟩⟩⟩
      | exact ⟨_, h.2.2.2.2.2, fun K' => ⟨fun h' => h'.2.2.2.2.2, fun h' => ⟨h.1, h.2.1, h.2.2.1, h.2.2.2.1, h.2.2.2.2.1, h'⟩⟩⟩
      | exact ⟨_, h.2.2.2.2.2.2, fun K' => ⟨fun h' => h'.2.2.2.2.2.2, fun h' => ⟨h.1, h.2.1, h.2.2.1, h.2.2.2.1, h.2.2.2.2.1, h.2.2.2.2.2.1, h'⟩⟩⟩
    case ref s' off =>
      revert h
      generalize (amv σ y).getD s' .any = u
      intro h
      cases u <;> simp only [] at h ⊢ <;> try exact h.elim
      case box U cs => first
        | exact h.elim
        | exact ⟨_, h, fun K' => Iff.rfl⟩
        | exact ⟨_, h.2, fun K' => ⟨fun h' => h'.2, fun h' => ⟨h.1, h'⟩⟩⟩
        | exact ⟨_, h.2.2, fun K' => ⟨fun h' => h'.2.2, fun h' => ⟨h.1, h.2.1, h'⟩⟩⟩
        | exact ⟨_, h.2.2.2, fun K' => ⟨fun h' => h'.2.2.2, fun h' => ⟨h.1, h.2.1, h.2.2.1, h'⟩⟩⟩
        | exact ⟨_, h.2.2.2.2, fun K' => ⟨fun h' => h'.2.2.2.2, fun h' => ⟨h.1, h.2.1, h.2.2.1, h.2.2.2.1, h'⟩⟩⟩
        | exact ⟨_, h.2.2.2.2.2, fun K' => ⟨fun h' => h'.2.2.2.2.2, fun h' => ⟨h.1, h.2.1, h.2.2.1, h.2.2.2.1, h.2.2.2.2.1, h'⟩⟩⟩
        | exact ⟨_, h.2.2.2.2.2.2, fun K' => ⟨fun h' => h'.2.2.2.2.2.2, fun h' => ⟨h.1, h.2.1, h.2.2.1, h.2.2.2.1, h.2.2.2.2.1, h.2.2.2.2.2.1, h'⟩⟩⟩
  | _ => exact h.elim
theorem aappend_det (e : Nat) (j : TI) (x y : Operand) (d : Option Nat) : Dt (aappend σ e j x y d) := by
  intro K h
  unfold aappend at h ⊢
  revert h
  generalize adst e j.size (aev σ x) = u
  generalize asrc j.size (aev (amv σ x) y) = v
  intro h
  cases u <;> cases v <;> simp only [] at h ⊢ <;> first
    | exact h.elim
    | exact ⟨_, h, fun K' => Iff.rfl⟩
    | exact ⟨_, h.2, fun K' => ⟨fun h' => h'.2, fun h' => ⟨h.1, h'⟩⟩⟩
    | exact ⟨_, h.2.2, fun K' => ⟨fun h' => h'.2.2, fun h' => ⟨h.1, h.2.1, h'⟩⟩⟩
    | exact ⟨_, h.2.2.2, fun K' => ⟨fun h' => h'.2.2.2, fun h' => ⟨h.1, h.2.1, h.2.2.1, h'⟩⟩⟩
    | exact ⟨_, h.2.2.2.2, fun K' => ⟨fun h' => h'.2.2.2.2, fun h' => ⟨h.1, h.2.1, h.2.2.1, h.2.2.2.1, h'⟩⟩⟩
    | exact ⟨_, h.2.2.2.2.2, fun K' => ⟨fun h' => h'.2.2.2.2.2, fun h' => ⟨h.1, h.2.1, h.2.2.1, h.2.2.2.1, h.2.2.2.2.1, h'⟩⟩⟩
    | exact ⟨_, h.2.2.2.2.2.2, fun K' => ⟨fun h' => h'.2.2.2.2.2.2, fun h' => ⟨h.1, h.2.1, h.2.2.1, h.2.2.2.1, h.2.2.2.2.1, h.2.2.2.2.2.1, h'⟩⟩⟩

def isCall : Op → Bool
  | .call c => match c.callee with
    | .value _ => true
    | _ => false
  | _ => false
theorem bop0_det {o : Oper} (hc : isCall o.op = false) : Dt (bop0 P T o σ) := by
  obtain ⟨dst, op, type, pos, after, guard⟩ := o
  simp only at hc
  intro K h
  cases op <;> (try exact h.elim)
  case move x => exact ⟨_, h, fun K' => Iff.rfl⟩
  case assign x => exact ⟨_, h, fun K' => Iff.rfl⟩
  case pick c x y =>
    simp only [bop0, aop] at h ⊢
    revert h
    generalize aev σ c = v
    intro h
    split at h
    · rename_i e
      cases e with
      | true => exact ⟨_, h.1 rfl, fun K' => by simp only [asplit_true]⟩
      | false => exact ⟨_, h.2 rfl, fun K' => by simp only [asplit_false]⟩
    · exact h.elim
  case alloc t =>
    simp only [bop0] at h ⊢
    revert h
    cases T t <;> intro h <;> simp only [] at h ⊢ <;> (try exact h.elim)
    cases dst <;> simp only [] at h ⊢ <;> first
      | exact h.elim
      | exact ⟨_, h, fun K' => Iff.rfl⟩
      | exact ⟨_, h.2, fun K' => ⟨fun h' => h'.2, fun h' => ⟨h.1, h'⟩⟩⟩
      | exact ⟨_, h.2.2, fun K' => ⟨fun h' => h'.2.2, fun h' => ⟨h.1, h.2.1, h'⟩⟩⟩
      | exact ⟨_, h.2.2.2, fun K' => ⟨fun h' => h'.2.2.2, fun h' => ⟨h.1, h.2.1, h.2.2.1, h'⟩⟩⟩
      | exact ⟨_, h.2.2.2.2, fun K' => ⟨fun h' => h'.2.2.2.2, fun h' => ⟨h.1, h.2.1, h.2.2.1, h.2.2.2.1, h'⟩⟩⟩
      | exact ⟨_, h.2.2.2.2.2, fun K' => ⟨fun h' => h'.2.2.2.2.2, fun h' => ⟨h.1, h.2.1, h.2.2.1, h.2.2.2.1, h.2.2.2.2.1, h'⟩⟩⟩
      | exact ⟨_, h.2.2.2.2.2.2, fun K' => ⟨fun h' => h'.2.2.2.2.2.2, fun h' => ⟨h.1, h.2.1, h.2.2.1, h.2.2.2.1, h.2.2.2.2.1, h.2.2.2.2.2.1, h'⟩⟩⟩
  case box t x =>
    simp only [bop0] at h ⊢
    cases dst <;> simp only [] at h ⊢ <;> first
      | exact h.elim
      | exact ⟨_, h, fun K' => Iff.rfl⟩
      | exact ⟨_, h.2, fun K' => ⟨fun h' => h'.2, fun h' => ⟨h.1, h'⟩⟩⟩
      | exact ⟨_, h.2.2, fun K' => ⟨fun h' => h'.2.2, fun h' => ⟨h.1, h.2.1, h'⟩⟩⟩
      | exact ⟨_, h.2.2.2, fun K' => ⟨fun h' => h'.2.2.2, fun h' => ⟨h.1, h.2.1, h.2.2.1, h'⟩⟩⟩
      | exact ⟨_, h.2.2.2.2, fun K' => ⟨fun h' => h'.2.2.2.2, fun h' => ⟨h.1, h.2.1, h.2.2.1, h.2.2.2.1, h'⟩⟩⟩
      | exact ⟨_, h.2.2.2.2.2, fun K' => ⟨fun h' => h'.2.2.2.2.2, fun h' => ⟨h.1, h.2.1, h.2.2.1, h.2.2.2.1, h.2.2.2.2.1, h'⟩⟩⟩
      | exact ⟨_, h.2.2.2.2.2.2, fun K' => ⟨fun h' => h'.2.2.2.2.2.2, fun h' => ⟨h.1, h.2.1, h.2.2.1, h.2.2.2.1, h.2.2.2.2.1, h.2.2.2.2.2.1, h'⟩⟩⟩
  case build t ps =>
    simp only [bop0, aop] at h ⊢
    revert h
    cases T t <;> intro h <;> simp only [] at h ⊢ <;> (try exact h.elim)
    exact (((((afill_det _ _ _).map _).and _).and _).and _) K h
  case buildSlice t n ps =>
    simp only [bop0, aop] at h ⊢
    revert h
    cases T t with
    | none => intro h; exact h.elim
    | some i =>
      simp only []
      cases i.td.elem with
      | none => intro h; exact h.elim
      | some e =>
        simp only []
        cases T e with
        | none => intro h; exact h.elim
        | some j => intro h; exact abuildSlice_det _ _ _ _ _ K h
  case load t x =>
    simp only [bop0, aop] at h ⊢
    revert h
    cases T t <;> intro h <;> simp only [] at h ⊢ <;> (try exact h.elim)
    exact aload_det _ _ _ K h
  case store t x y =>
    simp only [bop0, aop] at h ⊢
    revert h
    cases T t <;> intro h <;> simp only [] at h ⊢ <;> (try exact h.elim)
    exact astore_det _ _ _ _ K h
  case binOp op t x y t' => exact ((abinT_det op t _ _).map _) K h
  case unOp op t x => exact ((aun_det op _).map _) K h
  case convert s d x =>
    simp only [bop0, aop] at h ⊢
    revert h
    cases T s <;> cases T d <;> intro h <;> simp only [] at h ⊢ <;> (try exact h.elim)
    exact ((aconv2_det _ _ _).map _) K h
  case makeFunc f first caps =>
    cases f with
    | func f =>
      simp only [bop0, aop] at h ⊢
      revert h
      generalize first.toList = l1
      generalize caps.toList = l2
      intro h
      cases l1 <;> cases l2 <;> simp only [] at h ⊢ <;> (try exact h.elim)
      · exact ⟨_, h, fun K' => Iff.rfl⟩
      · exact ⟨_, h.2, fun K' => ⟨fun h' => h'.2, fun h' => ⟨h.1, h'⟩⟩⟩
    | _ => exact h.elim
  case makeSlice t x y =>
    simp only [bop0, aop] at h ⊢
    revert h
    cases T t with
    | none => intro h; exact h.elim
    | some i =>
      simp only []
      cases i.td.elem with
      | none => intro h; exact h.elim
      | some e =>
        simp only []
        cases T e with
        | none => intro h; exact h.elim
        | some j => intro h; exact ((amakeSlice_det _ _ _ _).map _) K h
  case slice t x lo hi mx =>
    cases mx with
    | some m => exact h.elim
    | none =>
      simp only [bop0, aop] at h ⊢
      revert h
      cases T t <;> intro h <;> simp only [] at h ⊢ <;> (try exact h.elim)
      exact ((aslice_det _ _ _ _).map _) K h
  case fieldAddr t x f =>
    simp only [bop0, aop] at h ⊢
    revert h
    cases T t <;> intro h <;> simp only [] at h ⊢ <;> (try exact h.elim)
    exact afieldAddr_det _ _ _ _ K h
  case field t x f =>
    simp only [bop0, aop] at h ⊢
    revert h
    cases T t <;> intro h <;> simp only [] at h ⊢ <;> (try exact h.elim)
    exact afieldM_det _ _ _ _ K h
  case indexAddr t x y =>
    simp only [bop0, aop] at h ⊢
    revert h
    cases T t <;> intro h <;> simp only [] at h ⊢ <;> (try exact h.elim)
    unfold aindexAddrB at h ⊢
    cases x with
    | tmp s =>
      simp only [] at h ⊢
      revert h
      cases hv : σ.getD s .any <;> intro h <;> simp only [] at h ⊢ <;> try exact ((aindexAddr_det _ _ _).map _) K h
      rename_i i Te cs
      revert h
      generalize i.td.arr = ar
      generalize aev σ y = u
      intro h
      cases ar <;> cases u <;> (try exact h.elim)
      rename_i le vv
      cases dst <;> cases vv <;> (try exact h.elim)
      simp only [] at h ⊢
      revert h
      cases T le.2 <;> intro h <;> simp only [] at h ⊢ <;> (try exact h.elim)
      exact ⟨_, h.2.2.2, fun K' => ⟨fun h' => h'.2.2.2, fun h' => ⟨h.1, h.2.1, h.2.2.1, h'⟩⟩⟩
    | _ => exact ((aindexAddr_det _ _ _).map _) K h
  case index t x y =>
    simp only [bop0, aop] at h ⊢
    revert h
    cases T t <;> intro h <;> simp only [] at h ⊢ <;> (try exact h.elim)
    exact ((aindex_det _ _ _).map _) K h
  case extract x n => exact aextract_det _ _ _ K h
  case call c =>
    obtain ⟨callee, args, argTypes⟩ := c
    cases callee with
    | value f => simp [isCall] at hc
    | invoke r m => exact h.elim
    | builtin b =>
      cases b <;> (try exact h.elim)
      case len =>
        simp only [bop0, aop] at h ⊢
        split at h
        · rename_i x t ha hta
          revert h
          cases T t <;> intro h <;> simp only [] at h ⊢ <;> (try exact h.elim)
          exact ((alen_det _ _).map _) K h
        · exact h.elim
      case append =>
        simp only [bop0, aop] at h ⊢
        split at h
        · rename_i x y t t' ha hta
          revert h
          cases T t with
          | none => intro h; exact h.2.elim
          | some i =>
            simp only []
            cases i.td.elem with
            | none => intro h; exact h.2.elim
            | some e =>
              simp only []
              cases T e with
              | none => intro h; exact h.2.elim
              | some j => intro h; exact ((aappend_det _ _ _ _ _).and _) K h
        · exact h.elim
      case min =>
        simp only [bop0, aop] at h ⊢
        split at h
        · exact ((amax_det _ _ _).map _) K h
        · exact h.elim
      case max =>
        simp only [bop0, aop] at h ⊢
        split at h
        · exact ((amax_det _ _ _).map _) K h
        · exact h.elim

theorem rixb_det (i : TI) (s k n : Nat) (y : AV) (d : Option Nat) : Dt (rixb i s k n y d σ) := by
  intro K h
  unfold rixb at h ⊢
  split at h
  · exact ⟨_, h.2.2.2.2, fun K' => ⟨fun h' => h'.2.2.2.2, fun h' => ⟨h.1, h.2.1, h.2.2.1, h.2.2.2.1, h'⟩⟩⟩
  · exact h.elim
theorem rixa_det (t s k n : Nat) (y : AV) (d : Option Nat) : Dt (rixa T t s k n y d σ) := by
  unfold rixa
  cases T t with
  | none => exact Dt.none
  | some i =>
    simp only []
    cases i.td.elem with
    | none => exact Dt.none
    | some e =>
      simp only []
      cases T e with
      | none => exact Dt.none
      | some j => exact rixb_det _ _ _ _ _ _
theorem rfad_det (p : Option (Nat × Option Nat × Option Bool)) (x : AV) (s k j off : Nat) (d : Option Nat) : Dt (rfad p x s k j off d σ) := by
  intro K h
  unfold rfad at h ⊢
  split at h
  · exact ⟨_, h.2.2, fun K' => ⟨fun h' => h'.2.2, fun h' => ⟨h.1, h.2.1, h'⟩⟩⟩
  · exact h.elim
theorem rpld_det (i : TI) (x : AV) (k j off : Nat) (d : Option Nat) : Dt (rpld i x k j off d σ) := by
  intro K h
  unfold rpld at h ⊢
  split at h
  · exact ⟨_, h.2.2.2, fun K' => ⟨fun h' => h'.2.2.2, fun h' => ⟨h.1, h.2.1, h.2.2.1, h'⟩⟩⟩
  · exact h.elim
theorem rpst_det (i : TI) (x y : AV) (s k j off : Nat) (d : Option Nat) (ρ : List AV) : Dt (rpst i x s k j off y d ρ) := by
  intro K h
  unfold rpst at h ⊢
  split at h
  · exact ⟨_, h.2.2.2.2.2, fun K' => ⟨fun h' => h'.2.2.2.2.2, fun h' => ⟨h.1, h.2.1, h.2.2.1, h.2.2.2.1, h.2.2.2.2.1, h'⟩⟩⟩
  · exact h.elim
theorem bop_det {o : Oper} (hc : isCall o.op = false) : Dt (bop P T o σ) := by
  have hb := bop0_det (P := P) (T := T) (σ := σ) hc
  obtain ⟨dst, op, type, pos, after, guard⟩ := o
  cases op
  case move x =>
    cases x with
    | tmp t =>
      intro K h
      simp only [bop] at h ⊢
      generalize σ.getD t .any = v at h ⊢
      cases dst with
      | none => cases v <;> exact hb K h
      | some d =>
        cases v <;> first
          | exact hb K h
          | exact ⟨_, h.2, fun K' => ⟨fun h' => h'.2, fun h' => ⟨h.1, h'⟩⟩⟩
    | _ => exact hb
  case indexAddr t x y =>
    cases x with
    | tmp q =>
      intro K h
      simp only [bop] at h ⊢
      generalize σ.getD q .any = v at h ⊢
      cases v <;> first | exact hb K h | skip
      case row e k es => exact rixa_det _ _ _ _ _ _ K h
      case alias s =>
        simp only [] at h ⊢
        generalize σ.getD s .any = u at h ⊢
        cases u <;> first | exact hb K h | exact rixa_det _ _ _ _ _ _ K h
    | _ => exact hb
  case fieldAddr t x f =>
    cases x with
    | tmp q =>
      intro K h
      simp only [bop] at h ⊢
      generalize σ.getD q .any = v at h ⊢
      cases v <;> first | exact hb K h | skip
      simp only [] at h ⊢
      cases hT : T t with
      | none => rw [hT] at h; exact h.elim
      | some i => rw [hT] at h; exact rfad_det _ _ _ _ _ _ _ K h
    | _ => exact hb
  case load t x =>
    cases x with
    | tmp q =>
      intro K h
      simp only [bop] at h ⊢
      generalize σ.getD q .any = v at h ⊢
      cases v <;> first | exact hb K h | skip
      simp only [] at h ⊢
      cases hT : T t with
      | none => rw [hT] at h; exact h.elim
      | some i => rw [hT] at h; exact rpld_det _ _ _ _ _ _ K h
    | _ => exact hb
  case store t x y =>
    cases x with
    | tmp q =>
      intro K h
      simp only [bop] at h ⊢
      generalize σ.getD q .any = v at h ⊢
      cases v <;> first | exact hb K h | skip
      simp only [] at h ⊢
      cases hT : T t with
      | none => rw [hT] at h; exact h.elim
      | some i => rw [hT] at h; exact rpst_det _ _ _ _ _ _ _ _ _ K h
    | _ => exact hb
  all_goals exact hb

theorem Dt.mono {α : Type} {F : (α → Prop) → Prop} (h : Dt F) {K K' : α → Prop} (hK : F K) (hm : ∀ x, K x → K' x) : F K' := by
  obtain ⟨y, h1, h2⟩ := h K hK
  exact (h2 K').2 (hm y h1)
theorem Dt.ex {α : Type} {F : (α → Prop) → Prop} (h : Dt F) {K : α → Prop} (hK : F K) : ∃ x, K x := by
  obtain ⟨y, h1, h2⟩ := h K hK
  exact ⟨y, h1⟩
theorem call_form {o : Oper} (hc : isCall o.op = true) : ∃ f xs, ∀ K, bop P T o σ K = acall P σ f xs o.dst K := by
  obtain ⟨dst, op, type, pos, after, guard⟩ := o
  cases op <;> simp [isCall] at hc
  rename_i c
  obtain ⟨callee, args, argTypes⟩ := c
  cases callee <;> simp at hc
  exact ⟨_, _, fun K => rfl⟩
theorem acall_mono {f : Operand} {xs : List Operand} {d : Option Nat} {K K' : List AV → Prop} (h : acall P σ f xs d K) (hm : ∀ x, K x → K' x) : acall P σ f xs d K' := by
  unfold acall at h ⊢
  split at h
  · exact ⟨h.1, h.2.mono fun r hr => hm _ hr⟩
  · exact h.mono fun r hr => hm _ hr
  · exact h.elim
theorem acall_ex {f : Operand} {xs : List Operand} {d : Option Nat} {K : List AV → Prop} (h : acall P σ f xs d K) : ∃ x, K x := by
  unfold acall at h
  split at h
  · obtain ⟨_, _, ⟨r, hr⟩, _⟩ := h
    exact ⟨_, hr⟩
  · obtain ⟨_, ⟨r, hr⟩, _⟩ := h
    exact ⟨_, hr⟩
  · exact h.elim
theorem bop_mono {o : Oper} {K K' : List AV → Prop} (h : bop P T o σ K) (hm : ∀ x, K x → K' x) : bop P T o σ K' := by
  cases hc : isCall o.op with
  | false => exact (bop_det hc).mono h hm
  | true =>
    obtain ⟨f, xs, he⟩ := call_form (P := P) (T := T) (σ := σ) hc
    rw [he] at *
    exact acall_mono h hm
theorem bop_ex {o : Oper} {K : List AV → Prop} (h : bop P T o σ K) : ∃ x, K x := by
  cases hc : isCall o.op with
  | false => exact (bop_det hc).ex h
  | true =>
    obtain ⟨f, xs, he⟩ := call_form (P := P) (T := T) (σ := σ) hc
    rw [he] at h
    exact acall_ex h
end
end Go.Proofs.Ytohelofjlkoboaa
