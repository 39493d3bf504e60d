/- The forms of what came in, taken apart. -/
import Derived.Test.YtibdijaacolhkaaB3
namespace Go.Proofs.Ytibdijaacolhkaa
open Go.RowKit Go.Proofs
set_option linter.unusedVariables false
variable {P : Program} {n : Nat} {t : TypeId} {x : AV} {xs : List AV}

theorem OfE_flat (ha : isAgg P t = false) (h : OfE P (OfT P n) t x) : OfT P n t [x] := by rw [OfE, ha] at h; exact h
theorem OfT_flat (ha : isAgg P t = false) (h : OfT P n t xs) : ∃ x, xs = [x] ∧ OfE P (OfT P n) t x := by
  obtain ⟨y, rfl, _⟩ := OfT_one h ha
  exact ⟨y, rfl, by rw [OfE, ha]; exact h⟩
theorem OfE_agg (ha : isAgg P t = true) (h : OfE P (OfT P n) t x) : ∃ ys, x = .agg ys ∧ OfT P n t ys := by rw [OfE, ha] at h; exact h
theorem OfE_str (hu : P.underlying t = some .string) (h : OfE P (OfT P n) t x) : ∃ l, x = str l ∧ l.length ≤ maxLen := by
  have h := OfE_flat (by simp [isAgg, hu]) h
  cases n with
  | zero => exact h.elim
  | succ n =>
    unfold OfT at h; rw [hu] at h
    obtain ⟨l, e, hl⟩ := h
    injection e with e
    exact ⟨l, e, hl⟩
theorem OfE_bool (hu : P.underlying t = some .bool) (h : OfE P (OfT P n) t x) : ∃ b, x = tru b := by
  have h := OfE_flat (by simp [isAgg, hu]) h
  cases n with
  | zero => exact h.elim
  | succ n =>
    unfold OfT at h; rw [hu] at h
    obtain ⟨l, e⟩ := h
    injection e with e
    exact ⟨l, e⟩
theorem OfE_int {k : IntKind} (hu : P.underlying t = some (.int k)) (h : OfE P (OfT P n) t x) : ∃ m, x = .raw (.int k m) ∧ (Lit.int k m).wf = true := by
  have h := OfE_flat (by simp [isAgg, hu]) h
  cases n with
  | zero => exact h.elim
  | succ n =>
    unfold OfT at h; rw [hu] at h
    obtain ⟨l, e, hl⟩ := h
    injection e with e
    exact ⟨l, e, hl⟩
theorem OfE_i64 (hu : P.underlying t = some (.int .i64)) (h : OfE P (OfT P n) t x) : ∃ m, x = num m ∧ -9223372036854775808 ≤ m ∧ m ≤ 9223372036854775807 := by
  obtain ⟨m, rfl, hm⟩ := OfE_int hu h
  exact ⟨m, rfl, wf_i64 hm⟩
theorem wf_u8 {n : Int} (h : (Lit.int .u8 n).wf = true) : 0 ≤ n ∧ n ≤ 255 := by
  simp [Lit.wf, IntKind.min, IntKind.max, IntKind.signed, IntKind.bits] at h
  omega
theorem OfE_u8 (hu : P.underlying t = some (.int .u8)) (h : OfE P (OfT P n) t x) : ∃ m, x = .raw (.int .u8 m) ∧ 0 ≤ m ∧ m ≤ 255 := by
  obtain ⟨m, rfl, hm⟩ := OfE_int hu h
  exact ⟨m, rfl, wf_u8 hm⟩
theorem OfE_slice {e : TypeId} {k : Nat} (hu : P.underlying t = some (.slice e)) (hk : P.cellsOf e = k) (h0 : k ≠ 0) (h : OfE P (OfT P n) t x) : ∃ m es, x = .sl k es ∧ es.length ≤ maxLen ∧ ∀ y ∈ es, OfE P (OfT P m) e y := by
  have h := OfE_flat (by simp [isAgg, hu]) h
  cases n with
  | zero => exact h.elim
  | succ n =>
    unfold OfT at h; rw [hu] at h
    dsimp only at h
    rw [hk] at h
    rw [if_neg h0] at h
    obtain ⟨es, e, hl, hy⟩ := h
    injection e with e
    exact ⟨n, es, e, hl, hy⟩
theorem OfT_struct {fs : Array Field} (hu : P.underlying t = some (.struct fs)) (h : OfT P n t xs) : ∃ m, OfR (OfT P m) (fs.toList.map (·.type)) xs := by
  cases n with
  | zero => exact h.elim
  | succ n =>
    unfold OfT at h; rw [hu] at h
    exact ⟨n, h⟩
theorem OfT_array {m : Nat} {e : TypeId} (hu : P.underlying t = some (.array m e)) (h : OfT P n t xs) : ∃ k, OfR (OfT P k) (List.replicate m e) xs := by
  cases n with
  | zero => exact h.elim
  | succ n =>
    unfold OfT at h; rw [hu] at h
    exact ⟨n, h⟩
theorem OfE_struct {fs : Array Field} (hu : P.underlying t = some (.struct fs)) (h : OfE P (OfT P n) t x) : ∃ m ys, x = .agg ys ∧ OfR (OfT P m) (fs.toList.map (·.type)) ys := by
  obtain ⟨ys, rfl, h2⟩ := OfE_agg (by simp [isAgg, hu]) h
  obtain ⟨m, h3⟩ := OfT_struct hu h2
  exact ⟨m, ys, rfl, h3⟩
theorem OfE_array {m : Nat} {e : TypeId} (hu : P.underlying t = some (.array m e)) (h : OfE P (OfT P n) t x) : ∃ k ys, x = .agg ys ∧ OfR (OfT P k) (List.replicate m e) ys := by
  obtain ⟨ys, rfl, h2⟩ := OfE_agg (by simp [isAgg, hu]) h
  obtain ⟨k, h3⟩ := OfT_array hu h2
  exact ⟨k, ys, rfl, h3⟩
theorem OfR_cons {F : TypeId → List AV → Prop} {ts : List TypeId} (h : OfR F (t :: ts) xs) : ∃ ys zs, xs = ys ++ zs ∧ F t ys ∧ OfR F ts zs := by
  cases h with
  | cons h1 h => exact ⟨_, _, rfl, h1, h⟩
theorem OfR_nil {F : TypeId → List AV → Prop} (h : OfR F [] xs) : xs = [] := by cases h; rfl
/-- The next one is a single cell. -/
theorem OfR_one {ts : List TypeId} (ha : isAgg P t = false) (h : OfR (OfT P n) (t :: ts) xs) : ∃ y zs, xs = y :: zs ∧ OfE P (OfT P n) t y ∧ OfR (OfT P n) ts zs := by
  obtain ⟨ys, zs, rfl, h1, h2⟩ := OfR_cons h
  obtain ⟨y, rfl, hy⟩ := OfT_flat ha h1
  exact ⟨y, zs, rfl, hy, h2⟩
theorem OfA_cons {ts : List TypeId} (h : OfA P (t :: ts) xs) : ∃ n y ys, xs = y :: ys ∧ OfE P (OfT P n) t y ∧ OfA P ts ys := by
  cases h with
  | cons h1 h => exact ⟨_, _, _, rfl, h1, h⟩
theorem OfA_nil (h : OfA P [] xs) : xs = [] := by cases h; rfl
theorem map_of {α : Type} {f : α → AV} {Q : α → Prop} : ∀ {es : List AV}, (∀ y ∈ es, ∃ s, y = f s ∧ Q s) → ∃ ss : List α, es = ss.map f ∧ ∀ s ∈ ss, Q s
  | [], _ => ⟨[], rfl, by simp⟩
  | y :: es, h => by
    obtain ⟨s, rfl, hs⟩ := h y (by simp)
    obtain ⟨ss, rfl, hq⟩ := map_of (es := es) (fun y hy => h y (by simp [hy]))
    exact ⟨s :: ss, rfl, by simp only [List.mem_cons]; rintro z (rfl | hz); exact hs; exact hq z hz⟩
theorem args_len {H : Type} {enc : TypeId × Value → H} {P : Program} {w : World} {b : Nat} {sp : Nat → Bool} {hd : Bool} : ∀ {ts : List TypeId} {vs : List Value} {ds : List (DataW H)} {ps : List MemPlace}, DataW.TrodAll enc P w b sp hd ts vs ds ps → ds.length = ts.length
  | [], [], [], ps, _ => rfl
  | t :: ts, v :: vs, d :: ds, ps, h => by
    obtain ⟨p, q, h1, h2, e⟩ := h
    simp only [List.length_cons, args_len h2]
  | [], [], _ :: _, _, h => h.elim
  | [], _ :: _, _, _, h => h.elim
  | _ :: _, [], _, _, h => h.elim
  | _ :: _, _ :: _, [], _, h => h.elim
end Go.Proofs.Ytibdijaacolhkaa
