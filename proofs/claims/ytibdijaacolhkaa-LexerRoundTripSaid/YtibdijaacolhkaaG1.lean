/- The logic under a fence: in a round of a range over a function, and at large. -/
import Derived.Test.YtibdijaacolhkaaA8
import Derived.RangeFuncLeaves
import Derived.RangeFuncCalls
import Derived.TacticsIn
namespace Go.Proofs.Ytibdijaacolhkaa
open Go.RowKit
set_option linter.unusedVariables false
set_option linter.unusedSimpArgs false
variable {dfs : List Deferred}

/-- All functions, any depth; in the round of a record, or in none. -/
abbrev Fr (ro : Option Nat) : Fence := { fn := fun _ => True, depth := none, alive := false, round := ro }
section
variable {P : Program} {o : Oper} {a : Act} {w : World} {ro : Option Nat} {n : Nat} {next : Act → World → Prop} {Q : Exit → Act → World → Prop}
theorem callsFr {f : FuncId} {args : Array Value} {R : Ending → World → Prop} : CallsIn (Fr ro) n P f args w R ↔ Calls P f args w R := by
  have : CallsIn (Fr ro) n P f args w R ↔ CallsIn Fence.wide n P f args w R := Iff.rfl
  exact this.trans callsIn_wide
theorem rowsFr {row : String} {args : Array Value} {R : Value → World → Prop} (h : Rows P row args w R) : RowsIn (Fr ro) n P row args w R := by
  intro c cs _
  obtain ⟨v, w', hR, hs⟩ := h c cs
  refine ⟨v, w', hR, ?_⟩
  have : StepsIn (Machine.fenced P (Fr ro)) P = StepsIn (Machine.fenced P Fence.wide) P := rfl
  rw [this]
  exact stepsIn_wide.2 hs
theorem upon_in {r : Result Next} (h : o.upon P a next Q r) : o.uponIn (Fr ro) n P a next Q r := by
  cases r with
  | ok x w' =>
    cases x with
    | value v => exact h
    | skip => exact h
    | defer d => exact h
    | enter f args =>
      rw [Oper.upon_enter] at h
      rw [Oper.uponIn_enter]
      exact ⟨fun hd => by simp at hd, callsFr.2 h⟩
    | row r args =>
      rw [Oper.upon_row] at h
      rw [Oper.uponIn_row]
      exact ⟨fun hd => by simp at hd, rowsFr h⟩
    | _ => exact h.elim
  | halt h' w' => cases h' <;> exact h
theorem wp_in (hd : ∀ c, o.op ≠ .defer c) (h : o.wp P a w next Q) : o.wpIn (Fr ro) n P a w next Q :=
  ⟨fun _ _ => trivial, by rw [Oper.semAt_eq ro _ _ hd]; exact upon_in h⟩
theorem wpOps_in {ops : Array Oper} (hd : ∀ o ∈ ops.toList, ∀ c, o.op ≠ .defer c) (hQ : ∀ a w, ¬ Q .outgrown a w) : ∀ (l : List Nat) (a : Act) (w : World), wpOps P ops Q l a w → wpOpsIn (Fr ro) n P ops Q l a w
  | [], a, w, h => h
  | i :: l, a, w, h => by
    simp only [wpOps] at h
    simp only [wpOpsIn]
    split at h
    · rename_i ho
      simp only [ho]
      exact wpOps_in hd hQ l a w h
    · rename_i o ho
      simp only [ho]
      have hmem : o ∈ ops.toList := List.mem_of_getElem? (by simpa using ho)
      split at h
      · rename_i hw
        rw [if_pos hw]
        rcases h with h | ⟨_, b, w1, h⟩
        · exact wp_in (hd o hmem) (wp_mono' (fun a w h => wpOps_in hd hQ l a w h) h)
        · exact absurd h (hQ _ _)
      · rename_i hw
        rw [if_neg hw]
        exact ⟨fun _ _ => trivial, wpOps_in hd hQ l _ w h⟩
end

/-- No defer statement; the slots of fr are not written. -/
def ndef (op : Op) : Bool := match op with
  | .defer _ => false
  | _ => true
def nchk (fr : List Nat) : Code → Bool
  | .region _ ops _ => ops.toList.all (fun o => ndef o.op) && vchk fr ops.toList
  | .seq a b => nchk fr a && nchk fr b
  | .cond _ a b => nchk fr a && nchk fr b
  | .block _ c => nchk fr c
  | .loop c => nchk fr c
  | .skip | .exit _ | .label _ | .ret => true
  | _ => false
theorem ndef_spec {l : List Oper} (h : (l.all fun o => ndef o.op) = true) : ∀ o ∈ l, ∀ c, o.op ≠ .defer c := by
  intro o ho c he
  have := List.all_eq_true.1 h o ho
  rw [he] at this
  cases this

section
variable {P : Program} {T : Tab} {w0 : World} {S0 c0 : Nat → Nat}
/-- The slots of fr hold what they held. -/
def KeepF (fr : List Nat) (t0 : Array Value) (a : Act) : Prop := ∀ s ∈ fr, a.tmps[s]? = t0[s]?
def liftF (fr : List Nat) (t0 : Array Value) (dfs : List Deferred) (w0 : World) (S0 c0 : Nat → Nat) (Q : Exit → List AV → Prop) : Exit → Act → World → Prop := fun e a w => ∃ σ, Q e σ ∧ Stt dfs w0 S0 c0 σ a w ∧ KeepF fr t0 a
theorem rgn_in {fr : List Nat} {ops : Array Oper} {run : (List AV → Prop) → List AV → Prop} {l : List Nat} (hr : RunOk (XO P ops l) fr run) {vs : List Nat} (hvs : ∀ s ∈ vs, s ∈ fr) (hd : ∀ o ∈ ops.toList, ∀ c, o.op ≠ .defer c) {ro : Option Nat} {n : Nat} {t0 : Array Value}
    {σ : List AV} {a : Act} {w : World} {K : List AV → Prop} (hst : Stt dfs w0 S0 c0 σ a w) (hk : KeepF fr t0 a) (h : rgn run vs K σ) :
    wpOpsIn (Fr ro) n P ops (fun e a w => e = .normal ∧ ∃ σ, K σ ∧ Stt dfs w0 S0 c0 σ a w ∧ KeepF fr t0 a) l a w := by
  have h1 := rgn_sound hr vs hvs dfs w0 S0 c0 σ a w K (fun a w => ∃ σ, K σ ∧ Stt dfs w0 S0 c0 σ a w ∧ KeepF fr t0 a) hst h (fun σ' a' w' g1 g2 g3 => ⟨σ', g2, g1, fun s hs => (g3 s hs).trans (hk s hs)⟩)
  have h2 := h1 (fun e a w => e = .normal ∧ ∃ σ, K σ ∧ Stt dfs w0 S0 c0 σ a w ∧ KeepF fr t0 a) (fun a w h => ⟨rfl, h⟩)
  exact wpOps_in hd (fun a w h => by cases h.1) l a w h2
theorem vchk_app {vs fr : List Nat} {l : List Oper} (h1 : vchk vs l = true) (h2 : vchk fr l = true) : vchk (vs ++ fr) l = true := by
  unfold vchk at *
  rw [List.all_append, h1, h2]; rfl
theorem cwpI_sound (hT : TabOk P T) (hm : P.follows .mixedOrders = true) {A : Ann} (fr : List Nat) (t0 : Array Value) (ro : Option Nat) (n : Nat) : ∀ (c : Code) (d : CC), comp A c = some d → cok A c = true → nchk fr c = true → ∀ (Q : Exit → List AV → Prop) (σ : List AV) (a : Act) (w : World), Stt dfs w0 S0 c0 σ a w → KeepF fr t0 a → cwp P T d Q σ → c.wpIn (Fr ro) n P (liftF fr t0 dfs w0 S0 c0 Q) a w
  | .skip, d, hd, hk, hn, Q, σ, a, w, hst, hkf, h => by simp only [comp] at hd; injection hd with hd; subst hd; exact wpIn_skip ⟨σ, h, hst, hkf⟩
  | .region id ops false, d, hd, hk, hn, Q, σ, a, w, hst, hkf, h => by
    simp only [comp] at hd
    simp only [cok] at hk
    simp only [nchk, Bool.and_eq_true] at hn
    split at hd
    · rename_i l hl
      rw [hl] at hk
      simp only [Bool.false_eq_true, if_false] at hd hk
      injection hd with hd
      subst hd
      obtain ⟨σ1, h, hst⟩ := twp_sound _ hst h
      have hr := run_text (vs := vlook A id ++ fr) hT hl (vchk_app hk hn.2)
      -- what is kept: the slots of fr alone
      refine wpIn_mono (wpIn_region (rgn_in (P := P) (fr := vlook A id ++ fr) (t0 := a.tmps) hr (fun s hs => List.mem_append_left _ hs) (ndef_spec hn.1) hst (fun s _ => rfl) h)) fun e a' w' hq => ?_
      obtain ⟨rfl, σ', h1, h2, h3⟩ := hq
      exact ⟨σ', h1, h2, fun s hs => (h3 s (List.mem_append_right _ hs)).trans (hkf s hs)⟩
    · cases hd
  | .region id ops true, d, hd, hk, hn, Q, σ, a, w, hst, hkf, h => by
    simp only [comp] at hd
    simp only [cok] at hk
    simp only [nchk, Bool.and_eq_true] at hn
    split at hd
    · rename_i l hl
      rw [hl] at hk
      simp only [if_true, mkd, Bool.and_eq_true] at hd hk
      injection hd with hd
      subst hd
      obtain ⟨σ1, h, hst⟩ := twp_sound _ hst h
      refine wpIn_mono (wpIn_region_draw (Q := fun e a' w => e = .normal ∧ ∃ σ, Q .normal σ ∧ Stt dfs w0 S0 c0 σ a' w ∧ KeepF ((vlook A id ++ dsOf (shOf l) l) ++ fr) a.tmps a') fun t => ?_) fun e a' w' hq => ?_
      · simp only [Region.schedule, hm, Bool.true_or, if_true]
        have hr := run_draw2 (vs := (vlook A id ++ dsOf (shOf l) l) ++ fr) hT hl (vchk_app hk.2 hn.2) hk.1 t
        exact rgn_in (P := P) (ro := ro) (n := n) (fr := (vlook A id ++ dsOf (shOf l) l) ++ fr) (t0 := a.tmps) hr (fun s hs => List.mem_append_left fr hs) (ndef_spec hn.1) hst.drew (fun s _ => rfl) h
      · obtain ⟨rfl, σ', h1, h2, h3⟩ := hq
        exact ⟨σ', h1, h2, fun s hs => (h3 s (List.mem_append_right _ hs)).trans (hkf s hs)⟩
    · cases hd
  | .seq x y, d, hd, hk, hn, Q, σ, a, w, hst, hkf, h => by
    simp only [comp] at hd
    simp only [cok, Bool.and_eq_true] at hk
    simp only [nchk, Bool.and_eq_true] at hn
    split at hd
    · rename_i x' y' hx hy
      injection hd with hd
      subst hd
      cases hc : cutAt A y with
      | false =>
        rw [hc] at h
        refine wpIn_seq (wpIn_mono (cwpI_sound hT hm fr t0 ro n x x' hx hk.1 hn.1 _ σ a w hst hkf h) fun e a w hq => ?_)
        obtain ⟨σ', hq, hs', hkf'⟩ := hq
        cases e with
        | normal => exact cwpI_sound hT hm fr t0 ro n y y' hy hk.2 hn.2 Q σ' a w hs' hkf' hq
        | _ => exact ⟨σ', hq, hs', hkf'⟩
      | true =>
        rw [hc] at h
        obtain ⟨I, hI, h⟩ := h
        refine wpIn_seq (wpIn_mono (cwpI_sound hT hm fr t0 ro n x x' hx hk.1 hn.1 _ σ a w hst hkf h) fun e a w hq => ?_)
        obtain ⟨σ', hq, hs', hkf'⟩ := hq
        cases e with
        | normal =>
          obtain ⟨σ3, hw3, h3⟩ := hq
          exact cwpI_sound hT hm fr t0 ro n y y' hy hk.2 hn.2 Q σ3 a w (hw3.stt hs') hkf' (hI σ3 h3)
        | _ => exact ⟨σ', hq, hs', hkf'⟩
    · cases hd
  | .cond c x y, d, hd, hk, hn, Q, σ, a, w, hst, hkf, h => by
    simp only [comp] at hd
    simp only [cok, Bool.and_eq_true] at hk
    simp only [nchk, Bool.and_eq_true] at hn
    split at hd
    · rename_i x' y' hx hy
      injection hd with hd
      subst hd
      simp only [cwp, ccond] at h
      split at h
      · rename_i e he
        have hst' := hst
        obtain ⟨_, S, cc, hr, _⟩ := hst
        obtain ⟨cx, hrx⟩ := aev_rep hr c
        rw [he] at hrx
        have e1 := (rep_raw hrx).1
        exact wpIn_cond_split e1 (fun ht => cwpI_sound hT hm fr t0 ro n x x' hx hk.1 hn.1 Q σ a w hst' hkf (h.1 ht)) (fun hf => cwpI_sound hT hm fr t0 ro n y y' hy hk.2 hn.2 Q σ a w hst' hkf (h.2 hf))
      · exact h.elim
    · cases hd
  | .block id c, d, hd, hk, hn, Q, σ, a, w, hst, hkf, h => by
    simp only [comp] at hd
    simp only [cok] at hk
    simp only [nchk] at hn
    split at hd
    · rename_i x' hx
      injection hd with hd
      subst hd
      refine wpIn_block (wpIn_mono (cwpI_sound hT hm fr t0 ro n c x' hx hk hn _ σ a w hst hkf h) fun e a w hq => ?_)
      obtain ⟨σ', hq, hs'⟩ := hq
      cases e with
      | exit id' =>
        simp only [xblk] at hq
        simp only [Exit.inBlock]
        split
        · rename_i hid; rw [if_pos hid] at hq; exact ⟨σ', hq, hs'⟩
        · rename_i hid; rw [if_neg hid] at hq; exact ⟨σ', hq, hs'⟩
      | _ => exact ⟨σ', hq, hs'⟩
    · cases hd
  | .loop c, d, hd, hk, hn, Q, σ, a, w, hst, hkf, h => by
    simp only [comp] at hd
    simp only [cok] at hk
    simp only [nchk] at hn
    split at hd
    · rename_i x' hx
      injection hd with hd
      subst hd
      obtain ⟨I, ⟨n0, σ1, hw, hI⟩, hround⟩ := h
      classical
      let J : Act → World → Nat → Prop := fun a w n => ∃ σ, I n σ ∧ Stt dfs w0 S0 c0 σ a w ∧ KeepF fr t0 a
      refine wpIn_loop (fun a w => ∃ n, J a w n) (fun a w => if h : ∃ n, J a w n then Classical.choose (least h) else 0) ⟨n0, σ1, hI, hw.stt hst, hkf⟩ fun a w hJ => ?_
      obtain ⟨σ', hI', hst', hkf'⟩ := (Classical.choose_spec (least hJ)).1
      refine wpIn_mono (cwpI_sound hT hm fr t0 ro n c x' hx hk hn _ σ' a w hst' hkf' (hround _ σ' hI')) fun e a' w' hq => ?_
      obtain ⟨σ2, hq, hs2, hkf2⟩ := hq
      cases e with
      | normal =>
        obtain ⟨m, σ3, hm, hw3, hI3⟩ := hq
        have hJ' : J a' w' m := ⟨σ3, hI3, hw3.stt hs2, hkf2⟩
        have hex : ∃ n, J a' w' n := ⟨m, hJ'⟩
        refine ⟨hex, ?_⟩
        simp only [dif_pos hex, dif_pos hJ]
        exact Nat.lt_of_le_of_lt ((Classical.choose_spec (least hex)).2 m hJ') hm
      | _ => exact ⟨σ2, hq, hs2, hkf2⟩
    · cases hd
  | .exit id, d, hd, hk, hn, Q, σ, a, w, hst, hkf, h => by simp only [comp] at hd; injection hd with hd; subst hd; exact wpIn_exit ⟨σ, h, hst, hkf⟩
  | .label l, d, hd, hk, hn, Q, σ, a, w, hst, hkf, h => by simp only [comp] at hd; injection hd with hd; subst hd; exact wpIn_label ⟨σ, h, hst, hkf⟩
  | .ret, d, hd, hk, hn, Q, σ, a, w, hst, hkf, h => by simp only [comp] at hd; injection hd with hd; subst hd; exact wpIn_ret ⟨σ, h, hst, hkf⟩
  | .rangeFunc .., d, hd, hk, hn, Q, σ, a, w, hst, hkf, h => by simp [comp] at hd
  | .scope c, d, hd, hk, hn, Q, σ, a, w, hst, hkf, h => by simp [nchk] at hn
  | .goto .., d, hd, hk, hn, Q, σ, a, w, hst, hkf, h => by simp [comp] at hd
  | .refuse .., d, hd, hk, hn, Q, σ, a, w, hst, hkf, h => by simp [comp] at hd
end
end Go.Proofs.Ytibdijaacolhkaa
