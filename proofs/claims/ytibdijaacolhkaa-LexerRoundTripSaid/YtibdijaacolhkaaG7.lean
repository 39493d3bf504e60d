/- Functions: with ranges over functions; iterators. -/
import Derived.Test.YtibdijaacolhkaaG6
namespace Go.Proofs.Ytibdijaacolhkaa
open Go.RowKit
set_option linter.unusedVariables false
set_option linter.unusedSimpArgs false
section
variable {P : Program} {T : Tab} {w0 : World} {S0 c0 : Nat → Nat} {G : Gh} {Y : Nat → List AV → Prop} {l : Nat} {A : Ann} {yr : List (Nat × Nat)} {nt : Nat} {asl : List Nat} {n : Nat}
theorem cwpG_sound (hT : TabOk P T) (hm : P.follows .mixedOrders = true) (hG : GOk G) (hY : YOk P l Y G) : ∀ (c : Code) (d : CG), compG A yr c = some d → okG A yr nt asl c = true → ∀ (Q : Exit → Option Nat → List AV → Prop) (st : Option Nat) (σ : List AV) (a : Act) (w : World), SttG G w0 S0 c0 st σ a w → cwpG P T Y l nt asl d Q st σ → c.wpIn (Fr none) n P (liftG G w0 S0 c0 Q) a w
  | .skip, d, hd, hk, Q, st, σ, a, w, hst, h => by
    simp only [compG] at hd; injection hd with hd; subst hd
    exact wpIn_skip ⟨st, σ, h, hst⟩
  | .label t, d, hd, hk, Q, st, σ, a, w, hst, h => by
    simp only [compG] at hd; injection hd with hd; subst hd
    exact wpIn_label ⟨st, σ, h, hst⟩
  | .exit id, d, hd, hk, Q, st, σ, a, w, hst, h => by
    simp only [compG] at hd; injection hd with hd; subst hd
    exact wpIn_exit ⟨st, σ, h, hst⟩
  | .ret, d, hd, hk, Q, st, σ, a, w, hst, h => by
    simp only [compG] at hd; injection hd with hd; subst hd
    exact wpIn_ret ⟨st, σ, h, hst⟩
  | .region id ops dr, d, hd, hk, Q, st, σ, a, w, hst, h => by
    simp only [compG] at hd
    simp only [okG] at hk
    split at hd
    · rename_i p hp
      rw [hp] at hk
      cases dr with
      | true => simp at hd
      | false =>
        simp only [Bool.false_eq_true, if_false] at hd
        exact yreg_sound hT hG hY hd hk hst h
    · rename_i hp
      rw [hp] at hk
      simp only [Bool.and_eq_true] at hk
      cases hc : comp A (.region id ops dr) with
      | none => rw [hc] at hd; simp at hd
      | some x =>
        rw [hc] at hd
        simp at hd
        subst hd
        exact base_sound hT hm hG hc hk.1 hk.2 hst h
  | .seq x y, d, hd, hk, Q, st, σ, a, w, hst, h => by
    simp only [compG] at hd
    simp only [okG, Bool.and_eq_true] at hk
    split at hd
    · rename_i x' y' hx hy
      injection hd with hd
      subst hd
      cases hc : cutAt A y with
      | false =>
        rw [hc] at h
        refine wpIn_seq (wpIn_mono (cwpG_sound hT hm hG hY x x' hx hk.1 _ st σ a w hst h) fun e a w hq => ?_)
        obtain ⟨st', σ', hq, hs'⟩ := hq
        cases e with
        | normal => exact cwpG_sound hT hm hG hY y y' hy hk.2 Q st' σ' a w hs' hq
        | _ => exact ⟨st', σ', hq, hs'⟩
      | true =>
        rw [hc] at h
        obtain ⟨I, hI, h⟩ := h
        refine wpIn_seq (wpIn_mono (cwpG_sound hT hm hG hY x x' hx hk.1 _ st σ a w hst h) fun e a w hq => ?_)
        obtain ⟨st', σ', hq, hs'⟩ := hq
        cases e with
        | normal =>
          obtain ⟨σ3, hw3, h3⟩ := hq
          exact cwpG_sound hT hm hG hY y y' hy hk.2 Q st' σ3 a w (hw3.sttG hG hs') (hI st' σ3 h3)
        | _ => exact ⟨st', σ', hq, hs'⟩
    · cases hd
  | .cond c x y, d, hd, hk, Q, st, σ, a, w, hst, h => by
    simp only [compG] at hd
    simp only [okG, Bool.and_eq_true] at hk
    split at hd
    · rename_i x' y' hx hy
      injection hd with hd
      subst hd
      simp only [cwpG, ccond] at h
      split at h
      · rename_i e he
        exact wpIn_cond_split (hst.evalc he) (fun ht => cwpG_sound hT hm hG hY x x' hx hk.1 Q st σ a w hst (h.1 ht)) (fun hf => cwpG_sound hT hm hG hY y y' hy hk.2 Q st σ a w hst (h.2 hf))
      · exact h.elim
    · cases hd
  | .block id c, d, hd, hk, Q, st, σ, a, w, hst, h => by
    simp only [compG] at hd
    simp only [okG] at hk
    cases hx : compG A yr c with
    | none => rw [hx] at hd; simp at hd
    | some x =>
      rw [hx] at hd
      simp at hd
      subst hd
      refine wpIn_block (wpIn_mono (cwpG_sound hT hm hG hY c x hx hk _ st σ a w hst h) fun e a w hq => ?_)
      obtain ⟨st', σ', hq, hs'⟩ := hq
      cases e with
      | exit id' =>
        simp only [xblkG] at hq
        simp only [Exit.inBlock]
        split
        · rename_i hid; rw [if_pos hid] at hq; exact ⟨st', σ', hq, hs'⟩
        · rename_i hid; rw [if_neg hid] at hq; exact ⟨st', σ', hq, hs'⟩
      | _ => exact ⟨st', σ', hq, hs'⟩
  | .loop c, d, hd, hk, Q, st, σ, a, w, hst, h => by
    simp only [compG] at hd
    simp only [okG] at hk
    cases hx : compG A yr c with
    | none => rw [hx] at hd; simp at hd
    | some x =>
      rw [hx] at hd
      simp at hd
      subst hd
      obtain ⟨I, ⟨n0, σ1, hw, hI⟩, hround⟩ := h
      classical
      let J : Act → World → Nat → Prop := fun a w n => ∃ st σ, I n st σ ∧ SttG G w0 S0 c0 st σ a w
      refine wpIn_loop (fun a w => ∃ n, J a w n) (fun a w => if h : ∃ n, J a w n then Classical.choose (least h) else 0) ⟨n0, st, σ1, hI, hw.sttG hG hst⟩ fun a w hJ => ?_
      obtain ⟨st', σ', hI', hst'⟩ := (Classical.choose_spec (least hJ)).1
      refine wpIn_mono (cwpG_sound hT hm hG hY c x hx hk _ st' σ' a w hst' (hround _ st' σ' hI')) fun e a' w' hq => ?_
      obtain ⟨st2, σ2, hq, hs2⟩ := hq
      cases e with
      | normal =>
        obtain ⟨m, σ3, hm, hw3, hI3⟩ := hq
        have hJ' : J a' w' m := ⟨st2, σ3, hI3, hw3.sttG hG hs2⟩
        have hex : ∃ n, J a' w' n := ⟨m, hJ'⟩
        refine ⟨hex, ?_⟩
        simp only [dif_pos hex, dif_pos hJ]
        exact Nat.lt_of_le_of_lt ((Classical.choose_spec (least hex)).2 m hJ') hm
      | _ => exact ⟨st2, σ2, hq, hs2⟩
  | .rangeFunc g ps asg bdy, d, hd, hk, Q, st, σ, a, w, hst, h => by
    simp only [compG] at hd
    simp only [okG, Bool.and_eq_true] at hk
    split at hd
    · rename_i x y hx hy
      injection hd with hd
      subst hd
      exact range_sound hT hm hG hx hy hk.1.1 hk.1.2.1 hk.1.2.2 hk.2.1 hk.2.2 hst h
    · cases hd
  | .scope c, d, hd, hk, Q, st, σ, a, w, hst, h => by
    simp only [compG] at hd
    simp only [okG] at hk
    cases hx : compG A yr c with
    | none => rw [hx] at hd; simp at hd
    | some x =>
      rw [hx] at hd
      simp at hd
      subst hd
      refine wpIn_scope (wpIn_mono (cwpG_sound hT hm hG hY c x hx hk _ st σ a w hst h) fun e a w hq => ?_)
      obtain ⟨st', σ', hq, hs'⟩ := hq
      cases e with
      | goto t => exact hq.elim
      | _ => exact ⟨st', σ', hq, hs'⟩
  | .goto .., d, hd, hk, Q, st, σ, a, w, hst, h => by simp [compG] at hd
  | .refuse .., d, hd, hk, Q, st, σ, a, w, hst, h => by simp [compG] at hd

/-- On the way out the marks are shut. -/
theorem leave_marks (hG : GOk G) {fn : Func} {a : Act} {σ : List AV} {st : Option Nat} {R : Ending → World → Prop} : ∀ (ms : List Nat) (w : World) (S c cg cm : Nat → Nat), RepC w S σ a.tmps.toList c → G st w S cg → Mks ms w cm → (∀ b, c b + cg b + cm b ≤ 1) → Sz w S → Stp w0 S0 c0 w S (fun b => c b + cg b + cm b) →
    (∀ w', RepC w' S σ a.tmps.toList c → G st w' S cg → Sz w' S → Stp w0 S0 c0 w' S (fun b => c b + cg b) → ∃ v, (results fn a.tmps).run P w' = .ok v w' ∧ R (.returned v) w') → LeavesInM (Fr none) n P fn a.tmps R (ms.map mark) .returning w
  | [], w, S, c, cg, cm, hr, hg, hm, h1, hz, hs, hK => by
    obtain ⟨v, g1, g2⟩ := hK w hr hg hz (hs.drop fun b => by show c b + cg b ≤ c b + cg b + cm b; omega)
    exact ⟨v, g1, g2⟩
  | D :: ms, w, S, c, cg, cm, hr, hg, hm, h1, hz, hs, hK => by
    obtain ⟨hD, hh⟩ := hm.2.1 D (by simp)
    have hnd := List.nodup_cons.1 hm.1
    have hp := Stp.putObj (S := S) (o' := .deferred none) hh rfl rfl
    have hdis : ∀ b, (if b = D then 1 else 0) + (c b + cg b) ≤ 1 := fun b => by
      have := h1 b
      split
      · rename_i hb; subst hb; omega
      · omega
    have hz' : Sz (w.putObj D (.deferred none)) S := fun b hb => hz b (by simpa using hb)
    refine ⟨by simp, .inl ⟨D, w.putObj D (.deferred none), rfl, run_takeDeferred hh, ?_⟩⟩
    refine leave_marks hG ms _ S c cg cm (hr.step hp (fun b => by have := hdis b; omega)) (hG.keep _ _ _ _ _ _ _ _ hg hp (fun b => by have := hdis b; omega) hz) ⟨hnd.2, fun E hE => ?_, fun b hb => by have := hm.2.2 b hb; simpa using this⟩ h1 hz' ?_ hK
    · obtain ⟨g1, g2⟩ := hm.2.1 E (by simp [hE])
      exact ⟨g1, by rw [World.putObj_heap_other (by rintro rfl; exact hnd.1 hE)]; exact g2⟩
    · have := hp.grow (d := fun b => c b + cg b + cm b) (fun b => by
        show (if b = D then 1 else 0) ≤ c b + cg b + cm b
        split
        · rename_i hb; subst hb; omega
        · omega)
      exact hs.trans ⟨this.os, this.tape, this.output, this.size, this.keep, this.cell, this.le, fun b hb => Nat.le_refl _⟩
end
end Go.Proofs.Ytibdijaacolhkaa
