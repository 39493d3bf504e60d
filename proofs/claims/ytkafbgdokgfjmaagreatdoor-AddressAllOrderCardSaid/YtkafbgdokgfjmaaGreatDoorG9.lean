/- Functions: with ranges over functions; iterators. Contracts of functions with ranges over functions, and of iterators. Rules of the reckoning: yield, ranges over functions. -/
import Derived.Test.YtkafbgdokgfjmaaGreatDoorG6
import Derived.Test.YtkafbgdokgfjmaaGreatDoorA11
namespace Go.Proofs.YtkafbgdokgfjmaaGreatDoor
open Go.RowKit
set_option linter.unusedVariables false
set_option linter.unusedSimpArgs false
set_option linter.unusedSectionVars false
variable [Env]
section
variable {P : Program} {T : Tab} {w0 : World} {S0 c0 : Nat → Nat} {G : Gh} {Y : Nat → List AV → Prop} {l : Nat} {A : Ann} {yr : List (Nat × Nat)} {nt : Nat} {asl : List Nat} {n : Nat}
theorem cwpG_sound (hT : TabOk P T) (hm : P.follows .mixedOrders = true) (hG : GOk G) (hY : YOk P l Y G) : ∀ (c : Code) (d : CG), compG A yr c = some d → okG A yr nt asl c = true → ∀ (Q : Exit → Option Nat → List AV → Prop) (st : Option Nat) (σ : List AV) (a : Act) (w : World), SttG G w0 S0 c0 st σ a w → cwpG P T Y l nt asl d Q st σ → c.wpIn (Fr none) n P (liftG G w0 S0 c0 Q) a w
  | .skip, d, hd, hk, Q, st, σ, a, w, hst, h => by
    simp only [compG] at hd; injection hd with hd; subst hd
    exact wpIn_skip ⟨st, σ, h, hst⟩
  | .label t, d, hd, hk, Q, st, σ, a, w, hst, h => by
    simp only [compG] at hd; injection hd with hd; subst hd
    exact wpIn_label ⟨st, σ, h, hst⟩
  | .exit id, d, hd, hk, Q, st, σ, a, w, hst, h => by
    simp only [compG] at hd; injection hd with hd; subst hd
    exact wpIn_exit ⟨st, σ, h, hst⟩
  | .ret, d, hd, hk, Q, st, σ, a, w, hst, h => by
    simp only [compG] at hd; injection hd with hd; subst hd
    exact wpIn_ret ⟨st, σ, h, hst⟩
  | .region id ops dr, d, hd, hk, Q, st, σ, a, w, hst, h => by
    simp only [compG] at hd
    simp only [okG] at hk
    split at hd
    · rename_i p hp
      rw [hp] at hk
      cases dr with
      | true => simp at hd
      | false =>
        simp only [Bool.false_eq_true, if_false] at hd
        by_cases hb : p < 1000
        · rw [if_pos hb] at hd; exact yreg_sound hT hG hY hd hk hst h
        · rw [if_neg hb] at hd; exact yreg2_sound hT hG hY hd hk hst h
    · rename_i hp
      rw [hp] at hk
      simp only [Bool.and_eq_true] at hk
      cases hc : comp A (.region id ops dr) with
      | none => rw [hc] at hd; simp at hd
      | some x =>
        rw [hc] at hd
        simp at hd
        subst hd
        exact base_sound hT hm hG hc hk.1 hk.2 hst h
  | .seq x y, d, hd, hk, Q, st, σ, a, w, hst, h => by
    simp only [compG] at hd
    simp only [okG, Bool.and_eq_true] at hk
    split at hd
    · rename_i x' y' hx hy
      injection hd with hd
      subst hd
      cases hc : cutAt A y with
      | false =>
        rw [hc] at h
        refine wpIn_seq (wpIn_mono (cwpG_sound hT hm hG hY x x' hx hk.1 _ st σ a w hst h) fun e a w hq => ?_)
        obtain ⟨st', σ', hq, hs'⟩ := hq
        cases e with
        | normal => exact cwpG_sound hT hm hG hY y y' hy hk.2 Q st' σ' a w hs' hq
        | _ => exact ⟨st', σ', hq, hs'⟩
      | true =>
        rw [hc] at h
        obtain ⟨I, hI, h⟩ := h
        refine wpIn_seq (wpIn_mono (cwpG_sound hT hm hG hY x x' hx hk.1 _ st σ a w hst h) fun e a w hq => ?_)
        obtain ⟨st', σ', hq, hs'⟩ := hq
        cases e with
        | normal =>
          obtain ⟨σ3, hw3, h3⟩ := hq
          exact cwpG_sound hT hm hG hY y y' hy hk.2 Q st' σ3 a w (hw3.sttG hG hs') (hI st' σ3 h3)
        | _ => exact ⟨st', σ', hq, hs'⟩
    · cases hd
  | .cond c x y, d, hd, hk, Q, st, σ, a, w, hst, h => by
    simp only [compG] at hd
    simp only [okG, Bool.and_eq_true] at hk
    split at hd
    · rename_i x' y' hx hy
      injection hd with hd
      subst hd
      simp only [cwpG, ccond] at h
      split at h
      · rename_i e he
        exact wpIn_cond_split (hst.evalc he) (fun ht => cwpG_sound hT hm hG hY x x' hx hk.1 Q st σ a w hst (h.1 ht)) (fun hf => cwpG_sound hT hm hG hY y y' hy hk.2 Q st σ a w hst (h.2 hf))
      · exact h.elim
    · cases hd
  | .block id c, d, hd, hk, Q, st, σ, a, w, hst, h => by
    simp only [compG] at hd
    simp only [okG] at hk
    cases hx : compG A yr c with
    | none => rw [hx] at hd; simp at hd
    | some x =>
      rw [hx] at hd
      simp at hd
      subst hd
      refine wpIn_block (wpIn_mono (cwpG_sound hT hm hG hY c x hx hk _ st σ a w hst h) fun e a w hq => ?_)
      obtain ⟨st', σ', hq, hs'⟩ := hq
      cases e with
      | exit id' =>
        simp only [xblkG] at hq
        simp only [Exit.inBlock]
        split
        · rename_i hid; rw [if_pos hid] at hq; exact ⟨st', σ', hq, hs'⟩
        · rename_i hid; rw [if_neg hid] at hq; exact ⟨st', σ', hq, hs'⟩
      | _ => exact ⟨st', σ', hq, hs'⟩
  | .loop c, d, hd, hk, Q, st, σ, a, w, hst, h => by
    simp only [compG] at hd
    simp only [okG] at hk
    cases hx : compG A yr c with
    | none => rw [hx] at hd; simp at hd
    | some x =>
      rw [hx] at hd
      simp at hd
      subst hd
      obtain ⟨I, ⟨n0, σ1, hw, hI⟩, hround⟩ := h
      classical
      let J : Act → World → Nat → Prop := fun a w n => ∃ st σ, I n st σ ∧ SttG G w0 S0 c0 st σ a w
      refine wpIn_loop (fun a w => ∃ n, J a w n) (fun a w => if h : ∃ n, J a w n then Classical.choose (least h) else 0) ⟨n0, st, σ1, hI, hw.sttG hG hst⟩ fun a w hJ => ?_
      obtain ⟨st', σ', hI', hst'⟩ := (Classical.choose_spec (least hJ)).1
      refine wpIn_mono (cwpG_sound hT hm hG hY c x hx hk _ st' σ' a w hst' (hround _ st' σ' hI')) fun e a' w' hq => ?_
      obtain ⟨st2, σ2, hq, hs2⟩ := hq
      cases e with
      | normal =>
        obtain ⟨m, σ3, hm, hw3, hI3⟩ := hq
        have hJ' : J a' w' m := ⟨st2, σ3, hI3, hw3.sttG hG hs2⟩
        have hex : ∃ n, J a' w' n := ⟨m, hJ'⟩
        refine ⟨hex, ?_⟩
        simp only [dif_pos hex, dif_pos hJ]
        exact Nat.lt_of_le_of_lt ((Classical.choose_spec (least hex)).2 m hJ') hm
      | _ => exact ⟨st2, σ2, hq, hs2⟩
  | .rangeFunc g ps asg bdy, d, hd, hk, Q, st, σ, a, w, hst, h => by
    simp only [compG] at hd
    simp only [okG, Bool.and_eq_true] at hk
    split at hd
    · rename_i x y hx hy
      injection hd with hd
      subst hd
      exact range_sound hT hm hG hx hy hk.1.1 hk.1.2.1 hk.1.2.2 hk.2.1 hk.2.2 hst h
    · cases hd
  | .scope c, d, hd, hk, Q, st, σ, a, w, hst, h => by
    simp only [compG] at hd
    simp only [okG] at hk
    cases hx : compG A yr c with
    | none => rw [hx] at hd; simp at hd
    | some x =>
      rw [hx] at hd
      simp at hd
      subst hd
      refine wpIn_scope (wpIn_mono (cwpG_sound hT hm hG hY c x hx hk _ st σ a w hst h) fun e a w hq => ?_)
      obtain ⟨st', σ', hq, hs'⟩ := hq
      cases e with
      | goto t => exact hq.elim
      | _ => exact ⟨st', σ', hq, hs'⟩
  | .goto .., d, hd, hk, Q, st, σ, a, w, hst, h => by simp [compG] at hd
  | .refuse .., d, hd, hk, Q, st, σ, a, w, hst, h => by simp [compG] at hd

/-- On the way out the marks are shut. -/
theorem leave_marks (hG : GOk G) {fn : Func} {a : Act} {σ : List AV} {st : Option Nat} {R : Ending → World → Prop} : ∀ (ms : List Nat) (w : World) (S c cg cm : Nat → Nat), RepC w S σ a.tmps.toList c → G st w S cg → Mks ms w cm → (∀ b, c b + cg b + cm b ≤ 1) → Sz w S → Stp w0 S0 c0 w S (fun b => c b + cg b + cm b) →
    (∀ w', RepC w' S σ a.tmps.toList c → G st w' S cg → Sz w' S → Stp w0 S0 c0 w' S (fun b => c b + cg b) → ∃ v, (results fn a.tmps).run P w' = .ok v w' ∧ R (.returned v) w') → LeavesInM (Fr none) n P fn a.tmps R (ms.map mark) .returning w
  | [], w, S, c, cg, cm, hr, hg, hm, h1, hz, hs, hK => by
    obtain ⟨v, g1, g2⟩ := hK w hr hg hz (hs.drop fun b => by show c b + cg b ≤ c b + cg b + cm b; omega)
    exact ⟨v, g1, g2⟩
  | D :: ms, w, S, c, cg, cm, hr, hg, hm, h1, hz, hs, hK => by
    obtain ⟨hD, hh⟩ := hm.2.1 D (by simp)
    have hnd := List.nodup_cons.1 hm.1
    have hp := Stp.putObj (S := S) (o' := .deferred none) hh rfl rfl
    have hdis : ∀ b, (if b = D then 1 else 0) + (c b + cg b) ≤ 1 := fun b => by
      have := h1 b
      split
      · rename_i hb; subst hb; omega
      · omega
    have hz' : Sz (w.putObj D (.deferred none)) S := hz.stp hp fun b hb => hz b (by simpa using hb)
    refine ⟨by simp, .inl ⟨D, w.putObj D (.deferred none), rfl, run_takeDeferred hh, ?_⟩⟩
    refine leave_marks hG ms _ S c cg cm (hr.step hp (fun b => by have := hdis b; omega)) (hG.keep _ _ _ _ _ _ _ _ hg hp (fun b => by have := hdis b; omega) hz) ⟨hnd.2, fun E hE => ?_, fun b hb => by have := hm.2.2 b hb; simpa using this⟩ h1 hz' ?_ hK
    · obtain ⟨g1, g2⟩ := hm.2.1 E (by simp [hE])
      exact ⟨g1, by rw [World.putObj_heap_other (by rintro rfl; exact hnd.1 hE)]; exact g2⟩
    · have := hp.grow (d := fun b => c b + cg b + cm b) (fun b => by
        show (if b = D then 1 else 0) ≤ c b + cg b + cm b
        split
        · rename_i hb; subst hb; omega
        · omega)
      exact hs.trans ⟨this.os, this.tape, this.output, this.size, this.keep, this.cell, this.le, fun b hb => Nat.le_refl _⟩
end
end Go.Proofs.YtkafbgdokgfjmaaGreatDoor
namespace Go.Proofs.YtkafbgdokgfjmaaGreatDoor
open Go.RowKit
set_option linter.unusedVariables false
set_option linter.unusedSimpArgs false
set_option linter.unusedSectionVars false
variable [Env]
section
variable {P : Program} {T : Tab} {nt : Nat}
def finG (T : Tab) (rs : List ResultVar) (R : AV → Prop) : Exit → Option Nat → List AV → Prop := fun e _ σ => afin T rs R e σ
def finI (n : Nat) : Exit → Option Nat → List AV → Prop
  | .normal, st, _ => st = some n ∨ st = none
  | .ret, st, _ => st = some n ∨ st = none
  | _, _, _ => False
theorem undef_rep {w : World} {S : Nat → Nat} : ∀ n, RepC w S (List.replicate n .any) (List.replicate n undef) (fun _ => 0)
  | 0 => .nil zc0
  | n + 1 => .any (undef_rep n)
theorem ref_none {σ : List AV} {vs : List Value} (h : ∀ x ∈ σ, pb x = true) : RefOk σ vs :=
  ⟨fun i s off T cs hi hs => by have := h _ (List.mem_of_getElem? hi); simp [pb] at this, fun i s e k es hi hs => by have := h _ (List.mem_of_getElem? hi); simp [pb] at this, fun i s k j o e k' es hi hs => by have := h _ (List.mem_of_getElem? hi); simp [pb] at this⟩
theorem calls_shortG (A : Ann) (yr : List (Nat × Nat)) (asl : List Nat) (hT : TabOk P T) (hm : P.follows .mixedOrders = true) {f : Nat} {fn : Func} {args : List AV} {R : AV → Prop} {d : CG} {rs : Array ResultVar} (hf : P.funcs[f]? = some fn) (hn : (fn.name == "runtime.NumGoroutine") = false)
    (hck : (fn.body.map (okG A yr nt asl)) = some true) (hd : fn.body.bind (compG A yr) = some d) (hnt : fn.ntmps = nt) (hrs : fn.results = rs) (hR : ∃ r, R r) (hpa : args.all pb = true)
    (h : cwpG P T (fun _ _ => False) 0 nt asl d (finG T rs.toList R) none (args ++ List.replicate (nt - args.length) .any)) : ACalls P f args R := by
  cases hb : fn.body with
  | none => rw [hb] at hd; cases hd
  | some code =>
  rw [hb] at hd hck
  have hcd : compG A yr code = some d := hd
  have hck' : okG A yr nt asl code = true := by simpa using hck
  refine ⟨⟨fn, code, hf, hb, hn⟩, hR, fun w S vs c hz hr hc => ?_⟩
  have hl := hr.length
  have hY0 : YOk P 0 (fun _ _ => False) noG := fun k args w S vs c cg h => h.elim
  refine (callsFr (ro := none) (n := 3)).1 (callsIn_of_wp_marks hf hb trivial (wpIn_mono (cwpG_sound (G := noG) (w0 := w) (S0 := S) (c0 := c) (n := 3) hT hm noG_ok hY0 code d hcd hck' _ none _ _ w ?_ h) fun e a w' hq => ?_) rfl)
  · refine ⟨ref_none fun x hx => ?_, [], S, c, fun _ => 0, fun _ => 0, ?_, zc0, ⟨List.nodup_nil, by simp, by simp⟩, fun b => by have := hc b; omega, rfl, hz, Stp.refl w S c⟩
    · rcases List.mem_append.1 hx with h | h
      · exact List.all_eq_true.1 hpa _ h
      · rw [List.eq_of_mem_replicate h]; rfl
    · have := RepC.app hr (undef_rep (nt - args.length)) (c := c) (fun b => by simp)
      simpa [hnt, hl] using this
  · obtain ⟨st, σ, hq, hst⟩ := hq
    have fin : ares T rs.toList σ (fun vs => R (match vs with
        | [v] => v
        | vs => .tup vs)) → LeavesInM (Fr none) 3 P fn a.tmps (fun e w' => ∃ v r S' c', e = .returned v ∧ R r ∧ pb r = true ∧ RepC w' S' [r] [v] c' ∧ (∀ b, c' b ≤ 1) ∧ Sz w' S' ∧ Stp w S c w' S' c') a.defers .returning w' := by
      intro hq
      obtain ⟨_, ms, S', c', cg, cm, hr', hg, hmk, h1, hd', hz', hs⟩ := hst
      rw [hd']
      refine leave_marks noG_ok (st := st) (σ := σ) ms w' S' c' cg cm hr' hg hmk h1 hz' hs fun w2 hr2 hg2 hz2 hs2 => ?_
      obtain ⟨rvs, us, cv, hrun, hK, hv, hle, hul, hpb⟩ := ares_sound hT rs.toList σ c' _ hr2 hq
      have hmm : (fn.results.mapM (resOne a.tmps)).run P w2 = .ok us.toArray w2 := by
        have he : fn.results = rs.toList.toArray := by apply Array.ext'; simp [hrs]
        rw [he, List.mapM_toArray]
        simp [hrun]
      refine ⟨(if h : us.toArray.size = 1 then us.toArray[0] else .tuple us.toArray), ?_, _, _, S', cv, rfl, hK, ?_, ?_, fun b => Nat.le_trans (hle b) (by have := h1 b; omega), hz2, hs2.drop fun b => by have := hle b; omega⟩
      · rw [results_eq]
        simp only [Sem.run_bind, hmm, Result.andThen_ok, Sem.run_pure]
      · match rvs, hpb with
        | [], _ => rfl
        | [v], hpb => exact hpb v (by simp)
        | v :: v' :: rvs, _ => rfl
      · have hvl := hv.length
        match us, rvs, hvl, hv with
        | [], [], _, hv => exact RepC.tup hv (.nil zc0) (fun b => by simp)
        | [u], [v], _, hv => exact hv
        | u :: u' :: us, v :: v' :: rvs, _, hv => exact RepC.tup hv (.nil zc0) (fun b => by simp)
    cases e with
    | normal => exact fin hq
    | ret => exact fin hq
    | _ => exact hq.elim
theorem iter_short (A : Ann) (yr : List (Nat × Nat)) (asl : List Nat) (hT : TabOk P T) (hm : P.follows .mixedOrders = true) {f : Nat} {fn : Func} {cs : List AV} {n : Nat} {Y : Nat → List AV → Prop} {d : CG} (hf : P.funcs[f]? = some fn) (hn : (fn.name == "runtime.NumGoroutine") = false)
    (hck : (fn.body.map (okG A yr nt asl)) = some true) (hd : fn.body.bind (compG A yr) = some d) (hnt : fn.ntmps = nt) (hrs : fn.results = #[]) (hpa : cs.all pb = true)
    (h : ∀ l, cwpG P T Y l nt asl d (finI n) (some 0) (.raw (.func (.yield l) #[] #[]) :: (cs ++ List.replicate (nt - (cs.length + 1)) .any))) : AIter P f cs n Y := by
  cases hb : fn.body with
  | none => rw [hb] at hd; cases hd
  | some code =>
  rw [hb] at hd hck
  have hcd : compG A yr code = some d := hd
  have hck' : okG A yr nt asl code = true := by simpa using hck
  refine ⟨⟨fn, code, hf, hb, hn⟩, fun G hG l hY w S vs c cg hz hr hg hc => ?_⟩
  have hl := hr.length
  refine (callsFr (ro := none) (n := 3)).1 (callsIn_of_wp_marks hf hb trivial (wpIn_mono (cwpG_sound (w0 := w) (S0 := S) (c0 := fun b => c b + cg b) (n := 3) hT hm hG hY code d hcd hck' _ (some 0) _ _ w ?_ (h l)) fun e a w' hq => ?_) rfl)
  · refine ⟨ref_none fun x hx => ?_, [], S, c, cg, fun _ => 0, ?_, hg, ⟨List.nodup_nil, by simp, by simp⟩, fun b => by have := hc b; omega, rfl, hz, Stp.refl w S _⟩
    · rcases List.mem_cons.1 hx with rfl | hx
      · rfl
      rcases List.mem_append.1 hx with h | h
      · exact List.all_eq_true.1 hpa _ h
      · rw [List.eq_of_mem_replicate h]; rfl
    · have := RepC.raw (w := w) (S := S) (v := .func (.yield l) #[] #[]) rfl (RepC.app hr (undef_rep (nt - (cs.length + 1))) (c := c) (fun b => by simp))
      simpa [hnt, hl] using this
  · obtain ⟨st, σ, hq, hst⟩ := hq
    have fin : (st = some n ∨ st = none) → LeavesInM (Fr none) 3 P fn a.tmps (fun e w' => ∃ v st S' cg', e = .returned v ∧ (st = some n ∨ st = none) ∧ G st w' S' cg' ∧ (∀ b, cg' b ≤ 1) ∧ Sz w' S' ∧ Stp w S (fun b => c b + cg b) w' S' cg') a.defers .returning w' := by
      intro hq
      obtain ⟨_, ms, S', c', cg', cm, hr', hg', hmk, h1, hd', hz', hs⟩ := hst
      rw [hd']
      refine leave_marks hG (st := st) (σ := σ) ms w' S' c' cg' cm hr' hg' hmk h1 hz' hs fun w2 hr2 hg2 hz2 hs2 => ?_
      exact ⟨_, results_none hrs _ _ _, _, st, S', cg', rfl, hq, hg2, fun b => by have := h1 b; omega, hz2, hs2.drop fun b => by omega⟩
    cases e with
    | normal => exact fin hq
    | ret => exact fin hq
    | _ => exact hq.elim
end
end Go.Proofs.YtkafbgdokgfjmaaGreatDoor
namespace Go.Proofs.YtkafbgdokgfjmaaGreatDoor
open Go.RowKit
set_option linter.unusedVariables false
set_option linter.unusedSectionVars false
variable [Env]
section
variable {P : Program} {T : Tab} {Y : Nat → List AV → Prop} {l nt : Nat} {asl : List Nat} {Q : Exit → Option Nat → List AV → Prop} {st : Option Nat} {σ : List AV}
def ky2 (P : Program) (T : Tab) (l2 : List CO) (Q : Exit → Option Nat → List AV → Prop) (st : Option Nat) (σ : List AV) : Prop := copl P T (Q .normal st) l2 σ
def ky (P : Program) (T : Tab) (Y : Nat → List AV → Prop) (l : Nat) (d : Option Nat) (f : Operand) (args : List Operand) (l2 : List CO) (Q : Exit → Option Nat → List AV → Prop) (st : Option Nat) (σ : List AV) : Prop :=
  ycall Y l (aev σ f) (agrab σ args).1 (agrab σ args).2 d (ky2 P T l2 Q) st
def yc (Y : Nat → List AV → Prop) (l : Nat) (x : AV) (p : List AV × List AV) (d : Option Nat) (K : Option Nat → List AV → Prop) (st : Option Nat) : Prop := ycall Y l x p.1 p.2 d K st
theorem cwpG_base (c : CC) : cwpG P T Y l nt asl (.base c) Q st σ = cwp P T c (xst Q st) σ := (rfl)
theorem cwpG_seq (x y : CG) : cwpG P T Y l nt asl (.seq x y) Q st σ = cwpG P T Y l nt asl x (xseqG (cwpG P T Y l nt asl y Q) Q) st σ := (rfl)
theorem cwpG_block (id : Nat) (c : CG) : cwpG P T Y l nt asl (.block id c) Q st σ = cwpG P T Y l nt asl c (xblkG id Q) st σ := (rfl)
theorem cwpG_cond (c : Operand) (x y : CG) : cwpG P T Y l nt asl (.cond c x y) Q st σ = ccq (aev σ c) (cwpG P T Y l nt asl x Q st) (cwpG P T Y l nt asl y Q st) σ := by
  show ccond _ _ _ = _
  cases aev σ c <;> rfl
theorem cwpG_yreg (l1 l2 : List CO) (d : Option Nat) (f : Operand) (args : List Operand) : cwpG P T Y l nt asl (.yreg l1 d f args l2) Q st σ = copl P T (ky P T Y l d f args l2 Q st) l1 σ := (rfl)
theorem ky_eq (d : Option Nat) (f : Operand) (args : List Operand) (l2 : List CO) : ky P T Y l d f args l2 Q st σ = yc Y l (aev σ f) (agrab σ args) d (ky2 P T l2 Q) st := (rfl)
theorem ky2_eq (l2 : List CO) : ky2 P T l2 Q st σ = copl P T (Q .normal st) l2 σ := (rfl)
def kyC (P : Program) (T : Tab) (Y : Nat → List AV → Prop) (l : Nat) (l2 : List CO) (t : Nat) (want : Bool) (d' : Option Nat) (f' : Operand) (args' : List Operand) (l3 : List CO) (Q : Exit → Option Nat → List AV → Prop) (st : Option Nat) (σ : List AV) : Prop := copl P T (kyB Y l P T t want d' f' args' l3 Q st) l2 σ
def kyA (P : Program) (T : Tab) (Y : Nat → List AV → Prop) (l : Nat) (d : Option Nat) (f : Operand) (args : List Operand) (l2 : List CO) (t : Nat) (want : Bool) (d' : Option Nat) (f' : Operand) (args' : List Operand) (l3 : List CO) (Q : Exit → Option Nat → List AV → Prop) (st : Option Nat) (σ : List AV) : Prop :=
  ycall Y l (aev σ f) (agrab σ args).1 (agrab σ args).2 d (kyC P T Y l l2 t want d' f' args' l3 Q) st
theorem cwpG_yreg2 (l1 : List CO) (d : Option Nat) (f : Operand) (args : List Operand) (l2 : List CO) (t : Nat) (want : Bool) (d' : Option Nat) (f' : Operand) (args' : List Operand) (l3 : List CO) : cwpG P T Y l nt asl (.yreg2 l1 d f args l2 t want d' f' args' l3) Q st σ = copl P T (kyA P T Y l d f args l2 t want d' f' args' l3 Q st) l1 σ := (rfl)
theorem kyA_eq (d : Option Nat) (f : Operand) (args : List Operand) (l2 : List CO) (t : Nat) (want : Bool) (d' : Option Nat) (f' : Operand) (args' : List Operand) (l3 : List CO) : kyA P T Y l d f args l2 t want d' f' args' l3 Q st σ = yc Y l (aev σ f) (agrab σ args) d (kyC P T Y l l2 t want d' f' args' l3 Q) st := (rfl)
theorem kyC_eq (l2 : List CO) (t : Nat) (want : Bool) (d' : Option Nat) (f' : Operand) (args' : List Operand) (l3 : List CO) : kyC P T Y l l2 t want d' f' args' l3 Q st σ = copl P T (kyB Y l P T t want d' f' args' l3 Q st) l2 σ := (rfl)
theorem kyB_eq (t : Nat) (want : Bool) (d' : Option Nat) (f' : Operand) (args' : List Operand) (l3 : List CO) : kyB Y l P T t want d' f' args' l3 Q st σ = kyG (σ.getD t .any) want (kyT Y l P T d' f' args' l3 Q st) (kyS P T d' l3 Q st) σ := (rfl)
theorem kyG_tt (A B : List AV → Prop) : kyG (.raw (.bool true)) true A B σ = A σ := (rfl)
theorem kyG_ff (A B : List AV → Prop) : kyG (.raw (.bool false)) false A B σ = A σ := (rfl)
theorem kyG_tf (A B : List AV → Prop) : kyG (.raw (.bool true)) false A B σ = B σ := (rfl)
theorem kyG_ft (A B : List AV → Prop) : kyG (.raw (.bool false)) true A B σ = B σ := (rfl)
theorem kyT_eq (d' : Option Nat) (f' : Operand) (args' : List Operand) (l3 : List CO) : kyT Y l P T d' f' args' l3 Q st σ = yc Y l (aev σ f') (agrab σ args') d' (ky2 P T l3 Q) st := (rfl)
theorem kyS_eq (d' : Option Nat) (l3 : List CO) : kyS P T d' l3 Q st σ = copl P T (Q .normal st) l3 (aset σ d' (.tup [])) := (rfl)
theorem xst_eq (e : Exit) : xst Q st e σ = Q e st σ := (rfl)
theorem xseqG_normal (K : Option Nat → List AV → Prop) : xseqG K Q .normal st σ = K st σ := (rfl)
theorem xseqG_ret (K : Option Nat → List AV → Prop) : xseqG K Q .ret st σ = Q .ret st σ := (rfl)
theorem xseqG_exit (K : Option Nat → List AV → Prop) (id : Nat) : xseqG K Q (.exit id) st σ = Q (.exit id) st σ := (rfl)
theorem xblkG_normal (id : Nat) : xblkG id Q .normal st σ = Q .normal st σ := (rfl)
theorem xblkG_ret (id : Nat) : xblkG id Q .ret st σ = Q .ret st σ := (rfl)
theorem xblkG_exit (id : Nat) : xblkG id Q (.exit id) st σ = Q .normal st σ := by simp [xblkG]
theorem xblkG_exit3 {id id' : Nat} (h : id' ≠ id) : xblkG id Q (.exit id') st σ = Q (.exit id') st σ := by simp [xblkG, h]
theorem cwpG_scope (c : CG) : cwpG P T Y l nt asl (.scope c) Q st σ = cwpG P T Y l nt asl c (xscoG Q) st σ := (rfl)
theorem xscoG_normal : xscoG Q .normal st σ = Q .normal st σ := (rfl)
theorem xscoG_ret : xscoG Q .ret st σ = Q .ret st σ := (rfl)
theorem xscoG_exit (id : Nat) : xscoG Q (.exit id) st σ = Q (.exit id) st σ := (rfl)
theorem finG_eq (rs : List ResultVar) (R : AV → Prop) (e : Exit) : finG T rs R e st σ = afin T rs R e σ := (rfl)
theorem finI_normal (n : Nat) : finI n .normal st σ = (st = some n ∨ st = none) := (rfl)
theorem finI_ret (n : Nat) : finI n .ret st σ = (st = some n ∨ st = none) := (rfl)
theorem xasg_normal (K : List AV → Prop) : xasg K .normal σ = K σ := (rfl)
theorem xrnd_normal (L : Nat) (K : List AV → Prop) (Q : Exit → List AV → Prop) : xrnd asl L K Q .normal σ = (σ.length = L ∧ K (fgt asl σ)) := (rfl)
theorem xrnd_ret (L : Nat) (K : List AV → Prop) (Q : Exit → List AV → Prop) : xrnd asl L K Q .ret σ = (σ.length = L ∧ Q .ret (fgt asl σ)) := (rfl)
theorem xrnd_exit (L : Nat) (K : List AV → Prop) (Q : Exit → List AV → Prop) (id : Nat) : xrnd asl L K Q (.exit id) σ = (σ.length = L ∧ Q (.exit id) (fgt asl σ)) := (rfl)
theorem fgt_nil : fgt [] σ = σ := rfl
theorem fgt_cons (s : Nat) (ss : List Nat) : fgt (s :: ss) σ = fgt ss (σ.set s .any) := rfl
theorem pps_nil (xs : List AV) : pps [] xs σ = σ := by cases xs <;> rfl
theorem pps_cons (p : Nat) (ps : List Nat) (x : AV) (xs : List AV) : pps (p :: ps) (x :: xs) σ = pps ps xs (σ.set p x) := rfl
/-- A call of yield. -/
theorem yc_mk {k : Nat} {args σ' : List AV} {d : Option Nat} {K : Option Nat → List AV → Prop} (h1 : Y k args) (h2 : K (some (k + 1)) (aset σ' d (.raw (.bool true)))) (h3 : K none (aset σ' d (.raw (.bool false)))) : yc Y l (.raw (.func (.yield l) #[] #[])) (args, σ') d K (some k) :=
  ⟨rfl, k, rfl, h1, h2, h3⟩
/-- A range over a function: the iterator's contract; between two rounds, R k says what the slots ss hold; the slots that the round writes are forgotten. -/
def rend (m : List Bool) (ss : List Nat) (R : Nat → List AV → Prop) (σ : List AV) (k : Nat) (σ2 : List AV) : Prop := ∃ σ3, Wk σ2 σ3 ∧ ∃ xs, R k xs ∧ σ3 = puts ss xs (hvm m σ)
theorem cwpG_range {x : Operand} {ps : List Nat} {asg bdy : CC} (m : List Bool) (ss : List Nat) (R : Nat → List AV → Prop) {g : Nat} {cs : List AV} {n : Nat} {Y' : Nat → List AV → Prop} (hlen : σ.length ≤ nt) (hx : isClo (aev σ x) g cs) (hi : AIter P g cs n Y') (start : ∃ xs, R 0 xs ∧ Wk σ (puts ss xs (hvm m σ)))
    (round : ∀ k args xs, Y' k args → R k xs → args.length = ps.length ∧ args.all pb = true ∧ cwp P T asg (xasg (cwp P T bdy (xrnd asl σ.length (rend m ss R σ (k + 1)) (xst Q st)))) (pps ps args (puts ss xs (hvm m σ))))
    (done : ∀ xs, R n xs → Q .normal st (puts ss xs (hvm m σ))) : cwpG P T Y l nt asl (.range x ps asg bdy) Q st σ := by
  obtain ⟨xs0, h0, hw0⟩ := start
  refine ⟨g, cs, n, Y', hlen, hx, hi, fun k σ' => ∃ xs, R k xs ∧ σ' = puts ss xs (hvm m σ), ⟨_, hw0, xs0, h0, rfl⟩, ?_, ?_⟩
  · rintro k args σ1 hY ⟨xs, hR, rfl⟩
    exact round k args xs hY hR
  · rintro σ1 ⟨xs, hR, rfl⟩
    exact done xs hR
theorem rend_mk {m : List Bool} {ss : List Nat} {R : Nat → List AV → Prop} {k : Nat} {σ2 : List AV} (xs : List AV) (hR : R k xs) (hw : Wk σ2 (puts ss xs (hvm m σ))) : rend m ss R σ k σ2 := ⟨_, hw, xs, hR, rfl⟩
/-- A cut, with the stage. -/
def cutKG (m : List Bool) (ss : List Nat) (R : Option Nat → List AV → Prop) (σ : List AV) (st2 : Option Nat) (σ2 : List AV) : Prop := ∃ σ3, Wk σ2 σ3 ∧ ∃ xs, R st2 xs ∧ σ3 = puts ss xs (hvm m σ)
theorem cwpG_cut {x y : CG} (m : List Bool) (ss : List Nat) (R : Option Nat → List AV → Prop)
    (before : cwpG P T Y l nt asl x (xseqG (cutKG m ss R σ) Q) st σ) (behind : ∀ st1 xs, R st1 xs → cwpG P T Y l nt asl y Q st1 (puts ss xs (hvm m σ))) : cwpG P T Y l nt asl (.cut x y) Q st σ :=
  ⟨fun st' σ' => ∃ xs, R st' xs ∧ σ' = puts ss xs (hvm m σ), fun st1 σ1 ⟨xs, hR, he⟩ => he ▸ behind st1 xs hR, before⟩
theorem cutG_mk {m : List Bool} {ss : List Nat} {R : Option Nat → List AV → Prop} {st2 : Option Nat} {σ2 : List AV} (xs : List AV) (hR : R st2 xs) (hw : Wk σ2 (puts ss xs (hvm m σ))) : cutKG m ss R σ st2 σ2 :=
  ⟨_, hw, xs, hR, rfl⟩
/-- A loop by slots, with the stage. -/
def lendG (m : List Bool) (ss : List Nat) (R : Nat → Option Nat → List AV → Prop) (σ : List AV) (n : Nat) (st2 : Option Nat) (σ2 : List AV) : Prop := ∃ k σ3, k < n ∧ Wk σ2 σ3 ∧ ∃ xs, R k st2 xs ∧ σ3 = puts ss xs (hvm m σ)
theorem cwpG_loop {c : CG} (m : List Bool) (ss : List Nat) (R : Nat → Option Nat → List AV → Prop) (start : ∃ n xs, R n st xs ∧ Wk σ (puts ss xs (hvm m σ)))
    (round : ∀ n st xs, R n st xs → cwpG P T Y l nt asl c (xseqG (lendG m ss R σ n) Q) st (puts ss xs (hvm m σ))) : cwpG P T Y l nt asl (.loop c) Q st σ := by
  obtain ⟨n0, f0, h0, hw0⟩ := start
  refine ⟨fun n st σ' => ∃ xs, R n st xs ∧ σ' = puts ss xs (hvm m σ), ⟨n0, _, hw0, f0, h0, rfl⟩, ?_⟩
  rintro n st σ1 ⟨f, hR, rfl⟩
  exact round n st f hR
theorem lendG_mk {m : List Bool} {ss : List Nat} {R : Nat → Option Nat → List AV → Prop} {n : Nat} {st2 : Option Nat} {σ2 : List AV} (k : Nat) (xs : List AV) (hm : k < n) (hR : R k st2 xs) (hw : Wk σ2 (puts ss xs (hvm m σ))) : lendG m ss R σ n st2 σ2 := ⟨k, _, hm, hw, xs, hR, rfl⟩
end
attribute [go_sem] cwpG_yreg2 kyA_eq kyC_eq kyB_eq kyG_tt kyG_ff kyG_tf kyG_ft kyT_eq kyS_eq cwpG_scope xscoG_normal xscoG_ret xscoG_exit cwpG_base cwpG_seq cwpG_block cwpG_cond cwpG_yreg ky_eq ky2_eq xst_eq xseqG_normal xseqG_ret xseqG_exit xblkG_normal xblkG_ret xblkG_exit finG_eq finI_normal finI_ret xasg_normal xrnd_normal xrnd_ret xrnd_exit fgt_nil fgt_cons pps_nil pps_cons
end Go.Proofs.YtkafbgdokgfjmaaGreatDoor
