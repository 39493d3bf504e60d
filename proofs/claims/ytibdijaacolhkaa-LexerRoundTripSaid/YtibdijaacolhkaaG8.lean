/- Contracts of functions with ranges over functions, and of iterators. -/
import Derived.Test.YtibdijaacolhkaaG7
namespace Go.Proofs.Ytibdijaacolhkaa
open Go.RowKit
set_option linter.unusedVariables false
set_option linter.unusedSimpArgs false
section
variable {P : Program} {T : Tab} {nt : Nat}
def finG (T : Tab) (rs : List ResultVar) (R : AV → Prop) : Exit → Option Nat → List AV → Prop := fun e _ σ => afin T rs R e σ
def finI (n : Nat) : Exit → Option Nat → List AV → Prop
  | .normal, st, _ => st = some n ∨ st = none
  | .ret, st, _ => st = some n ∨ st = none
  | _, _, _ => False
theorem undef_rep {w : World} {S : Nat → Nat} : ∀ n, RepC w S (List.replicate n .any) (List.replicate n undef) (fun _ => 0)
  | 0 => .nil zc0
  | n + 1 => .any (undef_rep n)
theorem ref_none {σ : List AV} {vs : List Value} (h : ∀ x ∈ σ, pb x = true) : RefOk σ vs :=
  ⟨fun i s off T cs hi hs => by have := h _ (List.mem_of_getElem? hi); simp [pb] at this, fun i s e k es hi hs => by have := h _ (List.mem_of_getElem? hi); simp [pb] at this⟩
theorem calls_shortG (A : Ann) (yr : List (Nat × Nat)) (asl : List Nat) (hT : TabOk P T) (hm : P.follows .mixedOrders = true) {f : Nat} {fn : Func} {args : List AV} {R : AV → Prop} {d : CG} {rs : Array ResultVar} (hf : P.funcs[f]? = some fn) (hn : (fn.name == "runtime.NumGoroutine") = false)
    (hck : (fn.body.map (okG A yr nt asl)) = some true) (hd : fn.body.bind (compG A yr) = some d) (hnt : fn.ntmps = nt) (hrs : fn.results = rs) (hR : ∃ r, R r) (hpa : args.all pb = true)
    (h : cwpG P T (fun _ _ => False) 0 nt asl d (finG T rs.toList R) none (args ++ List.replicate (nt - args.length) .any)) : ACalls P f args R := by
  cases hb : fn.body with
  | none => rw [hb] at hd; cases hd
  | some code =>
  rw [hb] at hd hck
  have hcd : compG A yr code = some d := hd
  have hck' : okG A yr nt asl code = true := by simpa using hck
  refine ⟨⟨fn, code, hf, hb, hn⟩, hR, fun w S vs c hz hr hc => ?_⟩
  have hl := hr.length
  have hY0 : YOk P 0 (fun _ _ => False) noG := fun k args w S vs c cg h => h.elim
  refine (callsFr (ro := none) (n := 3)).1 (callsIn_of_wp_marks hf hb trivial (wpIn_mono (cwpG_sound (G := noG) (w0 := w) (S0 := S) (c0 := c) (n := 3) hT hm noG_ok hY0 code d hcd hck' _ none _ _ w ?_ h) fun e a w' hq => ?_) rfl)
  · refine ⟨ref_none fun x hx => ?_, [], S, c, fun _ => 0, fun _ => 0, ?_, zc0, ⟨List.nodup_nil, by simp, by simp⟩, fun b => by have := hc b; omega, rfl, hz, Stp.refl w S c⟩
    · rcases List.mem_append.1 hx with h | h
      · exact List.all_eq_true.1 hpa _ h
      · rw [List.eq_of_mem_replicate h]; rfl
    · have := RepC.app hr (undef_rep (nt - args.length)) (c := c) (fun b => by simp)
      simpa [hnt, hl] using this
  · obtain ⟨st, σ, hq, hst⟩ := hq
    have fin : ares T rs.toList σ (fun vs => R (match vs with
        | [v] => v
        | vs => .tup vs)) → LeavesInM (Fr none) 3 P fn a.tmps (fun e w' => ∃ v r S' c', e = .returned v ∧ R r ∧ pb r = true ∧ RepC w' S' [r] [v] c' ∧ (∀ b, c' b ≤ 1) ∧ Sz w' S' ∧ Stp w S c w' S' c') a.defers .returning w' := by
      intro hq
      obtain ⟨_, ms, S', c', cg, cm, hr', hg, hmk, h1, hd', hz', hs⟩ := hst
      rw [hd']
      refine leave_marks noG_ok (st := st) (σ := σ) ms w' S' c' cg cm hr' hg hmk h1 hz' hs fun w2 hr2 hg2 hz2 hs2 => ?_
      obtain ⟨rvs, us, cv, hrun, hK, hv, hle, hul, hpb⟩ := ares_sound hT rs.toList σ c' _ hr2 hq
      have hmm : (fn.results.mapM (resOne a.tmps)).run P w2 = .ok us.toArray w2 := by
        have he : fn.results = rs.toList.toArray := by apply Array.ext'; simp [hrs]
        rw [he, List.mapM_toArray]
        simp [hrun]
      refine ⟨(if h : us.toArray.size = 1 then us.toArray[0] else .tuple us.toArray), ?_, _, _, S', cv, rfl, hK, ?_, ?_, fun b => Nat.le_trans (hle b) (by have := h1 b; omega), hz2, hs2.drop fun b => by have := hle b; omega⟩
      · rw [results_eq]
        simp only [Sem.run_bind, hmm, Result.andThen_ok, Sem.run_pure]
      · match rvs, hpb with
        | [], _ => rfl
        | [v], hpb => exact hpb v (by simp)
        | v :: v' :: rvs, _ => rfl
      · have hvl := hv.length
        match us, rvs, hvl, hv with
        | [], [], _, hv => exact RepC.tup hv (.nil zc0) (fun b => by simp)
        | [u], [v], _, hv => exact hv
        | u :: u' :: us, v :: v' :: rvs, _, hv => exact RepC.tup hv (.nil zc0) (fun b => by simp)
    cases e with
    | normal => exact fin hq
    | ret => exact fin hq
    | _ => exact hq.elim
theorem iter_short (A : Ann) (yr : List (Nat × Nat)) (asl : List Nat) (hT : TabOk P T) (hm : P.follows .mixedOrders = true) {f : Nat} {fn : Func} {cs : List AV} {n : Nat} {Y : Nat → List AV → Prop} {d : CG} (hf : P.funcs[f]? = some fn) (hn : (fn.name == "runtime.NumGoroutine") = false)
    (hck : (fn.body.map (okG A yr nt asl)) = some true) (hd : fn.body.bind (compG A yr) = some d) (hnt : fn.ntmps = nt) (hrs : fn.results = #[]) (hpa : cs.all pb = true)
    (h : ∀ l, cwpG P T Y l nt asl d (finI n) (some 0) (.raw (.func (.yield l) #[] #[]) :: (cs ++ List.replicate (nt - (cs.length + 1)) .any))) : AIter P f cs n Y := by
  cases hb : fn.body with
  | none => rw [hb] at hd; cases hd
  | some code =>
  rw [hb] at hd hck
  have hcd : compG A yr code = some d := hd
  have hck' : okG A yr nt asl code = true := by simpa using hck
  refine ⟨⟨fn, code, hf, hb, hn⟩, fun G hG l hY w S vs c cg hz hr hg hc => ?_⟩
  have hl := hr.length
  refine (callsFr (ro := none) (n := 3)).1 (callsIn_of_wp_marks hf hb trivial (wpIn_mono (cwpG_sound (w0 := w) (S0 := S) (c0 := fun b => c b + cg b) (n := 3) hT hm hG hY code d hcd hck' _ (some 0) _ _ w ?_ (h l)) fun e a w' hq => ?_) rfl)
  · refine ⟨ref_none fun x hx => ?_, [], S, c, cg, fun _ => 0, ?_, hg, ⟨List.nodup_nil, by simp, by simp⟩, fun b => by have := hc b; omega, rfl, hz, Stp.refl w S _⟩
    · rcases List.mem_cons.1 hx with rfl | hx
      · rfl
      rcases List.mem_append.1 hx with h | h
      · exact List.all_eq_true.1 hpa _ h
      · rw [List.eq_of_mem_replicate h]; rfl
    · have := RepC.raw (w := w) (S := S) (v := .func (.yield l) #[] #[]) rfl (RepC.app hr (undef_rep (nt - (cs.length + 1))) (c := c) (fun b => by simp))
      simpa [hnt, hl] using this
  · obtain ⟨st, σ, hq, hst⟩ := hq
    have fin : (st = some n ∨ st = none) → LeavesInM (Fr none) 3 P fn a.tmps (fun e w' => ∃ v st S' cg', e = .returned v ∧ (st = some n ∨ st = none) ∧ G st w' S' cg' ∧ (∀ b, cg' b ≤ 1) ∧ Sz w' S' ∧ Stp w S (fun b => c b + cg b) w' S' cg') a.defers .returning w' := by
      intro hq
      obtain ⟨_, ms, S', c', cg', cm, hr', hg', hmk, h1, hd', hz', hs⟩ := hst
      rw [hd']
      refine leave_marks hG (st := st) (σ := σ) ms w' S' c' cg' cm hr' hg' hmk h1 hz' hs fun w2 hr2 hg2 hz2 hs2 => ?_
      exact ⟨_, results_none hrs _ _ _, _, st, S', cg', rfl, hq, hg2, fun b => by have := h1 b; omega, hz2, hs2.drop fun b => by omega⟩
    cases e with
    | normal => exact fin hq
    | ret => exact fin hq
    | _ => exact hq.elim
end
end Go.Proofs.Ytibdijaacolhkaa
