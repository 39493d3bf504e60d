/- Soundness: ranges over functions, and functions that hold them. -/
import Derived.Test.YtibdijaacolhkaaG5
namespace Go.Proofs.Ytibdijaacolhkaa
open Go.RowKit
set_option linter.unusedVariables false
set_option linter.unusedSimpArgs false
section
variable {P : Program} {T : Tab} {w0 : World} {S0 c0 : Nat → Nat} {G : Gh} {Y : Nat → List AV → Prop} {l : Nat} {A : Ann} {yr : List (Nat × Nat)} {nt : Nat} {asl : List Nat} {n : Nat} {ro : Option Nat}
theorem fnok_enter {g : Nat} (h : FnOk P g) (args : Array Value) (w : World) : (callFunc g args).run P w = .ok (.enter g args) w := by
  obtain ⟨fn, code, hfn, hbody, hname⟩ := h
  exact run_enter hfn hname hbody args w
theorem clo_rep {S : Nat → Nat} {c : Nat → Nat} {w : World} {x : AV} {v : Value} {g : Nat} {cs : List AV} (h : RepC w S [x] [v] c) (hc : isClo x g cs) : ∃ us, v = .func (.func g) #[] (List.toArray us) ∧ RepC w S cs us (fun _ => 0) := by
  rcases hc with rfl | ⟨rfl, rfl⟩
  · cases h with
    | clo h1 h0 h => exact ⟨_, rfl, h1.congr fun b => (h0 b).symm⟩
  · exact ⟨[], by rw [(rep_raw h).1], .nil zc0⟩
theorem range_sound (hT : TabOk P T) (hm : P.follows .mixedOrders = true) (hG : GOk G) {g : Operand} {ps : Array Nat} {asg bdy : Code} {x y : CC} (hx : comp A asg = some x) (hy : comp A bdy = some y) (hps : (ps.toList.all fun p => asl.contains p) = true)
    (hkx : cok A asg = true) (hnx : nchk (frs nt asl) asg = true) (hky : cok A bdy = true) (hny : nchk (frs nt asl) bdy = true) {Q : Exit → Option Nat → List AV → Prop} {st : Option Nat} {σ : List AV} {a : Act} {w : World}
    (hst : SttG G w0 S0 c0 st σ a w) (h : cwpG P T Y l nt asl (.range g ps.toList x y) Q st σ) : (Code.rangeFunc g ps asg bdy).wpIn (Fr none) n P (liftG G w0 S0 c0 Q) a w := by
  obtain ⟨gf, cs, N, Y', hln, hclo, hiter, I, ⟨σ1, hwk, hI0⟩, hround, hdone⟩ := h
  obtain ⟨hrf, ms, S, c, cg, cm, hr, hg, hmk, h1, hd, hz, hs⟩ := hst
  have hsz : a.tmps.size = σ.length := by have := hr.length; simpa using this
  obtain ⟨cx, hrx⟩ := aev_rep hr g
  obtain ⟨us, hev, hus⟩ := clo_rep hrx hclo
  obtain ⟨c1, hr1, hle1⟩ := hwk.rep hr
  have hrf1 : RefOk σ1 a.tmps.toList := (hwk.stt (dfs := a.defers) (a := a) ⟨hrf, S, c, hr, fun b => by have := h1 b; omega, rfl, hz, Stp.refl w S c⟩).1
  refine wpIn_rangeFunc ?_
  intro fn hfn
  -- the two blocks
  obtain ⟨D, hD⟩ : ∃ D, w.heap.size = D := ⟨_, rfl⟩
  have z1 := Stp.alloc (w := w) (S := S) (c := fun b => c1 b + cg b + cm b) hz (.deferred (some [])) 0
  have hz1 := hz.alloc (.deferred (some [])) 0
  have hu1 : upd S w.heap.size 0 = S := by funext b; unfold upd; split; (rename_i h; subst h; exact (hz _ (Nat.le_refl _)).symm); rfl
  rw [hu1] at z1 hz1
  have hw1s : (w.alloc (.deferred (some []))).heap.size = D + 1 := by simp [hD]
  obtain ⟨rec, hrec⟩ : ∃ rec, recL fn a ps asg bdy D = rec := ⟨_, rfl⟩
  have z2 := Stp.alloc (w := w.alloc (.deferred (some []))) (S := S) (c := fun x => (if x = w.heap.size then 1 else 0) + (c1 x + cg x + cm x)) hz1 (.loop (rec .ready none)) 0
  have hz2 := hz1.alloc (.loop (rec .ready none)) 0
  have hu2 : upd S (w.alloc (.deferred (some []))).heap.size 0 = S := by funext b; unfold upd; split; (rename_i h; subst h; exact (hz1 _ (Nat.le_refl _)).symm); rfl
  rw [hu2] at z2 hz2
  obtain ⟨W1, hW1⟩ : ∃ W1, (w.alloc (.deferred (some []))).alloc (.loop (rec .ready none)) = W1 := ⟨_, rfl⟩
  rw [hW1] at z2 hz2
  have hL1 : W1.heap[D + 1]? = some (.loop (rec .ready none)) := by
    rw [← hW1]; have := World.alloc_heap_new (w.alloc (.deferred (some []))) (.loop (rec .ready none)); rwa [hw1s] at this
  have hK1 : W1.heap[D]? = some (.deferred (some [])) := by
    rw [← hW1]; exact (Below.heap_alloc _ _ _ (by rw [hw1s]; omega)).trans (by have := World.alloc_heap_new w (.deferred (some [])); rwa [hD] at this)
  have zall := z1.trans z2
  -- what lay beside goes on
  have s1 : Stp w S (fun _ => 0) (w.alloc (.deferred (some []))) S (fun x => (if x = w.heap.size then 1 else 0) + 0) := by
    have := Stp.alloc (w := w) (S := S) (c := fun _ => 0) hz (.deferred (some [])) 0; rwa [hu1] at this
  have s2 : Stp (w.alloc (.deferred (some []))) S (fun _ => 0) W1 S (fun x => (if x = (w.alloc (.deferred (some []))).heap.size then 1 else 0) + 0) := by
    have := Stp.alloc (w := w.alloc (.deferred (some []))) (S := S) (c := fun _ => 0) hz1 (.loop (rec .ready none)) 0; rwa [hu2, hW1] at this
  have hr2 := (hr1.step s1 (fun b => by have := h1 b; have := hle1 b; show c1 b + 0 ≤ 1; omega)).step s2 (fun b => by have := h1 b; have := hle1 b; show c1 b + 0 ≤ 1; omega)
  have hus2 := (hus.step s1 (fun b => by simp)).step s2 (fun b => by simp)
  have hg2 := hG.keep _ _ _ _ _ _ _ _ (hG.keep _ _ _ _ _ _ _ _ hg s1 (fun b => by have := h1 b; show 0 + cg b ≤ 1; omega) hz) s2 (fun b => by have := h1 b; show 0 + cg b ≤ 1; omega) hz1
  have hm2 := (hmk.keep s1 (fun b => by have := h1 b; show 0 + cm b ≤ 1; omega)).keep s2 (fun b => by have := h1 b; show 0 + cm b ≤ 1; omega)
  have hnD : D ∉ ms := fun hmem => by have := hmk.2.2 D ((hmk.2.1 D hmem).1); omega
  have hmD : Mks (D :: ms) W1 (fun b => cm b + one D b) := by
    refine ⟨List.nodup_cons.2 ⟨hnD, hm2.1⟩, fun E hE => ?_, fun b hb => ?_⟩
    · rcases List.mem_cons.1 hE with rfl | hE
      · exact ⟨by simp [one], hK1⟩
      · exact ⟨by have := (hm2.2.1 E hE).1; show 0 < cm E + one D E; omega, (hm2.2.1 E hE).2⟩
    · have hb : 0 < cm b + one D b := hb
      unfold one at hb
      split at hb
      · rename_i hbD; subst hbD; have := (Array.getElem?_eq_some_iff.1 hK1).1; exact this
      · exact hm2.2.2 b (by omega)
  have hcore : Core G st a ms D σ1 W1 S (fun b => c1 b + cg b + (cm b + one D b) + one (D + 1) b) := ⟨hrf1, c1, cg, fun b => cm b + one D b, hr2, hg2, hmD, (Array.getElem?_eq_some_iff.1 hL1).1, fun b => rfl⟩
  have hnew : ∀ b, D ≤ b → c1 b = 0 ∧ cg b = 0 ∧ cm b = 0 := by
    intro b hb
    refine ⟨?_, ?_, ?_⟩
    · rcases Nat.eq_zero_or_pos (c1 b) with h | h
      · exact h
      · have := hr1.lt b h; omega
    · rcases Nat.eq_zero_or_pos (cg b) with h | h
      · exact h
      · have := hG.lt _ _ _ _ hg b h; omega
    · rcases Nat.eq_zero_or_pos (cm b) with h | h
      · exact h
      · have := hmk.2.2 b h; omega
  have hsum : ∀ b, c1 b + cg b + (cm b + one D b) + one (D + 1) b ≤ 1 := by
    intro b
    have := h1 b
    have := hle1 b
    unfold one
    by_cases hb : D ≤ b
    · obtain ⟨e1, e2, e3⟩ := hnew b hb
      rw [e1, e2, e3]
      split <;> split <;> omega
    · rw [if_neg (by omega), if_neg (by omega)]; omega
  have hyok := round_ok (P := P) (T := T) (G := G) (st := st) (a := a) (ms := ms) (D := D) (fn := fn) (Q := Q) hT hm hG hx hy hps hkx hnx hky hny hsz hln hround
  rw [hrec] at hyok
  have hgk := GcL_ok (st := st) (a := a) (ms := ms) (D := D) hG (rec := rec) (I := I) (Q := Q)
  have hcall := hiter.2 _ hgk (D + 1) hyok W1 S us (fun _ => 0) _ hz2 hus2 ⟨σ1, hI0, hcore, hL1⟩ (fun b => by have := hsum b; show 0 + (c1 b + cg b + (cm b + one D b) + one (D + 1) b) ≤ 1; omega)
  -- from the caller's beginning to the loop's
  have hbig : Stp w0 S0 c0 W1 S (fun b => c1 b + cg b + (cm b + one D b) + one (D + 1) b) := by
    have := (hs.drop (c'' := fun b => c1 b + cg b + cm b) (fun b => by have := hle1 b; show c1 b + cg b + cm b ≤ c b + cg b + cm b; omega)).trans zall
    refine this.drop fun b => ?_
    show c1 b + cg b + (cm b + one D b) + one (D + 1) b ≤ (if b = (w.alloc (.deferred (some []))).heap.size then 1 else 0) + ((if b = w.heap.size then 1 else 0) + (c1 b + cg b + cm b))
    rw [hw1s, hD]
    unfold one
    omega
  have hres : (resolve a.eval (rangeCall g (D + 1)) 0).run P W1 = .ok { target := .fn (.func gf) us.toArray, args := #[.func (.yield (D + 1)) #[] #[]] } W1 := by
    simp only [resolve, rangeCall, hev]
    simp [go_sem]
  refine ⟨D + 1, [mark D], W1, { target := .fn (.func gf) us.toArray, args := #[.func (.yield (D + 1)) #[] #[]] }, W1, gf, #[.func (.yield (D + 1)) #[] #[]] ++ us.toArray, W1, ?_, hres, fun _ _ => trivial, ?_, fun hd => by simp at hd, ?_⟩
  · have := run_enterLoop_outer (w := w) (P := P) fn a.tmps ps asg bdy
    rw [hD] at this
    rw [← hW1, ← hrec]
    exact this
  · simp [invoke, go_sem, fnok_enter hiter.1]
  · refine callsFr.2 ?_
    have hargs : (Value.func (.yield (D + 1)) #[] #[] :: us).toArray = #[.func (.yield (D + 1)) #[] #[]] ++ us.toArray := by apply Array.ext'; simp
    rw [hargs] at hcall
    refine hcall.mono fun e w' he => ?_
    obtain ⟨v, st', S', cg', rfl, hst', hgc, hcg1, hz', hstp⟩ := he
    have hstp' := hbig.trans (hstp.grow (d := fun b => c1 b + cg b + (cm b + one D b) + one (D + 1) b) (fun b => by show 0 + _ ≤ _; omega))
    -- behind it
    have fin : ∀ (σk : List AV) (lp lp' : Loop), Core G st a ms D σk w' S' cg' → w'.heap[D + 1]? = some (.loop lp) → SttG G w0 S0 c0 st σk { a with defers := [mark D] ++ a.defers } (w'.putObj (D + 1) (.loop lp')) := by
      intro σk lp lp' hcore' hh
      have hp := Stp.putObj (S := S') (o' := .loop lp') hh rfl rfl
      obtain ⟨hrf', ck, cgk, cmk, hrk, hgk', hmk', hlk, hck⟩ := hcore'
      have hdis : ∀ b, (if b = D + 1 then 1 else 0) + (ck b + cgk b + cmk b) ≤ 1 := fun b => by have := hcg1 b; have := hck b; unfold one at this; omega
      have hstpk : Stp w' S' cg' (w'.putObj (D + 1) (.loop lp')) S' (fun b => (if b = D + 1 then 1 else 0) + (ck b + cgk b + cmk b)) := hp.frameG (c2 := fun b => ck b + cgk b + cmk b) (fun b => by rw [hck]; unfold one; omega)
      refine ⟨hrf', D :: ms, S', ck, cgk, cmk, hrk.step hp (fun b => by have := hdis b; omega), hG.keep _ _ _ _ _ _ _ _ hgk' hp (fun b => by have := hdis b; omega) hz', hmk'.keep hp (fun b => by have := hdis b; omega), fun b => by have := hdis b; omega, by simp [hd], fun b hb => hz' b (by simpa using hb), ?_⟩
      exact (hstp'.trans hstpk).drop fun b => by show ck b + cgk b + cmk b ≤ _ + _; omega
    rcases hst' with rfl | rfl
    · obtain ⟨σk, hIk, hcore', hh⟩ := hgc
      have hne : (rec .ready none).state ≠ .busy := by rw [← hrec]; simp [recL]
      refine ⟨_, _, run_endLoop hh hne, ?_⟩
      have hpe : (rec .ready none).pending = none := by rw [← hrec]; rfl
      rw [hpe]
      exact ⟨st, σk, hdone σk hIk, fin σk _ _ hcore' hh⟩
    · obtain ⟨e, cd, σk, hcase, hq, hcore', hh⟩ := hgc
      have hne : (rec .done (some cd)).state ≠ .busy := by rw [← hrec]; simp [recL]
      refine ⟨_, _, run_endLoop hh hne, ?_⟩
      have hpe : (rec .done (some cd)).pending = some cd := by rw [← hrec]; rfl
      rw [hpe]
      rcases hcase with ⟨rfl, rfl⟩ | ⟨id, rfl, rfl⟩
      · exact wpIn_ret ⟨st, σk, hq, fin σk _ _ hcore' hh⟩
      · exact wpIn_exit ⟨st, σk, hq, fin σk _ _ hcore' hh⟩
end
end Go.Proofs.Ytibdijaacolhkaa
