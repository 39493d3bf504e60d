/- Soundness: a range over a function, the rounds and the whole. -/
import Derived.Test.YtibdijaacolhkaaG4
namespace Go.Proofs.Ytibdijaacolhkaa
open Go.RowKit
set_option linter.unusedVariables false
set_option linter.unusedSimpArgs false

def one (l : Nat) : Nat → Nat := fun b => if b = l then 1 else 0
/-- The caller between two rounds. -/
def Core (G : Gh) (st : Option Nat) (a : Act) (ms : List Nat) (D : Nat) (σk : List AV) (w : World) (S cg : Nat → Nat) : Prop :=
  RefOk σk a.tmps.toList ∧ ∃ c cgx cm, RepC w S σk a.tmps.toList c ∧ G st w S cgx ∧ Mks (D :: ms) w cm ∧ D + 1 < w.heap.size ∧ ∀ b, cg b = c b + cgx b + cm b + one (D + 1) b
def recL (fn : FuncId) (a : Act) (ps : Array Nat) (asg bdy : Code) (D : Nat) (s : LoopState) (pe : Option Code) : Loop := { state := s, pending := pe, fn, tmps := a.tmps, params := ps, assign := asg, body := bdy, defers := D }
def GcL (G : Gh) (st : Option Nat) (a : Act) (ms : List Nat) (D : Nat) (rec : LoopState → Option Code → Loop) (I : Nat → List AV → Prop) (Q : Exit → Option Nat → List AV → Prop) : Gh := fun k w S cg => match k with
  | some k => ∃ σk, I k σk ∧ Core G st a ms D σk w S cg ∧ w.heap[D + 1]? = some (.loop (rec .ready none))
  | none => ∃ e c σk, ((c = Code.ret ∧ e = Exit.ret) ∨ ∃ id, c = Code.exit id ∧ e = Exit.exit id) ∧ Q e st σk ∧ Core G st a ms D σk w S cg ∧ w.heap[D + 1]? = some (.loop (rec .done (some c)))
section
variable {P : Program} {T : Tab} {G : Gh} {st : Option Nat} {a : Act} {ms : List Nat} {D : Nat} {w w' : World} {S S' c c' cg : Nat → Nat} {σk : List AV}
theorem Core.lt (hG : GOk G) (h : Core G st a ms D σk w S cg) : ∀ b, 0 < cg b → b < w.heap.size := by
  obtain ⟨_, c, cgx, cm, hr, hg, hm, hl, hc⟩ := h
  intro b hb
  rw [hc] at hb
  rcases Nat.lt_or_ge 0 (c b) with h | h
  · exact hr.lt b h
  rcases Nat.lt_or_ge 0 (cgx b) with h | h
  · exact hG.lt _ _ _ _ hg b h
  rcases Nat.lt_or_ge 0 (cm b) with h | h
  · exact hm.2.2 b h
  · unfold one at hb
    split at hb
    · rename_i hbl; subst hbl; exact hl
    · omega
theorem Core.keep (hG : GOk G) (h : Core G st a ms D σk w S cg) (k : Stp w S c w' S' c') (h1 : ∀ b, c b + cg b ≤ 1) (hz : Sz w S) : Core G st a ms D σk w' S' cg ∧ w'.heap[D + 1]? = w.heap[D + 1]? := by
  obtain ⟨hrf, cc, cgx, cm, hr, hg, hm, hl, hc⟩ := h
  refine ⟨⟨hrf, cc, cgx, cm, hr.step k (fun b => by have := h1 b; have := hc b; omega), hG.keep _ _ _ _ _ _ _ _ hg k (fun b => by have := h1 b; have := hc b; omega) hz, hm.keep k (fun b => by have := h1 b; have := hc b; omega), Nat.lt_of_lt_of_le hl k.size, hc⟩, ?_⟩
  refine (k.keep (D + 1) hl ?_).1
  have := h1 (D + 1)
  have := hc (D + 1)
  simp [one] at this
  omega
theorem GcL_ok (hG : GOk G) {rec : LoopState → Option Code → Loop} {I : Nat → List AV → Prop} {Q : Exit → Option Nat → List AV → Prop} : GOk (GcL G st a ms D rec I Q) := by
  refine ⟨fun k w S cg h => ?_, fun k w S cg w' S' c c' h k' h1 hz => ?_⟩
  · cases k with
    | some k => obtain ⟨σk, _, h, _⟩ := h; exact h.lt hG
    | none => obtain ⟨e, c, σk, _, _, h, _⟩ := h; exact h.lt hG
  · cases k with
    | some k =>
      obtain ⟨σk, hI, h, hh⟩ := h
      obtain ⟨g1, g2⟩ := h.keep hG k' h1 hz
      exact ⟨σk, hI, g1, g2.trans hh⟩
    | none =>
      obtain ⟨e, cd, σk, he, hq, h, hh⟩ := h
      obtain ⟨g1, g2⟩ := h.keep hG k' h1 hz
      exact ⟨e, cd, σk, he, hq, g1, g2.trans hh⟩

/-- A round. -/
theorem round_ok (hT : TabOk P T) (hm : P.follows .mixedOrders = true) (hG : GOk G) {A : Ann} {nt : Nat} {asl : List Nat} {fn : FuncId} {ps : Array Nat} {asg bdy : Code} {x y : CC} (hx : comp A asg = some x) (hy : comp A bdy = some y) (hps : (ps.toList.all fun p => asl.contains p) = true)
    (hkx : cok A asg = true) (hnx : nchk (frs nt asl) asg = true) (hky : cok A bdy = true) (hny : nchk (frs nt asl) bdy = true) {I : Nat → List AV → Prop} {Q : Exit → Option Nat → List AV → Prop} {Y' : Nat → List AV → Prop} {L : Nat} (hL : a.tmps.size = L) (hLn : L ≤ nt)
    (hround : ∀ k args σ1, Y' k args → I k σ1 → args.length = ps.toList.length ∧ args.all pb = true ∧ cwp P T x (xasg (cwp P T y (xrnd asl L (fun σ3 => ∃ σ4, Wk σ3 σ4 ∧ I (k + 1) σ4) (xst Q st)))) (pps ps.toList args σ1)) :
    YOk P (D + 1) Y' (GcL G st a ms D (recL fn a ps asg bdy D) I Q) := by
  intro k args w S vs c cg hYk hva hg h1 hz
  obtain ⟨σk, hI, ⟨hrf, cc, cgx, cm, hr, hgx, hmk, hlt, hc⟩, hh⟩ := hg
  obtain ⟨hal, hap, hwp⟩ := hround k args σk hYk hI
  have hvl := hva.length
  have hy0 := run_yield (P := P) (args := vs.toArray) hh (by simp [recL]; simp at hal; omega)
  refine ⟨fn, _, asg, bdy, hy0, fun m => roundIn_of_wpIn trivial ?_⟩
  have hfold : (ps.zip vs.toArray).foldl (fun tmps (t, a) => tmps.setIfInBounds t a) a.tmps = (ps.toList.zip vs).foldl (fun t (p : Nat × Value) => t.setIfInBounds p.1 p.2) a.tmps := by
    rw [← Array.foldl_toList, Array.toList_zip]
  have hfold' : ((recL fn a ps asg bdy D .ready none).params.zip vs.toArray).foldl (fun tmps (t, a) => tmps.setIfInBounds t a) (recL fn a ps asg bdy D .ready none).tmps = (ps.toList.zip vs).foldl (fun t (p : Nat × Value) => t.setIfInBounds p.1 p.2) a.tmps := hfold
  rw [hfold']
  obtain ⟨c1, hr1, hc1⟩ := pps_rep ps.toList args vs σk a.tmps cc c hal hva hr
  have hrf1 := pps_ref ps.toList args vs σk a.tmps hal hvl hap hrf
  generalize hT1 : (ps.toList.zip vs).foldl (fun t (p : Nat × Value) => t.setIfInBounds p.1 p.2) a.tmps = T1 at hr1 hrf1
  have hkf1 : KeepF (frs nt asl) a.tmps { tmps := T1, defers := [] } := by
    intro s hs
    rw [← hT1]
    refine pps_keep ps.toList vs a.tmps s fun hmem => ?_
    have := List.all_eq_true.1 hps s hmem
    simp only [frs, List.mem_filter] at hs
    simp at this hs
    exact hs.2 this
  have hone : ∀ b, c1 b + (cgx b + cm b + one (D + 1) b) ≤ 1 := fun b => by have := hc1 b; have := h1 b; have := hc b; omega
  have hst1 : Stt [] w S c1 (pps ps.toList args σk) { tmps := T1, defers := [] } w := ⟨hrf1, S, c1, hr1, fun b => by have := hone b; omega, rfl, hz, Stp.refl w S c1⟩
  refine wpIn_mono (cwpI_sound (dfs := []) (w0 := w) (S0 := S) (c0 := c1) hT hm (frs nt asl) a.tmps (some (D + 1)) m asg x hx hkx hnx _ _ _ w hst1 hkf1 hwp) fun e a2 w2 hq => ?_
  obtain ⟨σ2, hq, hst2, hkf2⟩ := hq
  cases e with
  | normal =>
    obtain ⟨hrf2, S2, c2, hr2, hc2, hd2, hz2, hs2⟩ := hst2
    -- what is beside
    have hl1 : c1 (D + 1) = 0 := by have := hone (D + 1); simp [one] at this; omega
    have hh2 : w2.heap[D + 1]? = some (.loop (recL fn a ps asg bdy D .ready none)) := ((hs2.keep (D + 1) hlt hl1).1).trans hh
    refine ⟨_, run_beginRound hh2 rfl, ?_⟩
    generalize hbusy : Obj.loop { recL fn a ps asg bdy D .ready none with state := .busy } = busy
    have hcb : busy.isCells = false := by rw [← hbusy]; rfl
    have hp2 := Stp.putObj (S := S2) (o' := busy) hh2 rfl hcb
    have hl2 : c2 (D + 1) = 0 := by have := hs2.own (D + 1) hlt; omega
    have hr2b := hr2.step hp2 (fun b => by have := hc2 b; split <;> (try subst_vars) <;> omega)
    have hz2b : Sz (w2.putObj (D + 1) busy) S2 := fun b hb => hz2 b (by simpa using hb)
    have hst2b : Stt [] (w2.putObj (D + 1) busy) S2 c2 σ2 a2 (w2.putObj (D + 1) busy) := ⟨hrf2, S2, c2, hr2b, hc2, hd2, hz2b, Stp.refl _ _ _⟩
    refine wpIn_mono (cwpI_sound (dfs := []) (w0 := w2.putObj (D + 1) busy) (S0 := S2) (c0 := c2) hT hm (frs nt asl) a.tmps (some (D + 1)) m bdy y hy hky hny _ _ _ _ hst2b hkf2 hq) fun e a3 w3 hq3 => ?_
    obtain ⟨σ3, hq3, ⟨hrf3, S3, c3, hr3, hc3, hd3, hz3, hs3⟩, hkf3⟩ := hq3
    have hlt2 : D + 1 < (w2.putObj (D + 1) busy).heap.size := by simp; exact (Array.getElem?_eq_some_iff.1 hh2).1
    have hh3 : w3.heap[D + 1]? = some busy := ((hs3.keep (D + 1) hlt2 hl2).1).trans (World.putObj_heap_same (Array.getElem?_eq_some_iff.1 hh2).1)
    have hl3 : c3 (D + 1) = 0 := by have := hs3.own (D + 1) hlt2; omega
    -- the whole round, with what is beside
    have fin : ∀ (o' : Obj), o'.isCells = false → σ3.length = L → ∃ c4, RepC (w3.putObj (D + 1) o') S3 (fgt asl σ3) a.tmps.toList c4 ∧ (∀ b, c4 b ≤ c3 b) ∧ RefOk (fgt asl σ3) a.tmps.toList ∧ G st (w3.putObj (D + 1) o') S3 cgx ∧ Mks (D :: ms) (w3.putObj (D + 1) o') cm ∧ D + 1 < (w3.putObj (D + 1) o').heap.size ∧
        (∀ b, c4 b + cgx b + cm b + one (D + 1) b ≤ 1) ∧ Sz (w3.putObj (D + 1) o') S3 ∧ Stp w S (fun b => c b + cg b) (w3.putObj (D + 1) o') S3 (fun b => c4 b + cgx b + cm b + one (D + 1) b) := by
      intro o' ho' hlen
      have hp3 := Stp.putObj (S := S3) (o' := o') hh3 hcb ho'
      have hr3b := hr3.step hp3 (fun b => by have := hc3 b; split <;> (try subst_vars) <;> omega)
      have hsz3 : a3.tmps.size = a.tmps.size := by have := hr3.length; simp at this; omega
      have hkk : ∀ i, i < σ3.length → i ∉ asl → a.tmps.toList[i]? = a3.tmps.toList[i]? := by
        intro i hi hn
        have := hkf3 i (by simp only [frs, List.mem_filter, List.mem_range]; exact ⟨by omega, by simpa using hn⟩)
        rw [Array.getElem?_toList, Array.getElem?_toList]; exact this.symm
      obtain ⟨c4, hr4, hle4⟩ := hr3b.forget (ys := fgt asl σ3) (us := a.tmps.toList) (fgt_length _ _) (by simpa using hsz3.symm) fun i hi => by
        rw [fgt_get]
        by_cases hn : i ∈ asl
        · left; simp [hn, hi]
        · right; exact ⟨by simp [hn], hkk i hi hn⟩
      -- steps of what is beside
      have t1 := hs2
      have sumOne : ∀ b, (one (D + 1) b) + (cgx b + cm b) ≤ 1 := fun b => by have := hone b; omega
      have dis3 : ∀ b, c2 b + (cgx b + cm b) ≤ 1 := by
        intro b
        rcases Nat.lt_or_ge b w.heap.size with hb | hb
        · have := hs2.own b hb; have := hone b; omega
        · have e1 : cgx b = 0 := by
            rcases Nat.eq_zero_or_pos (cgx b) with h | h
            · exact h
            · have := hG.lt _ _ _ _ hgx b h; omega
          have e2 : cm b = 0 := by
            rcases Nat.eq_zero_or_pos (cm b) with h | h
            · exact h
            · have := hmk.2.2 b h; omega
          have := hc2 b; omega
      have g1 := hG.keep _ _ _ _ _ _ _ _ hgx hs2 (fun b => by have := hone b; omega) hz
      have g2 := hG.keep _ _ _ _ _ _ _ _ g1 hp2 (fun b => by have := sumOne b; unfold one at this; omega) hz2
      have g3 := hG.keep _ _ _ _ _ _ _ _ g2 hs3 (fun b => by have := dis3 b; omega) hz2b
      have g4 := hG.keep _ _ _ _ _ _ _ _ g3 hp3 (fun b => by have := sumOne b; unfold one at this; omega) hz3
      have m1 := hmk.keep hs2 (fun b => by have := hone b; omega)
      have m2 := m1.keep hp2 (fun b => by have := sumOne b; unfold one at this; omega)
      have m3 := m2.keep hs3 (fun b => by have := dis3 b; omega)
      have m4 := m3.keep hp3 (fun b => by have := sumOne b; unfold one at this; omega)
      have szs : w.heap.size ≤ w3.heap.size := by
        have := hs2.size; have := hs3.size; simp at this; omega
      have whole : Stp w S (fun b => c1 b + (cgx b + cm b + one (D + 1) b)) (w3.putObj (D + 1) o') S3 (fun b => c3 b + (cgx b + cm b + one (D + 1) b)) := by
        have s1 := hs2.frameG (c := fun b => c1 b + (cgx b + cm b + one (D + 1) b)) (c2 := fun b => cgx b + cm b + one (D + 1) b) (fun b => rfl)
        have s2 := hp2.frameG (c := fun b => c2 b + (cgx b + cm b + one (D + 1) b)) (c2 := fun b => c2 b + (cgx b + cm b)) (fun b => by show c2 b + (cgx b + cm b + one (D + 1) b) = one (D + 1) b + (c2 b + (cgx b + cm b)); omega)
        have s2' := s2.drop (c'' := fun b => c2 b + (cgx b + cm b + one (D + 1) b)) (fun b => by show c2 b + (cgx b + cm b + one (D + 1) b) ≤ one (D + 1) b + (c2 b + (cgx b + cm b)); omega)
        have s3 := hs3.frameG (c := fun b => c2 b + (cgx b + cm b + one (D + 1) b)) (c2 := fun b => cgx b + cm b + one (D + 1) b) (fun b => rfl)
        have s4 := hp3.frameG (c := fun b => c3 b + (cgx b + cm b + one (D + 1) b)) (c2 := fun b => c3 b + (cgx b + cm b)) (fun b => by show c3 b + (cgx b + cm b + one (D + 1) b) = one (D + 1) b + (c3 b + (cgx b + cm b)); omega)
        have s4' := s4.drop (c'' := fun b => c3 b + (cgx b + cm b + one (D + 1) b)) (fun b => by show c3 b + (cgx b + cm b + one (D + 1) b) ≤ one (D + 1) b + (c3 b + (cgx b + cm b)); omega)
        exact ((s1.trans s2').trans s3).trans s4'
      refine ⟨c4, hr4, hle4, hrf3.forget hkk, g4, m4, by simp; exact (Array.getElem?_eq_some_iff.1 hh3).1, fun b => ?_, fun b hb => hz3 b (by simpa using hb), ?_⟩
      · have := hle4 b
        rcases Nat.lt_or_ge b w.heap.size with hb | hb
        · have h5 : c3 b + (cgx b + cm b + one (D + 1) b) ≤ c1 b + (cgx b + cm b + one (D + 1) b) := whole.own b hb
          have := hone b; omega
        · have e1 : cgx b = 0 := by
            rcases Nat.eq_zero_or_pos (cgx b) with h | h
            · exact h
            · have := hG.lt _ _ _ _ hgx b h; omega
          have e2 : cm b = 0 := by
            rcases Nat.eq_zero_or_pos (cm b) with h | h
            · exact h
            · have := hmk.2.2 b h; omega
          have e3 : one (D + 1) b = 0 := by unfold one; rw [if_neg (by omega)]
          have := hc3 b; omega
      · exact (whole.grow (fun b => by have := hc1 b; have := hc b; omega)).drop fun b => by have := hle4 b; omega
    have hbz : w3.heap[D + 1]? = some (.loop { recL fn a ps asg bdy D .ready none with state := .busy }) := by rw [hbusy]; exact hh3
    cases e with
    | normal =>
      obtain ⟨hlen, σ4, hw4, hI4⟩ := hq3
      obtain ⟨c4, hr4, hle4, hrf4, g4, m4, hl4, hone4, hz4, hstp⟩ := fin (.loop (recL fn a ps asg bdy D .ready none)) rfl hlen
      obtain ⟨c5, hr5, hle5⟩ := hw4.rep hr4
      have hrf5 : RefOk σ4 a.tmps.toList := (hw4.stt (dfs := a.defers) (a := a) ⟨hrf4, S3, c4, hr4, fun b => by have := hone4 b; omega, rfl, hz4, Stp.refl _ _ _⟩).1
      refine ⟨_, _, run_endRound none hbz, S3, fun b => c5 b + cgx b + cm b + one (D + 1) b, some (k + 1), .inl ⟨rfl, rfl⟩, ⟨σ4, hI4, ⟨hrf5, c5, cgx, cm, hr5, g4, m4, hl4, fun b => rfl⟩, ?_⟩, fun b => by have := hone4 b; have := hle5 b; show c5 b + cgx b + cm b + one (D + 1) b ≤ 1; omega, hz4, hstp.drop fun b => by have := hle5 b; show c5 b + cgx b + cm b + one (D + 1) b ≤ c4 b + cgx b + cm b + one (D + 1) b; omega⟩
      exact World.putObj_heap_same (Array.getElem?_eq_some_iff.1 hh3).1
    | ret =>
      obtain ⟨hlen, hq4⟩ := hq3
      obtain ⟨c4, hr4, hle4, hrf4, g4, m4, hl4, hone4, hz4, hstp⟩ := fin (.loop (recL fn a ps asg bdy D .done (some .ret))) rfl hlen
      refine ⟨_, _, run_endRound (some .ret) hbz, S3, _, none, .inr ⟨rfl, rfl⟩, ⟨.ret, .ret, _, .inl ⟨rfl, rfl⟩, hq4, ⟨hrf4, c4, cgx, cm, hr4, g4, m4, hl4, fun b => rfl⟩, ?_⟩, hone4, hz4, hstp⟩
      exact World.putObj_heap_same (Array.getElem?_eq_some_iff.1 hh3).1
    | exit id =>
      obtain ⟨hlen, hq4⟩ := hq3
      obtain ⟨c4, hr4, hle4, hrf4, g4, m4, hl4, hone4, hz4, hstp⟩ := fin (.loop (recL fn a ps asg bdy D .done (some (.exit id)))) rfl hlen
      refine ⟨_, _, run_endRound (some (.exit id)) hbz, S3, _, none, .inr ⟨rfl, rfl⟩, ⟨.exit id, .exit id, _, .inr ⟨id, rfl, rfl⟩, hq4, ⟨hrf4, c4, cgx, cm, hr4, g4, m4, hl4, fun b => rfl⟩, ?_⟩, hone4, hz4, hstp⟩
      exact World.putObj_heap_same (Array.getElem?_eq_some_iff.1 hh3).1
    | _ => exact hq3.elim
  | _ => exact hq.elim
end
end Go.Proofs.Ytibdijaacolhkaa
