/- Soundness: code with calls of yield. -/
import Derived.Test.YtibdijaacolhkaaG2
import Derived.Scope
namespace Go.Proofs.Ytibdijaacolhkaa
open Go.RowKit
set_option linter.unusedVariables false
set_option linter.unusedSimpArgs false

theorem wpIn_scope {P : Program} {n : Nat} {c : Code} {Q : Exit → Act → World → Prop} {a : Act} {w : World} (h : c.wpIn (Fr none) n P (Exit.noGoto Q) a w) : (Code.scope c).wpIn (Fr none) n P Q a w := by
  intro b k cs hro hb hr
  have hb0 : b.roundOf = none := hro
  obtain ⟨e, a₁, w₁, hq, harr⟩ := h b (.inScope c :: k) cs hro hb hr
  have h0 : (lone (b.atR a (.code (.scope c) :: k)) cs w).fenced P (Fr none) := fenced_calm hb hr rfl
  have s0 : StepsIn (Machine.fenced P (Fr none)) P (lone (b.atR a (.code (.scope c) :: k)) cs w) (lone (b.atR a (.code c :: .inScope c :: k)) cs w) := by
    refine .one h0 ?_
    rw [Frame.atR_of_none hb0, Frame.atR_of_none hb0]
    exact step_scope
  cases e with
  | normal =>
    refine ⟨.normal, a₁, w₁, hq, s0.trans (StepsIn.trans harr ?_)⟩
    refine .one (fenced_calm hb hr rfl) ?_
    rw [Frame.atR_of_none hb0, Frame.atR_of_none hb0]
    exact step_inScope
  | exit id => exact ⟨.exit id, a₁, w₁, hq, fun k' hk => s0.trans (harr.1 k' (by simp [exitTo, hk])), fun hr' => by rw [hb0] at hr'; cases hr'⟩
  | goto l => exact hq.elim
  | ret => exact ⟨_, a₁, w₁, hq, .of_steps s0 harr⟩
  | panic ch => exact ⟨_, a₁, w₁, hq, .of_steps s0 harr⟩
  | outgrown => exact ⟨_, a₁, w₁, hq, .of_steps s0 harr⟩
section
variable {P : Program} {T : Tab} {w0 : World} {S0 c0 : Nat → Nat} {G : Gh} {Y : Nat → List AV → Prop} {l : Nat} {A : Ann} {yr : List (Nat × Nat)} {nt : Nat} {asl : List Nat} {n : Nat} {ro : Option Nat}
def liftG (G : Gh) (w0 : World) (S0 c0 : Nat → Nat) (Q : Exit → Option Nat → List AV → Prop) : Exit → Act → World → Prop := fun e a w => ∃ st σ, Q e st σ ∧ SttG G w0 S0 c0 st σ a w
theorem base_sound (hT : TabOk P T) (hm : P.follows .mixedOrders = true) (hG : GOk G) {c : Code} {d : CC} (hd : comp A c = some d) (hk : cok A c = true) (hn : nchk [] c = true) {Q : Exit → Option Nat → List AV → Prop} {st : Option Nat} {σ : List AV} {a : Act} {w : World}
    (hst : SttG G w0 S0 c0 st σ a w) (h : cwp P T d (xst Q st) σ) : c.wpIn (Fr ro) n P (liftG G w0 S0 c0 Q) a w := by
  obtain ⟨S, cc, h1, h2⟩ := hst.open hG
  refine wpIn_mono (cwpI_sound (dfs := a.defers) (w0 := w) (S0 := S) (c0 := cc) hT hm [] a.tmps ro n c d hd hk hn _ σ a w h1 (by simp [KeepF]) h) fun e a' w' hq => ?_
  obtain ⟨σ', hq, hs, _⟩ := hq
  exact ⟨st, σ', hq, h2 _ _ _ hs⟩
/-- A piece of a region. -/
theorem ops_sound (hT : TabOk P T) (hG : GOk G) {ops : Array Oper} (hnd : ∀ o ∈ ops.toList, ∀ c, o.op ≠ .defer c) {l1 : List Nat} {os : List Oper} {cs : List CO} (hl : l1.map (ops[·]?) = os.map some) (hcs : cops ops os = some cs) {K : List AV → Prop} {st : Option Nat} {σ : List AV} {a : Act} {w : World}
    (hst : SttG G w0 S0 c0 st σ a w) (h : copl P T K cs σ) {R : Act → World → Prop} (hR : ∀ σ' a' w', SttG G w0 S0 c0 st σ' a' w' → K σ' → R a' w') : wpOpsIn (Fr ro) n P ops (fun e a w => e = .normal ∧ R a w) l1 a w := by
  obtain ⟨S, cc, h1, h2⟩ := hst.open hG
  rw [← copl_eq K _ _ hcs] at h
  refine wpOps_in hnd (fun a w h => by cases h.1) l1 a w ?_
  exact aopl_sound (fr := []) hT l1 os σ a w hl (by simp) h1 h fun σ' a' w' g1 g2 g3 => ⟨rfl, hR σ' a' w' (h2 _ _ _ g1) g2⟩
theorem SttG.put {st : Option Nat} {σ : List AV} {a : Act} {w : World} (hst : SttG G w0 S0 c0 st σ a w) (d : Option Nat) {v : Value} (hv : v.oneCell' = true) : SttG G w0 S0 c0 st (aset σ d (.raw v)) (a.put d v) w := by
  obtain ⟨hrf, ms, S, c, cg, cm, hr, hg, hm, h1, hd, hz, hs⟩ := hst
  obtain ⟨c', hr', hle⟩ := hr.aset (rep_mk (w := w) (S := S) hv zc0) d
  refine ⟨hrf.aset d v rfl, ms, S, c', cg, cm, hr', hg, hm, fun b => ?_, by rw [put_defers]; exact hd, hz, hs.drop fun b => ?_⟩
  · have := hle b; have := h1 b; omega
  · have := hle b; omega
theorem yield_sound (hG : GOk G) (hY : YOk P l Y G) {o : Oper} {c : Call} {f : Operand} (ho : o.op = .call c) (hc : c.callee = .value f) {st : Option Nat} {σ : List AV} {a : Act} {w : World} {K : Option Nat → List AV → Prop}
    (hst : SttG G w0 S0 c0 st σ a w) (h : ycall Y l (aev σ f) (agrab σ c.args.toList).1 (agrab σ c.args.toList).2 o.dst K st) {next : Act → World → Prop} {Q : Exit → Act → World → Prop}
    (hn : ∀ st' σ' a' w', K st' σ' → SttG G w0 S0 c0 st' σ' a' w' → next a' w') : o.wpIn (Fr none) n P a w next Q := by
  obtain ⟨hf, k, rfl, hYk, hK1, hK2⟩ := h
  have hev := hst.evalc hf
  obtain ⟨hrf, ms, S, cc, cg, cm, hr, hg, hm, h1, hd, hz, hs⟩ := hst
  obtain ⟨c1, c2, hv, hr2, hcc⟩ := grabs c.args.toList hr
  obtain ⟨fn, tmps, assign, body, hrun, hround⟩ := hY k _ w S _ c1 cg hYk hv hg (fun b => by have := h1 b; have := hcc b; omega) hz
  refine ⟨fun _ _ => trivial, ?_⟩
  rw [Oper.semAt_none]
  have hargs : (c.args.toList.map a.eval).toArray = c.args.map a.eval := by apply Array.ext'; simp
  rw [hargs] at hrun
  have hexec : (execOp a.eval o).run P w = .ok (.round l fn tmps assign body) w := by
    unfold execOp
    simp [ho, resolve, hc, hev, Deferred.ofValue, invoke, hrun]
  rw [hexec, Oper.uponIn_round]
  refine ⟨fun hd => by simp at hd, (hround _).mono fun e w' he => ?_⟩
  obtain ⟨S', cg', st', hcase, hg', hg1, hz', hstp⟩ := he
  have hr3 := hr2.step hstp (fun b => by have := h1 b; have := hcc b; show c2 b + (c1 b + cg b) ≤ 1; omega)
  have hm' : Mks ms w' cm := hm.keep hstp (fun b => by have := h1 b; have := hcc b; show c1 b + cg b + cm b ≤ 1; omega)
  have hst' : SttG G w0 S0 c0 st' (agrab σ c.args.toList).2 a w' := by
    refine ⟨hrf.agrab _, ms, S', c2, cg', cm, hr3, hg', hm', fun b => ?_, hd, hz', ?_⟩
    · rcases Nat.lt_or_ge b w.heap.size with hb | hb
      · have := hstp.own b hb; have := h1 b; have := hcc b
        have : cg' b ≤ c1 b + cg b := hstp.own b hb
        omega
      · have e1 : c2 b = 0 := by
          rcases Nat.eq_zero_or_pos (c2 b) with h | h
          · exact h
          · have := hr2.lt b h; omega
        have e2 : cm b = 0 := by
          rcases Nat.eq_zero_or_pos (cm b) with h | h
          · exact h
          · have := hm.2.2 b h; omega
        have := hg1 b
        omega
    · have := hs.trans (hstp.frameG (c := fun b => cc b + cg b + cm b) (c2 := fun b => c2 b + cm b) (fun b => by have := hcc b; show cc b + cg b + cm b = c1 b + cg b + (c2 b + cm b); omega))
      exact this.drop fun b => by show c2 b + cg' b + cm b ≤ cg' b + (c2 b + cm b); omega
  rcases hcase with ⟨rfl, rfl⟩ | ⟨rfl, rfl⟩
  · exact hn _ _ _ _ hK1 (hst'.put o.dst rfl)
  · exact hn _ _ _ _ hK2 (hst'.put o.dst rfl)
theorem map_get_take {ops : Array Oper} {p : Nat} (hp : p < ops.size) : (List.range p).map (ops[·]?) = (ops.toList.take p).map some := by
  apply List.ext_getElem?
  intro i
  rw [List.getElem?_map, List.getElem?_map, List.getElem?_take]
  by_cases hi : i < p
  · rw [if_pos hi, List.getElem?_range hi]
    have : i < ops.size := by omega
    simp [this]
  · rw [if_neg hi, List.getElem?_eq_none (by simp; omega)]; rfl
theorem map_get_drop {ops : Array Oper} {p : Nat} (hp : p < ops.size) : (List.range' (p + 1) (ops.size - (p + 1))).map (ops[·]?) = (ops.toList.drop (p + 1)).map some := by
  apply List.ext_getElem?
  intro i
  rw [List.getElem?_map, List.getElem?_map, List.getElem?_drop]
  by_cases hi : i < ops.size - (p + 1)
  · rw [List.getElem?_range' hi]
    have : p + 1 + i < ops.size := by omega
    simp [this]
  · rw [List.getElem?_eq_none (by simp; omega), List.getElem?_eq_none (by simp; omega)]; rfl
theorem range_cut {m p : Nat} (hp : p < m) : List.range m = List.range p ++ (p :: List.range' (p + 1) (m - (p + 1))) := by
  have h1 : List.range m = List.range' 0 p ++ List.range' (0 + p) (m - p) := by
    rw [List.range_eq_range', List.range'_append_1]; congr 1; omega
  rw [h1, ← List.range_eq_range']
  congr 1
  have : m - p = (m - (p + 1)) + 1 := by omega
  rw [this, List.range'_succ, Nat.zero_add]
theorem yreg_sound (hT : TabOk P T) (hG : GOk G) (hY : YOk P l Y G) {id : Nat} {ops : Array Oper} {p : Nat} {cg : CG} (hcg : compY ops p = some cg) (hnd : (ops.toList.all fun o => ndef o.op) = true) {Q : Exit → Option Nat → List AV → Prop} {st : Option Nat} {σ : List AV} {a : Act} {w : World}
    (hst : SttG G w0 S0 c0 st σ a w) (h : cwpG P T Y l nt asl cg Q st σ) : (Code.region id ops false).wpIn (Fr none) n P (liftG G w0 S0 c0 Q) a w := by
  unfold compY at hcg
  split at hcg
  · rename_i o ho
    split at hcg
    · rename_i c hop hgd
      split at hcg
      · rename_i f l1 l2 hcal h1 h2
        injection hcg with hcg
        subst hcg
        simp only [cwpG] at h
        have ho' : ops[p]? = some o := by simpa using ho
        have hp : p < ops.size := (Array.getElem?_eq_some_iff.1 ho').1
        have hd := ndef_spec hnd
        refine wpIn_region ?_
        rw [range_cut hp]
        refine wpOpsIn_app _ _ _ _ ?_
        refine ops_sound hT hG hd (map_get_take hp) h1 hst h fun σ1 a1 w1 hs1 hy => ?_
        have hw : Region.wanted o (yielded ops a1.tmps) = true := by simp [Region.wanted, hgd]
        simp only [wpOpsIn, ho', hw, if_true]
        refine yield_sound hG hY hop hcal hs1 hy fun st' σ' a' w' hK hs' => ?_
        have := ops_sound (ro := none) (n := n) hT hG hd (map_get_drop hp) h2 hs' hK (R := liftG G w0 S0 c0 Q .normal) fun σ2 a2 w2 hs2 hq => ⟨st', σ2, hq, hs2⟩
        have h3 := wpOpsIn_app (ro := none) (n := n) (P := P) (ops := ops) (Q := liftG G w0 S0 c0 Q) [] _ a' w' this
        rw [List.append_nil] at h3
        exact h3
      · cases hcg
    · cases hcg
  · cases hcg
end
end Go.Proofs.Ytibdijaacolhkaa
