/- The region of AddressAllOrder that exchanges two stories: whatever order is drawn, the two stand exchanged. -/
import Derived.OrdersHeld
import Derived.Test.YtkafbgdokgfjmaaGreatDoorT
import Derived.Test.YtkafbgdokgfjmaaGreatDoorA10
import Derived.Test.YtkafbgdokgfjmaaGreatDoorA11
import Derived.Test.YtkafbgdokgfjmaaGreatDoorA13
namespace Go.Proofs.YtkafbgdokgfjmaaGreatDoor
open Go.RowKit Go.Proofs
set_option linter.unusedSimpArgs false
set_option linter.unusedVariables false
set_option maxRecDepth 100000
set_option maxHeartbeats 4000000
set_option linter.unusedSectionVars false
variable [Env]
variable {dfs : List Deferred}
theorem z_ne {a : Act} {d t : Nat} {v : Value} (h : d ≠ t) : (a.put (some d) v).eval (.tmp t) = a.eval (.tmp t) := by
  simp only [Act.put, Act.eval, Array.getD_eq_getD_getElem?]
  rw [Array.getElem?_setIfInBounds_ne h]
theorem z_eq {a : Act} {d : Nat} {v : Value} (h : d < a.tmps.size) : (a.put (some d) v).eval (.tmp d) = v := by
  simp only [Act.put, Act.eval, Array.getD_eq_getD_getElem?]
  rw [Array.getElem?_setIfInBounds_self_of_lt h]; rfl
theorem z_sz {a : Act} {d : Nat} {v : Value} : (a.put (some d) v).tmps.size = a.tmps.size := by simp [Act.put]
def anys (l : List Nat) (xs : List AV) : List AV := xs.mapIdx fun i x => if i ∈ l then .any else x
theorem wk_pt : ∀ (zs xs : List AV), xs.length = zs.length → (∀ i : Nat, zs[i]? = some AV.any ∨ zs[i]? = xs[i]?) → Wk xs zs
  | [], [], _, _ => .nil
  | [], _ :: _, h, _ => by simp at h
  | _ :: _, [], h, _ => by simp at h
  | z :: zs, x :: xs, hl, h => by
    have h0 := h 0
    have hr := wk_pt zs xs (by simpa using hl) fun i => by simpa using h (i + 1)
    simp only [List.getElem?_cons_zero, Option.some.injEq] at h0
    rcases h0 with rfl | rfl
    · exact .cons (W1.any x) rfl hr
    · exact .same hr
theorem anys_wk {l : List Nat} {xs ys : List AV} (hl : xs.length = ys.length) (h : ∀ i, i ∉ l → xs[i]? = ys[i]?) : Wk xs (anys l ys) := by
  refine wk_pt _ _ (by simp [anys, hl]) fun i => ?_
  simp only [anys, List.getElem?_mapIdx]
  by_cases hi : i ∈ l
  · simp only [hi, if_true]
    by_cases h1 : i < ys.length
    · left; rw [List.getElem?_eq_getElem h1]; rfl
    · right; rw [List.getElem?_eq_none (by omega), List.getElem?_eq_none (by omega)]; rfl
  · simp only [hi, if_false, h i hi]
    right; cases ys[i]? <;> rfl
def regAt (id : Nat) : Code → Option (Array Oper)
  | .region k ops _ => if k = id then some ops else none
  | .seq a b => (regAt id a).orElse fun _ => regAt id b
  | .cond _ a b => (regAt id a).orElse fun _ => regAt id b
  | .block _ c => regAt id c
  | .loop c => regAt id c
  | .scope c => regAt id c
  | _ => none
def opsAt (f : Func) (id : Nat) : Array Oper := (f.body.bind (regAt id)).getD #[]
theorem takeH {Q : Exit → Act → World → Prop} {S : World → Prop} {i d : Nat} {oi : Oper} {v : Value} {fuel : Nat} {listed : Array Bool} {a : Act} {w : World} (hi : (opsAt Tryz.f9 7)[i]? = some oi) (hd : oi.dst = some d) (hg : oi.guard = none)
    (hf : Region.free .any (opsAt Tryz.f9 7) listed i = true) (hr : (Region.ready .any (opsAt Tryz.f9 7) listed).contains i = true) (hQ : ∀ c a w, ¬ Q (.panic c) a w) (hrun : ∀ w, S w → (execOp a.eval oi).run Tryz.prog w = .ok (.value v) w) (hS : S w)
    (h : wpAnyH Tryz.prog .any (opsAt Tryz.f9 7) Q S fuel (listed.setIfInBounds i true) (a.put (some d) v) w) : wpAnyH Tryz.prog .any (opsAt Tryz.f9 7) Q S (fuel + 1) listed a w :=
  wpAnyH_take hi (by decide +kernel) hf hr (fun c a w h => absurd h (hQ _ _ _)) (.inl ⟨by simp [Region.wanted, hg], hrun⟩) hS (by rw [hd]; exact h)
section
variable {w0 : World} {S0 c0 : Nat → Nat} {σ : List AV} {a : Act} {w : World}
theorem Stt.put1 (h : Stt dfs w0 S0 c0 σ a w) (d : Nat) (v : Value) : Stt dfs w0 S0 c0 (σ.set d .any) (a.put (some d) v) w := by
  obtain ⟨hrf, S, c, hr, h1, hd, hz, hs⟩ := h
  obtain ⟨c', h2, h3⟩ := hr.aset (.any (v := v) (.nil zc0)) (some d)
  refine ⟨by rw [put_tmps]; exact hrf.set d v rfl, S, c', h2, fun b => ?_, by rw [put_defers]; exact hd, hz, hs.drop fun b => ?_⟩
  · have := h1 b; have := h3 b; omega
  · have := h3 b; omega
theorem Stt.learn_pref (h : Stt dfs w0 S0 c0 σ a w) {d s k j o b n cap : Nat} (hσ : σ[d]? = some .any) (hsd : s ≠ d) (hs : a.tmps.toList[s]? = some (.slice (some ⟨b, 0, none⟩) n cap)) (hd : a.tmps.toList[d]? = some (.pointer (some ⟨b, j * k + o, none⟩))) :
    Stt dfs w0 S0 c0 (σ.set d (.pref s k j o)) a w := by
  obtain ⟨hrf, S, c, hr, h1, hdf, hz, hst⟩ := h
  have h2 := hr.fill (RepC.pref (s := s) (k := k) (j := j) (o := o) (v := .pointer (some ⟨b, j * k + o, none⟩)) (.nil zc0)) d hσ
  rw [list_set_same hd] at h2
  have h3 := hrf.newpref (d := d) (s := s) (k := k) (j := j) (o := o) hsd hs hr.length
  rw [list_set_same hd] at h3
  exact ⟨h3, S, c, h2.congr fun b => by simp, h1, hdf, hz, hst⟩
end
theorem z_at {a : Act} {t : Nat} {v : Value} (h : a.eval (.tmp t) = v) (ht : t < a.tmps.size) : a.tmps.toList[t]? = some v := by
  simp only [Act.eval, Array.getD_eq_getD_getElem?] at h
  rw [Array.getElem?_toList]
  rw [Array.getElem?_eq_getElem ht] at h ⊢
  simpa using h

section
variable {a : Act} {o : Oper} {w : World} {b bs n cap : Nat} {m : Int}
theorem r_fld (ho : o.op = .fieldAddr 38 (.tmp 8) 0) (hev : a.eval (.tmp 8) = .pointer (some ⟨b, 0, none⟩)) : (execOp a.eval o).run Tryz.prog w = .ok (.value (.pointer (some ⟨b, 0, none⟩))) w := by
  obtain ⟨fs, fd, hu, hfd, hoff, hsz, hag⟩ := fld_get (off := 0) (n := some 1) (ag := some false) (f := 0) tok38 rfl
  unfold execOp
  simp [ho, hev, Instr.fieldAt, run_underlying hu, hfd, Instr.sureAddr, fplace hsz (by decide), add_mk, hoff]
theorem r_load {t : Nat} {cur : Array Value} {v : Value} {rest : List Value} {Te : Nat} (ho : o.op = .load 35 (.tmp t)) (hev : a.eval (.tmp t) = .pointer (some ⟨b, 0, none⟩)) (hb : w.heap[b]? = some (.cells cur Te (0, 0))) (hcv : cur.toList = v :: rest) : (execOp a.eval o).run Tryz.prog w = .ok (.value v) w := by
  have hrun2 := run_loadBox (P := Tryz.prog) (t := 35) (off := 0) (n := 1) tok35 hb rfl (by rw [← Array.length_toList, hcv]; simp)
  rw [hcv] at hrun2
  simp only [ti35, Bool.false_eq_true, if_false, List.drop_zero, List.take_succ_cons, List.take_zero, List.headD_cons] at hrun2
  unfold execOp
  simp [ho, hev, hrun2]
theorem r_move {t : Nat} {v : Value} (ho : o.op = .move (.tmp t)) (hev : a.eval (.tmp t) = v) : (execOp a.eval o).run Tryz.prog w = .ok (.value v) w := by
  unfold execOp
  simp [ho, hev]
theorem r_ix {t u : Nat} (ho : o.op = .indexAddr 35 (.tmp t) (.tmp u)) (hev : a.eval (.tmp t) = .slice (some ⟨bs, 0, none⟩) n cap) (hev2 : a.eval (.tmp u) = .int .i64 m) (h0 : 0 ≤ m) (h1 : m < (n : Int)) : (execOp a.eval o).run Tryz.prog w = .ok (.value (.pointer (some ⟨bs, m.toNat * 8, none⟩))) w := by
  obtain ⟨inf, zz, dd, g1, _, _, g4, _, g6, g7⟩ := tok35.get
  have hd : dd = .slice 48 := td_elem (P := Tryz.prog) (by rw [g7]; rfl)
  subst hd
  obtain ⟨inf2, _, _, g1', _, _, g4', _⟩ := tok48.get
  have hsz2 : (sizeOf 48).run Tryz.prog w = .ok 8 w := by simp [sizeOf, typeInfo, g1', g4', ti48]
  unfold execOp
  simp only [ho, hev, hev2, Instr.indexAt, Sem.run_bind, asIntOf, Sem.run_pure, Result.andThen_ok, run_underlying g6, h0, h1, and_self, if_true, hsz2, add_mk, Nat.zero_add, Nat.add_zero]
end

def Kp (dfs : List Deferred) (w : World) (S c : Nat → Nat) (σ : List AV) (a : Act) : Prop := RefOk σ a.tmps.toList ∧ a.defers = dfs ∧ ∃ c', RepC w S σ a.tmps.toList c' ∧ ∀ b, c' b ≤ c b
theorem Kp.put {w : World} {S c : Nat → Nat} {σ : List AV} {a : Act} (h : Kp dfs w S c σ a) (d : Nat) (v : Value) : Kp dfs w S c (σ.set d .any) (a.put (some d) v) := by
  obtain ⟨hrf, hd, c1, hr, hc⟩ := h
  obtain ⟨c', h2, h3⟩ := hr.aset (.any (v := v) (.nil zc0)) (some d)
  exact ⟨by rw [put_tmps]; exact hrf.set d v rfl, by rw [put_defers]; exact hd, c', h2, fun b => by have := h3 b; have := hc b; omega⟩
def keepsBlk (b : Nat) (o : Option Obj) : World → Prop := fun w => w.heap[b]? = o
def exch2 (es : List AV) (i j : Nat) : List AV := (es.set i (es.getD j .any)).set j (es.getD i .any)
section
variable {w : World} {Q : Exit → Act → World → Prop} {S0 : World → Prop}
theorem stepH {i fuel : Nat} {oi : Oper} {listed : Array Bool} {a : Act} (hi : (opsAt Tryz.f9 7)[i]? = some oi) (hg : oi.guard = none) (hr : Region.ready .any (opsAt Tryz.f9 7) listed = [i])
    (h : oi.wp Tryz.prog a w (fun a' w' => S0 w' ∧ wpAnyH Tryz.prog .any (opsAt Tryz.f9 7) Q S0 fuel (listed.setIfInBounds i true) a' w') Q) : wpAnyH Tryz.prog .any (opsAt Tryz.f9 7) Q S0 (fuel + 1) listed a w :=
  wpAnyH_all hr (by simp) fun k hk => by
    simp only [List.mem_singleton] at hk
    subst hk
    unfold wpOp
    rw [hi]
    have hw : Region.wanted oi (yielded (opsAt Tryz.f9 7) a.tmps) = true := by simp [Region.wanted, hg]
    simp only [hw, if_true]
    exact .inl h
theorem stepH2 {i j fuel : Nat} {oi oj : Oper} {listed : Array Bool} {a : Act} (hi : (opsAt Tryz.f9 7)[i]? = some oi) (hj : (opsAt Tryz.f9 7)[j]? = some oj) (hg : oi.guard = none) (hg' : oj.guard = none) (hr : Region.ready .any (opsAt Tryz.f9 7) listed = [i, j])
    (h : oi.wp Tryz.prog a w (fun a' w' => S0 w' ∧ wpAnyH Tryz.prog .any (opsAt Tryz.f9 7) Q S0 fuel (listed.setIfInBounds i true) a' w') Q)
    (h' : oj.wp Tryz.prog a w (fun a' w' => S0 w' ∧ wpAnyH Tryz.prog .any (opsAt Tryz.f9 7) Q S0 fuel (listed.setIfInBounds j true) a' w') Q) : wpAnyH Tryz.prog .any (opsAt Tryz.f9 7) Q S0 (fuel + 1) listed a w :=
  wpAnyH_all hr (by simp) fun k hk => by
    simp only [List.mem_cons, List.not_mem_nil, or_false] at hk
    rcases hk with rfl | rfl
    · unfold wpOp
      rw [hi]
      have hw : Region.wanted oi (yielded (opsAt Tryz.f9 7) a.tmps) = true := by simp [Region.wanted, hg]
      simp only [hw, if_true]
      exact .inl h
    · unfold wpOp
      rw [hj]
      have hw : Region.wanted oj (yielded (opsAt Tryz.f9 7) a.tmps) = true := by simp [Region.wanted, hg']
      simp only [hw, if_true]
      exact .inl h'
end

theorem learn {w0 : World} {S0 c0 : Nat → Nat} {σ : List AV} {a : Act} {w : World} (h : Stt dfs w0 S0 c0 σ a w) {d : Nat} {v : Value} (hσ : σ[d]? = some .any) (ho : v.oneCell' = true) (hd : a.tmps.toList[d]? = some v) : Stt dfs w0 S0 c0 (σ.set d (.raw v)) a w := by
  obtain ⟨hrf, S, c, hr, h1, hdf, hz, hst⟩ := h
  have h2 := hr.fill (.raw (v := v) ho (.nil zc0)) d hσ
  rw [list_set_same hd] at h2
  have h3 := hrf.set d (y := .raw v) v rfl
  rw [list_set_same hd] at h3
  exact ⟨h3, S, c, h2.congr fun b => by simp, h1, hdf, hz, hst⟩
theorem learn_al {w0 : World} {S0 c0 : Nat → Nat} {σ : List AV} {a : Act} {w : World} (h : Stt dfs w0 S0 c0 σ a w) {d s : Nat} {v : Value} (hσ : σ[d]? = some .any) (hsd : s ≠ d) (hs : a.tmps.toList[s]? = some v) (hd : a.tmps.toList[d]? = some v) : Stt dfs w0 S0 c0 (σ.set d (.alias s)) a w := by
  obtain ⟨hrf, S, c, hr, h1, hdf, hz, hst⟩ := h
  have h2 := hr.fill (RepC.alias (s := s) (v := v) (.nil zc0)) d hσ
  rw [list_set_same hd] at h2
  have h3 := hrf.newal (d := d) (s := s) hsd hs hr.length
  rw [list_set_same hd] at h3
  exact ⟨h3, S, c, h2.congr fun b => by simp, h1, hdf, hz, hst⟩
theorem go1 {dfs : List Deferred} {wB w : World} {SB cB : Nat → Nat} {σn : List AV} {a : Act} {oi : Oper} {b : Nat} {x : Option Obj} {Q : Exit → Act → World → Prop} {N : Act → World → Prop} (hbs : b < wB.heap.size) (hb0 : cB b = 0) (hx : wB.heap[b]? = x) (hd : oi.dst ≠ some 38)
    (hop : oi.wp Tryz.prog a w (fun a' w' => ∃ σ', σ' = σn ∧ Stt dfs wB SB cB σ' a' w') Q) (hn : ∀ a' w', Stt dfs wB SB cB σn a' w' → a'.tmps[38]? = a.tmps[38]? → N a' w') : oi.wp Tryz.prog a w (fun a' w' => keepsBlk b x w' ∧ N a' w') Q :=
  wp_mono' (fun a' w' ⟨⟨σ', he, hs⟩, hk⟩ => by
    subst he
    have hs' := hs
    obtain ⟨_, S', c', _, _, _, _, hst⟩ := hs
    exact ⟨(hst.keep b hbs hb0).1.trans hx, hn a' w' hs' (hk 38 hd)⟩) (wp_keep hop)
theorem kf_nomem {xs : List AV} (h : xs.all kfl = true) (s : Nat) : xs.all (nrf s) = true := List.all_eq_true.2 fun x hx => kfl_nrf s x (List.all_eq_true.1 h x hx)
theorem swap7 {dfs : List Deferred} {w : World} {S c2 : Nat → Nat} {τ : List AV} {a : Act} {b bs cap Te : Nat} {cur : Array Value} {rest : List Value} {es : List AV} {i j : Int} {e1 : Nat → Nat} {Q : Exit → Act → World → Prop}
    (hlen : τ.length = 57) (hK : Kp dfs w S c2 τ a) (hσ : τ.all kfl = true) (hz : Sz w S) (hb : w.heap[b]? = some (.cells cur Te (0, 0))) (hcv : cur.toList = .slice (some ⟨bs, 0, none⟩) es.length cap :: rest)
    (hm : RepC w S [.mine 48 8 es] [.slice (some ⟨bs, 0, none⟩) es.length cap] e1) (hone : ∀ x, e1 x + c2 x ≤ 1) (hb0 : e1 b + c2 b = 0)
    (hes : ∀ x ∈ es, ∃ cs, x = .agg cs ∧ cs.map v1 = cs ∧ cs.length = 8)
    (h8 : a.eval (.tmp 8) = .pointer (some ⟨b, 0, none⟩)) (h1 : a.eval (.tmp 1) = .int .i64 i) (h2 : a.eval (.tmp 2) = .int .i64 j) (hi : 0 ≤ i ∧ i < (es.length : Int)) (hj : 0 ≤ j ∧ j < (es.length : Int))
    (hQ : ∀ c a w, ¬ Q (.panic c) a w) (hτ8 : τ[8]? = some .any)
    (h : ∀ a' w', Stt dfs w S (fun x => e1 x + c2 x) (((anys [31,32,33,34,35,36,37,38,39,40,41,42,43,44,45,46,47,48] τ).set 8 (.raw (.pointer (some ⟨b, 0, none⟩)))).set 38 (.row 48 8 (exch2 es i.toNat j.toNat))) a' w' → a'.tmps[38]? = some (.slice (some ⟨bs, 0, none⟩) es.length cap) → Q .normal a' w') : wpAnyH Tryz.prog .any (opsAt Tryz.f9 7) Q (keepsBlk b (some (.cells cur Te (0, 0)))) 20 (Array.replicate 20 false) a w := by
  have hsz : a.tmps.size = 57 := by
    obtain ⟨_, _, c', hr, _⟩ := hK
    have := hr.length
    simpa [hlen] using this
  have hS0 : keepsBlk b (some (.cells cur Te (0, 0))) w := hb
  refine takeH (i := 0) (d := 31) (v := .pointer (some ⟨b, 0, none⟩)) rfl rfl rfl (by decide +kernel) (by decide +kernel) hQ (fun w hw => r_fld rfl h8) hS0 ?_
  have hK0 := hK.put 31 (.pointer (some ⟨b, 0, none⟩))
  have hz0 : (a.put (some 31) (.pointer (some ⟨b, 0, none⟩))).tmps.size = 57 := z_sz.trans hsz
  have v0_8 := (z_ne (a := a) (v := .pointer (some ⟨b, 0, none⟩)) (show 31 ≠ 8 by decide)).trans h8
  have v0_1 := (z_ne (a := a) (v := .pointer (some ⟨b, 0, none⟩)) (show 31 ≠ 1 by decide)).trans h1
  have v0_2 := (z_ne (a := a) (v := .pointer (some ⟨b, 0, none⟩)) (show 31 ≠ 2 by decide)).trans h2
  have v0_31 := z_eq (a := a) (d := 31) (v := .pointer (some ⟨b, 0, none⟩)) (by rw [hsz]; decide)
  generalize a.put (some 31) (.pointer (some ⟨b, 0, none⟩)) = a0 at hK0 hz0 v0_8 v0_1 v0_2 v0_31 ⊢
  refine takeH (i := 1) (d := 32) (v := .slice (some ⟨bs, 0, none⟩) es.length cap) rfl rfl rfl (by decide +kernel) (by decide +kernel) hQ (fun w hw => r_load rfl v0_31 hw hcv) hS0 ?_
  have hK1 := hK0.put 32 (.slice (some ⟨bs, 0, none⟩) es.length cap)
  have hz1 : (a0.put (some 32) (.slice (some ⟨bs, 0, none⟩) es.length cap)).tmps.size = 57 := z_sz.trans hz0
  have v1_8 := (z_ne (a := a0) (v := .slice (some ⟨bs, 0, none⟩) es.length cap) (show 32 ≠ 8 by decide)).trans v0_8
  have v1_1 := (z_ne (a := a0) (v := .slice (some ⟨bs, 0, none⟩) es.length cap) (show 32 ≠ 1 by decide)).trans v0_1
  have v1_2 := (z_ne (a := a0) (v := .slice (some ⟨bs, 0, none⟩) es.length cap) (show 32 ≠ 2 by decide)).trans v0_2
  have v1_32 := z_eq (a := a0) (d := 32) (v := .slice (some ⟨bs, 0, none⟩) es.length cap) (by rw [hz0]; decide)
  generalize a0.put (some 32) (.slice (some ⟨bs, 0, none⟩) es.length cap) = a1 at hK1 hz1 v1_8 v1_1 v1_2 v1_32 ⊢
  clear hK0 hz0 v0_8 v0_1 v0_2 v0_31
  refine takeH (i := 2) (d := 33) (v := .int .i64 i) rfl rfl rfl (by decide +kernel) (by decide +kernel) hQ (fun w hw => r_move rfl v1_1) hS0 ?_
  have hK2 := hK1.put 33 (.int .i64 i)
  have hz2 : (a1.put (some 33) (.int .i64 i)).tmps.size = 57 := z_sz.trans hz1
  have v2_8 := (z_ne (a := a1) (v := .int .i64 i) (show 33 ≠ 8 by decide)).trans v1_8
  have v2_1 := (z_ne (a := a1) (v := .int .i64 i) (show 33 ≠ 1 by decide)).trans v1_1
  have v2_2 := (z_ne (a := a1) (v := .int .i64 i) (show 33 ≠ 2 by decide)).trans v1_2
  have v2_32 := (z_ne (a := a1) (v := .int .i64 i) (show 33 ≠ 32 by decide)).trans v1_32
  have v2_33 := z_eq (a := a1) (d := 33) (v := .int .i64 i) (by rw [hz1]; decide)
  generalize a1.put (some 33) (.int .i64 i) = a2 at hK2 hz2 v2_8 v2_1 v2_2 v2_32 v2_33 ⊢
  clear hK1 hz1 v1_8 v1_1 v1_2 v1_32
  refine takeH (i := 3) (d := 34) (v := .pointer (some ⟨b, 0, none⟩)) rfl rfl rfl (by decide +kernel) (by decide +kernel) hQ (fun w hw => r_fld rfl v2_8) hS0 ?_
  have hK3 := hK2.put 34 (.pointer (some ⟨b, 0, none⟩))
  have hz3 : (a2.put (some 34) (.pointer (some ⟨b, 0, none⟩))).tmps.size = 57 := z_sz.trans hz2
  have v3_8 := (z_ne (a := a2) (v := .pointer (some ⟨b, 0, none⟩)) (show 34 ≠ 8 by decide)).trans v2_8
  have v3_1 := (z_ne (a := a2) (v := .pointer (some ⟨b, 0, none⟩)) (show 34 ≠ 1 by decide)).trans v2_1
  have v3_2 := (z_ne (a := a2) (v := .pointer (some ⟨b, 0, none⟩)) (show 34 ≠ 2 by decide)).trans v2_2
  have v3_32 := (z_ne (a := a2) (v := .pointer (some ⟨b, 0, none⟩)) (show 34 ≠ 32 by decide)).trans v2_32
  have v3_33 := (z_ne (a := a2) (v := .pointer (some ⟨b, 0, none⟩)) (show 34 ≠ 33 by decide)).trans v2_33
  have v3_34 := z_eq (a := a2) (d := 34) (v := .pointer (some ⟨b, 0, none⟩)) (by rw [hz2]; decide)
  generalize a2.put (some 34) (.pointer (some ⟨b, 0, none⟩)) = a3 at hK3 hz3 v3_8 v3_1 v3_2 v3_32 v3_33 v3_34 ⊢
  clear hK2 hz2 v2_8 v2_1 v2_2 v2_32 v2_33
  refine takeH (i := 4) (d := 35) (v := .slice (some ⟨bs, 0, none⟩) es.length cap) rfl rfl rfl (by decide +kernel) (by decide +kernel) hQ (fun w hw => r_load rfl v3_34 hw hcv) hS0 ?_
  have hK4 := hK3.put 35 (.slice (some ⟨bs, 0, none⟩) es.length cap)
  have hz4 : (a3.put (some 35) (.slice (some ⟨bs, 0, none⟩) es.length cap)).tmps.size = 57 := z_sz.trans hz3
  have v4_8 := (z_ne (a := a3) (v := .slice (some ⟨bs, 0, none⟩) es.length cap) (show 35 ≠ 8 by decide)).trans v3_8
  have v4_1 := (z_ne (a := a3) (v := .slice (some ⟨bs, 0, none⟩) es.length cap) (show 35 ≠ 1 by decide)).trans v3_1
  have v4_2 := (z_ne (a := a3) (v := .slice (some ⟨bs, 0, none⟩) es.length cap) (show 35 ≠ 2 by decide)).trans v3_2
  have v4_32 := (z_ne (a := a3) (v := .slice (some ⟨bs, 0, none⟩) es.length cap) (show 35 ≠ 32 by decide)).trans v3_32
  have v4_33 := (z_ne (a := a3) (v := .slice (some ⟨bs, 0, none⟩) es.length cap) (show 35 ≠ 33 by decide)).trans v3_33
  have v4_35 := z_eq (a := a3) (d := 35) (v := .slice (some ⟨bs, 0, none⟩) es.length cap) (by rw [hz3]; decide)
  generalize a3.put (some 35) (.slice (some ⟨bs, 0, none⟩) es.length cap) = a4 at hK4 hz4 v4_8 v4_1 v4_2 v4_32 v4_33 v4_35 ⊢
  clear hK3 hz3 v3_8 v3_1 v3_2 v3_32 v3_33 v3_34
  refine takeH (i := 5) (d := 36) (v := .int .i64 j) rfl rfl rfl (by decide +kernel) (by decide +kernel) hQ (fun w hw => r_move rfl v4_2) hS0 ?_
  have hK5 := hK4.put 36 (.int .i64 j)
  have hz5 : (a4.put (some 36) (.int .i64 j)).tmps.size = 57 := z_sz.trans hz4
  have v5_8 := (z_ne (a := a4) (v := .int .i64 j) (show 36 ≠ 8 by decide)).trans v4_8
  have v5_1 := (z_ne (a := a4) (v := .int .i64 j) (show 36 ≠ 1 by decide)).trans v4_1
  have v5_2 := (z_ne (a := a4) (v := .int .i64 j) (show 36 ≠ 2 by decide)).trans v4_2
  have v5_32 := (z_ne (a := a4) (v := .int .i64 j) (show 36 ≠ 32 by decide)).trans v4_32
  have v5_33 := (z_ne (a := a4) (v := .int .i64 j) (show 36 ≠ 33 by decide)).trans v4_33
  have v5_35 := (z_ne (a := a4) (v := .int .i64 j) (show 36 ≠ 35 by decide)).trans v4_35
  have v5_36 := z_eq (a := a4) (d := 36) (v := .int .i64 j) (by rw [hz4]; decide)
  generalize a4.put (some 36) (.int .i64 j) = a5 at hK5 hz5 v5_8 v5_1 v5_2 v5_32 v5_33 v5_35 v5_36 ⊢
  clear hK4 hz4 v4_8 v4_1 v4_2 v4_32 v4_33 v4_35
  refine takeH (i := 6) (d := 37) (v := .pointer (some ⟨b, 0, none⟩)) rfl rfl rfl (by decide +kernel) (by decide +kernel) hQ (fun w hw => r_fld rfl v5_8) hS0 ?_
  have hK6 := hK5.put 37 (.pointer (some ⟨b, 0, none⟩))
  have hz6 : (a5.put (some 37) (.pointer (some ⟨b, 0, none⟩))).tmps.size = 57 := z_sz.trans hz5
  have v6_8 := (z_ne (a := a5) (v := .pointer (some ⟨b, 0, none⟩)) (show 37 ≠ 8 by decide)).trans v5_8
  have v6_1 := (z_ne (a := a5) (v := .pointer (some ⟨b, 0, none⟩)) (show 37 ≠ 1 by decide)).trans v5_1
  have v6_2 := (z_ne (a := a5) (v := .pointer (some ⟨b, 0, none⟩)) (show 37 ≠ 2 by decide)).trans v5_2
  have v6_32 := (z_ne (a := a5) (v := .pointer (some ⟨b, 0, none⟩)) (show 37 ≠ 32 by decide)).trans v5_32
  have v6_33 := (z_ne (a := a5) (v := .pointer (some ⟨b, 0, none⟩)) (show 37 ≠ 33 by decide)).trans v5_33
  have v6_35 := (z_ne (a := a5) (v := .pointer (some ⟨b, 0, none⟩)) (show 37 ≠ 35 by decide)).trans v5_35
  have v6_36 := (z_ne (a := a5) (v := .pointer (some ⟨b, 0, none⟩)) (show 37 ≠ 36 by decide)).trans v5_36
  have v6_37 := z_eq (a := a5) (d := 37) (v := .pointer (some ⟨b, 0, none⟩)) (by rw [hz5]; decide)
  generalize a5.put (some 37) (.pointer (some ⟨b, 0, none⟩)) = a6 at hK6 hz6 v6_8 v6_1 v6_2 v6_32 v6_33 v6_35 v6_36 v6_37 ⊢
  clear hK5 hz5 v5_8 v5_1 v5_2 v5_32 v5_33 v5_35 v5_36
  refine takeH (i := 7) (d := 38) (v := .slice (some ⟨bs, 0, none⟩) es.length cap) rfl rfl rfl (by decide +kernel) (by decide +kernel) hQ (fun w hw => r_load rfl v6_37 hw hcv) hS0 ?_
  have hK7 := hK6.put 38 (.slice (some ⟨bs, 0, none⟩) es.length cap)
  have hz7 : (a6.put (some 38) (.slice (some ⟨bs, 0, none⟩) es.length cap)).tmps.size = 57 := z_sz.trans hz6
  have v7_8 := (z_ne (a := a6) (v := .slice (some ⟨bs, 0, none⟩) es.length cap) (show 38 ≠ 8 by decide)).trans v6_8
  have v7_1 := (z_ne (a := a6) (v := .slice (some ⟨bs, 0, none⟩) es.length cap) (show 38 ≠ 1 by decide)).trans v6_1
  have v7_2 := (z_ne (a := a6) (v := .slice (some ⟨bs, 0, none⟩) es.length cap) (show 38 ≠ 2 by decide)).trans v6_2
  have v7_32 := (z_ne (a := a6) (v := .slice (some ⟨bs, 0, none⟩) es.length cap) (show 38 ≠ 32 by decide)).trans v6_32
  have v7_33 := (z_ne (a := a6) (v := .slice (some ⟨bs, 0, none⟩) es.length cap) (show 38 ≠ 33 by decide)).trans v6_33
  have v7_35 := (z_ne (a := a6) (v := .slice (some ⟨bs, 0, none⟩) es.length cap) (show 38 ≠ 35 by decide)).trans v6_35
  have v7_36 := (z_ne (a := a6) (v := .slice (some ⟨bs, 0, none⟩) es.length cap) (show 38 ≠ 36 by decide)).trans v6_36
  have v7_38 := z_eq (a := a6) (d := 38) (v := .slice (some ⟨bs, 0, none⟩) es.length cap) (by rw [hz6]; decide)
  generalize a6.put (some 38) (.slice (some ⟨bs, 0, none⟩) es.length cap) = a7 at hK7 hz7 v7_8 v7_1 v7_2 v7_32 v7_33 v7_35 v7_36 v7_38 ⊢
  clear hK6 hz6 v6_8 v6_1 v6_2 v6_32 v6_33 v6_35 v6_36 v6_37
  refine takeH (i := 8) (d := 39) (v := .int .i64 j) rfl rfl rfl (by decide +kernel) (by decide +kernel) hQ (fun w hw => r_move rfl v7_2) hS0 ?_
  have hK8 := hK7.put 39 (.int .i64 j)
  have hz8 : (a7.put (some 39) (.int .i64 j)).tmps.size = 57 := z_sz.trans hz7
  have v8_8 := (z_ne (a := a7) (v := .int .i64 j) (show 39 ≠ 8 by decide)).trans v7_8
  have v8_1 := (z_ne (a := a7) (v := .int .i64 j) (show 39 ≠ 1 by decide)).trans v7_1
  have v8_2 := (z_ne (a := a7) (v := .int .i64 j) (show 39 ≠ 2 by decide)).trans v7_2
  have v8_32 := (z_ne (a := a7) (v := .int .i64 j) (show 39 ≠ 32 by decide)).trans v7_32
  have v8_33 := (z_ne (a := a7) (v := .int .i64 j) (show 39 ≠ 33 by decide)).trans v7_33
  have v8_35 := (z_ne (a := a7) (v := .int .i64 j) (show 39 ≠ 35 by decide)).trans v7_35
  have v8_36 := (z_ne (a := a7) (v := .int .i64 j) (show 39 ≠ 36 by decide)).trans v7_36
  have v8_38 := (z_ne (a := a7) (v := .int .i64 j) (show 39 ≠ 38 by decide)).trans v7_38
  have v8_39 := z_eq (a := a7) (d := 39) (v := .int .i64 j) (by rw [hz7]; decide)
  generalize a7.put (some 39) (.int .i64 j) = a8 at hK8 hz8 v8_8 v8_1 v8_2 v8_32 v8_33 v8_35 v8_36 v8_38 v8_39 ⊢
  clear hK7 hz7 v7_8 v7_1 v7_2 v7_32 v7_33 v7_35 v7_36 v7_38
  refine takeH (i := 9) (d := 40) (v := .pointer (some ⟨bs, j.toNat * 8, none⟩)) rfl rfl rfl (by decide +kernel) (by decide +kernel) hQ (fun w hw => r_ix rfl v8_38 v8_39 hj.1 hj.2) hS0 ?_
  have hK9 := hK8.put 40 (.pointer (some ⟨bs, j.toNat * 8, none⟩))
  have hz9 : (a8.put (some 40) (.pointer (some ⟨bs, j.toNat * 8, none⟩))).tmps.size = 57 := z_sz.trans hz8
  have v9_8 := (z_ne (a := a8) (v := .pointer (some ⟨bs, j.toNat * 8, none⟩)) (show 40 ≠ 8 by decide)).trans v8_8
  have v9_1 := (z_ne (a := a8) (v := .pointer (some ⟨bs, j.toNat * 8, none⟩)) (show 40 ≠ 1 by decide)).trans v8_1
  have v9_2 := (z_ne (a := a8) (v := .pointer (some ⟨bs, j.toNat * 8, none⟩)) (show 40 ≠ 2 by decide)).trans v8_2
  have v9_32 := (z_ne (a := a8) (v := .pointer (some ⟨bs, j.toNat * 8, none⟩)) (show 40 ≠ 32 by decide)).trans v8_32
  have v9_33 := (z_ne (a := a8) (v := .pointer (some ⟨bs, j.toNat * 8, none⟩)) (show 40 ≠ 33 by decide)).trans v8_33
  have v9_35 := (z_ne (a := a8) (v := .pointer (some ⟨bs, j.toNat * 8, none⟩)) (show 40 ≠ 35 by decide)).trans v8_35
  have v9_36 := (z_ne (a := a8) (v := .pointer (some ⟨bs, j.toNat * 8, none⟩)) (show 40 ≠ 36 by decide)).trans v8_36
  have v9_38 := (z_ne (a := a8) (v := .pointer (some ⟨bs, j.toNat * 8, none⟩)) (show 40 ≠ 38 by decide)).trans v8_38
  have v9_40 := z_eq (a := a8) (d := 40) (v := .pointer (some ⟨bs, j.toNat * 8, none⟩)) (by rw [hz8]; decide)
  generalize a8.put (some 40) (.pointer (some ⟨bs, j.toNat * 8, none⟩)) = a9 at hK9 hz9 v9_8 v9_1 v9_2 v9_32 v9_33 v9_35 v9_36 v9_38 v9_40 ⊢
  clear hK8 hz8 v8_8 v8_1 v8_2 v8_32 v8_33 v8_35 v8_36 v8_38 v8_39
  refine takeH (i := 11) (d := 42) (v := .pointer (some ⟨b, 0, none⟩)) rfl rfl rfl (by decide +kernel) (by decide +kernel) hQ (fun w hw => r_fld rfl v9_8) hS0 ?_
  have hK10 := hK9.put 42 (.pointer (some ⟨b, 0, none⟩))
  have hz10 : (a9.put (some 42) (.pointer (some ⟨b, 0, none⟩))).tmps.size = 57 := z_sz.trans hz9
  have v10_8 := (z_ne (a := a9) (v := .pointer (some ⟨b, 0, none⟩)) (show 42 ≠ 8 by decide)).trans v9_8
  have v10_1 := (z_ne (a := a9) (v := .pointer (some ⟨b, 0, none⟩)) (show 42 ≠ 1 by decide)).trans v9_1
  have v10_2 := (z_ne (a := a9) (v := .pointer (some ⟨b, 0, none⟩)) (show 42 ≠ 2 by decide)).trans v9_2
  have v10_32 := (z_ne (a := a9) (v := .pointer (some ⟨b, 0, none⟩)) (show 42 ≠ 32 by decide)).trans v9_32
  have v10_33 := (z_ne (a := a9) (v := .pointer (some ⟨b, 0, none⟩)) (show 42 ≠ 33 by decide)).trans v9_33
  have v10_35 := (z_ne (a := a9) (v := .pointer (some ⟨b, 0, none⟩)) (show 42 ≠ 35 by decide)).trans v9_35
  have v10_36 := (z_ne (a := a9) (v := .pointer (some ⟨b, 0, none⟩)) (show 42 ≠ 36 by decide)).trans v9_36
  have v10_38 := (z_ne (a := a9) (v := .pointer (some ⟨b, 0, none⟩)) (show 42 ≠ 38 by decide)).trans v9_38
  have v10_40 := (z_ne (a := a9) (v := .pointer (some ⟨b, 0, none⟩)) (show 42 ≠ 40 by decide)).trans v9_40
  have v10_42 := z_eq (a := a9) (d := 42) (v := .pointer (some ⟨b, 0, none⟩)) (by rw [hz9]; decide)
  generalize a9.put (some 42) (.pointer (some ⟨b, 0, none⟩)) = a10 at hK10 hz10 v10_8 v10_1 v10_2 v10_32 v10_33 v10_35 v10_36 v10_38 v10_40 v10_42 ⊢
  clear hK9 hz9 v9_8 v9_1 v9_2 v9_32 v9_33 v9_35 v9_36 v9_38 v9_40
  refine takeH (i := 12) (d := 43) (v := .slice (some ⟨bs, 0, none⟩) es.length cap) rfl rfl rfl (by decide +kernel) (by decide +kernel) hQ (fun w hw => r_load rfl v10_42 hw hcv) hS0 ?_
  have hK11 := hK10.put 43 (.slice (some ⟨bs, 0, none⟩) es.length cap)
  have hz11 : (a10.put (some 43) (.slice (some ⟨bs, 0, none⟩) es.length cap)).tmps.size = 57 := z_sz.trans hz10
  have v11_8 := (z_ne (a := a10) (v := .slice (some ⟨bs, 0, none⟩) es.length cap) (show 43 ≠ 8 by decide)).trans v10_8
  have v11_1 := (z_ne (a := a10) (v := .slice (some ⟨bs, 0, none⟩) es.length cap) (show 43 ≠ 1 by decide)).trans v10_1
  have v11_2 := (z_ne (a := a10) (v := .slice (some ⟨bs, 0, none⟩) es.length cap) (show 43 ≠ 2 by decide)).trans v10_2
  have v11_32 := (z_ne (a := a10) (v := .slice (some ⟨bs, 0, none⟩) es.length cap) (show 43 ≠ 32 by decide)).trans v10_32
  have v11_33 := (z_ne (a := a10) (v := .slice (some ⟨bs, 0, none⟩) es.length cap) (show 43 ≠ 33 by decide)).trans v10_33
  have v11_35 := (z_ne (a := a10) (v := .slice (some ⟨bs, 0, none⟩) es.length cap) (show 43 ≠ 35 by decide)).trans v10_35
  have v11_36 := (z_ne (a := a10) (v := .slice (some ⟨bs, 0, none⟩) es.length cap) (show 43 ≠ 36 by decide)).trans v10_36
  have v11_38 := (z_ne (a := a10) (v := .slice (some ⟨bs, 0, none⟩) es.length cap) (show 43 ≠ 38 by decide)).trans v10_38
  have v11_40 := (z_ne (a := a10) (v := .slice (some ⟨bs, 0, none⟩) es.length cap) (show 43 ≠ 40 by decide)).trans v10_40
  have v11_43 := z_eq (a := a10) (d := 43) (v := .slice (some ⟨bs, 0, none⟩) es.length cap) (by rw [hz10]; decide)
  generalize a10.put (some 43) (.slice (some ⟨bs, 0, none⟩) es.length cap) = a11 at hK11 hz11 v11_8 v11_1 v11_2 v11_32 v11_33 v11_35 v11_36 v11_38 v11_40 v11_43 ⊢
  clear hK10 hz10 v10_8 v10_1 v10_2 v10_32 v10_33 v10_35 v10_36 v10_38 v10_40 v10_42
  refine takeH (i := 13) (d := 44) (v := .int .i64 i) rfl rfl rfl (by decide +kernel) (by decide +kernel) hQ (fun w hw => r_move rfl v11_1) hS0 ?_
  have hK12 := hK11.put 44 (.int .i64 i)
  have hz12 : (a11.put (some 44) (.int .i64 i)).tmps.size = 57 := z_sz.trans hz11
  have v12_8 := (z_ne (a := a11) (v := .int .i64 i) (show 44 ≠ 8 by decide)).trans v11_8
  have v12_1 := (z_ne (a := a11) (v := .int .i64 i) (show 44 ≠ 1 by decide)).trans v11_1
  have v12_2 := (z_ne (a := a11) (v := .int .i64 i) (show 44 ≠ 2 by decide)).trans v11_2
  have v12_32 := (z_ne (a := a11) (v := .int .i64 i) (show 44 ≠ 32 by decide)).trans v11_32
  have v12_33 := (z_ne (a := a11) (v := .int .i64 i) (show 44 ≠ 33 by decide)).trans v11_33
  have v12_35 := (z_ne (a := a11) (v := .int .i64 i) (show 44 ≠ 35 by decide)).trans v11_35
  have v12_36 := (z_ne (a := a11) (v := .int .i64 i) (show 44 ≠ 36 by decide)).trans v11_36
  have v12_38 := (z_ne (a := a11) (v := .int .i64 i) (show 44 ≠ 38 by decide)).trans v11_38
  have v12_40 := (z_ne (a := a11) (v := .int .i64 i) (show 44 ≠ 40 by decide)).trans v11_40
  have v12_43 := (z_ne (a := a11) (v := .int .i64 i) (show 44 ≠ 43 by decide)).trans v11_43
  have v12_44 := z_eq (a := a11) (d := 44) (v := .int .i64 i) (by rw [hz11]; decide)
  generalize a11.put (some 44) (.int .i64 i) = a12 at hK12 hz12 v12_8 v12_1 v12_2 v12_32 v12_33 v12_35 v12_36 v12_38 v12_40 v12_43 v12_44 ⊢
  clear hK11 hz11 v11_8 v11_1 v11_2 v11_32 v11_33 v11_35 v11_36 v11_38 v11_40 v11_43
  refine takeH (i := 14) (d := 45) (v := .pointer (some ⟨bs, i.toNat * 8, none⟩)) rfl rfl rfl (by decide +kernel) (by decide +kernel) hQ (fun w hw => r_ix rfl v12_43 v12_44 hi.1 hi.2) hS0 ?_
  have hK13 := hK12.put 45 (.pointer (some ⟨bs, i.toNat * 8, none⟩))
  have hz13 : (a12.put (some 45) (.pointer (some ⟨bs, i.toNat * 8, none⟩))).tmps.size = 57 := z_sz.trans hz12
  have v13_8 := (z_ne (a := a12) (v := .pointer (some ⟨bs, i.toNat * 8, none⟩)) (show 45 ≠ 8 by decide)).trans v12_8
  have v13_1 := (z_ne (a := a12) (v := .pointer (some ⟨bs, i.toNat * 8, none⟩)) (show 45 ≠ 1 by decide)).trans v12_1
  have v13_2 := (z_ne (a := a12) (v := .pointer (some ⟨bs, i.toNat * 8, none⟩)) (show 45 ≠ 2 by decide)).trans v12_2
  have v13_32 := (z_ne (a := a12) (v := .pointer (some ⟨bs, i.toNat * 8, none⟩)) (show 45 ≠ 32 by decide)).trans v12_32
  have v13_33 := (z_ne (a := a12) (v := .pointer (some ⟨bs, i.toNat * 8, none⟩)) (show 45 ≠ 33 by decide)).trans v12_33
  have v13_35 := (z_ne (a := a12) (v := .pointer (some ⟨bs, i.toNat * 8, none⟩)) (show 45 ≠ 35 by decide)).trans v12_35
  have v13_36 := (z_ne (a := a12) (v := .pointer (some ⟨bs, i.toNat * 8, none⟩)) (show 45 ≠ 36 by decide)).trans v12_36
  have v13_38 := (z_ne (a := a12) (v := .pointer (some ⟨bs, i.toNat * 8, none⟩)) (show 45 ≠ 38 by decide)).trans v12_38
  have v13_40 := (z_ne (a := a12) (v := .pointer (some ⟨bs, i.toNat * 8, none⟩)) (show 45 ≠ 40 by decide)).trans v12_40
  have v13_45 := z_eq (a := a12) (d := 45) (v := .pointer (some ⟨bs, i.toNat * 8, none⟩)) (by rw [hz12]; decide)
  generalize a12.put (some 45) (.pointer (some ⟨bs, i.toNat * 8, none⟩)) = a13 at hK13 hz13 v13_8 v13_1 v13_2 v13_32 v13_33 v13_35 v13_36 v13_38 v13_40 v13_45 ⊢
  clear hK12 hz12 v12_8 v12_1 v12_2 v12_32 v12_33 v12_35 v12_36 v12_38 v12_40 v12_43 v12_44
  obtain ⟨ρ, hρ⟩ : ∃ ρ, anys [31,32,33,34,35,36,37,38,39,40,41,42,43,44,45,46,47,48] τ = ρ := ⟨_, rfl⟩
  have hρl : ρ.length = 57 := by rw [← hρ]; simp [anys, hlen]
  have hρk : ρ.all kfl = true := by
    rw [← hρ]
    refine List.all_eq_true.2 fun x hx => ?_
    obtain ⟨k, hk, rfl⟩ := List.mem_iff_getElem.1 hx
    simp only [anys, List.getElem_mapIdx]
    split
    · rfl
    · exact List.all_eq_true.1 hσ _ (List.getElem_mem _)
  have hρa : ∀ d, d ∈ [31,32,33,34,35,36,37,38,39,40,41,42,43,44,45,46,47,48] → ρ[d]? = some .any := fun d hd => by
    have hdl : d < τ.length := by rw [hlen]; simp at hd; omega
    rw [← hρ]
    simp only [anys, List.getElem?_mapIdx, List.getElem?_eq_getElem hdl, Option.map_some, hd, if_true]
  have hKρ : Kp dfs w S c2 ρ a13 := by
    obtain ⟨hrf, hdf, c', hr, hc⟩ := hK13
    have hwk := anys_wk (l := [31,32,33,34,35,36,37,38,39,40,41,42,43,44,45,46,47,48]) (xs := ((((((((((((((τ.set 31 .any).set 32 .any).set 33 .any).set 34 .any).set 35 .any).set 36 .any).set 37 .any).set 38 .any).set 39 .any).set 40 .any).set 42 .any).set 43 .any).set 44 .any).set 45 .any)) (ys := τ) (by simp) fun k hk => by
        simp only [List.mem_cons, List.not_mem_nil, or_false, not_or] at hk
        rw [List.getElem?_set_ne (by omega), List.getElem?_set_ne (by omega), List.getElem?_set_ne (by omega), List.getElem?_set_ne (by omega), List.getElem?_set_ne (by omega), List.getElem?_set_ne (by omega), List.getElem?_set_ne (by omega), List.getElem?_set_ne (by omega), List.getElem?_set_ne (by omega), List.getElem?_set_ne (by omega), List.getElem?_set_ne (by omega), List.getElem?_set_ne (by omega), List.getElem?_set_ne (by omega), List.getElem?_set_ne (by omega)]
    rw [hρ] at hwk
    have hnr := kf_nomem hρk
    obtain ⟨c3, hr3, h3⟩ := hwk.rep hr
    refine ⟨⟨fun k s off T cs hk hs => ?_, fun k s e k2 es hk hs => ?_, fun k s k2 j o e k3 es hk hs => ?_⟩, hdf, c3, hr3, fun x => Nat.le_trans (h3 x) (hc x)⟩
    · have := List.all_eq_true.1 (hnr s) _ (List.mem_of_getElem? hk); simp [nrf] at this
    · have := List.all_eq_true.1 (hnr s) _ (List.mem_of_getElem? hk); simp [nrf] at this
    · have := List.all_eq_true.1 (hnr s) _ (List.mem_of_getElem? hk); simp [nrf] at this
  have hin : i.toNat < es.length := by omega
  have hjn : j.toNat < es.length := by omega
  obtain ⟨ci, hci, hvi, hli⟩ := hes _ (List.getElem_mem hin)
  obtain ⟨cj, hcj, hvj, hlj⟩ := hes _ (List.getElem_mem hjn)
  have hgi : es.getD i.toNat .any = .agg ci := by rw [List.getD_eq_getElem?_getD, List.getElem?_eq_getElem hin]; exact hci
  have hgj : es.getD j.toNat .any = .agg cj := by rw [List.getD_eq_getElem?_getD, List.getElem?_eq_getElem hjn]; exact hcj
  have hrow : RepC w S [.row 48 8 es] [.slice (some ⟨bs, 0, none⟩) es.length cap] e1 := by
    cases hm with
    | mine hn hcap hk hb hs' hS h1 h0 hoc h hcc => exact .row hn hcap hk hb hs' hS h1 h0 hoc h hcc
  have hst : Stt dfs w S (fun x => e1 x + c2 x) (ρ.set 38 (.row 48 8 es)) a13 w := by
    obtain ⟨hrf, hdf, c', hr, hc⟩ := hKρ
    have hfl := hr.fill hrow 38 (hρa 38 (by simp))
    rw [list_set_same (z_at v13_38 (by rw [hz13]; decide))] at hfl
    exact ⟨newrow_less hrf (kf_nomem hρk 38), S, _, hfl, fun x => by have := hone x; have := hc x; omega, hdf, hz, (Stp.refl w S _).drop fun x => by have := hc x; omega⟩
  have g38 := z_at v13_38 (by rw [hz13]; decide)
  replace hst := learn_al hst (d := 32) (s := 38) (by rw [List.getElem?_set_ne (by decide)]; exact hρa 32 (by simp)) (by decide) g38 (z_at v13_32 (by rw [hz13]; decide))
  replace hst := learn_al hst (d := 35) (s := 38) (by rw [List.getElem?_set_ne (by decide), List.getElem?_set_ne (by decide)]; exact hρa 35 (by simp)) (by decide) g38 (z_at v13_35 (by rw [hz13]; decide))
  replace hst := learn hst (d := 33) (by rw [List.getElem?_set_ne (by decide), List.getElem?_set_ne (by decide), List.getElem?_set_ne (by decide)]; exact hρa 33 (by simp)) rfl (z_at v13_33 (by rw [hz13]; decide))
  replace hst := learn hst (d := 36) (by rw [List.getElem?_set_ne (by decide), List.getElem?_set_ne (by decide), List.getElem?_set_ne (by decide), List.getElem?_set_ne (by decide)]; exact hρa 36 (by simp)) rfl (z_at v13_36 (by rw [hz13]; decide))
  replace hst := hst.learn_pref (d := 40) (s := 38) (k := 8) (j := j.toNat) (o := 0) (by rw [List.getElem?_set_ne (by decide), List.getElem?_set_ne (by decide), List.getElem?_set_ne (by decide), List.getElem?_set_ne (by decide), List.getElem?_set_ne (by decide)]; exact hρa 40 (by simp)) (by decide) g38 (z_at v13_40 (by rw [hz13]; decide))
  replace hst := hst.learn_pref (d := 45) (s := 38) (k := 8) (j := i.toNat) (o := 0) (by rw [List.getElem?_set_ne (by decide), List.getElem?_set_ne (by decide), List.getElem?_set_ne (by decide), List.getElem?_set_ne (by decide), List.getElem?_set_ne (by decide), List.getElem?_set_ne (by decide)]; exact hρa 45 (by simp)) (by decide) g38 (z_at v13_45 (by rw [hz13]; decide))
  have hbs : b < w.heap.size := (Array.getElem?_eq_some_iff.1 hb).1
  have hg : ∀ (d : Nat) (x : AV) (l : List AV), d < l.length → (l.set d x).getD d .any = x := fun d x l hl => by
    rw [List.getD_eq_getElem?_getD, List.getElem?_set_self hl]; rfl
  have hgn : ∀ (d t : Nat) (x : AV) (l : List AV), d ≠ t → (l.set d x).getD t .any = l.getD t .any := fun d t x l hl => by
    rw [List.getD_eq_getElem?_getD, List.getElem?_set_ne hl, ← List.getD_eq_getElem?_getD]
  replace hst := learn hst (d := 8) (by rw [List.getElem?_set_ne (by decide), List.getElem?_set_ne (by decide), List.getElem?_set_ne (by decide), List.getElem?_set_ne (by decide), List.getElem?_set_ne (by decide), List.getElem?_set_ne (by decide), List.getElem?_set_ne (by decide), ← hρ]; simp [anys, hτ8]) rfl (z_at v13_8 (by rw [hz13]; decide))
  obtain ⟨σ0, e0⟩ : ∃ σ0, ((((((((ρ.set 38 (.row 48 8 es)).set 32 (.alias 38)).set 35 (.alias 38)).set 33 (.raw (.int .i64 i))).set 36 (.raw (.int .i64 j))).set 40 (.pref 38 8 j.toNat 0)).set 45 (.pref 38 8 i.toNat 0)).set 8 (.raw (.pointer (some ⟨b, 0, none⟩)))) = σ0 := ⟨_, rfl⟩
  have l0 : σ0.length = 57 := by rw [← e0]; simp [hρl]
  have q38 : σ0.getD 38 .any = .row 48 8 es := by
    rw [← e0]; simp only [ne_eq, Nat.reduceEqDiff, not_false_eq_true, hgn]; exact hg _ _ _ (by rw [hρl]; decide)
  have q32 : σ0.getD 32 .any = .alias 38 := by
    rw [← e0]; first | exact hg _ _ _ (by simp only [List.length_set, hρl]; decide) | (simp only [ne_eq, Nat.reduceEqDiff, not_false_eq_true, hgn]; exact hg _ _ _ (by simp only [List.length_set, hρl]; decide))
  have q35 : σ0.getD 35 .any = .alias 38 := by
    rw [← e0]; first | exact hg _ _ _ (by simp only [List.length_set, hρl]; decide) | (simp only [ne_eq, Nat.reduceEqDiff, not_false_eq_true, hgn]; exact hg _ _ _ (by simp only [List.length_set, hρl]; decide))
  have q33 : σ0.getD 33 .any = .raw (.int .i64 i) := by
    rw [← e0]; first | exact hg _ _ _ (by simp only [List.length_set, hρl]; decide) | (simp only [ne_eq, Nat.reduceEqDiff, not_false_eq_true, hgn]; exact hg _ _ _ (by simp only [List.length_set, hρl]; decide))
  have q36 : σ0.getD 36 .any = .raw (.int .i64 j) := by
    rw [← e0]; first | exact hg _ _ _ (by simp only [List.length_set, hρl]; decide) | (simp only [ne_eq, Nat.reduceEqDiff, not_false_eq_true, hgn]; exact hg _ _ _ (by simp only [List.length_set, hρl]; decide))
  have q40 : σ0.getD 40 .any = .pref 38 8 j.toNat 0 := by
    rw [← e0]; first | exact hg _ _ _ (by simp only [List.length_set, hρl]; decide) | (simp only [ne_eq, Nat.reduceEqDiff, not_false_eq_true, hgn]; exact hg _ _ _ (by simp only [List.length_set, hρl]; decide))
  have q45 : σ0.getD 45 .any = .pref 38 8 i.toNat 0 := by
    rw [← e0]; first | exact hg _ _ _ (by simp only [List.length_set, hρl]; decide) | (simp only [ne_eq, Nat.reduceEqDiff, not_false_eq_true, hgn]; exact hg _ _ _ (by simp only [List.length_set, hρl]; decide))
  have q8 : σ0.getD 8 .any = .raw (.pointer (some ⟨b, 0, none⟩)) := by
    rw [← e0]; first | exact hg _ _ _ (by simp only [List.length_set, hρl]; decide) | (simp only [ne_eq, Nat.reduceEqDiff, not_false_eq_true, hgn]; exact hg _ _ _ (by simp only [List.length_set, hρl]; decide))
  have hout : ∀ t, t ∉ [31,32,33,34,35,36,37,38,39,40,41,42,43,44,45,46,47,48] → t ≠ 8 → σ0[t]? = ρ[t]? := fun t ht h8 => by
    simp only [List.mem_cons, List.not_mem_nil, or_false, not_or] at ht
    rw [← e0, List.getElem?_set_ne (by omega), List.getElem?_set_ne (by omega), List.getElem?_set_ne (by omega), List.getElem?_set_ne (by omega), List.getElem?_set_ne (by omega), List.getElem?_set_ne (by omega), List.getElem?_set_ne (by omega), List.getElem?_set_ne (by omega)]
  rw [e0] at hst
  clear e0
  have hb0' : (fun x => e1 x + c2 x) b = 0 := hb0
  have fcj : pl (pval true (pcells (cellsOf (es.getD j.toNat .any)) 0 8)) = .agg cj := by
    rw [hgj]; simp [pl, pval, pcells, cellsOf, List.take_of_length_le (Nat.le_of_eq hlj)]
  have fci : pl (pval true (pcells (cellsOf (es.getD i.toNat .any)) 0 8)) = .agg ci := by
    rw [hgi]; simp [pl, pval, pcells, cellsOf, List.take_of_length_le (Nat.le_of_eq hli)]
  have hb1 : ∀ (d : Nat) (x : AV) (l : List AV), (l.set d x).length = l.length := fun d x l => List.length_set
  -- behind both loads
  have rest : ∀ a' w', Stt dfs w S (fun x => e1 x + c2 x) ((σ0.set 41 (.agg cj)).set 46 (.agg ci)) a' w' → a'.tmps[38]? = some (.slice (some ⟨bs, 0, none⟩) es.length cap) → wpAnyH Tryz.prog .any (opsAt Tryz.f9 7) Q (keepsBlk b (some (.cells cur Te (0, 0)))) 4 (((((((((((((((((Array.replicate 20 false).setIfInBounds 0 true).setIfInBounds 1 true).setIfInBounds 2 true).setIfInBounds 3 true).setIfInBounds 4 true).setIfInBounds 5 true).setIfInBounds 6 true).setIfInBounds 7 true).setIfInBounds 8 true).setIfInBounds 9 true).setIfInBounds 11 true).setIfInBounds 12 true).setIfInBounds 13 true).setIfInBounds 14 true).setIfInBounds 10 true).setIfInBounds 15 true) a' w' := by
    intro a2 w2 hs2 k2
    refine stepH (i := 16) rfl rfl (by decide +kernel) ?_
    refine go1 (σn := ((σ0.set 41 (.agg cj)).set 46 (.agg ci)).set 47 (.pref 38 8 i.toNat 0)) hbs hb0' hb (by decide) (rix_sound ttok (t := 35) (q := 32) (s := 38) (e := 48) (k := 8) (es := es) (y := .tmp 33) rfl hs2 ?_ ?_) ?_
    · unfold rbase
      simp only [ne_eq, Nat.reduceEqDiff, not_false_eq_true, hgn, q32, q38]
    · simp only [rixa, tt35, ti35, tt48, ti48, rixb, aev, ne_eq, Nat.reduceEqDiff, not_false_eq_true, hgn, q33, pl]
      refine ⟨?_, hi.1, hin, ?_, ?_⟩ <;> first | trivial | rfl | decide
    intro a3 w3 hs3 k3
    refine stepH (i := 17) rfl rfl (by decide +kernel) ?_
    have c41 : (((σ0.set 41 (.agg cj)).set 46 (.agg ci)).set 47 (.pref 38 8 i.toNat 0)).getD 41 .any = .agg cj := by
      rw [hgn _ _ _ _ (by decide), hgn _ _ _ _ (by decide)]; exact hg _ _ _ (by rw [l0]; decide)
    have m41 : amv (((σ0.set 41 (.agg cj)).set 46 (.agg ci)).set 47 (.pref 38 8 i.toNat 0)) (.tmp 41) = (((σ0.set 41 (.agg cj)).set 46 (.agg ci)).set 47 (.pref 38 8 i.toNat 0)).set 41 (.agg cj) := by
      show amv1 _ 41 (List.getD _ 41 .any) = _
      rw [c41]
      show List.set _ 41 (AV.agg (cj.map v1)) = _
      rw [hvj]
    refine go1 (σn := ((((σ0.set 41 (.agg cj)).set 46 (.agg ci)).set 47 (.pref 38 8 i.toNat 0)).set 41 (.agg cj)).set 38 (.row 48 8 (es.set i.toNat (.agg cj)))) hbs hb0' hb (by decide) (rpst_sound (t := 48) (q := 47) (s := 38) (k := 8) (j := i.toNat) (off := 0) (y := .tmp 41) rfl tok48 hs3 (hg _ _ _ (by simp only [hb1, l0]; decide)) ?_) ?_
    · rw [m41]
      unfold rpst
      have : ((((σ0.set 41 (.agg cj)).set 46 (.agg ci)).set 47 (.pref 38 8 i.toNat 0)).set 41 (.agg cj)).getD 38 .any = .row 48 8 es := by
        simp only [ne_eq, Nat.reduceEqDiff, not_false_eq_true, hgn, q38]
      rw [this]
      have ev : view (aev (((σ0.set 41 (.agg cj)).set 46 (.agg ci)).set 47 (.pref 38 8 i.toNat 0)) (.tmp 41)) = .agg cj := by
        show view (pl (List.getD _ 41 .any)) = _
        rw [c41]
        show AV.agg (cj.map v1) = _
        rw [hvj]
      rw [ev]
      refine ⟨rfl, hin, by decide, rfl, by simpa [cellsOf, ti48] using hlj, ?_⟩
      show List.set _ 38 (AV.row 48 8 (es.set i.toNat (mkel (es.getD i.toNat .any) (pleft (cellsOf (es.getD i.toNat .any)) 0 8 (cellsOf (.agg cj)))))) = _
      rw [hgi]
      simp [mkel, pleft, cellsOf, List.drop_eq_nil_of_le (Nat.le_of_eq hli)]
    intro a4 w4 hs4 k4
    refine stepH (i := 18) rfl rfl (by decide +kernel) ?_
    refine go1 (σn := (((((σ0.set 41 (.agg cj)).set 46 (.agg ci)).set 47 (.pref 38 8 i.toNat 0)).set 41 (.agg cj)).set 38 (.row 48 8 (es.set i.toNat (.agg cj)))).set 48 (.pref 38 8 j.toNat 0)) hbs hb0' hb (by decide) (rix_sound ttok (t := 35) (q := 35) (s := 38) (e := 48) (k := 8) (es := es.set i.toNat (.agg cj)) (y := .tmp 36) rfl hs4 ?_ ?_) ?_
    · unfold rbase
      simp only [ne_eq, Nat.reduceEqDiff, not_false_eq_true, hgn, q35]
      rw [hg _ _ _ (by simp only [hb1, l0]; decide)]
    · simp only [rixa, tt35, ti35, tt48, ti48, rixb, aev, ne_eq, Nat.reduceEqDiff, not_false_eq_true, hgn, q36, pl, List.length_set]
      refine ⟨?_, hj.1, hjn, ?_, ?_⟩ <;> first | trivial | rfl | decide
    intro a5 w5 hs5 k5
    refine stepH (i := 19) rfl rfl (by decide +kernel) ?_
    obtain ⟨σ5, e5⟩ : ∃ σ5, (((((σ0.set 41 (.agg cj)).set 46 (.agg ci)).set 47 (.pref 38 8 i.toNat 0)).set 41 (.agg cj)).set 38 (.row 48 8 (es.set i.toNat (.agg cj)))).set 48 (.pref 38 8 j.toNat 0) = σ5 := ⟨_, rfl⟩
    have c46 : σ5.getD 46 .any = .agg ci := by
      rw [← e5, hgn _ _ _ _ (by decide), hgn _ _ _ _ (by decide), hgn _ _ _ _ (by decide), hgn _ _ _ _ (by decide)]; exact hg _ _ _ (by simp only [hb1, l0]; decide)
    have c38 : σ5.getD 38 .any = .row 48 8 (es.set i.toNat (.agg cj)) := by
      rw [← e5, hgn _ _ _ _ (by decide)]; exact hg _ _ _ (by simp only [hb1, l0]; decide)
    have c48 : σ5.getD 48 .any = .pref 38 8 j.toNat 0 := by
      rw [← e5]; exact hg _ _ _ (by simp only [hb1, l0]; decide)
    rw [e5] at hs5
    have m46 : amv σ5 (.tmp 46) = σ5.set 46 (.agg ci) := by
      show amv1 _ 46 (List.getD _ 46 .any) = _
      rw [c46]
      show List.set _ 46 (AV.agg (ci.map v1)) = _
      rw [hvi]
    have hej : (es.set i.toNat (.agg cj)).getD j.toNat .any = .agg cj := by
      rw [List.getD_eq_getElem?_getD, List.getElem?_set]
      split
      · rename_i h; simp [h, hjn]
      · rw [← List.getD_eq_getElem?_getD]; exact hgj
    refine go1 (σn := (σ5.set 46 (.agg ci)).set 38 (.row 48 8 (exch2 es i.toNat j.toNat))) hbs hb0' hb (by decide) (rpst_sound (t := 48) (q := 48) (s := 38) (k := 8) (j := j.toNat) (off := 0) (y := .tmp 46) rfl tok48 hs5 c48 ?_) ?_
    · rw [m46]
      unfold rpst
      rw [hgn _ _ _ _ (by decide), c38]
      have ev : view (aev σ5 (.tmp 46)) = .agg ci := by
        show view (pl (List.getD _ 46 .any)) = _
        rw [c46]
        show AV.agg (ci.map v1) = _
        rw [hvi]
      rw [ev]
      refine ⟨rfl, by simpa using hjn, by decide, rfl, by simpa [cellsOf, ti48] using hli, ?_⟩
      show List.set _ 38 (AV.row 48 8 ((es.set i.toNat (.agg cj)).set j.toNat (mkel ((es.set i.toNat (.agg cj)).getD j.toNat .any) (pleft (cellsOf ((es.set i.toNat (.agg cj)).getD j.toNat .any)) 0 8 (cellsOf (.agg ci)))))) = _
      rw [hej]
      unfold exch2
      rw [hgi, hgj]
      simp [mkel, pleft, cellsOf, List.drop_eq_nil_of_le (Nat.le_of_eq hlj)]
    intro a6 w6 hs6 k6
    refine wpAnyH_done (by decide +kernel) ?_ 0
    refine h a6 w6 (Wk.stt (wk_pt _ _ ?_ fun t => ?_) hs6) (k6.trans (k5.trans (k4.trans (k3.trans k2))))
    · simp [← e5, l0, hρl, hρ]
    · rw [hρ]
      by_cases t38 : t = 38
      · subst t38
        right
        rw [List.getElem?_set_self (by simp [hρl]), List.getElem?_set_self (by simp [← e5, l0])]
      rw [List.getElem?_set_ne (Ne.symm t38), List.getElem?_set_ne (Ne.symm t38)]
      by_cases t8 : t = 8
      · subst t8
        right
        have : σ0[8]? = some (.raw (.pointer (some ⟨b, 0, none⟩))) := by
          have := q8
          rw [List.getD_eq_getElem?_getD, List.getElem?_eq_getElem (by rw [l0]; decide)] at this
          rw [List.getElem?_eq_getElem (by rw [l0]; decide)]
          simpa using this
        rw [List.getElem?_set_self (by rw [hρl]; decide), ← e5]
        simp [this]
      rw [List.getElem?_set_ne (Ne.symm t8)]
      by_cases ht : t ∈ [31,32,33,34,35,36,37,38,39,40,41,42,43,44,45,46,47,48]
      · left; exact hρa t ht
      · right
        rw [← hout t ht t8, ← e5]
        simp only [List.mem_cons, List.not_mem_nil, or_false, not_or] at ht
        rw [List.getElem?_set_ne (by omega), List.getElem?_set_ne (by omega), List.getElem?_set_ne (by omega), List.getElem?_set_ne (by omega), List.getElem?_set_ne (by omega), List.getElem?_set_ne (by omega), List.getElem?_set_ne (by omega)]
  refine stepH2 (i := 10) (j := 15) rfl rfl rfl rfl (by decide +kernel) ?_ ?_
  · refine go1 (σn := σ0.set 41 (.agg cj)) hbs hb0' hb (by decide) (rpld_sound (t := 48) (q := 40) (s := 38) (k := 8) (j := j.toNat) (off := 0) rfl tok48 hst q40 ?_) ?_
    · rw [q38]
      exact ⟨rfl, hjn, by decide, by rw [show ti48.td.agg = true from rfl, show lsz ti48 = 8 from rfl, fcj]; rfl⟩
    intro a1 w1 hs1 k1
    refine stepH (i := 15) rfl rfl (by decide +kernel) ?_
    refine go1 (σn := (σ0.set 41 (.agg cj)).set 46 (.agg ci)) hbs hb0' hb (by decide) (rpld_sound (t := 48) (q := 45) (s := 38) (k := 8) (j := i.toNat) (off := 0) rfl tok48 hs1 (by rw [hgn _ _ _ _ (by decide)]; exact q45) ?_) ?_
    · rw [hgn _ _ _ _ (by decide), q38]
      exact ⟨rfl, hin, by decide, by rw [show ti48.td.agg = true from rfl, show lsz ti48 = 8 from rfl, fci]; rfl⟩
    intro a2 w2 hs2 k2
    exact rest a2 w2 hs2 (k2.trans (k1.trans (by rw [← Array.getElem?_toList]; exact g38)))
  · refine go1 (σn := σ0.set 46 (.agg ci)) hbs hb0' hb (by decide) (rpld_sound (t := 48) (q := 45) (s := 38) (k := 8) (j := i.toNat) (off := 0) rfl tok48 hst q45 ?_) ?_
    · rw [q38]
      exact ⟨rfl, hin, by decide, by rw [show ti48.td.agg = true from rfl, show lsz ti48 = 8 from rfl, fci]; rfl⟩
    intro a1 w1 hs1 k1
    refine stepH (i := 10) rfl rfl (by decide +kernel) ?_
    refine go1 (σn := (σ0.set 46 (.agg ci)).set 41 (.agg cj)) hbs hb0' hb (by decide) (rpld_sound (t := 48) (q := 40) (s := 38) (k := 8) (j := j.toNat) (off := 0) rfl tok48 hs1 (by rw [hgn _ _ _ _ (by decide)]; exact q40) ?_) ?_
    · rw [hgn _ _ _ _ (by decide), q38]
      exact ⟨rfl, hjn, by decide, by rw [show ti48.td.agg = true from rfl, show lsz ti48 = 8 from rfl, fcj]; rfl⟩
    intro a2 w2 hs2 k2
    rw [List.set_comm _ _ (by decide)] at hs2
    have hh := rest a2 w2 hs2 (k2.trans (k1.trans (by rw [← Array.getElem?_toList]; exact g38)))
    rw [Array.setIfInBounds_comm _ _ (by decide)] at hh
    exact hh

theorem rfk {l : List AV} {vs : List Value} (h : ∀ x ∈ l, kfl x = true ∨ ∃ T cs, x = .box T cs) : RefOk l vs := by
  have key : ∀ (s : Nat) (x : AV), x ∈ l → (∃ o, x = .ref s o) ∨ x = .alias s ∨ (∃ k j o, x = .pref s k j o) → False := fun s x hx hc => by
    rcases h x hx with hk | ⟨T, cs, rfl⟩
    · rcases hc with ⟨o, rfl⟩ | rfl | ⟨k, j, o, rfl⟩ <;> simp [kfl] at hk
    · rcases hc with ⟨o, h⟩ | h | ⟨k, j, o, h⟩ <;> cases h
  exact ⟨fun k s off T cs hk hs => (key s _ (List.mem_of_getElem? hk) (.inl ⟨_, rfl⟩)).elim, fun k s e k2 es hk hs => (key s _ (List.mem_of_getElem? hk) (.inr (.inl rfl))).elim, fun k s k2 j o e k3 es hk hs => (key s _ (List.mem_of_getElem? hk) (.inr (.inr ⟨_, _, _, rfl⟩))).elim⟩
theorem cwpX_swap7 {σ : List AV} {Q : Exit → List AV → Prop} {Te : Nat} {es cs : List AV} {i j : Int} (hlen : σ.length = 57) (hx : σ.getD 8 .any = .box Te (.mine 48 8 es :: cs)) (g1 : σ.getD 1 .any = .raw (.int .i64 i)) (g2 : σ.getD 2 .any = .raw (.int .i64 j))
    (hi : 0 ≤ i ∧ i < (es.length : Int)) (hj : 0 ≤ j ∧ j < (es.length : Int)) (hes : ∀ x ∈ es, ∃ cs, x = .agg cs ∧ cs.map v1 = cs ∧ cs.length = 8)
    (h : Q .normal (((anys [31,32,33,34,35,36,37,38,39,40,41,42,43,44,45,46,47,48] ((σ.set 8 .any).map kf)).set 38 .any).set 8 (.box Te (.mine 48 8 (exch2 es i.toNat j.toNat) :: cs)))) : cwpX Tryz.prog TT (.ext (.region 7 (opsAt Tryz.f9 7) true)) Q σ := by
  intro dfs w0 S0 c0 a w hst0
  have hst := hst0.drew
  refine wp_mono (Q := fun e a w => e = .normal ∧ lift dfs w0 S0 c0 Q .normal a w) ?_ fun e a w hq => by
    obtain ⟨rfl, hq⟩ := hq
    exact hq
  have hw : (⟨w.heap, w.tape, w.drawn + 1, w.os, w.output⟩ : World) = w.drew := rfl
  generalize hwd : w.drew = w1 at hst
  obtain ⟨hrf, S, cc, hr, h1, hd, hz, hs⟩ := hst
  obtain ⟨b, cur, d0, c2, hev, hb, hS, hcs', hone, hr2, hcc, hv⟩ := take_box hr hx
  obtain ⟨v, rest, e1, e2, hcv, hm, hrest, hde⟩ := hcs'.uncons
  have hne : es ≠ [] := by rintro rfl; simp at hi; omega
  obtain ⟨bs, cap, hvv⟩ : ∃ bs cap, v = .slice (some ⟨bs, 0, none⟩) es.length cap := by
    cases hm with
    | mineE h => exact absurd rfl hne
    | mine hn hcap hk hb hs' hS h1 h0 hoc h hcc => exact ⟨_, _, rfl⟩
  subst hvv
  obtain ⟨c3, hr3, h3⟩ := (kf_wk (σ.set 8 .any)).rep hr2
  have hall : ((σ.set 8 .any).map kf).all kfl = true := List.all_eq_true.2 fun x hx => by
    obtain ⟨y, _, rfl⟩ := List.mem_map.1 hx
    exact kf_kfl y
  have hraw : ∀ (t : Nat) (v : Value), σ.getD t .any = .raw v → a.eval (.tmp t) = v := fun t v ht => by
    obtain ⟨cy, hry⟩ := aev_rep hr (.tmp t)
    have : aev σ (.tmp t) = .raw v := by show pl (σ.getD t .any) = _; rw [ht]; rfl
    rw [this] at hry
    exact (rep_raw hry).1
  have hK : Kp dfs w1 S c2 ((σ.set 8 .any).map kf) a := by
    have hnr := kf_nomem hall
    refine ⟨⟨fun k s off T cs hk hs => ?_, fun k s e k2 es hk hs => ?_, fun k s k2 j o e k3 es hk hs => ?_⟩, hd, c3, hr3, h3⟩
    · have := List.all_eq_true.1 (hnr s) _ (List.mem_of_getElem? hk); simp [nrf] at this
    · have := List.all_eq_true.1 (hnr s) _ (List.mem_of_getElem? hk); simp [nrf] at this
    · have := List.all_eq_true.1 (hnr s) _ (List.mem_of_getElem? hk); simp [nrf] at this
  have hbs : b < w1.heap.size := (Array.getElem?_eq_some_iff.1 hb).1
  refine wp_region_held (S := keepsBlk b (some (.cells cur Te (0, 0)))) hmix ?_
  rw [hw, hwd]
  refine swap7 (by simp [hlen]) hK hall hz hb hcv hm (fun x => ?_) ?_ hes hev (hraw 1 _ g1) (hraw 2 _ g2) hi hj (fun c a w hq => by cases hq.1) (by simp [hlen, kf, kfl]) fun a' w' hs' k38 => ⟨rfl, ?_⟩
  · have := h1 x; have := hcc x; have := hde x; omega
  · have := h1 b; have := hcc b; have := hde b; simp at *; omega
  · obtain ⟨hrf6, S', c6, hr6, h16, hd6, hz6, hstp⟩ := hs'
    have hl6 : ((anys [31,32,33,34,35,36,37,38,39,40,41,42,43,44,45,46,47,48] ((σ.set 8 .any).map kf)).set 8 (.raw (.pointer (some ⟨b, 0, none⟩)))).length = 57 := by simp [anys, hlen]
    obtain ⟨v', f1, f2, hv', hm', hr7, hff⟩ := hr6.take 38 (List.getElem?_set_self (by rw [hl6]; decide))
    rw [List.set_set] at hr7
    have hvv : v' = .slice (some ⟨bs, 0, none⟩) es.length cap := by
      rw [← Array.getElem?_toList, hv'] at k38
      injection k38
    subst hvv
    have hl2 : (exch2 es i.toNat j.toNat).length = es.length := by simp [exch2]
    have hmn : RepC w' S' [.mine 48 8 (exch2 es i.toNat j.toNat)] [.slice (some ⟨bs, 0, none⟩) es.length cap] f1 := by
      rw [← hl2] at hm' ⊢
      generalize exch2 es i.toNat j.toNat = es2 at hm' ⊢
      cases hm' with
      | row hn hcap hk hb hs' hS h1 h0 hoc h hcc => exact .mine hn hcap hk hb hs' hS h1 h0 hoc h hcc
    have hone' : ∀ x, e2 x + (e1 x + c2 x) ≤ 1 := fun x => by have := h1 x; have := hcc x; have := hde x; omega
    have hb00 : e1 b + c2 b = 0 := by have := h1 b; have := hcc b; have := hde b; simp at *; omega
    have hkb := hstp.keep b hbs hb00
    have hrest' : RepC w' S' cs rest e2 := hrest.step hstp hone'
    have hbox : RepC w' S' [.box Te (.mine 48 8 (exch2 es i.toNat j.toNat) :: cs)] [.pointer (some ⟨b, 0, none⟩)] (fun x => (if x = b then 1 else 0) + (f1 x + e2 x)) :=
      .box (c2 := fun _ => 0) (hkb.1.trans hb) (hkb.2.trans hS) (by rw [hcv]; exact RepC.cons hmn hrest' fun x => rfl) hone (.nil zc0) (fun x => by simp)
    have hv8 : a'.tmps.toList[8]? = some (.pointer (some ⟨b, 0, none⟩)) := by
      obtain ⟨v8, g1, g2, hv8, hy8, _, _⟩ := hr6.take 8 (x := .raw (.pointer (some ⟨b, 0, none⟩))) (by rw [List.getElem?_set_ne (by decide)]; exact List.getElem?_set_self (by simp [anys, hlen]))
      have := (rep_raw hy8).1
      subst this
      exact hv8
    obtain ⟨cb, hrb, hle⟩ := hr7.put hbox 8 (by simp only [List.length_set]; simp [anys, hlen])
    rw [list_set_same hv8, List.set_comm _ _ (by decide), List.set_set, List.set_comm _ _ (by decide)] at hrb
    have hfr : Stp w1 S cc w' S' (fun x => c6 x + (cc x - (e1 x + c2 x))) := hstp.frame (c := cc) (c2 := fun x => cc x - (e1 x + c2 x)) (fun x => by have := hcc x; have := hde x; show cc x = (e1 x + c2 x) + (cc x - (e1 x + c2 x)); omega)
    have hcb : ∀ x, cb x ≤ c6 x + (cc x - (e1 x + c2 x)) := fun x => by have := hle x; have := hff x; have := hcc x; have := hde x; omega
    refine ⟨_, h, rfk fun x hx => ?_, S', cb, hrb, fun x => ?_, hd6, hz6, (hs.trans hfr).drop hcb⟩
    · rcases List.mem_or_eq_of_mem_set hx with hx | rfl
      · left
        rcases List.mem_or_eq_of_mem_set hx with hx | rfl
        · obtain ⟨k, hk, rfl⟩ := List.mem_iff_getElem.1 hx
          simp only [anys, List.getElem_mapIdx]
          split
          · rfl
          · exact List.all_eq_true.1 hall _ (List.getElem_mem _)
        · rfl
      · exact .inr ⟨_, _, rfl⟩
    · have g1 := hcb x
      have g2 := hcc x
      have g3 := hde x
      have g4 := h1 x
      rcases Nat.lt_or_ge x w1.heap.size with hbx | hbx
      · have := hstp.own x hbx
        omega
      · have g5 : cc x = 0 := by
          rcases Nat.eq_zero_or_pos (cc x) with h | h
          · exact h
          · have := hr.lt x h; omega
        have := h16 x
        omega
end Go.Proofs.YtkafbgdokgfjmaaGreatDoor
