/- The region of LabelMemory that makes room for 200, in whatever order. -/
import Derived.Test.YtohelofjlkoboaaT
import Derived.Test.YtohelofjlkoboaaA10
import Derived.Test.YtohelofjlkoboaaE21
namespace Go.Proofs.Ytohelofjlkoboaa
open Go.RowKit Go.Proofs
set_option linter.unusedSimpArgs false
set_option linter.unusedVariables false
set_option maxRecDepth 100000
set_option maxHeartbeats 4000000

variable {dfs : List Deferred}
theorem z_ne {a : Act} {d t : Nat} {v : Value} (h : d ≠ t) : (a.put (some d) v).eval (.tmp t) = a.eval (.tmp t) := by
  simp only [Act.put, Act.eval, Array.getD_eq_getD_getElem?]
  rw [Array.getElem?_setIfInBounds_ne h]
theorem z_sz {a : Act} {d : Nat} {v : Value} : (a.put (some d) v).tmps.size = a.tmps.size := by simp [Act.put]
theorem z_at {a : Act} {t : Nat} {v : Value} (h : a.eval (.tmp t) = v) (ht : t < a.tmps.size) : a.tmps.toList[t]? = some v := by
  simp only [Act.eval, Array.getD_eq_getD_getElem?] at h
  rw [Array.getElem?_toList]
  rw [Array.getElem?_eq_getElem ht] at h ⊢
  simpa using h
theorem wk_pt : ∀ (zs xs : List AV), xs.length = zs.length → (∀ i : Nat, zs[i]? = some AV.any ∨ zs[i]? = xs[i]?) → Wk xs zs
  | [], [], _, _ => .nil
  | [], _ :: _, h, _ => by simp at h
  | _ :: _, [], h, _ => by simp at h
  | z :: zs, x :: xs, hl, h => by
    have h0 := h 0
    have hr := wk_pt zs xs (by simpa using hl) fun i => by simpa using h (i + 1)
    simp only [List.getElem?_cons_zero, Option.some.injEq] at h0
    rcases h0 with rfl | rfl
    · exact .cons (W1.any x) rfl hr
    · exact .same hr
def regAt (id : Nat) : Code → Option (Array Oper)
  | .region k ops _ => if k = id then some ops else none
  | .seq a b => (regAt id a).orElse fun _ => regAt id b
  | .cond _ a b => (regAt id a).orElse fun _ => regAt id b
  | .block _ c => regAt id c
  | .loop c => regAt id c
  | .scope c => regAt id c
  | _ => none
def opsAt (f : Func) (id : Nat) : Array Oper := (f.body.bind (regAt id)).getD #[]
section
variable {w0 w : World} {S0 c0 : Nat → Nat} {σ : List AV} {a : Act}
theorem Stt.putref (h : Stt dfs w0 S0 c0 σ a w) {s d off b Te : Nat} {cs : List AV} (hx : σ[s]? = some (.box Te cs)) (hb : a.tmps.toList[s]? = some (.pointer (some ⟨b, 0, none⟩))) (hsd : s ≠ d) :
    Stt dfs w0 S0 c0 (σ.set d (.ref s off)) (a.put (some d) (.pointer (some ⟨b, off, none⟩))) w := by
  obtain ⟨hrf, S, c, hr, h1, hd, hz, hs⟩ := h
  obtain ⟨c', h2, h3⟩ := hr.aset (RepC.ref (s := s) (off := off) (v := .pointer (some ⟨b, off, none⟩)) (.nil zc0)) (some d)
  exact ⟨by rw [put_tmps]; exact hrf.newref hx hsd hb hr.length, S, c', h2, fun x => by have := h3 x; have := h1 x; omega, by rw [put_defers]; exact hd, hz, hs.drop fun x => by have := h3 x; omega⟩
theorem r_fld {o : Oper} {b : Nat} (ho : o.op = .fieldAddr 26 (.tmp 6) 1) (hev : a.eval (.tmp 6) = .pointer (some ⟨b, 0, none⟩)) : (execOp a.eval o).run Try.prog w = .ok (.value (.pointer (some ⟨b, 1, none⟩))) w := by
  obtain ⟨fs, fd, hu, hfd, hoff, hsz, hag⟩ := fld_get (off := 1) (n := some 1) (ag := some false) (f := 1) tok26 rfl
  unfold execOp
  simp [ho, hev, Instr.fieldAt, run_underlying hu, hfd, Instr.sureAddr, fplace hsz (by decide), add_mk, hoff]
end
section
variable {w : World} {Q : Exit → Act → World → Prop}
theorem stepA {i fuel : Nat} {oi : Oper} {listed : Array Bool} {a : Act} (hi : (opsAt Try.f12 4)[i]? = some oi) (hg : oi.guard = none) (hr : Region.ready .any (opsAt Try.f12 4) listed = [i])
    (h : oi.wp Try.prog a w (fun a' w' => wpAny Try.prog .any (opsAt Try.f12 4) Q fuel (listed.setIfInBounds i true) a' w') Q) : wpAny Try.prog .any (opsAt Try.f12 4) Q (fuel + 1) listed a w :=
  ⟨fun h0 => absurd (hr ▸ h0) (by simp), fun k hk => by
    rw [hr] at hk
    simp only [List.mem_singleton] at hk
    subst hk
    unfold wpOp
    rw [hi]
    have hw : Region.wanted oi (yielded (opsAt Try.f12 4) a.tmps) = true := by simp [Region.wanted, hg]
    simp only [hw, if_true]
    exact .inl h⟩
theorem stepA2 {i j fuel : Nat} {oi oj : Oper} {listed : Array Bool} {a : Act} (hi : (opsAt Try.f12 4)[i]? = some oi) (hj : (opsAt Try.f12 4)[j]? = some oj) (hg : oi.guard = none) (hg' : oj.guard = none) (hr : Region.ready .any (opsAt Try.f12 4) listed = [i, j])
    (h : oi.wp Try.prog a w (fun a' w' => wpAny Try.prog .any (opsAt Try.f12 4) Q fuel (listed.setIfInBounds i true) a' w') Q)
    (h' : oj.wp Try.prog a w (fun a' w' => wpAny Try.prog .any (opsAt Try.f12 4) Q fuel (listed.setIfInBounds j true) a' w') Q) : wpAny Try.prog .any (opsAt Try.f12 4) Q (fuel + 1) listed a w :=
  ⟨fun h0 => absurd (hr ▸ h0) (by simp), fun k hk => by
    rw [hr] at hk
    simp only [List.mem_cons, List.not_mem_nil, or_false] at hk
    rcases hk with rfl | rfl
    · unfold wpOp
      rw [hi]
      have hw : Region.wanted oi (yielded (opsAt Try.f12 4) a.tmps) = true := by simp [Region.wanted, hg]
      simp only [hw, if_true]
      exact .inl h
    · unfold wpOp
      rw [hj]
      have hw : Region.wanted oj (yielded (opsAt Try.f12 4) a.tmps) = true := by simp [Region.wanted, hg']
      simp only [hw, if_true]
      exact .inl h'⟩
theorem takeA {i d fuel : Nat} {oi : Oper} {v : Value} {listed : Array Bool} {a : Act} (hi : (opsAt Try.f12 4)[i]? = some oi) (hd : oi.dst = some d) (hg : oi.guard = none)
    (hf : Region.free .any (opsAt Try.f12 4) listed i = true) (hr : (Region.ready .any (opsAt Try.f12 4) listed).contains i = true) (hQ : ∀ c a w, ¬ Q (.panic c) a w) (hrun : ∀ w, (execOp a.eval oi).run Try.prog w = .ok (.value v) w)
    (h : wpAny Try.prog .any (opsAt Try.f12 4) Q fuel (listed.setIfInBounds i true) (a.put (some d) v) w) : wpAny Try.prog .any (opsAt Try.f12 4) Q (fuel + 1) listed a w :=
  wpAny_take hi (by decide +kernel) hf hr (fun c a w h => absurd h (hQ _ _ _)) (.inl ⟨by simp [Region.wanted, hg], hrun⟩) (by rw [hd]; exact h)
end
def lbx (u : Int) (x : AV) (m d : Int) : AV := .box 26 [num u, x, num m, num d]
def ldd (u m d : Int) (l : List Int) (σ : List AV) : List AV := (σ.set 6 (lbx u (.sl 1 (nums l)) m d)).set 20 (.own 3 1 (nums l))
theorem gd_set {l : List AV} {d : Nat} {x : AV} (h : d < l.length) : (l.set d x).getD d .any = x := by
  rw [List.getD_eq_getElem?_getD, List.getElem?_set_self h]; rfl
theorem gd_ne {l : List AV} {d t : Nat} {x : AV} (h : d ≠ t) : (l.set d x).getD t .any = l.getD t .any := by
  rw [List.getD_eq_getElem?_getD, List.getElem?_set_ne h, ← List.getD_eq_getElem?_getD]
theorem ld_op {w0 w : World} {S0 c0 : Nat → Nat} {σ : List AV} {a : Act} {o : Oper} {Q : Exit → Act → World → Prop} {u m d : Int} {l : List Int} (ho : o.op = .load 23 (.tmp 19)) (hd : o.dst = some 20) (h19 : σ.getD 19 .any = .ref 6 1) (h6 : σ.getD 6 .any = lbx u (.own 3 1 (nums l)) m d) (hst : Stt dfs w0 S0 c0 σ a w) :
    o.wp Try.prog a w (fun a' w' => ∃ σ', σ' = ldd u m d l σ ∧ Stt dfs w0 S0 c0 σ' a' w') Q := by
  refine aload_sound ho tok23 hst ?_
  show (match σ.getD 19 .any with
    | .box T cs => _
    | .ref s' off => _
    | .elt y => _
    | _ => False)
  rw [h19]
  show (match σ.getD 6 .any with
    | .box T cs => _
    | _ => False)
  rw [h6, hd]
  exact ⟨Nat.le_of_ble_eq_true rfl, rfl⟩
theorem seq4 {w0 w : World} {S0 c0 : Nat → Nat} {σ : List AV} {a : Act} {Q : Exit → Act → World → Prop} {u m d : Int} {l : List Int} (hlen : σ.length = 98) (hx : σ.getD 6 .any = lbx u (.own 3 1 (nums l)) m d) (hl : l.length ≤ 200) (hst : Stt dfs w0 S0 c0 σ a w) (hQ : ∀ c a w, ¬ Q (.panic c) a w)
    (h : ∀ a' w', Stt dfs w0 S0 c0 ((((((σ.set 18 .any).set 19 .any).set 20 .any).set 21 .any).set 22 .any).set 6 (lbx u (.slx 1 (nums l) (zer (200 - l.length))) m d)) a' w' → Q .normal a' w') :
    wpAny Try.prog .any (opsAt Try.f12 4) Q 6 (Array.replicate 6 false) a w := by
  obtain ⟨b, hev, hsz⟩ : ∃ b, a.eval (.tmp 6) = .pointer (some ⟨b, 0, none⟩) ∧ a.tmps.size = 98 := by
    obtain ⟨hrf, S, c, hr, _⟩ := hst
    obtain ⟨b, _, _, _, he, _⟩ := take_box hr hx
    exact ⟨b, he, by have := hr.length; simpa [hlen] using this⟩
  have hx6 : σ[6]? = some (lbx u (.own 3 1 (nums l)) m d) := by
    obtain ⟨hrf, S, c, hr, _⟩ := hst
    exact rep_at hr hx (by simp [lbx])
  refine takeA (i := 1) (d := 19) (v := .pointer (some ⟨b, 1, none⟩)) rfl rfl rfl (by decide +kernel) (by decide +kernel) hQ (fun w => r_fld rfl hev) ?_
  have hst1 := hst.putref (d := 19) (off := 1) hx6 (z_at hev (by rw [hsz]; decide)) (by decide)
  generalize a.put (some 19) (.pointer (some ⟨b, 1, none⟩)) = a2 at hst1 ⊢
  obtain ⟨σ1, e1⟩ : ∃ σ1, σ.set 19 (.ref 6 1) = σ1 := ⟨_, rfl⟩
  rw [e1] at hst1
  have l1 : σ1.length = 98 := by rw [← e1]; simp [hlen]
  have q19 : σ1.getD 19 .any = .ref 6 1 := by rw [← e1]; exact gd_set (by rw [hlen]; decide)
  have q6 : σ1.getD 6 .any = lbx u (.own 3 1 (nums l)) m d := by rw [← e1, gd_ne (by decide)]; exact hx
  have rest : ∀ n a' w', MidS dfs w0 S0 c0 n (ldd u m d l (σ1.set 18 (.raw (.slice (some ⟨n, 0, none⟩) 0 200)))) a' w' → wpAny Try.prog .any (opsAt Try.f12 4) Q 3 ((((Array.replicate 6 false).setIfInBounds 1 true).setIfInBounds 0 true).setIfInBounds 2 true) a' w' := by
    intro n a' w' hm
    refine stepA (i := 3) rfl rfl (by decide +kernel) ?_
    refine wp_mono' (fun a3 w3 ⟨σ3, e3, hs3⟩ => ?_) (mk_append (d := 21) (l := l) hm (by unfold ldd; rw [gd_ne (by decide), gd_ne (by decide)]; exact gd_set (by rw [l1]; decide)) (by unfold ldd; exact gd_set (by simp [l1])) hl rfl rfl)
    subst e3
    have r6 : ((ldd u m d l (σ1.set 18 (.raw (.slice (some ⟨n, 0, none⟩) 0 200)))).set 21 (.slx 1 (nums l) (zer (200 - l.length)))).getD 6 .any = lbx u (.sl 1 (nums l)) m d := by rw [gd_ne (by decide)]; unfold ldd; rw [gd_ne (by decide)]; exact gd_set (by simp [l1])
    refine stepA (i := 4) rfl rfl (by decide +kernel) ?_
    refine wp_mono' (fun a4 w4 ⟨σ4', e4', hs4⟩ => ?_) (afieldAddr_sound (K := fun σ' => σ' = ((ldd u m d l (σ1.set 18 (.raw (.slice (some ⟨n, 0, none⟩) 0 200)))).set 21 (.slx 1 (nums l) (zer (200 - l.length)))).set 22 (.ref 6 1)) rfl tok26 hs3 (by
      show (match (List.getD _ 6 .any : AV) with
        | .box _ _ => _
        | .ref s' o => _
        | .elt y => _
        | _ => False)
      rw [r6]
      exact ⟨by decide, by decide, rfl⟩))
    subst e4'
    refine stepA (i := 5) rfl rfl (by decide +kernel) ?_
    obtain ⟨σ4, e4⟩ : ∃ σ4, ((ldd u m d l (σ1.set 18 (.raw (.slice (some ⟨n, 0, none⟩) 0 200)))).set 21 (.slx 1 (nums l) (zer (200 - l.length)))).set 22 (.ref 6 1) = σ4 := ⟨_, rfl⟩
    have p21 : σ4.getD 21 .any = .slx 1 (nums l) (zer (200 - l.length)) := by rw [← e4, gd_ne (by decide)]; exact gd_set (by simp [ldd, l1])
    have p22 : σ4.getD 22 .any = .ref 6 1 := by rw [← e4]; exact gd_set (by simp [ldd, l1])
    have p6 : σ4.getD 6 .any = lbx u (.sl 1 (nums l)) m d := by rw [← e4, gd_ne (by decide)]; exact r6
    rw [e4] at hs4
    have ev : aev σ4 (.tmp 21) = .slx 1 (nums l) (zer (200 - l.length)) := by show pl (σ4.getD 21 .any) = _; rw [p21]; rfl
    have em : amv σ4 (.tmp 21) = σ4 := by show amv1 σ4 21 (σ4.getD 21 .any) = _; rw [p21]; rfl
    refine wp_mono' (n1 := fun a' w' => ∃ σ', σ' = σ4.set 6 (lbx u (.slx 1 (nums l) (zer (200 - l.length))) m d) ∧ Stt dfs w0 S0 c0 σ' a' w') ?_ (astore_sound rfl tok23 hs4 ?_)
    · rintro a5 w5 ⟨σ5, e5, hs5⟩
      subst e5
      refine ⟨by decide +kernel, h _ _ (Wk.stt (wk_pt _ _ ?_ fun t => ?_) hs5)⟩
      · simp [← e4, ldd, l1, hlen]
      · by_cases t6 : t = 6
        · subst t6
          right
          rw [List.getElem?_set_self (by simp [hlen]), List.getElem?_set_self (by simp [← e4, ldd, l1])]
        rw [List.getElem?_set_ne (Ne.symm t6), List.getElem?_set_ne (Ne.symm t6)]
        by_cases ht : t = 18 ∨ t = 19 ∨ t = 20 ∨ t = 21 ∨ t = 22
        · left
          rcases ht with rfl | rfl | rfl | rfl | rfl <;> simp [hlen]
        · right
          rw [← e4, ← e1]
          unfold ldd
          rw [List.getElem?_set_ne (by omega), List.getElem?_set_ne (by omega), List.getElem?_set_ne (by omega), List.getElem?_set_ne (by omega), List.getElem?_set_ne (by omega), List.getElem?_set_ne (by omega), List.getElem?_set_ne (by omega), List.getElem?_set_ne (by omega), List.getElem?_set_ne (by omega), List.getElem?_set_ne (by omega), List.getElem?_set_ne (by omega)]
    · show (match (amv σ4 (.tmp 21)).getD 22 .any with
        | .box T cs => _
        | .ref s' off => _
        | _ => False)
      rw [em, p22]
      show (match σ4.getD 6 .any with
        | .box T cs => _
        | _ => False)
      rw [p6, ev]
      exact ⟨rfl, rfl, Nat.le_of_ble_eq_true rfl, rfl⟩
  refine stepA2 (i := 0) (j := 2) rfl rfl rfl rfl (by decide +kernel) ?_ ?_
  · refine wp_mono' (fun a3 w3 ⟨n, hm⟩ => ?_) (mk_make (d := 18) rfl rfl hst1)
    refine stepA (i := 2) rfl rfl (by decide +kernel) ?_
    refine wp_mono' (fun a4 w4 hm4 => rest n a4 w4 hm4) (mk_old hm fun w0 S0 c0 hs => ld_op (u := u) (m := m) (d := d) (l := l) rfl rfl ?_ ?_ hs)
    · rw [gd_ne (by decide)]; exact q19
    · rw [gd_ne (by decide)]; exact q6
  · refine wp_mono' (fun a3 w3 ⟨σ3, e3, hs3⟩ => ?_) (ld_op (u := u) (m := m) (d := d) (l := l) rfl rfl q19 q6 hst1)
    subst e3
    refine stepA (i := 0) rfl rfl (by decide +kernel) ?_
    refine wp_mono' (fun a4 w4 ⟨n, hm⟩ => ?_) (mk_make (d := 18) rfl rfl hs3)
    have e : (ldd u m d l σ1).set 18 (.raw (.slice (some ⟨n, 0, none⟩) 0 200)) = ldd u m d l (σ1.set 18 (.raw (.slice (some ⟨n, 0, none⟩) 0 200))) := by
      unfold ldd
      rw [List.set_comm _ _ (by decide), List.set_comm _ _ (show 6 ≠ 18 by decide)]
    rw [e] at hm
    have hh := rest n a4 w4 hm
    rw [Array.setIfInBounds_comm _ _ (by decide)] at hh
    exact hh
theorem cwpX_mk200 {σ : List AV} {Q : Exit → List AV → Prop} {u m d : Int} {l : List Int} (hlen : σ.length = 98) (hx : σ.getD 6 .any = lbx u (.own 3 1 (nums l)) m d) (hl : l.length ≤ 200)
    (h : Q .normal ((((((σ.set 18 .any).set 19 .any).set 20 .any).set 21 .any).set 22 .any).set 6 (lbx u (.slx 1 (nums l) (zer (200 - l.length))) m d))) : cwpX Try.prog TT (.ext (.region 4 (opsAt Try.f12 4) true)) Q σ := by
  intro dfs w0 S0 c0 a w hst0
  refine wp_mono (Q := fun e a w => e = .normal ∧ lift dfs w0 S0 c0 Q .normal a w) ?_ fun e a w hq => by
    obtain ⟨rfl, hq⟩ := hq
    exact hq
  refine wp_region_any hmix ?_
  exact seq4 hlen hx hl hst0.drew (fun c a w hq => by cases hq.1) fun a' w' hs => ⟨rfl, _, h, hs⟩
end Go.Proofs.Ytohelofjlkoboaa
