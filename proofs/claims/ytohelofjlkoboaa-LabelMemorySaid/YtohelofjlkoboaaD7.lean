/- A slice that lies in a box, lent to a call that may write its elements. -/
import Derived.Test.YtohelofjlkoboaaD6
namespace Go.Proofs.Ytohelofjlkoboaa
open Go.RowKit
set_option linter.unusedSectionVars false
variable [Env]
variable {dfs : List Deferred}
set_option linter.unusedVariables false
set_option linter.unusedSimpArgs false

def notTmp (d : Nat) : Operand → Bool
  | .tmp t => t != d
  | _ => true
def klend (e k s Te : Nat) (dst : Option Nat) (τ : List AV) (K : List AV → Prop) (r y : AV) : Prop := match y with
  | .row e' k' es' => e' = e ∧ k' = k ∧ K (aset (τ.set s (.box Te [.mine e k es'])) dst r)
  | _ => False
def ldp2 (P : Program) (x : AV) (s d g : Nat) (rest : List Operand) (dst : Option Nat) (K : List AV → Prop) (σ : List AV) : Prop := match x with
  | .box Te [.mine e k es] => RCalls P g (.row e k es) (agrab ((σ.set s .any).set d .any) rest).1 (klend e k s Te dst (agrab ((σ.set s .any).set d .any) rest).2 K)
  | _ => False
def lendP (P : Program) (T : Tab) (t s d g : Nat) (rest : List Operand) (dst : Option Nat) (K : List AV → Prop) (σ : List AV) : Prop :=
  match T t with
  | some i => i.td.agg = false ∧ dst ≠ some s ∧ σ.length.ble d = false ∧ ldp2 P (σ.getD s .any) s d g rest dst K σ
  | none => False

section
variable {P : Program} {T : Tab} {w : World}
variable {w0 : World} {S0 c0 : Nat → Nat} {σ : List AV} {a : Act} {K : List AV → Prop}
theorem lend_sound (hT : TabOk P T) {ops : Array Oper} {o1 o2 : Oper} {t s d g : Nat} {rest : List Operand} {c : Call} (hops : ops.toList = [o1, o2]) (ho1 : o1.op = .load t (.tmp s)) (hd1 : o1.dst = some d) (hg1 : o1.guard = none)
    (ho2 : o2.op = .call c) (hg2 : o2.guard = none) (hc : c.callee = .value (.func g)) (hca : c.args.toList = .tmp d :: rest) (hds : d ≠ s) (hst : Stt dfs w0 S0 c0 σ a w) (h : lendP P T t s d g rest o2.dst K σ) :
    XO P ops (List.range ops.size) a w (fun a' w' => ∃ σ', K σ' ∧ Stt dfs w0 S0 c0 σ' a' w' ∧ ∀ s', o1.dst ≠ some s' → o2.dst ≠ some s' → a'.tmps[s']? = a.tmps[s']?) := by
  intro Q hQ
  have hsz : ops.size = 2 := by rw [← Array.length_toList, hops]; rfl
  have hg0 : ops[0]? = some o1 := by rw [← Array.getElem?_toList, hops]; rfl
  have hg1' : ops[1]? = some o2 := by rw [← Array.getElem?_toList, hops]; rfl
  rw [hsz, show List.range 2 = [0, 1] from rfl]
  unfold lendP at h
  split at h
  · rename_i i hi
    obtain ⟨hagg, hdst, hdlt, h⟩ := h
    have hdlt : d < σ.length := by
      rcases Nat.lt_or_ge d σ.length with h | h
      · exact h
      · rw [Nat.ble_eq_true_of_le h] at hdlt; cases hdlt
    unfold ldp2 at h
    split at h
    · rename_i Te e k es hx
      obtain ⟨⟨fn, code, hfn, hbody, hname⟩, _, hcall⟩ := h
      obtain ⟨hrf, S, cc, hr, h1, hd, hz, hs⟩ := hst
      have hσs : σ[s]? = some (.box Te [.mine e k es]) := rep_at hr hx (by simp)
      obtain ⟨b, cur, d1, c2, hev, hb, hS, hcs, hone, hr2, hcc, hv⟩ := take_box hr hx
      have hcl := hcs.length
      obtain ⟨v, hcv⟩ : ∃ v, cur.toList = [v] := by
        match hq : cur.toList, hcl with
        | [v], _ => exact ⟨v, rfl⟩
      have hl1 : lsz i = 1 := by unfold lsz; rw [hagg]; rfl
      have hrun1 := run_loadBox (P := P) (t := t) (off := 0) (n := 1) (hT t i hi) hb hl1.symm (by rw [← Array.length_toList, hcv]; simp)
      rw [hagg, hcv] at hrun1
      simp only [Bool.false_eq_true, if_false, List.drop_zero, List.take_succ_cons, List.take_zero, List.headD_cons] at hrun1
      have hexec1 : (execOp a.eval o1).run P w = .ok (.value v) w := by
        unfold execOp
        simp only [Act.eval] at hev
        simp [ho1, Act.eval, hev, hrun1]
      have hw1 : Region.wanted o1 (yielded ops a.tmps) = true := by simp [Region.wanted, hg1]
      simp only [wpOps, hg0]
      rw [if_pos hw1]
      refine .inl (wp_value hexec1 ?_)
      rw [hd1]
      simp only [wpOps, hg1']
      have hw2 : Region.wanted o2 (yielded ops (a.put (some d) v).tmps) = true := by simp [Region.wanted, hg2]
      rw [if_pos hw2]
      refine .inl ?_
      -- behind the load
      obtain ⟨a1, ha1⟩ : ∃ a1, a.put (some d) v = a1 := ⟨_, rfl⟩
      have ht1 : a1.tmps.toList = a.tmps.toList.set d v := by rw [← ha1, put_tmps]
      have hdf1 : a1.defers = dfs := by rw [← ha1, put_defers]; exact hd
      rw [ha1]
      have hsl : s < σ.length := (List.getElem?_eq_some_iff.1 hσs).1
      have hr3 : ∃ c3, RepC w S ((σ.set s .any).set d .any) a1.tmps.toList c3 ∧ ∀ x, c3 x ≤ c2 x := by
        obtain ⟨c3, g1, g2⟩ := hr2.put (y := .any) (u := v) (cy := fun _ => 0) (.any (.nil zc0)) d (by simpa using hdlt)
        rw [← ht1] at g1
        exact ⟨c3, g1, fun x => by have := g2 x; omega⟩
      obtain ⟨c3, hr3, hle3⟩ := hr3
      obtain ⟨c4, c5, hargsr, hr4, hc45⟩ := grabs rest hr3
      have hmine : RepC w S [.mine e k es] [v] d1 := by rw [← hcv]; exact hcs
      have hrow : RepC w S [.row e k es] [v] d1 := by
        cases hmine with
        | mineE h => exact .rowE h
        | mine hn hcap hk hb hs' hS hx1 h0 hoc h hcc => exact .row hn hcap hk hb hs' hS hx1 h0 hoc h hcc
      have hargs0 := RepC.cons hrow hargsr (c := fun x => d1 x + c4 x) (fun x => rfl)
      have hbound : ∀ x, (if x = b then 1 else 0) + d1 x + c4 x + c5 x ≤ 1 := fun x => by
        have := h1 x; have := hcc x; have := hle3 x; have := hc45 x; omega
      have hal : a.tmps.toList.length = σ.length := hr.length
      have hev1 : a1.eval (.tmp d) = v := eval_tmp (by rw [ht1, List.getElem?_set_self (by omega)])
      have hvs1 : a1.tmps.toList[s]? = some (.pointer (some ⟨b, 0, none⟩)) := by rw [ht1, set_other hds]; exact hv
      have hrun := run_enter (P := P) hfn hname hbody (c.args.map a1.eval) w
      have hargs : (v :: rest.map a1.eval).toArray = c.args.map a1.eval := by
        apply Array.ext'
        simp [hca, hev1]
      have := hcall w S v _ _ hz hargs0 (fun x => by have := hbound x; show d1 x + c4 x ≤ 1; omega)
      rw [hargs] at this
      have hexec : (execOp a1.eval o2).run P w = .ok (.enter g (c.args.map a1.eval)) w := by
        unfold execOp
        simp [ho2, resolve, hc, Act.eval, Deferred.ofValue, invoke, hrun]
      unfold Oper.wp
      rw [hexec, Oper.upon_enter]
      refine this.mono fun e' w' ⟨u, r, y, S', c', he, hR, hpb, hy, hrr, hc1, hz', hstp⟩ => ?_
      subst he
      obtain ⟨es', rfl, hK⟩ : ∃ es', y = .row e k es' ∧ K (aset ((agrab ((σ.set s .any).set d .any) rest).2.set s (.box Te [.mine e k es'])) o2.dst r) := by
        unfold klend at hR
        split at hR
        · obtain ⟨rfl, rfl, hK⟩ := hR
          exact ⟨_, rfl, hK⟩
        · exact hR.elim
      have hr5 := hr4.step hstp (fun x => by have := hbound x; show c5 x + (d1 x + c4 x) ≤ 1; omega)
      obtain ⟨vr, us, e1, e2, hvu, hrr1, hrr2, hdd⟩ := hrr.uncons
      injection hvu with q1 q2
      subst q1; subst q2
      have hbs : b < w.heap.size := (Array.getElem?_eq_some_iff.1 hb).1
      have hb0 : d1 b + c4 b = 0 := by have := hbound b; simp at this; omega
      have hkb := hstp.keep b hbs hb0
      have hmine' : RepC w' S' [.mine e k es'] cur.toList e2 := by
        rw [hcv]
        cases hrr2 with
        | rowE h => exact .mineE h
        | row hn hcap hk hb hs' hS hx1 h0 hoc h hcc => exact .mine hn hcap hk hb hs' hS hx1 h0 hoc h hcc
      have hbox : RepC w' S' [.box Te [.mine e k es']] [.pointer (some ⟨b, 0, none⟩)] (fun x => (if x = b then 1 else 0) + e2 x) :=
        .box (c2 := fun _ => 0) (hkb.1.trans hb) (hkb.2.trans hS) hmine' hone (.nil zc0) (fun x => by simp)
      have hlen2 : (agrab ((σ.set s .any).set d .any) rest).2.length = σ.length := by
        have g1 := hr4.length
        rw [ht1, List.length_set] at g1
        omega
      obtain ⟨cb, hrb2, hle⟩ := hr5.put hbox s (by omega)
      rw [list_set_same hvs1] at hrb2
      have back : ∀ {i : Nat} {x : AV}, (agrab ((σ.set s .any).set d .any) rest).2[i]? = some x → pb x = false → σ[i]? = some x ∧ i ≠ d := fun h hp => by
        obtain ⟨n1, g1⟩ := set_away (agrab_back rest h hp) (by rintro rfl; cases hp)
        exact ⟨(set_away g1 (by rintro rfl; cases hp)).2, fun h => n1 h.symm⟩
      have hrfb : RefOk ((agrab ((σ.set s .any).set d .any) rest).2.set s (.box Te [.mine e k es'])) a1.tmps.toList := by
        refine ⟨fun i s2 off T2 cs2 hi hs2 => ?_, fun i s2 e2 k2 es2 hi hs2 => ?_, fun i s2 k3 j o e2 k2 es2 hi hs2 => ?_⟩
        · obtain ⟨n1, g1⟩ := set_away hi (by intro h; cases h)
          obtain ⟨g1, n2⟩ := back g1 rfl
          by_cases hss : s = s2
          · subst hss
            obtain ⟨b', k1, k2⟩ := hrf.ref i s off _ _ g1 hσs
            exact ⟨b', by rw [ht1, set_other hds]; exact k1, by rw [ht1, set_other (fun h => n2 h.symm)]; exact k2⟩
          · rw [set_other hss] at hs2
            obtain ⟨g2, n3⟩ := back hs2 rfl
            obtain ⟨b', k1, k2⟩ := hrf.ref i s2 off _ _ g1 g2
            exact ⟨b', by rw [ht1, set_other (fun h => n3 h.symm)]; exact k1, by rw [ht1, set_other (fun h => n2 h.symm)]; exact k2⟩
        · obtain ⟨n1, g1⟩ := set_away hi (by intro h; cases h)
          obtain ⟨n2, g2⟩ := set_away hs2 (by intro h; cases h)
          obtain ⟨g1, n3⟩ := back g1 rfl
          obtain ⟨g2, n4⟩ := back g2 rfl
          rw [ht1, set_other (fun h => n3 h.symm), set_other (fun h => n4 h.symm)]
          exact hrf.al i s2 _ _ _ g1 g2
        · obtain ⟨n1, g1⟩ := set_away hi (by intro h; cases h)
          obtain ⟨n2, g2⟩ := set_away hs2 (by intro h; cases h)
          obtain ⟨g1, n3⟩ := back g1 rfl
          obtain ⟨g2, n4⟩ := back g2 rfl
          obtain ⟨b', n', cap', k1, k2'⟩ := hrf.pr i s2 k3 j o _ _ _ g1 g2
          exact ⟨b', n', cap', by rw [ht1, set_other (fun h => n4 h.symm)]; exact k1, by rw [ht1, set_other (fun h => n3 h.symm)]; exact k2'⟩
      -- the whole step
      have hfr : Stp w S cc w' S' (fun x => c' x + c5 x + if x = b then 1 else 0) := by
        have := hstp.frame (c := cc) (c2 := fun x => cc x - (d1 x + c4 x)) (fun x => by have := hcc x; have := hle3 x; have := hc45 x; show cc x = d1 x + c4 x + (cc x - (d1 x + c4 x)); omega)
        refine this.drop fun x => ?_
        have := hcc x; have := hle3 x; have := hc45 x
        show c' x + c5 x + (if x = b then 1 else 0) ≤ c' x + (cc x - (d1 x + c4 x))
        omega
      refine hQ _ _ ⟨_, hK, Stt.value (c := fun x => c' x + c5 x + if x = b then 1 else 0) hrfb hpb ?_ hdf1 hz' (hs.trans hfr) hrb2 hrr1 (fun x => by have := hle x; have := hdd x; omega) _, fun s' k1 k2 => (put_keep a1 _ _ s' k2).trans (by rw [← ha1]; exact put_keep a _ _ s' (by rw [← hd1]; exact k1))⟩
      intro x
      have h1x := hbound x
      have hc1x := hc1 x
      rcases Nat.lt_or_ge x w.heap.size with hb | hb
      · have h6 : c' x ≤ d1 x + c4 x := hstp.own x hb
        show c' x + c5 x + (if x = b then 1 else 0) ≤ 1
        omega
      · have g1 : c5 x = 0 := by
          rcases Nat.eq_zero_or_pos (c5 x) with h | h
          · exact h
          · have := hr4.lt x h; omega
        have g2 : x ≠ b := by omega
        simp only [g1, g2, if_false]
        omega
    · exact h.elim
  · exact h.elim
end
end Go.Proofs.Ytohelofjlkoboaa
