/- Regions: those whose order is drawn, and what is only looked at in a region. -/
import Derived.Test.YtohelofjlkoboaaD4
import Derived.StillTail
namespace Go.Proofs.Ytohelofjlkoboaa
open Go.RowKit
set_option linter.unusedSectionVars false
variable [Env]
variable {dfs : List Deferred}
set_option linter.unusedVariables false
set_option linter.unusedSimpArgs false

def cguard (ops : Array Oper) : Option (Nat × Bool) → Option (Option (Nat × Bool))
  | none => some none
  | some (j, want) => match gslot ops j with
    | some t => some (some (t, want))
    | none => none
def cops (ops : Array Oper) : List Oper → Option (List CO)
  | [] => some []
  | o :: l => match cguard ops o.guard, cops ops l with
    | some g, some r => some (⟨o.dst, o.op, g⟩ :: r)
    | _, _ => none
theorem cops_get {ops : Array Oper} : ∀ {l : List Oper} {r : List CO}, cops ops l = some r → r.length = l.length ∧ ∀ (i : Nat) (o : Oper), l[i]? = some o → ∃ g, cguard ops o.guard = some g ∧ r[i]? = some ⟨o.dst, o.op, g⟩
  | [], r, h => by simp [cops] at h; subst h; simp
  | o :: l, r, h => by
    simp only [cops] at h
    split at h
    · rename_i g r' hg hr
      injection h with h
      subst h
      obtain ⟨h1, h2⟩ := cops_get hr
      refine ⟨by simp [h1], fun i o' ho' => ?_⟩
      cases i with
      | zero => simp at ho'; subst ho'; exact ⟨g, hg, rfl⟩
      | succ i => simpa using h2 i o' (by simpa using ho')
    · cases h

def preds (o : Oper) : List Nat := o.after.toList.filterMap fun e => if Region.binds .any e then some e.on else none
def ancs : List Oper → List (List Nat) → List (List Nat)
  | [], acc => acc
  | o :: l, acc => ancs l (acc ++ [((preds o).flatMap fun p => p :: acc.getD p []).eraseDups])
def indep (rb sh : List Nat) (a c : CO) : Bool := (dslots rb a).all (fun t => !(dslots rb c).contains t || (((shX sh a).contains t && (shX sh c).contains t) && (a.dst != some t && c.dst != some t))) && !(isCall a.op && isCall c.op)
def dstbm (rb bm : List Nat) (c : CO) : Bool := match c.op with
  | .alloc _ | .box _ _ => match c.dst with
    | some d => bm.contains d && decide (d < 100000)
    | none => true
  | .fieldAddr _ (.tmp s) _ => !(rb.contains (9999900000 + s)) || bm.contains (100000 + s)
  | _ => true
/-- The watch over a region whose order is drawn. -/
def dchk (ops : List Oper) (cs : List CO) (rb sh bm : List Nat) : Bool :=
  (List.range ops.length).all fun i => match ops[i]?, cs[i]? with
    | some o, some c =>
      (preds o).all (fun p => decide (p < i)) &&
      ((ancs ops []).getD i []).all (fun a => (preds o).any fun p => p == a || ((ancs ops []).getD p []).contains a) &&
      (List.range i).all (fun a => ((ancs ops []).getD i []).contains a || match cs[a]? with
        | some ca => indep rb sh ca c
        | none => false) &&
      dstbm rb bm c
    | _, _ => false

section
variable {P : Program} {T : Tab} {w0 : World} {S0 c0 : Nat → Nat} {rb sh bm : List Nat}

def dl (P : Program) (T : Tab) (sh rb bm : List Nat) (cs : List CO) (K : List AV → Prop) : List Nat → List AV → Prop
  | [], σ => K σ
  | i :: l, σ => match cs[i]? with
    | some c => stp P T sh rb bm c σ (dl P T sh rb bm cs K l)
    | none => False
theorem dl_front {cs : List CO} {K : List AV → Prop} {i : Nat} {c : CO} (hi : cs[i]? = some c) : ∀ (A B : List Nat) {σ : List AV}, Nr bm σ → (∀ a ∈ A, ∀ ca, cs[a]? = some ca → indep rb sh ca c = true) →
    dl P T sh rb bm cs K (A ++ i :: B) σ → stp P T sh rb bm c σ (dl P T sh rb bm cs K (A ++ B))
  | [], B, σ, hn, ha, h => by
    simp only [List.nil_append, dl, hi] at h
    exact h
  | a :: A, B, σ, hn, ha, h => by
    simp only [List.cons_append, dl] at h
    split at h
    · rename_i ca hca
      have hind := ha a (by simp) ca hca
      simp only [indep, Bool.and_eq_true, List.all_eq_true, Bool.or_eq_true, Bool.not_eq_true'] at hind
      have h1 := stp_mono h fun x hx hk => dl_front hi A B hx (fun b hb => ha b (by simp [hb])) hk
      have h2 := swap (fun t t1 t2 => by
        have := hind.1 t (con_mem.1 t1)
        rw [t2] at this
        simpa using this) (by
        have := hind.2
        cases h1 : isCall ca.op with
        | false => exact .inl rfl
        | true => rw [h1] at this; exact .inr (by simpa using this)) hn h1
      refine stp_mono h2 fun x hx hk => ?_
      simp only [List.cons_append, dl, hca]
      exact hk
    · exact h.elim

def rem (n : Nat) (listed : Array Bool) : List Nat := (List.range n).filter fun i => !listed.getD i true
theorem split_at {l : List Nat} (hl : l.Pairwise (· < ·)) {i : Nat} (hi : i ∈ l) : ∃ A B, l = A ++ i :: B ∧ (∀ a ∈ A, a < i) ∧ (∀ b ∈ B, i < b) := by
  obtain ⟨A, B, rfl⟩ := List.append_of_mem hi
  refine ⟨A, B, rfl, fun a ha => ?_, fun b hb => ?_⟩
  · exact (List.pairwise_append.1 hl).2.2 a ha i (by simp)
  · exact (List.pairwise_cons.1 (List.pairwise_append.1 hl).2.1).1 b hb
theorem rem_sorted (n : Nat) (listed : Array Bool) : (rem n listed).Pairwise (· < ·) := List.Pairwise.filter _ List.pairwise_lt_range
theorem rem_set {n : Nat} {listed : Array Bool} {i : Nat} {A B : List Nat} (hs : listed.size = n) (h : rem n listed = A ++ i :: B) (hA : ∀ a ∈ A, a < i) (hB : ∀ b ∈ B, i < b) : rem n (listed.setIfInBounds i true) = A ++ B := by
  have hi : i ∈ rem n listed := by rw [h]; simp
  have hin : i < n := by simp [rem] at hi; exact hi.1
  have e : rem n (listed.setIfInBounds i true) = (rem n listed).filter (· != i) := by
    unfold rem
    rw [List.filter_filter]
    refine List.filter_congr fun j hj => ?_
    by_cases hji : j = i
    · subst hji
      simp [hs, hin]
    · rw [getD_set_ne true (Ne.symm hji)]
      simp [hji]
  rw [e, h, List.filter_append, List.filter_cons]
  simp only [bne_self_eq_false, Bool.false_eq_true, if_false]
  rw [List.filter_eq_self.2 fun a ha => by have := hA a ha; simp; omega, List.filter_eq_self.2 fun b hb => by have := hB b hb; simp; omega]

theorem mem_preds {o : Oper} {p : Nat} : p ∈ preds o ↔ ∃ e ∈ o.after, Region.binds .any e = true ∧ e.on = p := by
  unfold preds
  rw [List.mem_filterMap]
  constructor
  · rintro ⟨e, he, h⟩
    split at h
    · rename_i hb; exact ⟨e, by simpa using he, hb, by simpa using h⟩
    · cases h
  · rintro ⟨e, he, hb, h⟩
    exact ⟨e, by simpa using he, by simp [hb, h]⟩

theorem dchk_at {ops : List Oper} {cs : List CO} (hc : dchk ops cs rb sh bm = true) {i : Nat} {o : Oper} (hi : ops[i]? = some o) : ∃ c, cs[i]? = some c ∧ (∀ p ∈ preds o, p < i) ∧
    (∀ a ∈ (ancs ops []).getD i [], ∃ p ∈ preds o, p = a ∨ a ∈ (ancs ops []).getD p []) ∧ (∀ a, a < i → a ∈ (ancs ops []).getD i [] ∨ ∃ ca, cs[a]? = some ca ∧ indep rb sh ca c = true) ∧ dstbm rb bm c = true := by
  have hlt := (List.getElem?_eq_some_iff.1 hi).1
  have h := List.all_eq_true.1 hc i (List.mem_range.2 hlt)
  rw [hi] at h
  cases hci : cs[i]? with
  | none => rw [hci] at h; cases h
  | some c =>
    rw [hci] at h
    simp only [Bool.and_eq_true] at h
    obtain ⟨⟨⟨h1, h2⟩, h3⟩, h4⟩ := h
    refine ⟨c, rfl, fun p hp => by simpa using List.all_eq_true.1 h1 p hp, fun a ha => ?_, fun a ha => ?_, h4⟩
    · have := List.all_eq_true.1 h2 a ha
      obtain ⟨p, hp, hpa⟩ := List.any_eq_true.1 this
      refine ⟨p, hp, ?_⟩
      simpa using hpa
    · have := List.all_eq_true.1 h3 a (List.mem_range.2 ha)
      rw [Bool.or_eq_true] at this
      rcases this with h | h
      · exact .inl (con_mem.1 h)
      · split at h
        · rename_i ca hca; exact .inr ⟨ca, hca, h⟩
        · cases h

/-- Who waits for another waits in all orders. -/
theorem anc_listed {ops : Array Oper} {cs : List CO} (hc : dchk ops.toList cs rb sh bm = true) {listed : Array Bool}
    (hcl : ∀ j oj, ops[j]? = some oj → listed.getD j false = true → ∀ e ∈ oj.after, Region.binds .any e = true → listed.getD e.on false = true) :
    ∀ (i : Nat) {o : Oper}, ops[i]? = some o → (∀ e ∈ o.after, Region.binds .any e = true → listed.getD e.on false = true) → ∀ a ∈ (ancs ops.toList []).getD i [], listed.getD a false = true := by
  intro i
  induction i using Nat.strongRecOn with
  | _ i ih =>
    intro o ho hall a ha
    obtain ⟨c, _, h1, h2, _, _⟩ := dchk_at hc (i := i) (o := o) (by simpa using ho)
    obtain ⟨p, hp, hpa⟩ := h2 a ha
    have hlt := h1 p hp
    obtain ⟨e, he, hb, rfl⟩ := mem_preds.1 hp
    have hl := hall e he hb
    rcases hpa with rfl | hpa
    · exact hl
    · have hex : ∃ op, ops[e.on]? = some op := by
        have := (Array.getElem?_eq_some_iff.1 ho).1
        exact ⟨ops[e.on]'(by omega), by simp⟩
      obtain ⟨op, hop⟩ := hex
      exact ih e.on hlt hop (hcl e.on op hop hl) a hpa

/-- What a step does, out of its short form. -/
theorem cact_bop {c : CO} {σ : List AV} {K : List AV → Prop} (hbm : dstbm rb bm c = true) (hn : Nr bm σ) (h : cact P T rb c σ K) : bop P T (mkO c) σ K := by
  unfold cact at h
  split at h
  · rename_i hb
    obtain ⟨dst, op, gd⟩ := c
    unfold bxs at h
    split at h
    · rename_i t s f d h1 h2
      simp only at h1 h2
      subst h1; subst h2
      simp only [isbx] at hb
      simp only [dstbm, hb, Bool.not_true, Bool.false_or] at hbm
      have hx := (nrq_iff.1 (hn _ (con_mem.1 hbm))).1 (Nat.le_add_right _ _)
      rw [Nat.add_sub_cancel_left] at hx
      split at h
      · rename_i i hi
        split at h
        · rename_i off n ag hf
          cases hv : σ.getD s .any with
          | box U cs => simp only [bop, bop0, mkO, aop, hi, afieldAddr, hf, hv]; exact h
          | _ => rw [hv] at hx; cases hx
        · exact h.elim
      · exact h.elim
    · exact h.elim
  · exact h.2
theorem stp_sound (hT : TabOk P T) {ops : Array Oper} {Q : Exit → Act → World → Prop} {fr : List Nat} {i : Nat} {o : Oper} {g : Option (Nat × Bool)} (ho : ops[i]? = some o) (hg : cguard ops o.guard = some g)
    (hbm : dstbm rb bm ⟨o.dst, o.op, g⟩ = true) (hfr : ∀ s ∈ fr, o.dst ≠ some s) {σ : List AV} {a : Act} {w : World} {K : List AV → Prop} {next : Act → World → Prop} (hst : Stt dfs w0 S0 c0 σ a w) (hn : Nr bm σ)
    (h : stp P T sh rb bm ⟨o.dst, o.op, g⟩ σ K) (hnx : ∀ σ' a' w', Stt dfs w0 S0 c0 σ' a' w' → Nr bm σ' → K σ' → (∀ s ∈ fr, a'.tmps[s]? = a.tmps[s]?) → next a' w') : wpOp P ops Q i next a w := by
  unfold wpOp
  simp only [ho]
  have run : ∀ K', bop P T (mkO ⟨o.dst, o.op, g⟩) σ K' → o.wp P a w (fun a' w' => (∃ σ', K' σ' ∧ Stt dfs w0 S0 c0 σ' a' w') ∧ ∀ s, o.dst ≠ some s → a'.tmps[s]? = a.tmps[s]?) Q := by
    intro K' hb
    have hb' : bop P T o σ K' := hb
    rcases bop_rop hb' with hb' | hb'
    · exact wp_keep (rop_sound hT hst hb')
    refine wp_keep (aop_sound hT hst (aop_of_bop hb' fun d hd hk => ?_))
    have hdb : d ∈ bm ∧ d < 100000 := by
      simp only [dstbm, hd] at hbm
      cases hop : o.op <;> simp only [hop] at hk hbm <;> first
        | exact hk.elim
        | (rw [Bool.and_eq_true] at hbm; exact ⟨con_mem.1 hbm.1, by simpa using hbm.2⟩)
    have := hn d hdb.1
    rw [nrq, decide_eq_false (Nat.not_le.2 hdb.2)] at this
    exact this
  have fin : ∀ a' w', (∃ σ', (Fx (shX sh ⟨o.dst, o.op, g⟩) o.dst σ σ' ∧ Nr bm σ' ∧ K σ') ∧ Stt dfs w0 S0 c0 σ' a' w') ∧ (∀ s, o.dst ≠ some s → a'.tmps[s]? = a.tmps[s]?) → next a' w' := by
    rintro a' w' ⟨⟨σ', ⟨_, h2, h3⟩, h4⟩, h5⟩
    exact hnx σ' a' w' h4 h2 h3 fun s hs => h5 s (hfr s hs)
  unfold stp cst at h
  simp only [cguard] at hg
  cases hgd : o.guard with
  | none =>
    rw [hgd] at hg
    injection hg with hg
    subst hg
    have hw : Region.wanted o (yielded ops a.tmps) = true := by simp [Region.wanted, hgd]
    rw [if_pos hw]
    exact .inl (wp_mono' fin (run _ (cact_bop hbm hn h)))
  | some jw =>
    obtain ⟨j, want⟩ := jw
    rw [hgd] at hg
    simp only [] at hg
    split at hg
    · rename_i t ht
      injection hg with hg
      subst hg
      simp only [] at h
      split at h
      · rename_i e he
        have hst' := hst
        obtain ⟨_, S, c, hr, _⟩ := hst
        obtain ⟨v, c1, c2, hv, hy, h2, hc⟩ := hr.take t (rep_at hr he (by simp))
        have e1 := (rep_raw hy).1
        subst e1
        have hyl : yielded ops a.tmps j = some e := by
          unfold yielded
          unfold gslot at ht
          rw [ht]
          simp only [Option.bind_some]
          rw [← Array.getElem?_toList, hv]
        have hwant : Region.wanted o (yielded ops a.tmps) = (e == want) := by
          simp [Region.wanted, hgd, hyl]
        rw [hwant]
        by_cases hew : e = want
        · rw [if_pos hew] at h
          rw [if_pos (by simpa using hew)]
          exact .inl (wp_mono' fin (run _ (cact_bop hbm hn h)))
        · rw [if_neg hew] at h
          rw [if_neg (by simpa using hew)]
          exact fin _ _ ⟨⟨_, h, skip_stt hst' _⟩, fun s hs => put_keep a o.dst _ s hs⟩
      · rename_i he
        have hst' := hst
        obtain ⟨_, S, c, hr, _⟩ := hst
        obtain ⟨v, c1, c2, hv, hy, h2, hc⟩ := hr.take t (rep_at hr he (by simp))
        have e1 : v = .tuple #[] := by
          cases hy with | tup h1 h hcc => obtain ⟨rfl, _⟩ := h1.zero; rfl
        have hyl : yielded ops a.tmps j = none := by
          unfold yielded
          unfold gslot at ht
          rw [ht]
          simp only [Option.bind_some]
          rw [← Array.getElem?_toList, hv, e1]
        have hwant : Region.wanted o (yielded ops a.tmps) = false := by simp [Region.wanted, hgd, hyl]
        rw [hwant, if_neg (by simp)]
        exact fin _ _ ⟨⟨_, h, skip_stt hst' _⟩, fun s hs => put_keep a o.dst _ s hs⟩
      · exact h.elim
    · cases hg

theorem draw_sound (hT : TabOk P T) {ops : Array Oper} {cs : List CO} (hcs : cops ops ops.toList = some cs) (hc : dchk ops.toList cs rb sh bm = true) {Q : Exit → Act → World → Prop} {fr : List Nat}
    (hfr : ∀ s ∈ fr, ∀ o ∈ ops.toList, o.dst ≠ some s) {K : List AV → Prop} :
    ∀ (fuel : Nat) (listed : Array Bool) (σ : List AV) (a : Act) (w : World), listed.size = ops.size → (rem ops.size listed).length = fuel →
      (∀ j oj, ops[j]? = some oj → listed.getD j false = true → ∀ e ∈ oj.after, Region.binds .any e = true → listed.getD e.on false = true) →
      Stt dfs w0 S0 c0 σ a w → Nr bm σ → dl P T sh rb bm cs K (rem ops.size listed) σ →
      (∀ σ' a' w', Stt dfs w0 S0 c0 σ' a' w' → K σ' → (∀ s ∈ fr, a'.tmps[s]? = a.tmps[s]?) → Q .normal a' w') → wpAny P .any ops Q fuel listed a w := by
  have hmem : ∀ {listed : Array Bool} {i : Nat}, i ∈ Region.ready .any ops listed → i ∈ rem ops.size listed := by
    intro listed i hi
    obtain ⟨h1, o, ho, _⟩ := mem_ready.1 hi
    have := (Array.getElem?_eq_some_iff.1 ho).1
    simp [rem, this]
    simpa using h1
  intro fuel
  induction fuel with
  | zero =>
    intro listed σ a w hsz hlen hcl hst hn h hQ
    have h0 : rem ops.size listed = [] := List.eq_nil_of_length_eq_zero hlen
    refine ⟨?_, ?_⟩
    · cases hr : Region.ready .any ops listed with
      | nil => rfl
      | cons x xs =>
        have := hmem (i := x) (by rw [hr]; simp)
        rw [h0] at this
        cases this
    · rw [h0] at h
      exact hQ σ a w hst h (fun _ _ => rfl)
  | succ fuel ih =>
    intro listed σ a w hsz hlen hcl hst hn h hQ
    refine ⟨fun hr => ?_, fun i hi => ?_⟩
    · -- the first that is left is ready
      exfalso
      match hrm : rem ops.size listed with
      | [] => rw [hrm] at hlen; simp at hlen
      | i :: rest =>
        have hi : i ∈ rem ops.size listed := by rw [hrm]; simp
        have hi' := hi
        simp only [rem, List.mem_filter, List.mem_range] at hi'
        have hready : i ∈ Region.ready .any ops listed := by
          refine mem_ready.2 ⟨by simpa using hi'.2, ops[i], by simp [hi'.1], fun e he hb => ?_⟩
          obtain ⟨c, _, h1, _⟩ := dchk_at hc (i := i) (o := ops[i]) (by simp [hi'.1])
          have hlt := h1 e.on (mem_preds.2 ⟨e, he, hb, rfl⟩)
          cases hl : listed.getD e.on false with
          | true => rfl
          | false =>
            have hin : e.on ∈ rem ops.size listed := by
              simp only [rem, List.mem_filter, List.mem_range]
              refine ⟨by omega, ?_⟩
              have := getD_in (listed := listed) (i := e.on) (by rw [hsz]; omega) hl
              rw [this]; rfl
            rw [hrm] at hin
            have hs := rem_sorted ops.size listed
            rw [hrm] at hs
            rcases List.mem_cons.1 hin with h | h
            · omega
            · have := (List.pairwise_cons.1 hs).1 _ h
              omega
        rw [hr] at hready
        cases hready
    · have hir := hmem hi
      obtain ⟨hun, o, ho, hall⟩ := mem_ready.1 hi
      obtain ⟨A, B, hAB, hA, hB⟩ := split_at (rem_sorted ops.size listed) hir
      have hl : ops.toList[i]? = some o := by simpa using ho
      obtain ⟨g, hg, hci⟩ := (cops_get hcs).2 i o hl
      obtain ⟨c, hci', h1, h2, h3, h4⟩ := dchk_at hc hl
      have hcc : c = ⟨o.dst, o.op, g⟩ := Option.some.inj (hci'.symm.trans hci)
      subst hcc
      have hanc := anc_listed hc hcl i ho hall
      have hfront := dl_front (P := P) (T := T) (K := K) hci A B hn (fun b hb cb hcb => by
        rcases h3 b (hA b hb) with h | ⟨cb', hcb', hind⟩
        · have hb1 := hanc b h
          have hbm : b ∈ rem ops.size listed := by rw [hAB]; simp [hb]
          simp only [rem, List.mem_filter, List.mem_range] at hbm
          have := getD_both (listed := listed) (i := b) (by simpa using hbm.2)
          rw [this] at hb1
          cases hb1
        · rw [hcb] at hcb'
          injection hcb' with hcb'
          subst hcb'
          exact hind) (by rw [← hAB]; exact h)
      rw [← rem_set hsz hAB hA hB] at hfront
      refine stp_sound hT ho hg h4 (fun s hs => hfr s hs o (List.mem_of_getElem? hl)) hst hn hfront fun σ' a' w' g1 g2 g3 g4 => ?_
      refine ih _ σ' a' w' (by simp [hsz]) ?_ ?_ g1 g2 g3 fun σ'' a'' w'' k1 k2 k3 => hQ σ'' a'' w'' k1 k2 fun s hs => (k3 s hs).trans (g4 s hs)
      · rw [rem_set hsz hAB hA hB]
        rw [hAB] at hlen
        simp at hlen ⊢
        omega
      · intro j oj hj hlj e he hb
        by_cases hij : i = j
        · subst hij
          have : oj = o := Option.some.inj (hj.symm.trans ho)
          subst this
          exact getD_set_true (hall e he hb)
        · rw [getD_set_ne false hij] at hlj
          exact getD_set_true (hcl j oj hj hlj e he hb)
end
end Go.Proofs.Ytohelofjlkoboaa
