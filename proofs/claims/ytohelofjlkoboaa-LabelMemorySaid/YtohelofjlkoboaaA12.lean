/- Code of which some regions are walked by hand; a slice in a box, lent to the rest of a region. -/
import Derived.Test.YtohelofjlkoboaaA11
namespace Go.Proofs.Ytohelofjlkoboaa
open Go.RowKit
set_option linter.unusedVariables false
set_option linter.unusedSimpArgs false
set_option linter.unusedSectionVars false
variable [Env]
variable {dfs : List Deferred}

/-- Code: what cwp knows, and regions that are left to a theorem of their own. -/
inductive CX where
  | base (c : CC)
  | ext (c : Code)
  | seq (a b : CX)
  | cond (c : Operand) (x y : CX)
  | block (id : Nat) (c : CX)
  | loop (c : CX)
  | scope (c : CX)
def inE : List Nat → Nat → Bool
  | [], _ => false
  | k :: r, id => if k = id then true else inE r id
def esc (E : List Nat) : Code → Bool
  | .region id _ _ => inE E id
  | .seq a b => esc E a || esc E b
  | .cond _ a b => esc E a || esc E b
  | .block _ c => esc E c
  | .loop c => esc E c
  | .scope c => esc E c
  | _ => false
def mkB : Option CC → Option CX
  | some c => some (.base c)
  | none => none
def mkX2 (f : CX → CX → CX) : Option CX → Option CX → Option CX
  | some x, some y => some (f x y)
  | _, _ => none
def mkX1 (f : CX → CX) : Option CX → Option CX
  | some x => some (f x)
  | none => none
def compX (A : Ann) (E : List Nat) : Code → Option CX
  | .region id ops dr => bif inE E id then some (.ext (.region id ops dr)) else mkB (comp A (.region id ops dr))
  | .seq a b => bif esc E a || esc E b then mkX2 .seq (compX A E a) (compX A E b) else mkB (comp A (.seq a b))
  | .cond c a b => bif esc E a || esc E b then mkX2 (.cond c) (compX A E a) (compX A E b) else mkB (comp A (.cond c a b))
  | .block id c => bif esc E c then mkX1 (.block id) (compX A E c) else mkB (comp A (.block id c))
  | .loop c => bif esc E c then mkX1 .loop (compX A E c) else mkB (comp A (.loop c))
  | .scope c => bif esc E c then mkX1 .scope (compX A E c) else mkB (comp A (.scope c))
  | .skip => mkB (comp A .skip)
  | .exit id => mkB (comp A (.exit id))
  | .label l => mkB (comp A (.label l))
  | .ret => mkB (comp A .ret)
  | _ => none
def cokX (A : Ann) (E : List Nat) : Code → Bool
  | .region id ops dr => inE E id || cok A (.region id ops dr)
  | .seq a b => cokX A E a && cokX A E b
  | .cond _ a b => cokX A E a && cokX A E b
  | .block _ c => cokX A E c
  | .loop c => cokX A E c
  | .scope c => cokX A E c
  | _ => true
theorem cokX_cok {A : Ann} {E : List Nat} : ∀ (c : Code), esc E c = false → cokX A E c = true → cok A c = true
  | .region id ops dr, h1, h2 => by
    simp only [esc] at h1
    simp only [cokX, h1, Bool.false_or] at h2
    exact h2
  | .seq a b, h1, h2 => by
    simp only [esc, Bool.or_eq_false_iff] at h1
    simp only [cokX, Bool.and_eq_true] at h2
    simp only [cok, cokX_cok a h1.1 h2.1, cokX_cok b h1.2 h2.2, Bool.and_self]
  | .cond _ a b, h1, h2 => by
    simp only [esc, Bool.or_eq_false_iff] at h1
    simp only [cokX, Bool.and_eq_true] at h2
    simp only [cok, cokX_cok a h1.1 h2.1, cokX_cok b h1.2 h2.2, Bool.and_self]
  | .block _ c, h1, h2 => by simp only [cok]; exact cokX_cok c h1 h2
  | .loop c, h1, h2 => by simp only [cok]; exact cokX_cok c h1 h2
  | .scope c, h1, h2 => by simp only [cok]; exact cokX_cok c h1 h2
  | .skip, _, _ => rfl
  | .exit _, _, _ => rfl
  | .label _, _, _ => rfl
  | .ret, _, _ => rfl
  | .rangeFunc .., _, _ => rfl
  | .goto .., _, _ => rfl
  | .refuse .., _, _ => rfl

def cwpX (P : Program) (T : Tab) : CX → (Exit → List AV → Prop) → List AV → Prop
  | .base c, Q, σ => cwp P T c Q σ
  | .ext c, Q, σ => ∀ (dfs : List Deferred) (w0 : World) (S0 c0 : Nat → Nat) (a : Act) (w : World), Stt dfs w0 S0 c0 σ a w → c.wp P (lift dfs w0 S0 c0 Q) a w
  | .seq x y, Q, σ => cwpX P T x (xseq (cwpX P T y Q) Q) σ
  | .cond c x y, Q, σ => ccond (aev σ c) (cwpX P T x Q σ) (cwpX P T y Q σ)
  | .block id c, Q, σ => cwpX P T c (xblk id Q) σ
  | .loop c, Q, σ => ∃ I : Nat → List AV → Prop, (∃ n σ1, Wk σ σ1 ∧ I n σ1) ∧ ∀ n σ1, I n σ1 → cwpX P T c (xseq (fun σ2 => ∃ m σ3, m < n ∧ Wk σ2 σ3 ∧ I m σ3) Q) σ1
  | .scope c, Q, σ => cwpX P T c (xsco Q) σ
section
variable {P : Program} {T : Tab} {w0 : World} {S0 c0 : Nat → Nat}
theorem mkB_sound (hT : TabOk P T) (hm : P.follows .mixedOrders = true) {A : Ann} {E : List Nat} (c : Code) (d : CX) (hd : mkB (comp A c) = some d) (he : esc E c = false) (hk : cokX A E c = true) (Q : Exit → List AV → Prop) (σ : List AV) (a : Act) (w : World)
    (hst : Stt dfs w0 S0 c0 σ a w) (h : cwpX P T d Q σ) : c.wp P (lift dfs w0 S0 c0 Q) a w := by
  unfold mkB at hd
  split at hd
  · rename_i d' hd'
    injection hd with hd
    subst hd
    exact cwp_sound hT hm c d' hd' (cokX_cok c he hk) Q σ a w hst h
  · cases hd
theorem mkX2_spec {f : CX → CX → CX} {x y : Option CX} {d : CX} (h : mkX2 f x y = some d) : ∃ x' y', x = some x' ∧ y = some y' ∧ d = f x' y' := by
  unfold mkX2 at h
  split at h
  · injection h with h; exact ⟨_, _, rfl, rfl, h.symm⟩
  · cases h
theorem mkX1_spec {f : CX → CX} {x : Option CX} {d : CX} (h : mkX1 f x = some d) : ∃ x', x = some x' ∧ d = f x' := by
  unfold mkX1 at h
  split at h
  · injection h with h; exact ⟨_, rfl, h.symm⟩
  · cases h
theorem cwpX_sound (hT : TabOk P T) (hm : P.follows .mixedOrders = true) {A : Ann} {E : List Nat} : ∀ (c : Code) (d : CX), compX A E c = some d → cokX A E c = true → ∀ (Q : Exit → List AV → Prop) (σ : List AV) (a : Act) (w : World), Stt dfs w0 S0 c0 σ a w → cwpX P T d Q σ → c.wp P (lift dfs w0 S0 c0 Q) a w
  | .skip, d, hd, hk, Q, σ, a, w, hst, h => mkB_sound (E := E) hT hm .skip d hd rfl hk Q σ a w hst h
  | .exit id, d, hd, hk, Q, σ, a, w, hst, h => mkB_sound (E := E) hT hm (.exit id) d hd rfl hk Q σ a w hst h
  | .label l, d, hd, hk, Q, σ, a, w, hst, h => mkB_sound (E := E) hT hm (.label l) d hd rfl hk Q σ a w hst h
  | .ret, d, hd, hk, Q, σ, a, w, hst, h => mkB_sound (E := E) hT hm .ret d hd rfl hk Q σ a w hst h
  | .region id ops dr, d, hd, hk, Q, σ, a, w, hst, h => by
    simp only [compX] at hd
    cases he : inE E id with
    | true =>
      rw [he] at hd
      simp only [cond_true] at hd
      injection hd with hd
      subst hd
      exact h dfs w0 S0 c0 a w hst
    | false =>
      rw [he] at hd
      exact mkB_sound hT hm _ d hd he hk Q σ a w hst h
  | .seq x y, d, hd, hk, Q, σ, a, w, hst, h => by
    simp only [compX] at hd
    cases he : (esc E x || esc E y) with
    | false => rw [he] at hd; exact mkB_sound hT hm _ d hd he hk Q σ a w hst h
    | true =>
      rw [he] at hd
      simp only [cokX, Bool.and_eq_true] at hk
      obtain ⟨x', y', hx, hy, rfl⟩ := mkX2_spec hd
      refine wp_seq (wp_mono (cwpX_sound hT hm x x' hx hk.1 _ σ a w hst h) fun e a w hq => ?_)
      obtain ⟨σ', hq, hs'⟩ := hq
      cases e with
      | normal => exact cwpX_sound hT hm y y' hy hk.2 Q σ' a w hs' hq
      | _ => exact ⟨σ', hq, hs'⟩
  | .cond c x y, d, hd, hk, Q, σ, a, w, hst, h => by
    simp only [compX] at hd
    cases he : (esc E x || esc E y) with
    | false => rw [he] at hd; exact mkB_sound hT hm _ d hd he hk Q σ a w hst h
    | true =>
      rw [he] at hd
      simp only [cokX, Bool.and_eq_true] at hk
      obtain ⟨x', y', hx, hy, rfl⟩ := mkX2_spec hd
      simp only [cwpX, ccond] at h
      split at h
      · rename_i e he
        have hst' := hst
        obtain ⟨_, S, cc, hr, _⟩ := hst
        obtain ⟨cx, hrx⟩ := aev_rep hr c
        rw [he] at hrx
        have e1 := (rep_raw hrx).1
        exact wp_cond_split e1 (fun ht => cwpX_sound hT hm x x' hx hk.1 Q σ a w hst' (h.1 ht)) (fun hf => cwpX_sound hT hm y y' hy hk.2 Q σ a w hst' (h.2 hf))
      · exact h.elim
  | .block id c, d, hd, hk, Q, σ, a, w, hst, h => by
    simp only [compX] at hd
    cases he : esc E c with
    | false => rw [he] at hd; exact mkB_sound hT hm _ d hd he hk Q σ a w hst h
    | true =>
      rw [he] at hd
      simp only [cokX] at hk
      obtain ⟨x', hx, rfl⟩ := mkX1_spec hd
      refine wp_block (wp_mono (cwpX_sound hT hm c x' hx hk _ σ a w hst h) fun e a w hq => ?_)
      obtain ⟨σ', hq, hs'⟩ := hq
      cases e with
      | exit id' =>
        simp only [xblk] at hq
        simp only [Exit.inBlock]
        split
        · rename_i hid; rw [if_pos hid] at hq; exact ⟨σ', hq, hs'⟩
        · rename_i hid; rw [if_neg hid] at hq; exact ⟨σ', hq, hs'⟩
      | _ => exact ⟨σ', hq, hs'⟩
  | .loop c, d, hd, hk, Q, σ, a, w, hst, h => by
    simp only [compX] at hd
    cases he : esc E c with
    | false => rw [he] at hd; exact mkB_sound hT hm _ d hd he hk Q σ a w hst h
    | true =>
      rw [he] at hd
      simp only [cokX] at hk
      obtain ⟨x', hx, rfl⟩ := mkX1_spec hd
      obtain ⟨I, ⟨n0, σ1, hw, hI⟩, hround⟩ := h
      classical
      let J : Act → World → Nat → Prop := fun a w n => ∃ σ, I n σ ∧ Stt dfs w0 S0 c0 σ a w
      refine wp_loop (fun a w => ∃ n, J a w n) (fun a w => if h : ∃ n, J a w n then Classical.choose (least h) else 0) ⟨n0, σ1, hI, hw.stt hst⟩ fun a w hJ => ?_
      obtain ⟨σ', hI', hst'⟩ := (Classical.choose_spec (least hJ)).1
      refine wp_mono (cwpX_sound hT hm c x' hx hk _ σ' a w hst' (hround _ σ' hI')) fun e a' w' hq => ?_
      obtain ⟨σ2, hq, hs2⟩ := hq
      cases e with
      | normal =>
        obtain ⟨m, σ3, hm, hw3, hI3⟩ := hq
        have hJ' : J a' w' m := ⟨σ3, hI3, hw3.stt hs2⟩
        have hex : ∃ n, J a' w' n := ⟨m, hJ'⟩
        refine ⟨hex, ?_⟩
        simp only [dif_pos hex, dif_pos hJ]
        exact Nat.lt_of_le_of_lt ((Classical.choose_spec (least hex)).2 m hJ') hm
      | _ => exact ⟨σ2, hq, hs2⟩
  | .scope c, d, hd, hk, Q, σ, a, w, hst, h => by
    simp only [compX] at hd
    cases he : esc E c with
    | false => rw [he] at hd; exact mkB_sound hT hm _ d hd he hk Q σ a w hst h
    | true =>
      rw [he] at hd
      simp only [cokX] at hk
      obtain ⟨x', hx, rfl⟩ := mkX1_spec hd
      refine wp_scope_straight (wp_mono (cwpX_sound hT hm c x' hx hk _ σ a w hst h) fun e a w hq => ?_)
      obtain ⟨σ', hq, hs'⟩ := hq
      cases e with
      | goto l => exact hq.elim
      | _ => exact ⟨σ', hq, hs'⟩
  | .rangeFunc .., d, hd, hk, Q, σ, a, w, hst, h => by simp [compX] at hd
  | .goto .., d, hd, hk, Q, σ, a, w, hst, h => by simp [compX] at hd
  | .refuse .., d, hd, hk, Q, σ, a, w, hst, h => by simp [compX] at hd
theorem acalls_ofX (hT : TabOk P T) (hm : P.follows .mixedOrders = true) {A : Ann} {E : List Nat} {f : Nat} {fn : Func} {code : Code} {d : CX} {args : List AV} {R : AV → Prop} (hf : P.funcs[f]? = some fn) (hb : fn.body = some code) (hcd : compX A E code = some d) (hck : cokX A E code = true) (hn : (fn.name == "runtime.NumGoroutine") = false) (hR : ∃ r, R r) (hpa : args.all pb = true) {nt : Nat} (hnt : fn.ntmps = nt) {rs : List ResultVar} (hrs : fn.results.toList = rs)
    (h : cwpX P T d (afin T rs R) (args ++ List.replicate (nt - args.length) .any)) : ACalls P f args R := by
  refine ⟨⟨fn, code, hf, hb, hn⟩, hR, fun w S vs c hz hr hc => ?_⟩
  have hl := hr.length
  refine calls_of_wp hf hb (wp_mono (cwpX_sound (dfs := []) (w0 := w) (S0 := S) (c0 := c) hT hm code d hcd hck _ _ _ w ?_ h) fun e a w' hq => ?_)
  · refine ⟨?_, S, c, ?_, hc, rfl, hz, Stp.refl w S c⟩
    · have hno : ∀ {i : Nat} {x : AV}, (args ++ List.replicate (nt - args.length) .any)[i]? = some x → pb x = true := by
        intro i x hi
        rcases List.mem_append.1 (List.mem_of_getElem? hi) with h | h
        · exact List.all_eq_true.1 hpa _ h
        · rw [List.eq_of_mem_replicate h]; rfl
      exact ⟨fun i s off T cs hi hs => by have := hno hi; simp [pb] at this, fun i s e k es hi hs => by have := hno hi; simp [pb] at this, fun i s k j o e k' es hi hs => by have := hno hi; simp [pb] at this⟩
    have hun : ∀ n, RepC w S (List.replicate n .any) (List.replicate n undef) (fun _ => 0) := by
      intro n
      induction n with
      | zero => exact .nil zc0
      | succ n ih => exact .any ih
    have := RepC.app hr (hun (nt - args.length)) (c := c) (fun b => by simp)
    simpa [hnt, hl] using this
  · obtain ⟨σ, hq, hst⟩ := hq
    have fin : ares T rs σ (fun vs => R (match vs with
        | [v] => v
        | vs => .tup vs)) → a.defers = [] ∧ ∃ v, (results fn a.tmps).run P w' = .ok v w' ∧
        ∃ v' r S' c', Ending.returned v = .returned v' ∧ R r ∧ pb r = true ∧ RepC w' S' [r] [v'] c' ∧ (∀ b, c' b ≤ 1) ∧ Sz w' S' ∧ Stp w S c w' S' c' := by
      intro hq
      obtain ⟨_, S', c', hr', h1, hd, hz', hs⟩ := hst
      obtain ⟨rvs, us, cv, hrun, hK, hv, hle, hul, hpb⟩ := ares_sound hT rs σ c' _ hr' hq
      have hm : (fn.results.mapM (resOne a.tmps)).run P w' = .ok us.toArray w' := by
        have he : fn.results = rs.toArray := by apply Array.ext'; simp [hrs]
        rw [he, List.mapM_toArray]
        simp [hrun]
      refine ⟨hd, (if h : us.toArray.size = 1 then us.toArray[0] else .tuple us.toArray), ?_, _, _, S', cv, rfl, hK, ?_, ?_, fun b => Nat.le_trans (hle b) (h1 b), hz', hs.drop hle⟩
      · rw [results_eq]
        simp only [Sem.run_bind, hm, Result.andThen_ok, Sem.run_pure]
      · match rvs, hpb with
        | [], _ => rfl
        | [v], hpb => exact hpb v (by simp)
        | v :: v' :: rvs, _ => rfl
      · have hvl := hv.length
        match us, rvs, hvl, hv with
        | [], [], _, hv => exact RepC.tup hv (.nil zc0) (fun b => by simp)
        | [u], [v], _, hv => exact hv
        | u :: u' :: us, v :: v' :: rvs, _, hv => exact RepC.tup hv (.nil zc0) (fun b => by simp)
    cases e with
    | normal => exact fin hq
    | ret => exact fin hq
    | _ => exact hq.elim
/-- A function's contract, out of its code in short. -/
theorem calls_shortX (A : Ann) (E : List Nat) (hT : TabOk P T) (hm : P.follows .mixedOrders = true) {f : Nat} {fn : Func} {args : List AV} {R : AV → Prop} {d : CX} {nt : Nat} {rs : Array ResultVar} (hf : P.funcs[f]? = some fn) (hn : (fn.name == "runtime.NumGoroutine") = false)
    (hck : (fn.body.map (cokX A E)) = some true) (hd : fn.body.bind (compX A E) = some d) (hnt : fn.ntmps = nt) (hrs : fn.results = rs) (hR : ∃ r, R r) (hpa : args.all pb = true) (h : cwpX P T d (afin T rs.toList R) (args ++ List.replicate (nt - args.length) .any)) : ACalls P f args R := by
  cases hb : fn.body with
  | none => rw [hb] at hd; cases hd
  | some code =>
    rw [hb] at hd hck
    exact acalls_ofX hT hm hf hb hd (by simpa using hck) hn hR hpa hnt (by rw [hrs]) h

/-! ## a slice in a box, lent to the rest of a region -/
def kr (s : Nat) (x : AV) : AV := bif nrf s x then x else .any
theorem kr_nrf (s : Nat) (x : AV) : nrf s (kr s x) = true := by
  unfold kr
  cases h : nrf s x
  · rfl
  · exact h
theorem kr_wk (s : Nat) : ∀ (xs : List AV), Wk xs (xs.map (kr s))
  | [] => .nil
  | x :: xs => by
    rw [List.map_cons]
    unfold kr
    cases h : nrf s x
    · exact .cons (W1.any x) rfl (kr_wk s xs)
    · exact .same (kr_wk s xs)
def lbk1 (x : AV) (s d2 Te : Nat) (cs : List AV) (K : List AV → Prop) (σ : List AV) : Prop := match x with
  | .mine e k es => K (((σ.map (kr s)).set d2 .any).set s (.box Te (.mine e k es :: cs)))
  | .own e k es => K (((σ.map (kr s)).set d2 .any).set s (.box Te (.own e k es :: cs)))
  | _ => False
def lbk (s d2 Te : Nat) (cs : List AV) (K : List AV → Prop) (σ : List AV) : Prop := lbk1 (σ.getD d2 .any) s d2 Te cs K σ
def lnd2 (x : AV) (P : Program) (T : Tab) (ts2 : List Nat) (s d1 d2 : Nat) (l : List CO) (K : List AV → Prop) (σ : List AV) : Prop := match x with
  | .box Te (.mine e k es :: cs) => twp [100000 + d2] (copl P T (twp ts2 (lbk s d2 Te cs K)) l) (((σ.set s .any).set d1 .any).set d2 (.mine e k es))
  | _ => False
def lokd (s d1 d2 n : Nat) (os : List Oper) : Bool := (d1 != s && d2 != s && d1 != d2 && Nat.blt d1 n && Nat.blt d2 n) && os.all (fun o => o.dst != some s && o.dst != some d2)
theorem cwpX_lends (ts2 : List Nat) (hT : TabOk P T) {id : Nat} {ops : Array Oper} {o1 o2 : Oper} {os : List Oper} {l : List CO} {T1 t s d1 d2 n : Nat} {ag : Bool} {i1 i2 : TI} {σ : List AV} {Q : Exit → List AV → Prop}
    (hops : ops.toList = o1 :: o2 :: os) (hcs : cops ops os = some l) (ho1 : o1.op = .fieldAddr T1 (.tmp s) 0) (hd1 : o1.dst = some d1) (hg1 : o1.guard = none) (ho2 : o2.op = .load t (.tmp d1)) (hd2 : o2.dst = some d2) (hg2 : o2.guard = none)
    (hi1 : T T1 = some i1) (hf : i1.td.flds[0]? = some (0, some n, some ag)) (hn : n ≠ 0) (hi2 : T t = some i2) (hagg : i2.td.agg = false) (hok : lokd s d1 d2 σ.length os = true)
    (h : lnd2 (σ.getD s .any) P T ts2 s d1 d2 l (Q .normal) σ) : cwpX P T (.ext (.region id ops false)) Q σ := by
  intro dfs w0 S0 c0 a w hst
  simp only [lokd, Bool.and_eq_true, bne_iff_ne, ne_eq, Nat.blt_eq, List.all_eq_true] at hok
  obtain ⟨⟨⟨⟨⟨hds1, hds2⟩, hd12⟩, hl1⟩, hl2⟩, hos⟩ := hok
  unfold lnd2 at h
  split at h
  · rename_i Te e k es cs hx
    obtain ⟨hrf, S, cc, hr, h1, hd, hz, hs⟩ := hst
    obtain ⟨b, cur, d0, c2, hev, hb, hS, hcs', hone, hr2, hcc, hv⟩ := take_box hr hx
    obtain ⟨v, rest, e1, e2, hcv, hm, hrest, hde⟩ := hcs'.uncons
    obtain ⟨fs, fd, hu, hfd, hoff, hsz, hag⟩ := fld_get (hT T1 i1 hi1) hf
    have hrun1 : (execOp a.eval o1).run P w = .ok (.value (.pointer (some ⟨b, 0, none⟩))) w := by
      unfold execOp
      simp [ho1, hev, Instr.fieldAt, run_underlying hu, hfd, Instr.sureAddr, fplace hsz hn, add_mk, hoff]
    have hat : ∀ j, ops[j + 2]? = os[j]? := fun j => by rw [← Array.getElem?_toList, hops]; rfl
    have hg0 : ops[0]? = some o1 := by rw [← Array.getElem?_toList, hops]; rfl
    have hg1' : ops[1]? = some o2 := by rw [← Array.getElem?_toList, hops]; rfl
    have hsize : ops.size = os.length + 2 := by rw [← Array.length_toList, hops]; rfl
    refine wp_region ?_
    rw [hsize, List.range_succ_eq_map, List.range_succ_eq_map, List.map_cons]
    have hw1 : Region.wanted o1 (yielded ops a.tmps) = true := by simp [Region.wanted, hg1]
    simp only [wpOps, hg0]
    rw [if_pos hw1]
    refine .inl (wp_value hrun1 ?_)
    rw [hd1]
    obtain ⟨a1, ha1⟩ : ∃ a1, a.put (some d1) (.pointer (some ⟨b, 0, none⟩)) = a1 := ⟨_, rfl⟩
    have ht1 : a1.tmps.toList = a.tmps.toList.set d1 (.pointer (some ⟨b, 0, none⟩)) := by rw [← ha1, put_tmps]
    have hdf1 : a1.defers = dfs := by rw [← ha1, put_defers]; exact hd
    rw [ha1]
    have hal : a.tmps.toList.length = σ.length := hr.length
    have hev1 : a1.eval (.tmp d1) = .pointer (some ⟨b, 0, none⟩) := eval_tmp (by rw [ht1, List.getElem?_set_self (by omega)])
    have hl1' : lsz i2 = 1 := by unfold lsz; rw [hagg]; rfl
    have hrun2 := run_loadBox (P := P) (t := t) (off := 0) (n := 1) (hT t i2 hi2) hb hl1'.symm (by rw [← Array.length_toList, hcv]; simp)
    rw [hagg, hcv] at hrun2
    simp only [Bool.false_eq_true, if_false, List.drop_zero, List.take_succ_cons, List.take_zero, List.headD_cons] at hrun2
    have hexec2 : (execOp a1.eval o2).run P w = .ok (.value v) w := by
      unfold execOp
      simp [ho2, hev1, hrun2]
    simp only [wpOps, Nat.succ_eq_add_one, Nat.zero_add, hg1']
    have hw2 : Region.wanted o2 (yielded ops a1.tmps) = true := by simp [Region.wanted, hg2]
    rw [if_pos hw2]
    refine .inl (wp_value hexec2 ?_)
    rw [hd2]
    obtain ⟨a2, ha2⟩ : ∃ a2, a1.put (some d2) v = a2 := ⟨_, rfl⟩
    have ht2 : a2.tmps.toList = a1.tmps.toList.set d2 v := by rw [← ha2, put_tmps]
    have hdf2 : a2.defers = dfs := by rw [← ha2, put_defers]; exact hdf1
    rw [ha2]
    have hsl : s < σ.length := (List.getElem?_eq_some_iff.1 (rep_at hr hx (by simp))).1
    -- the hidden state
    obtain ⟨c3, hr3, hle3⟩ := hr2.put (y := .any) (u := .pointer (some ⟨b, 0, none⟩)) (cy := fun _ => 0) (.any (.nil zc0)) d1 (by simpa using hl1)
    rw [← ht1] at hr3
    obtain ⟨c4, hr4, hle4⟩ := hr3.put hm d2 (by simpa using hl2)
    rw [← ht2] at hr4
    have hrf2 : RefOk (((σ.set s .any).set d1 .any).set d2 (.mine e k es)) a2.tmps.toList := by
      rw [ht2, ht1]
      exact ((hrf.less s (y := .any) rfl).set d1 _ (y := .any) rfl).set d2 v rfl
    have hbound : ∀ x, (if x = b then 1 else 0) + e2 x + c4 x ≤ 1 := fun x => by
      have := h1 x; have := hcc x; have := hle3 x; have := hle4 x; have := hde x; omega
    have hbs : b < w.heap.size := (Array.getElem?_eq_some_iff.1 hb).1
    have hb0 : c4 b = 0 := by have := hbound b; simp at this; omega
    have hst2 : Stt dfs w S c4 (((σ.set s .any).set d1 .any).set d2 (.mine e k es)) a2 w := ⟨hrf2, S, c4, hr4, fun x => by have := hbound x; omega, hdf2, hz, Stp.refl w S c4⟩
    obtain ⟨σ3, h3, hst3⟩ := twp_sound _ hst2 h
    rw [← copl_eq _ _ _ hcs] at h3
    have hvs2 : a2.tmps[s]? = some (.pointer (some ⟨b, 0, none⟩)) := by
      rw [← Array.getElem?_toList, ht2, set_other hds2, ht1, set_other hds1]; exact hv
    have hvd2 : a2.tmps[d2]? = some v := by
      rw [← Array.getElem?_toList, ht2, List.getElem?_set_self (by rw [ht1, List.length_set]; omega)]
    refine aopl_sound (fr := [s, d2]) hT _ os σ3 a2 w ?_ ?_ hst3 h3 fun σ4 a' w' hst4 hK hkeep => ?_
    · apply List.ext_getElem?
      intro j
      simp only [List.getElem?_map, Option.map_map]
      rcases Nat.lt_or_ge j os.length with hj | hj
      · rw [List.getElem?_range hj, List.getElem?_eq_getElem hj]
        simp only [Option.map_some, Function.comp_apply, Nat.succ_eq_add_one]
        rw [hat j, List.getElem?_eq_getElem hj]
      · rw [List.getElem?_eq_none (by simpa using hj), List.getElem?_eq_none hj]
        rfl
    · intro s' hs' o ho
      have := hos o ho
      rcases List.mem_cons.1 hs' with rfl | hs'
      · exact this.1
      · rcases List.mem_cons.1 hs' with rfl | hs'
        · exact this.2
        · cases hs'
    · obtain ⟨σ5, h5, hst5⟩ := twp_sound _ hst4 hK
      have hst6 := (kr_wk s σ5).stt hst5
      have hall : (σ5.map (kr s)).all (nrf s) = true := by
        rw [List.all_map]
        exact List.all_eq_true.2 fun x _ => kr_nrf s x
      obtain ⟨x5, hx5, hkx, h5⟩ : ∃ x5, σ5.getD d2 .any = x5 ∧ (x5 ≠ .any ∧ kr s x5 = x5) ∧ Q .normal (((σ5.map (kr s)).set d2 .any).set s (.box Te (x5 :: cs))) := by
        unfold lbk lbk1 at h5
        split at h5
        · rename_i e' k' es' hx5; exact ⟨_, hx5, ⟨by simp, rfl⟩, h5⟩
        · rename_i e' k' es' hx5; exact ⟨_, hx5, ⟨by simp, rfl⟩, h5⟩
        · exact h5.elim
      obtain ⟨hrf6, S', c6, hr6, h16, hd6, hz6, hstp⟩ := hst6
      have hx6 : (σ5.map (kr s))[d2]? = some x5 := by
        rw [List.getElem?_map]
        rw [List.getD_eq_getElem?_getD] at hx5
        cases hq : σ5[d2]? with
        | none => rw [hq] at hx5; exact absurd hx5.symm hkx.1
        | some y => rw [hq] at hx5; simp only [Option.getD_some] at hx5; subst hx5; rw [Option.map_some, hkx.2]
      obtain ⟨v', f1, f2, hv', hm', hr7, hff⟩ := hr6.take d2 hx6
      have hvv : v' = v := by
        have := hkeep d2 (by simp)
        rw [hvd2, ← Array.getElem?_toList, hv'] at this
        injection this
      subst hvv
      have hvs' : a'.tmps.toList[s]? = some (.pointer (some ⟨b, 0, none⟩)) := by
        rw [Array.getElem?_toList, hkeep s (by simp)]; exact hvs2
      have hkb := hstp.keep b hbs hb0
      have hrest' : RepC w' S' cs rest e2 := hrest.step hstp fun x => by have := hbound x; omega
      have hbox : RepC w' S' [.box Te (x5 :: cs)] [.pointer (some ⟨b, 0, none⟩)] (fun x => (if x = b then 1 else 0) + (f1 x + e2 x)) :=
        .box (c2 := fun _ => 0) (hkb.1.trans hb) (hkb.2.trans hS) (by rw [hcv]; exact RepC.cons hm' hrest' fun x => rfl) hone (.nil zc0) (fun x => by simp)
      have hsl5 : s < (σ5.map (kr s)).length := by
        have g1 := hr6.length
        have g2 := (List.getElem?_eq_some_iff.1 hvs').1
        omega
      obtain ⟨cb, hrb, hle⟩ := hr7.put hbox s (by simpa using hsl5)
      rw [list_set_same hvs'] at hrb
      have hrfb : RefOk (((σ5.map (kr s)).set d2 .any).set s (.box Te (x5 :: cs))) a'.tmps.toList := by
        have := (hrf6.less d2 (y := .any) rfl).newbox (d := s) Te (x5 :: cs) (.pointer (some ⟨b, 0, none⟩)) (List.all_eq_true.2 fun x hx => by
          rcases List.mem_or_eq_of_mem_set hx with hx | rfl
          · exact List.all_eq_true.1 hall x hx
          · rfl)
        rwa [list_set_same hvs'] at this
      have hfr : Stp w S cc w' S' (fun x => (if x = b then 1 else 0) + (f1 x + e2 x) + f2 x) := by
        have := hstp.frame (c := cc) (c2 := fun x => cc x - c4 x) (fun x => by have := hcc x; have := hle3 x; have := hle4 x; have := hde x; show cc x = c4 x + (cc x - c4 x); omega)
        refine this.drop fun x => ?_
        have := hcc x; have := hle3 x; have := hle4 x; have := hde x; have := hff x
        show (if x = b then 1 else 0) + (f1 x + e2 x) + f2 x ≤ c6 x + (cc x - c4 x)
        omega
      refine ⟨_, h5, hrfb, S', cb, hrb, fun x => ?_, hd6, hz6, (hs.trans hfr).drop hle⟩
      have hle := hle x
      have hff := hff x
      rcases Nat.lt_or_ge x w.heap.size with hbx | hbx
      · have := hstp.own x hbx
        have := hbound x
        omega
      · have g1 : e2 x = 0 := by
          rcases Nat.eq_zero_or_pos (e2 x) with h | h
          · exact h
          · have := hrest.lt x h; omega
        have g2 : x ≠ b := by omega
        have := h16 x
        simp only [g1, g2, if_false] at hle
        omega
  · exact h.elim
end
/-- A slice that is its holder's alone, at the head of an answer's struct: frozen. -/
theorem ACalls.freezeA {P : Program} {f : Nat} {args : List AV} {e k : Nat} {es ys : List AV} (h : ACalls P f args (fun r => r = .agg (.mine e k es :: ys))) : ACalls P f args (fun r => r = .agg (.own e k es :: ys)) := by
  obtain ⟨hf, _, h3⟩ := h
  refine ⟨hf, ⟨_, rfl⟩, fun w S vs c hz hv hc => (h3 w S vs c hz hv hc).mono fun e' w' ⟨v, r, S', c', he, hR, hp, hr, h4, h5, h6⟩ => ?_⟩
  subst hR
  cases hr with
  | agg h1 ho hn hcc =>
    rename_i vs1 c1 c2
    obtain ⟨u, us, e1, e2, rfl, hm, hys, hde⟩ := h1.uncons
    cases hm with
    | mineE hn1 => exact ⟨_, _, S', c', he, rfl, rfl, .agg (RepC.cons (.ownE hn1) hys hde) ho hn hcc, h4, h5, h6⟩
    | mine hn1 hcap hk hb hs' hS hx1 h0 hoc hnil hcc1 =>
      rename_i b cap cur c0 c3
      obtain ⟨_, hz2⟩ := hnil.zero
      have hcb : 0 < e1 b := by rw [hcc1]; simp; omega
      have hone := h4 b
      have hcb' : c' b = 1 ∧ e1 b = 1 ∧ e2 b = 0 ∧ c2 b = 0 := by
        have := hcc b; have := hde b
        omega
      have hle : ∀ x, S' x ≤ upd S' b (es.length * k) x := by
        intro x
        unfold upd
        split
        · rename_i hx; subst hx; rw [hS]; exact Nat.zero_le _
        · exact Nat.le_refl _
      have hkeep : ∀ {xs vs c1}, RepC w' S' xs vs c1 → c1 b = 0 → RepC w' (upd S' b (es.length * k)) xs vs c1 := fun h hb0 =>
        h.keep (fun _ _ _ => rfl) hle (fun x hx => ⟨rfl, by unfold upd; rw [if_neg]; intro hxb; subst hxb; omega⟩)
      have hown : RepC w' (upd S' b (es.length * k)) [.own e k es] [.slice (some ⟨b, 0, none⟩) es.length cap] e1 :=
        .own hn1 hcap hk hb hs' (by simp [upd]) (hkeep hx1 (h0 b)) h0 hoc (.nil hz2) hcc1
      have hagg : RepC w' (upd S' b (es.length * k)) [.agg (.own e k es :: ys)] [.agg (.slice (some ⟨b, 0, none⟩) es.length cap :: us).toArray] c' :=
        .agg (RepC.cons hown (hkeep hys hcb'.2.2.1) hde) ho (hkeep hn hcb'.2.2.2) hcc
      refine ⟨_, _, _, c', he, rfl, rfl, hagg, h4, ⟨fun x hx => ?_, h5.g.upd0 hS _⟩, ⟨h6.os, h6.tape, h6.output, h6.size, fun x hx hx0 => ⟨(h6.keep x hx hx0).1, ?_⟩, h6.cell, fun x => Nat.le_trans (h6.le x) (hle x), h6.own⟩⟩
      · unfold upd
        rw [if_neg]
        · exact h5 x hx
        · intro hxb; subst hxb
          have := (Array.getElem?_eq_some_iff.1 hb).1
          omega
      · unfold upd
        rw [if_neg]
        · exact (h6.keep x hx hx0).2
        · intro hxb; subst hxb
          have := h6.own x hx
          omega
/-! ## rules -/
section
variable {P : Program} {T : Tab} {Q : Exit → List AV → Prop} {K : List AV → Prop} {σ : List AV}
theorem cwpX_base (c : CC) : cwpX P T (.base c) Q σ = cwp P T c Q σ := (rfl)
theorem cwpX_seq (x y : CX) : cwpX P T (.seq x y) Q σ = cwpX P T x (xseq (cwpX P T y Q) Q) σ := (rfl)
theorem cwpX_cond (c : Operand) (x y : CX) : cwpX P T (.cond c x y) Q σ = ccq (aev σ c) (cwpX P T x Q) (cwpX P T y Q) σ := by
  show ccond _ _ _ = _
  cases aev σ c <;> rfl
theorem cwpX_block (id : Nat) (c : CX) : cwpX P T (.block id c) Q σ = cwpX P T c (xblk id Q) σ := (rfl)
theorem cwpX_scope (c : CX) : cwpX P T (.scope c) Q σ = cwpX P T c (xsco Q) σ := (rfl)
theorem cwpX_loop {c : CX} (m : List Bool) (ss : List Nat) (R : Nat → List AV → Prop)
    (start : ∃ n xs, R n xs ∧ Wk σ (puts ss xs (hvm m σ)))
    (round : ∀ n xs, R n xs → cwpX P T c (xseq (lend m ss R σ n) Q) (puts ss xs (hvm m σ))) : cwpX P T (.loop c) Q σ := by
  obtain ⟨n0, f0, h0, hw0⟩ := start
  refine ⟨fun n σ' => ∃ xs, R n xs ∧ σ' = puts ss xs (hvm m σ), ⟨n0, _, hw0, f0, h0, rfl⟩, ?_⟩
  rintro n σ1 ⟨f, hR, rfl⟩
  exact round n f hR
def lndr (P : Program) (T : Tab) (ts2 : List Nat) (s d2 Te : Nat) (cs : List AV) (l : List CO) (K : List AV → Prop) (σ : List AV) : Prop := copl P T (twp ts2 (lbk s d2 Te cs K)) l σ
theorem lndr_eq (ts2 : List Nat) (s d2 Te : Nat) (cs : List AV) (l : List CO) : lndr P T ts2 s d2 Te cs l K σ = copl P T (twp ts2 (lbk s d2 Te cs K)) l σ := (rfl)
theorem lnd2_box (ts2 : List Nat) (s d1 d2 Te e k : Nat) (es cs : List AV) (l : List CO) : lnd2 (.box Te (.mine e k es :: cs)) P T ts2 s d1 d2 l K σ = twp [100000 + d2] (lndr P T ts2 s d2 Te cs l K) (((σ.set s .any).set d1 .any).set d2 (.mine e k es)) := (rfl)
theorem lbk_eq (s d2 Te : Nat) (cs : List AV) : lbk s d2 Te cs K σ = lbk1 (σ.getD d2 .any) s d2 Te cs K σ := (rfl)
theorem lbk1_mine (s d2 Te e k : Nat) (es cs : List AV) : lbk1 (.mine e k es) s d2 Te cs K σ = K (((σ.map (kr s)).set d2 .any).set s (.box Te (.mine e k es :: cs))) := (rfl)
theorem lbk1_own (s d2 Te e k : Nat) (es cs : List AV) : lbk1 (.own e k es) s d2 Te cs K σ = K (((σ.map (kr s)).set d2 .any).set s (.box Te (.own e k es :: cs))) := (rfl)
end
theorem kr_any (s : Nat) : kr s .any = .any := rfl
theorem kr_raw (s : Nat) (v : Value) : kr s (.raw v) = .raw v := rfl
theorem kr_agg (s : Nat) (cs : List AV) : kr s (.agg cs) = .agg cs := rfl
theorem kr_tup (s : Nat) (cs : List AV) : kr s (.tup cs) = .tup cs := rfl
theorem kr_nil (s : Nat) : kr s .nil = .nil := rfl
theorem kr_sl (s k : Nat) (es : List AV) : kr s (.sl k es) = .sl k es := rfl
theorem kr_own (s e k : Nat) (es : List AV) : kr s (.own e k es) = .own e k es := rfl
theorem kr_mine (s e k : Nat) (es : List AV) : kr s (.mine e k es) = .mine e k es := rfl
theorem kr_row (s e k : Nat) (es : List AV) : kr s (.row e k es) = .row e k es := rfl
theorem kr_box (s U : Nat) (cs : List AV) : kr s (.box U cs) = .box U cs := rfl
theorem kr_elt (s : Nat) (x : AV) : kr s (.elt x) = .elt x := rfl
theorem kr_clo (s g : Nat) (cs : List AV) : kr s (.clo g cs) = .clo g cs := rfl
theorem kr_ref (s t o : Nat) : kr s (.ref t o) = if t = s then .any else .ref t o := by
  by_cases h : t = s
  · simp [kr, nrf, h]
  · rw [if_neg h]
    simp only [kr, nrf]
    rw [show (t != s) = true by simpa using h]
    rfl
theorem kr_alias (s t : Nat) : kr s (.alias t) = if t = s then .any else .alias t := by
  by_cases h : t = s
  · simp [kr, nrf, h]
  · rw [if_neg h]
    simp only [kr, nrf]
    rw [show (t != s) = true by simpa using h]
    rfl
theorem kr_pref (s t k j o : Nat) : kr s (.pref t k j o) = if t = s then .any else .pref t k j o := by
  by_cases h : t = s
  · simp [kr, nrf, h]
  · rw [if_neg h]
    simp only [kr, nrf]
    rw [show (t != s) = true by simpa using h]
    rfl
attribute [go_sem] cwpX_base cwpX_seq cwpX_cond cwpX_block cwpX_scope lndr_eq lnd2_box lbk_eq lbk1_mine lbk1_own kr_any kr_raw kr_agg kr_tup kr_nil kr_sl kr_own kr_mine kr_row kr_box kr_elt kr_clo kr_ref kr_alias kr_pref List.map_cons List.map_nil
end Go.Proofs.Ytohelofjlkoboaa
