/- Regions, code, functions. -/
import Derived.Test.YtohelofjlkoboaaA6
namespace Go.Proofs.Ytohelofjlkoboaa
open Go.RowKit
set_option linter.unusedSectionVars false
variable [Env]
variable {dfs : List Deferred}
set_option linter.unusedVariables false
set_option linter.unusedSimpArgs false

section
variable {P : Program} {T : Tab} {w : World}
variable {w0 : World} {S0 c0 : Nat → Nat} {σ : List AV} {a : Act} {K : List AV → Prop} {Q : Exit → Act → World → Prop} {o : Oper}

theorem move_sound {x : Operand} (hrun : ∀ w, (execOp a.eval o).run P w = .ok (.value (a.eval x)) w) (hst : Stt dfs w0 S0 c0 σ a w) (h : K (aset (amv σ x) o.dst (aev σ x))) :
    o.wp P a w (fun a' w' => ∃ σ', K σ' ∧ Stt dfs w0 S0 c0 σ' a' w') Q := by
  obtain ⟨hrf, S, c, hr, h1, hd, hz, hs⟩ := hst
  obtain ⟨c1, c2, hx, hr2, hc⟩ := grab1 hr x
  exact wp_value (hrun w) ⟨_, h, Stt.value (hrf.amv x) (pb_aev σ x) h1 hd hz hs hr2 hx (fun b => by rw [hc]; omega) _⟩

theorem places_of : ∀ (fs : List Field), ((fs.map fun f => (f.offset, (P.info? f.type).map (·.size), (P.underlying f.type).map aggB)).all fun f => f.2.1.isSome) = true →
    ∃ places, fs.mapM (fun f => (P.info? f.type).map fun i => (f.offset, i.size)) = some places ∧
      ∀ (i' off size : Nat) (ag : Option Bool), (fs.map fun f => (f.offset, (P.info? f.type).map (·.size), (P.underlying f.type).map aggB))[i']? = some (off, some size, ag) → places[i']? = some (off, size)
  | [], _ => ⟨[], rfl, by simp⟩
  | f :: fs, h => by
    simp only [List.map_cons, List.all_cons, Bool.and_eq_true] at h
    obtain ⟨h1, h2⟩ := h
    obtain ⟨pl, hp, hi⟩ := places_of fs h2
    cases hq : P.info? f.type with
    | none => rw [hq] at h1; simp at h1
    | some inf =>
      refine ⟨(f.offset, inf.size) :: pl, by simp [List.mapM_cons, hq, hp], ?_⟩
      intro i' off size ag hget
      cases i' with
      | zero => simp [hq] at hget; simp [hget.1, hget.2.1]
      | succ n => simp only [List.map_cons, List.getElem?_cons_succ] at hget ⊢; exact hi n off size ag hget
theorem build_sound (hT : TabOk P T) {t : Nat} {ps : Array (Nat × Operand)} {i : TI} (ho : o.op = .build t ps) (hi : TIok P t i) (hst : Stt dfs w0 S0 c0 σ a w) (hs : bok T i = true) (hsz : ((bflds T i).all fun f => f.2.1.isSome) = true) (hone : allOne i.zero = true)
    (h : afill (bflds T i) ((ps.toList.map (·.1)).zip (agrab σ (ps.toList.map (·.2))).1) (i.zero.map ac1) fun cs => K (aset (agrab σ (ps.toList.map (·.2))).2 o.dst (.agg cs))) :
    o.wp P a w (fun a' w' => ∃ σ', K σ' ∧ Stt dfs w0 S0 c0 σ' a' w') Q := by
  obtain ⟨inf, z, d, g1, gz, gzz, g4, _, g6, g7⟩ := hi.get
  obtain ⟨hrf, S, c, hr, h1, hd, hz, hstp⟩ := hst
  obtain ⟨c1, c2, hx, hr2, hc⟩ := grabs (ps.toList.map (·.2)) hr
  have hxl := hx.length
  have hparts : (ps.map fun (x : Nat × Operand) => (x.1, a.eval x.2)).toList = (ps.toList.map (·.1)).zip ((ps.toList.map (·.2)).map a.eval) := by
    simp only [Array.toList_map, List.map_map]
    generalize ps.toList = l
    induction l with
    | nil => rfl
    | cons x l ih => simp [ih]
  have main : ∀ (place : Nat → Option (Nat × Nat)), (∀ (i' off size : Nat) (ag : Option Bool), (bflds T i)[i']? = some (off, some size, ag) → place i' = some (off, size)) →
      (∀ cur', Instr.fill place z.cells ((ps.toList.map (·.1)).zip ((ps.toList.map (·.2)).map a.eval)) = some cur' → P.built t (ps.map fun (x : Nat × Operand) => (x.1, a.eval x.2)).toList = some cur') →
      o.wp P a w (fun a' w' => ∃ σ', K σ' ∧ Stt dfs w0 S0 c0 σ' a' w') Q := by
    intro place hpl hbuilt
    obtain ⟨cs', cur', c', hf, hK, hrr, hon, hcc, _⟩ := afill_run (place := place) hpl (ps.toList.map (·.1)) _ _ _ z.cells c1 (fun _ => 0) _ (by simp at hxl ⊢; omega) h hx (by rw [gzz]; exact rep_ac1s i.zero) (by rw [gzz]; exact one_of_allOne hone)
    refine wp_value (w' := w) (v := .agg cur') ?_ ⟨_, hK, Stt.value (c1 := c') (y := .agg cs') (hrf.agrab _) rfl h1 hd hz hstp hr2 ?_ (fun b => by rw [hc]; have := hcc b; omega) _⟩
    · have hb := hbuilt cur' hf
      unfold execOp
      simp only [ho, Sem.run_bind]
      have := run_build (P := P) w t (ps.map fun (x : Nat × Operand) => (x.1, a.eval x.2)) cur' hb
      simp [this]
    · have := RepC.agg (c := c') hrr hon (.nil zc0) (fun b => by simp)
      simpa using this
  cases hst' : i.td.struct with
  | true =>
    have hd' : ∃ fs, d = .struct fs := by
      rw [← g7] at hst'
      cases d <;> simp [tdesc] at hst'
      exact ⟨_, rfl⟩
    obtain ⟨fs, rfl⟩ := hd'
    have hfl : bflds T i = fs.toList.map fun f => (f.offset, (P.info? f.type).map (·.size), (P.underlying f.type).map aggB) := by rw [bflds, hst', if_pos rfl, ← g7]; rfl
    obtain ⟨places, hmp, hpl⟩ := places_of (P := P) fs.toList (by rw [← hfl]; exact hsz)
    rw [← hfl] at hpl
    refine main (places.toArray[·]?) (by simpa using hpl) fun cur' hf => ?_
    unfold Program.built
    simp only [g1, g6, gz, hmp, hparts]
    exact hf
  | false =>
    rw [bok, hst', Bool.false_or] at hs
    cases harr : i.td.arr with
    | none => rw [harr] at hs; cases hs
    | some ne =>
      obtain ⟨n, e⟩ := ne
      have hd' : d = .array n e := by
        rw [← g7] at harr
        cases d <;> simp [tdesc] at harr
        rw [harr.1, harr.2]
      subst hd'
      cases hj : T e with
      | none => rw [harr] at hs; simp [hj] at hs
      | some j =>
        obtain ⟨inf2, z2, d2, k1, _, _, k4, _, _, _⟩ := (hT e j hj).get
        refine main (fun k => some (k * inf2.size, inf2.size)) (fun i' off size ag hg => ?_) fun cur' hf => ?_
        · have hb : bflds T i = arrF j.size j.td.agg 0 n := by simp [bflds, hst', harr, hj]
          rw [hb] at hg
          have := arrF_get j.size j.td.agg n 0 i' _ hg
          simp at this
          simp only [k4, this.1, this.2.1]
        · unfold Program.built
          simp only [g1, g6, gz, k1, hparts]
          exact hf

theorem run_eqbool {t : Nat} (h : P.underlying t = some .bool) (p q : Bool) : (Op.equal t (.bool p) (.bool q)).run P w = .ok (p == q) w := by
  have h1 : Op.equal t (.bool p) (.bool q) = Op.equalIn (9999 + 1) t (.bool p) (.bool q) := rfl
  rw [h1]
  unfold Op.equalIn
  simp [run_underlying h]
def veq1 : Value → Value → Nat → Option Bool
  | .int k a, .int k' b, 0 => if k = k' then some (a == b) else none
  | .string s, .string t, 1 => some (s == t)
  | .bool a, .bool b, 2 => some (a == b)
  | _, _, _ => none
theorem run_eq1 {t : Nat} {d : TypeDesc} {u v : Value} {k : Nat} {b : Bool} (n : Nat) (h : P.underlying t = some d) (hk : eqk d = some k) (hv : veq1 u v k = some b) : (Op.equalIn (n + 1) t u v).run P w = .ok b w := by
  unfold Op.equalIn
  cases d <;> simp only [eqk, reduceCtorEq, Option.some.injEq] at hk <;> subst hk <;> unfold veq1 at hv <;> split at hv <;> simp_all [run_underlying h]
def veqs (xs ys : Array Value) : List (Nat × Nat) → Option Bool
  | [] => some true
  | (o, k) :: r => match xs[o]?, ys[o]? with
    | some u, some v => (match veq1 u v k, veqs xs ys r with
      | some b, some c => some (b && c)
      | _, _ => none)
    | _, _ => none
theorem run_part1 {t : Nat} {d : TypeDesc} {k o : Nat} {xs : Array Value} {u : Value} (h : P.underlying t = some d) (hk : eqk d = some k) (hx : xs[o]? = some u) : (part t xs o).run P w = .ok u w := by
  unfold part isAgg
  cases d <;> simp only [eqk, reduceCtorEq] at hk <;> simp [run_underlying h, Sem.run_bind, hx]
theorem run_loop (n : Nat) (xs ys : Array Value) : ∀ (l : List Field) (q : List (Nat × Nat)) (b : Bool), feqs P l = some q → veqs xs ys q = some b →
    Sem.run P (forIn l ((none, ()) : Option Bool × Unit) fun f __s =>
            if f.name = "_" then pure (ForInStep.yield (none, ()))
            else do
              let __do_lift ← part f.type xs f.offset
              let __do_lift_1 ← part f.type ys f.offset
              let __do_lift ← Op.equalIn (n + 1) f.type __do_lift __do_lift_1
              if __do_lift = false then pure (ForInStep.done (some false, ())) else pure (ForInStep.yield (none, ()))) w = .ok (if b then (none, ()) else (some false, ())) w
  | [], q, b, h1, h2 => by
    simp only [feqs, Option.some.injEq] at h1
    subst h1
    simp only [veqs, Option.some.injEq] at h2
    subst h2
    simp
  | f :: r, q, b, h1, h2 => by
    simp only [feqs] at h1
    split at h1
    · cases h1
    · rename_i hn
      split at h1
      · rename_i k l hk hl
        injection h1 with h1
        subst h1
        simp only [veqs] at h2
        split at h2
        · rename_i u v hu hv
          split at h2
          · rename_i b1 c1 e1 e2
            injection h2 with h2
            subst h2
            cases hd : P.underlying f.type with
            | none => rw [hd] at hk; cases hk
            | some d =>
              rw [hd] at hk
              have hk' : eqk d = some k := hk
              rw [List.forIn_cons]
              simp only [hn, if_false, Sem.run_bind, run_part1 hd hk' hu, run_part1 hd hk' hv, run_eq1 n hd hk' e1, Result.andThen_ok]
              cases b1 with
              | false => simp
              | true =>
                simp only [Bool.true_eq_false, if_false, Sem.run_pure, Result.andThen_ok, Bool.true_and]
                exact run_loop n xs ys r l c1 hl e2
          · cases h2
        · cases h2
      · cases h1
theorem run_eqs {t : Nat} {fs : Array Field} {xs ys : Array Value} (n : Nat) (h : P.underlying t = some (.struct fs)) (hs : P.stoodInHeld t = false) {q : List (Nat × Nat)} {b : Bool} (h1 : feqs P fs.toList = some q) (h2 : veqs xs ys q = some b) : (Op.equalIn (n + 2) t (.agg xs) (.agg ys)).run P w = .ok b w := by
  unfold Op.equalIn
  simp only [Sem.run_bind, run_underlying h, Result.andThen_ok]
  simp [hs, Sem.run_bind]
  rw [← Array.forIn_toList]
  rw [run_loop n xs ys fs.toList q b h1 h2]
  cases b <;> simp
theorem rep_rawAt : ∀ {xs : List AV} {vs : List Value} {c : Nat → Nat} {S : Nat → Nat} {o : Nat} {u : Value}, RepC w S xs vs c → xs[o]? = some (.raw u) → vs[o]? = some u := by
  intro xs vs c S o u h
  induction h generalizing o <;> intro ho <;> cases o <;> simp_all
theorem rep_aeq1 {xs ys : List AV} {vs us : List Value} {c d : Nat → Nat} {S : Nat → Nat} (hx : RepC w S xs vs c) (hy : RepC w S ys us d) {o k : Nat} {b : Bool} (h : aeq1 (xs.getD o .any) (ys.getD o .any) k = some b) :
    ∃ u v, vs[o]? = some u ∧ us[o]? = some v ∧ veq1 u v k = some b := by
  have hg : ∀ {l : List AV} {u : Value}, l.getD o .any = .raw u → l[o]? = some (.raw u) := by
    intro l u hl
    rw [List.getD_eq_getElem?_getD] at hl
    cases he : l[o]? with
    | none => rw [he] at hl; cases hl
    | some x => rw [he] at hl; simp at hl; rw [hl]
  generalize e1 : xs.getD o .any = x at h
  generalize e2 : ys.getD o .any = y at h
  unfold aeq1 at h
  split at h
  · exact ⟨_, _, rep_rawAt hx (hg e1), rep_rawAt hy (hg e2), h⟩
  · refine ⟨_, _, rep_rawAt hx (hg e1), rep_rawAt hy (hg e2), ?_⟩
    rw [← h]
    rename_i s1 t1
    have hb : (s1 == t1) = (s1.data.toList == t1.data.toList) := by
      have : (s1 == t1) = (s1.data == t1.data) := by
        first
          | rfl
          | (cases s1; cases t1; rfl)
          | (cases s1; cases t1; simp [BEq.beq])
      rw [this, Bool.eq_iff_iff]; simp
    simp only [veq1, hb]
  · exact ⟨_, _, rep_rawAt hx (hg e1), rep_rawAt hy (hg e2), h⟩
  · cases h
theorem rep_aeqs {xs ys : List AV} {vs us : List Value} {c d : Nat → Nat} {S : Nat → Nat} (hx : RepC w S xs vs c) (hy : RepC w S ys us d) : ∀ (q : List (Nat × Nat)) (b : Bool), aeqs xs ys q = some b → veqs vs.toArray us.toArray q = some b
  | [], b, h => h
  | (o, k) :: r, b, h => by
    simp only [aeqs] at h
    unfold aeqc at h
    split at h
    · rename_i b1 c1 e1 e2
      obtain ⟨u, v, hu, hv, he⟩ := rep_aeq1 hx hy e1
      simp only [veqs, List.getElem?_toArray, hu, hv, he, rep_aeqs hx hy r c1 e2]
      exact h
    · cases h
theorem abq_get {i : Option TI} {xs ys : List AV} {K : AV → Prop} {neg : Bool} (h : abq1 i xs ys K neg) : ∃ j q b, i = some j ∧ j.eqs = some q ∧ aeqs xs ys q = some b ∧ K (.raw (.bool (b != neg))) := by
  unfold abq1 at h
  split at h
  · unfold abq2 at h
    split at h
    · unfold abq3 at h
      split at h
      · exact ⟨_, _, _, rfl, by assumption, by assumption, h⟩
      · exact h.elim
    · exact h.elim
  · exact h.elim
theorem rep_aggv {x : List AV} {v : Value} {c : Nat → Nat} {S : Nat → Nat} (h : RepC w S [.agg x] [v] c) : ∃ vs c', v = .agg vs.toArray ∧ RepC w S x vs c' := by
  cases h with | agg h1 ho h hc => exact ⟨_, _, rfl, h1⟩
theorem run_eqtab (hT : TabOk P T) {t : Nat} {j : TI} {q : List (Nat × Nat)} {b : Bool} (hj : T t = some j) (hq : j.eqs = some q) {xs ys : List AV} {vs us : List Value} {c d : Nat → Nat} {S : Nat → Nat} (hx : RepC w S xs vs c) (hy : RepC w S ys us d) (h : aeqs xs ys q = some b) :
    (Op.equal t (.agg vs.toArray) (.agg us.toArray)).run P w = .ok b w ∧ ∀ (op : BinOp) (x y : Operand), (eqGuard op t x y (.agg vs.toArray) (.agg us.toArray)).run P w = .ok () w := by
  have hk := (hT t j hj).eqok
  rw [hq] at hk
  simp only [eqsB, Bool.and_eq_true, Bool.not_eq_true'] at hk
  obtain ⟨⟨k1, k2⟩, k3⟩ := hk
  split at k3
  · rename_i fs hu
    have k3' : feqs P fs.toList = some q := by simpa using k3
    refine ⟨run_eqs 9998 hu k1 k3' (rep_aeqs hx hy q b h), fun op x y => ?_⟩
    unfold eqGuard
    split <;> simp [k2, Sem.run_bind]
  · cases k3
theorem bin_sound (hT : TabOk P T) {op : BinOp} {t t' : Nat} {x y : Operand} (ho : o.op = .binOp op t x y t') (hst : Stt dfs w0 S0 c0 σ a w) (h : abinT T op t (aev σ x) (aev σ y) fun z => K (aset σ o.dst z)) :
    o.wp P a w (fun a' w' => ∃ σ', K σ' ∧ Stt dfs w0 S0 c0 σ' a' w') Q := by
  obtain ⟨hrf, S, c, hr, h1, hd, hz, hs⟩ := hst
  obtain ⟨cx, hrx⟩ := aev_rep hr x
  obtain ⟨cy, hry⟩ := aev_rep hr y
  unfold abinT at h
  split at h
  · rename_i p q hp hq
    rw [hp] at hrx
    rw [hq] at hry
    have e1 := (rep_raw hrx).1
    have e2 := (rep_raw hry).1
    have hbt : (T t).map (·.td.bl) = some true → P.underlying t = some .bool := by
      intro h
      cases hi : T t with
      | none => rw [hi] at h; cases h
      | some i =>
        rw [hi] at h
        obtain ⟨inf, z, d, g1, gz, gzz, g4, _, g6, g7⟩ := (hT t i hi).get
        have hd' : d = .bool := td_bl (P := P) (by rw [g7]; simpa using h)
        rw [hd'] at g6
        exact g6
    have hg : ∀ (op : BinOp), (eqGuard op t x y (.bool p) (.bool q)).run P w = .ok () w := by
      intro op; unfold eqGuard; split <;> simp
    cases op <;> simp only [] at h <;> try exact h.elim
    · refine wp_value (v := .bool (p == q)) (w' := w) ?_ ⟨_, h.2, Stt.value hrf rfl h1 hd hz hs hr (c1 := fun _ => 0) (rep_mk rfl zc0) (fun b => by omega) _⟩
      have hb : binOp .eql t (.bool p) (.bool q) = (do pure (.bool (← Op.equal t (.bool p) (.bool q)))) := rfl
      unfold execOp
      simp only [ho, e1, e2, hg, hb, Sem.run_bind, run_eqbool (hbt h.1), Sem.run_pure, Result.andThen_ok]
    · refine wp_value (v := .bool (p != q)) (w' := w) ?_ ⟨_, h.2, Stt.value hrf rfl h1 hd hz hs hr (c1 := fun _ => 0) (rep_mk rfl zc0) (fun b => by omega) _⟩
      have hb : binOp .neq t (.bool p) (.bool q) = (do pure (.bool (!(← Op.equal t (.bool p) (.bool q))))) := rfl
      unfold execOp
      simp only [ho, e1, e2, hg, hb, Sem.run_bind, run_eqbool (hbt h.1), Sem.run_pure, Result.andThen_ok]
      rfl
  · rename_i xs ys hp hq
    rw [hp] at hrx
    rw [hq] at hry
    obtain ⟨vs, c1, e1, h1x⟩ := rep_aggv hrx
    obtain ⟨us, c2, e2, h2x⟩ := rep_aggv hry
    cases op <;> simp only [] at h <;> try exact h.elim
    · obtain ⟨j, q, b, hj, hjq, hab, hK⟩ := abq_get h
      obtain ⟨r1, r2⟩ := run_eqtab (P := P) (w := w) hT hj hjq h1x h2x hab
      refine wp_value (v := .bool (b != false)) (w' := w) ?_ ⟨_, hK, Stt.value hrf rfl h1 hd hz hs hr (c1 := fun _ => 0) (rep_mk rfl zc0) (fun b => by omega) _⟩
      have hb : binOp .eql t (.agg vs.toArray) (.agg us.toArray) = (do pure (.bool (← Op.equal t (.agg vs.toArray) (.agg us.toArray)))) := rfl
      unfold execOp
      simp only [ho, e1, e2, r2, hb, Sem.run_bind, r1, Sem.run_pure, Result.andThen_ok, Bool.bne_false]
    · obtain ⟨j, q, b, hj, hjq, hab, hK⟩ := abq_get h
      obtain ⟨r1, r2⟩ := run_eqtab (P := P) (w := w) hT hj hjq h1x h2x hab
      refine wp_value (v := .bool (b != true)) (w' := w) ?_ ⟨_, hK, Stt.value hrf rfl h1 hd hz hs hr (c1 := fun _ => 0) (rep_mk rfl zc0) (fun b => by omega) _⟩
      have hb : binOp .neq t (.agg vs.toArray) (.agg us.toArray) = (do pure (.bool (!(← Op.equal t (.agg vs.toArray) (.agg us.toArray))))) := rfl
      unfold execOp
      simp only [ho, e1, e2, r2, hb, Sem.run_bind, r1, Sem.run_pure, Result.andThen_ok, Bool.bne_true]
  · obtain ⟨r, z, hrun, hK, hpb, hrz, hg⟩ := run_bin (P := P) hrx hry h t
    refine wp_value (v := r) (w' := w) ?_ ⟨_, hK, Stt.value hrf hpb h1 hd hz hs hr hrz (fun b => by omega) _⟩
    unfold execOp
    simp [ho, hg, hrun]
theorem un_sound {op : UnOp} {t : Nat} {x : Operand} (ho : o.op = .unOp op t x) (hst : Stt dfs w0 S0 c0 σ a w) (h : aun op (aev σ x) fun z => K (aset σ o.dst z)) :
    o.wp P a w (fun a' w' => ∃ σ', K σ' ∧ Stt dfs w0 S0 c0 σ' a' w') Q := by
  obtain ⟨hrf, S, c, hr, h1, hd, hz, hs⟩ := hst
  obtain ⟨cx, hrx⟩ := aev_rep hr x
  obtain ⟨r, z, hrun, hK, hpb, hrz⟩ := run_un (P := P) hrx h
  refine wp_value (v := r) (w' := w) ?_ ⟨_, hK, Stt.value hrf hpb h1 hd hz hs hr hrz (fun b => by omega) _⟩
  unfold execOp
  simp [ho, hrun]

theorem arr1 {α : Type} {xs : Array α} {x : α} (h : xs.toList = [x]) : xs = #[x] := by apply Array.ext'; simpa using h
theorem arr2 {α : Type} {xs : Array α} {x y : α} (h : xs.toList = [x, y]) : xs = #[x, y] := by apply Array.ext'; simpa using h

theorem aop_sound (hT : TabOk P T) (hst : Stt dfs w0 S0 c0 σ a w) (h : aop P T o σ K) : o.wp P a w (fun a' w' => ∃ σ', K σ' ∧ Stt dfs w0 S0 c0 σ' a' w') Q := by
  unfold aop at h
  split at h
  · rename_i x ho; exact move_sound (fun w => by unfold execOp; simp [ho]) hst h
  · rename_i x ho; exact move_sound (fun w => by unfold execOp; simp [ho]) hst h
  · rename_i c x y ho
    split at h
    · rename_i e hc
      have hst' := hst
      obtain ⟨_, S, cc, hr, _⟩ := hst
      obtain ⟨cx, hrx⟩ := aev_rep hr c
      rw [hc] at hrx
      have e1 := (rep_raw hrx).1
      cases e with
      | true => exact move_sound (x := x) (fun w => by unfold execOp; simp [ho, e1, asBool]) hst' (h.1 rfl)
      | false => exact move_sound (x := y) (fun w => by unfold execOp; simp [ho, e1, asBool]) hst' (h.2 rfl)
    · exact h.elim
  · rename_i t ho
    split at h
    · rename_i i hi; exact aalloc_sound ho (hT t i hi) hst h
    · exact h.elim
  · rename_i t x ho; exact abox_sound ho hst h
  · rename_i t ps ho
    split at h
    · rename_i i hi; exact build_sound hT ho (hT t i hi) hst h.1 h.2.1 h.2.2.1 h.2.2.2
    · exact h.elim
  · rename_i t n ps ho
    split at h
    · rename_i i hi
      split at h
      · rename_i e he
        split at h
        · rename_i j hj; exact abuildSlice_sound ho (hT t i hi) he (hT e j hj) hst h
        · exact h.elim
      · exact h.elim
    · exact h.elim
  · rename_i t x ho
    split at h
    · rename_i i hi; exact aload_sound ho (hT t i hi) hst h
    · exact h.elim
  · rename_i t x y ho
    split at h
    · rename_i i hi; exact astore_sound ho (hT t i hi) hst h
    · exact h.elim
  · rename_i op t x y t' ho; exact bin_sound hT ho hst h
  · rename_i op t x ho; exact un_sound ho hst h
  · rename_i s d x ho
    split at h
    · rename_i i j hi hj; exact aconv_sound hT ho (hT s i hi) (hT d j hj) hst h
    · exact h.elim
  · rename_i f first caps ho
    split at h
    · rename_i hf hc
      have e1 : first = #[] := by apply Array.ext'; simpa using hf
      have e2 : caps = #[] := by apply Array.ext'; simpa using hc
      subst e1; subst e2
      refine quiet_sound hst rfl (v := .func (.func f) #[] #[]) ?_ (fun S c hr => ⟨_, rep_mk rfl zc0, zc0⟩) h
      unfold execOp
      simp [ho, Instr.makeFunc]
    · rename_i x xs hf hc
      have e1 : first = #[] := by apply Array.ext'; simpa using hf
      subst e1
      refine quiet_sound hst rfl (v := .func (.func f) #[] ((x :: xs).map a.eval).toArray) ?_ (fun S c hr => ⟨_, .clo (aevs_rep hr _ h.1) zc0 (.nil zc0), zc0⟩) h.2
      unfold execOp
      have e2 : caps = (x :: xs).toArray := by apply Array.ext'; simpa using hc
      simp [ho, Instr.makeFunc, e2]
    · exact h.elim
  · rename_i t x y ho
    split at h
    · rename_i i hi
      split at h
      · rename_i e he
        split at h
        · rename_i j hj; exact amakeSlice_sound ho (hT t i hi) he (hT e j hj) hst h
        · exact h.elim
      · exact h.elim
    · exact h.elim
  · rename_i t x lo hi' ho
    split at h
    · rename_i i hi; exact aslice_sound hT ho (hT t i hi) hst h
    · exact h.elim
  · rename_i t x f ho
    split at h
    · rename_i i hi; exact afieldAddr_sound ho (hT t i hi) hst h
    · exact h.elim
  · rename_i t x f ho
    split at h
    · rename_i i hi; exact afieldM_sound ho (hT t i hi) hst h
    · exact h.elim
  · rename_i t x y ho
    split at h
    · rename_i i hi; exact aindexAddrB_sound hT ho (hT t i hi) hst h
    · exact h.elim
  · rename_i t x y ho
    split at h
    · rename_i i hi; exact aindex_sound hT ho (hT t i hi) hst h
    · exact h.elim
  · rename_i x n ho; exact aextract_sound ho hst h
  · rename_i c ho
    split at h
    · rename_i f hc; exact acall_sound ho hc hst h
    · rename_i hc
      split at h
      · rename_i x t ha hta
        split at h
        · rename_i i hi; exact alen_sound ho hc (arr1 ha) (arr1 hta) (hT t i hi) hst h
        · exact h.elim
      · exact h.elim
    · rename_i hc
      split at h
      · rename_i x y t t' ha hta
        obtain ⟨rfl, h⟩ := h
        split at h
        · rename_i i hi
          split at h
          · rename_i e he
            split at h
            · rename_i j hj; exact aappend_sound ho hc (arr2 ha) (arr2 hta) (hT t i hi) he (hT e j hj) hst h
            · exact h.elim
          · exact h.elim
        · exact h.elim
      · exact h.elim
    · rename_i hc
      split at h
      · rename_i x y ha; exact amax_sound (mx := false) ho (by simpa using hc) (arr2 ha) hst h
      · exact h.elim
    · rename_i hc
      split at h
      · rename_i x y ha; exact amax_sound (mx := true) ho (by simpa using hc) (arr2 ha) hst h
      · exact h.elim
    · exact h.elim
  · exact h.elim

/-! ## regions -/
def gslot (ops : Array Oper) (j : Nat) : Option Nat := (ops[j]?).bind (·.dst)
theorem skip_stt (hst : Stt dfs w0 S0 c0 σ a w) (d : Option Nat) : Stt dfs w0 S0 c0 (aset σ d (.tup [])) (a.put d undef) w := by
  obtain ⟨hrf, S, c, hr, h1, hd, hz, hs⟩ := hst
  exact Stt.value hrf rfl h1 hd hz hs hr (c1 := fun _ => 0) (RepC.tup (vs := []) (c1 := fun _ => 0) (c2 := fun _ => 0) (.nil zc0) (.nil zc0) (fun b => rfl)) (fun b => by omega) d

theorem put_keep (a : Act) (d : Option Nat) (v : Value) (s : Nat) (h : d ≠ some s) : (a.put d v).tmps[s]? = a.tmps[s]? := by
  cases d with
  | none => rfl
  | some d =>
    have hne : d ≠ s := fun e => h (by rw [e])
    simp [Act.put, Array.getElem?_setIfInBounds_ne hne]
/-- An operation writes no slot but its own. -/
theorem wp_keep {n1 : Act → World → Prop} (h : o.wp P a w n1 Q) : o.wp P a w (fun a' w' => n1 a' w' ∧ ∀ s, o.dst ≠ some s → a'.tmps[s]? = a.tmps[s]?) Q := by
  unfold Oper.wp at *
  revert h
  generalize (execOp a.eval o).run P w = r
  intro hu
  cases r with
  | ok x w' =>
    cases x with
    | value v => exact ⟨hu, fun s hs => put_keep a o.dst v s hs⟩
    | skip => exact ⟨hu, fun s hs => put_keep a o.dst _ s hs⟩
    | defer d => exact ⟨hu, fun s hs => put_keep { a with defers := d :: a.defers } o.dst _ s hs⟩
    | enter f args =>
      rw [Oper.upon_enter] at hu ⊢
      refine Calls.mono hu fun e w'' he => ?_
      cases e with
      | returned v => exact ⟨he, fun s hs => put_keep a o.dst v s hs⟩
      | panicked ch => exact he
      | outgrown => exact he
    | row r args =>
      rw [Oper.upon_row] at hu ⊢
      exact Rows.mono hu fun v w'' hv => ⟨hv, fun s hs => put_keep a o.dst v s hs⟩
    | _ => exact hu.elim
  | halt h w' => cases h <;> exact hu
theorem wp_mono' {n1 n2 : Act → World → Prop} (hn : ∀ a w, n1 a w → n2 a w) (h : o.wp P a w n1 Q) : o.wp P a w n2 Q := by
  unfold Oper.wp at *
  revert h
  generalize (execOp a.eval o).run P w = r
  intro hu
  cases r with
  | ok x w' =>
    cases x with
    | value v => exact hn _ _ hu
    | skip => exact hn _ _ hu
    | defer d => exact hn _ _ hu
    | enter f args =>
      rw [Oper.upon_enter] at hu ⊢
      refine Calls.mono hu fun e w'' he => ?_
      cases e with
      | returned v => exact hn _ _ he
      | panicked ch => exact he
      | outgrown => exact he
    | row r args =>
      rw [Oper.upon_row] at hu ⊢
      exact Rows.mono hu fun v w'' hv => hn _ _ hv
    | _ => exact hu.elim
  | halt h w' => cases h <;> exact hu
end
end Go.Proofs.Ytohelofjlkoboaa
