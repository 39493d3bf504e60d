/- Rows in operations; regions in the order of the text. -/
import Derived.Test.YtohelofjlkoboaaR1
namespace Go.Proofs.Ytohelofjlkoboaa
open Go.RowKit
set_option linter.unusedSectionVars false
variable [Env]
variable {dfs : List Deferred}
set_option linter.unusedVariables false
set_option linter.unusedSimpArgs false

section
variable {P : Program} {T : Tab} {w : World} {S : Nat → Nat}
variable {w0 : World} {S0 c0 : Nat → Nat} {σ : List AV} {a : Act} {K : List AV → Prop} {Q : Exit → Act → World → Prop} {o : Oper}

theorem rappend_sound {t0 e e' k t s : Nat} {xs : List AV} {y : Operand} {c : Call} {i j : TI} (ho : o.op = .call c) (hc : c.callee = .builtin .append) (hca : c.args = #[.tmp t, y]) (hct : c.argTypes = #[t0, t0]) (hi : TIok P t0 i) (he : i.td.elem = some e) (hj : TIok P e j)
    (hst : Stt dfs w0 S0 c0 σ a w) (hrb : rbase σ t = some (s, e', k, xs)) (h : rappend σ e j t s e' k xs y o.dst K) : o.wp P a w (fun a' w' => ∃ σ', K σ' ∧ Stt dfs w0 S0 c0 σ' a' w') Q := by
  obtain ⟨inf, z, d, g1, gz, gzz, g4, _, g6, g7⟩ := hi.get
  obtain ⟨inf2, z2, d2, f1, fz, fzz, f4, f5, f6, f7⟩ := hj.get
  have hd' : d = .slice e := td_elem (P := P) (by rw [g7]; exact he)
  subst hd'
  unfold rappend at h
  split at h
  · rename_i ys d hy hdst
    obtain ⟨rfl, rfl, hsz, hzl, hmax, hby, hnr, hK⟩ := h
    obtain ⟨hrf, S, c', hr, h1, hd, hz, hs⟩ := hst
    obtain ⟨v, cx, cr, hev, hvs, hxr, _, hcc, hr1, hrf1, _, _⟩ := take_row hr hrf hrb
    generalize hσ1 : (σ.set s .any).set t .any = σ1 at *
    obtain ⟨cy, hyr⟩ := aev_rep hr y
    obtain ⟨B, cc, cv, c0', eY, hky, hcv, hz0, honey, hmemy⟩ := src_rep hyr hy
    have hcvl := hcv.length
    have hfly := flat_len hky
    have hwp : ∀ {v : Value} {w' : World}, (Builtin.append_ #[t0, t0] o.type #[a.eval (.tmp t), a.eval y]).run P w = .ok v w' → ∀ {next : Act → World → Prop}, next (a.put o.dst v) w' → o.wp P a w next Q := by
      intro v w' hrun next hn
      refine wp_value (v := v) (w' := w') ?_ hn
      unfold execOp
      simp only [ho, resolve, hc, hca, hct, invoke, builtin, Sem.run_bind, Sem.run_pure, Result.andThen_ok, List.map_toArray, List.map_cons, List.map_nil, hrun]
    -- a new block
    have fresh : ∀ (xcells : List Value) (newcap : Nat) (v : Value), RepC w S (flat xs) xcells (fun _ => 0) → (∀ u ∈ xcells, u.oneCell' = true) → (∀ x ∈ xs, (cellsOf x).length = j.size) → xs.length + ys.length ≤ newcap → newcap ≤ maxLen →
        v = .slice (some ⟨w.heap.size, 0, none⟩) (xs.length + ys.length) newcap →
        Stt dfs w0 S0 c0 (σ1.set d (.row e' j.size (xs ++ ys))) (a.put (some d) v) (w.drew.alloc (.cells (xcells.toArray ++ cv.toArray ++ Builtin.zeroCells z2.cells (newcap - (xs.length + ys.length))) e')) := by
      intro xcells newcap v hxc hone hkx hcap hcm hv
      have hxl := hxc.length
      have hflx := flat_len hkx
      have hz2l : z2.cells.size = j.size := by have := congrArg List.length fzz; simp at this; omega
      have hflat := flat_app xs ys
      have hxw : RepC w.drew S (flat xs) xcells (fun _ => 0) := hxc.keep (fun _ _ _ => rfl) (fun _ => Nat.le_refl _) (fun _ _ => ⟨rfl, rfl⟩)
      have hyw : RepC w.drew S (flat ys) cv c0' := hcv.keep (fun _ _ _ => rfl) (fun _ => Nat.le_refl _) (fun _ _ => ⟨rfl, rfl⟩)
      have hrw : RepC w.drew S σ1 a.tmps.toList cr := hr1.keep (fun _ _ _ => rfl) (fun _ => Nat.le_refl _) (fun _ _ => ⟨rfl, rfl⟩)
      generalize hcur : (xcells.toArray ++ cv.toArray ++ Builtin.zeroCells z2.cells (newcap - (xs.length + ys.length))) = cur
      have hcl : cur.toList = xcells ++ cv ++ (Builtin.zeroCells z2.cells (newcap - (xs.length + ys.length))).toList := by rw [← hcur]; simp
      have htake : cur.toList.take ((xs ++ ys).length * j.size) = xcells ++ cv := by
        have : (xcells ++ cv).length = (xs ++ ys).length * j.size := by simp [Nat.add_mul]; omega
        rw [hcl, ← this, List.take_left]
      have hk := Stp.alloc (w := w.drew) (c := fun _ => 0) (S := S) hz.drew (.cells cur e') 0
      have hboth := (RepC.app hxw hyw (c := c0') (fun b => by simp)).step hk (fun b => by rw [hz0 b]; simp)
      rw [hv]
      refine Stt.newrow (w := w.drew) hrf1 hnr h1 hr.lt hd hz.drew (hs.trans Stp.drew) hrw (c1 := fun _ => 0) ?_ (fun b => by rw [hcc]; omega)
      have hlen : xs.length + ys.length = (xs ++ ys).length := by simp
      rw [hlen]
      refine .row (cap := newcap) (cur := cur) (c0 := c0') (c2 := fun _ => 0) (by omega) hcm (fun x hx => ?_) (heap_alloc_new _ _) ?_ (by simp [upd]) ?_ hz0 ?_ (.nil zc0) (fun x => rfl)
      · rcases List.mem_append.1 hx with h | h
        · exact hkx x h
        · exact hky x h
      · have hl2 := congrArg List.length hcl
        have hzc : (Builtin.zeroCells z2.cells (newcap - (xs.length + ys.length))).size = (newcap - (xs.length + ys.length)) * j.size := by rw [size_zeroCells, hz2l]
        have e3 : newcap * j.size = xs.length * j.size + ys.length * j.size + (newcap - (xs.length + ys.length)) * j.size := by
          rw [← Nat.add_mul, ← Nat.add_mul]; congr 1; omega
        simp at hl2
        omega
      · rw [htake, hflat]; exact hboth
      · rw [htake]
        intro u hu
        rcases List.mem_append.1 hu with h | h
        · exact hone u h
        · exact honey u h
    rw [hdst] at hwp
    have hlim : xs.length + ys.length ≤ maxLen := by unfold maxLen; omega
    by_cases hye : ys = []
    · subst hye
      obtain ⟨A, cap, e1, hn, _⟩ := rep_row hxr
      have hrun := run_app0 (P := P) (w := w) t0 o.type e' inf2 g6 f1 A _ cap hn B cc
      have heY : a.eval y = .slice B 0 cc := eY
      rw [← e1, ← heY, ← hev] at hrun
      refine hwp hrun ⟨_, hK, ?_⟩
      rw [hev, List.append_nil]
      exact Stt.putrow hrf1 hnr h1 hd hz hs hr1 hxr (fun b => by rw [hcc]; omega)
    · obtain ⟨ad, hB, hsp, hmem⟩ := hmemy hye
      subst hB
      have hm0 : 0 < ys.length := List.length_pos_iff.2 hye
      have hcvs : cv.length = ys.length * inf2.size := by rw [f4]; omega
      cases hxr with
      | rowE hnil =>
        have hrun := run_append_nil (P := P) w t0 o.type e' inf2 z2 g6 f1 fz ad ys.length cc cv hcvs hmem hm0 (by simp only [List.length_nil] at hmax; omega) (by rw [f5]; simp only [List.length_nil, Nat.zero_add] at hby; omega)
        rw [← hev, ← eY] at hrun
        have hge := grownCap_ge w ys.length 0 e'
        have hle := grownCap_le_maxLen w ys.length 0 e' (by simpa using hlim)
        have := fresh [] (grownCap w ys.length 0 e') _ (.nil zc0) (by simp) (by simp) (by simpa using hge) hle rfl
        simp only [List.length_nil, Nat.zero_add] at this
        have e0 : ([] : List Value).toArray ++ cv.toArray ++ Builtin.zeroCells z2.cells (grownCap w ys.length 0 e' - ys.length) = cv.toArray ++ Builtin.zeroCells z2.cells (grownCap w ys.length 0 e' - ys.length) := by simp
        rw [e0] at this
        exact hwp hrun ⟨_, hK, this⟩
      | row hn hcap hk hb hsz' hS h1c h0c hoc hnil hcnt =>
        rename_i g cap cur ccc c2
        cases hnil with | nil hzz =>
        have hcurl : (cur.toList.take (xs.length * j.size)).length = xs.length * j.size := by
          have : xs.length * j.size ≤ cap * j.size := Nat.mul_le_mul_right _ hn
          simp; omega
        by_cases hroom : xs.length + ys.length ≤ cap
        · have hfit : xs.length * inf2.size + cv.length ≤ cur.size := by
            rw [hsz', f4]
            have : (xs.length + ys.length) * j.size ≤ cap * j.size := Nat.mul_le_mul_right _ hroom
            rw [Nat.add_mul] at this
            omega
          have hrun := run_append_room (P := P) w t0 o.type e' inf2 g6 f1 g xs.length cap cur hb ad ys.length cc cv hcvs hmem honey hroom hfit
          rw [← hev, ← eY] at hrun
          rw [f4] at hrun hfit
          generalize hnew : (cur.toList.take (xs.length * j.size) ++ cv ++ cur.toList.drop (xs.length * j.size + cv.length)).toArray = new at hrun
          have hnl : new.toList = cur.toList.take (xs.length * j.size) ++ cv ++ cur.toList.drop (xs.length * j.size + cv.length) := by rw [← hnew]
          have hpre : ∀ o', o' < S g → new[o']? = cur[o']? := by
            intro o' ho'
            rw [hS] at ho'
            omega
          have hcg : ∀ x, cx x = (if x = g then 1 else 0) := fun x => by rw [hcnt, hzz x]; omega
          have hle : S g ≤ 0 := by rw [hS]; exact Nat.le_refl _
          have hk1 := Stp.row (S := S) (c := cx) (s := 0) (new := new) hb (by rw [hcg]; simp) hpre hle
          have hk2 := Stp.row (S := S) (c := c') (s := 0) (new := new) hb (by rw [hcc, hcg]; simp) hpre hle
          have hr3 := hr1.step hk1 (fun b => by rw [Nat.add_comm, ← hcc]; exact h1 b)
          have hflat := flat_app xs ys
          have hboth := (RepC.app h1c hcv (c := fun b => ccc b + c0' b) (fun b => rfl)).step hk1 (fun b => by rw [h0c b, hz0 b, hcg]; split <;> omega)
          have htake : new.toList.take ((xs ++ ys).length * j.size) = cur.toList.take (xs.length * j.size) ++ cv := by
            have : (cur.toList.take (xs.length * j.size) ++ cv).length = (xs ++ ys).length * j.size := by simp [Nat.add_mul] at hcurl ⊢; omega
            rw [hnl, ← this, List.take_left]
          refine hwp hrun ⟨_, hK, Stt.putrow hrf1 hnr h1 hd (hz.row hb hk2) (hs.trans hk2) hr3 (c1 := cx) ?_ (fun b => by rw [hcc]; omega)⟩
          have hlen : xs.length + ys.length = (xs ++ ys).length := by simp
          rw [hlen]
          refine .row (cur := new) (c0 := fun b => ccc b + c0' b) (c2 := fun _ => 0) (by omega) hcap (fun x hx => ?_) (setRow_heap w g cur new e' (0, 0) hb) ?_ (by simp [upd]) ?_ (fun b => by show ccc b + c0' b = 0; rw [h0c b, hz0 b]) ?_ (.nil zc0) (fun x => by rw [hcg]; simp)
          · rcases List.mem_append.1 hx with h | h
            · exact hk x h
            · exact hky x h
          · have := congrArg List.length hnl
            simp at this
            omega
          · rw [htake, hflat]; exact hboth
          · rw [htake]
            intro u hu
            rcases List.mem_append.1 hu with h | h
            · exact hoc u h
            · exact honey u h
        · have holds : ∀ jj u, (cur.toList.take (xs.length * j.size))[jj]? = some u → w.cell? ((⟨g, 0, none⟩ : Addr).add jj) = some u := by
            intro jj u hu
            rw [add_mk, Nat.zero_add, cell_of_row w g jj cur e' (0, 0) hb]
            rw [List.getElem?_take] at hu
            split at hu
            · simpa using hu
            · cases hu
          have hrun := run_append_grow (P := P) w t0 o.type e' inf2 z2 g6 f1 fz ⟨g, 0, none⟩ xs.length cap (cur.toList.take (xs.length * j.size)) (by rw [f4]; exact hcurl) holds ad ys.length cc cv hcvs hmem (by omega) (by omega) (growslice_fits (by omega) (by rw [f5]; exact hby))
          rw [← hev, ← eY] at hrun
          have hge := grownCap_ge w (xs.length + ys.length) cap e'
          have hle := grownCap_le_maxLen w (xs.length + ys.length) cap e' hlim
          exact hwp hrun ⟨_, hK, fresh _ _ _ (h1c.congr fun b => (h0c b).symm) hoc hk hge hle rfl⟩
  · exact h.elim

theorem amv_back {x : Operand} {i : Nat} {y : AV} (h : (amv σ x)[i]? = some y) (hp : pb y = false) : σ[i]? = some y := by
  cases x with
  | tmp t =>
    simp only [amv] at h
    revert h
    generalize σ.getD t .any = v
    intro h
    have key : ∀ z, pb z = true → (σ.set t z)[i]? = some y → σ[i]? = some y := fun z hz h => (set_away h (by rintro rfl; rw [hp] at hz; cases hz)).2
    cases v <;> simp only [amv1] at h <;> first
      | exact h
      | exact key _ pb_view h
  | _ => exact h
theorem agrab_back : ∀ (xs : List Operand) {σ : List AV} {i : Nat} {y : AV}, (agrab σ xs).2[i]? = some y → pb y = false → σ[i]? = some y
  | [], σ, i, y, h, hp => h
  | x :: xs, σ, i, y, h, hp => amv_back (agrab_back xs h hp) hp
theorem rcall_sound {g t s e k : Nat} {es : List AV} {rest : List Operand} {c : Call} (ho : o.op = .call c) (hc : c.callee = .value (.func g)) (hca : c.args.toList = .tmp t :: rest) (hst : Stt dfs w0 S0 c0 σ a w) (hrb : rbase σ t = some (s, e, k, es))
    (h : rcall P σ g s e k es rest o.dst K) : o.wp P a w (fun a' w' => ∃ σ', K σ' ∧ Stt dfs w0 S0 c0 σ' a' w') Q := by
  obtain ⟨hds, ⟨fn, code, hfn, hbody, hname⟩, _, hcall⟩ := h
  obtain ⟨hrf, S, cc, hr, h1, hd, hz, hs⟩ := hst
  obtain ⟨v, cx, cr, hev, hvs, hxr, hr1, hcc, _, _, hrf1, hsl⟩ := take_row hr hrf hrb
  obtain ⟨c1, c2, hv, hr2, hc12⟩ := grabs rest hr1
  have hargs0 := RepC.cons hxr hv (c := fun b => cx b + c1 b) (fun b => rfl)
  have hrun := run_enter (P := P) hfn hname hbody (c.args.map a.eval) w
  have hargs : (v :: rest.map a.eval).toArray = c.args.map a.eval := by
    apply Array.ext'
    simp [hca, hev]
  have := hcall w S v _ _ hz hargs0 (fun b => by have := h1 b; have := hcc b; have := hc12 b; show cx b + c1 b ≤ 1; omega)
  rw [hargs] at this
  have hexec : (execOp a.eval o).run P w = .ok (.enter g (c.args.map a.eval)) w := by
    unfold execOp
    simp [ho, resolve, hc, Act.eval, Deferred.ofValue, invoke, hrun]
  unfold Oper.wp
  rw [hexec, Oper.upon_enter]
  refine this.mono fun e' w' ⟨u, r, y, S', c', he, hR, hpb, hy, hrr, hc1, hz', hstp⟩ => ?_
  subst he
  have hr3 := hr2.step hstp (fun b => by have := h1 b; have := hcc b; have := hc12 b; show c2 b + (cx b + c1 b) ≤ 1; omega)
  have hfr := hstp.frame (c := cc) (c2 := c2) (fun b => by have := hcc b; have := hc12 b; show cc b = cx b + c1 b + c2 b; omega)
  obtain ⟨vr, us, d1, d2, hvu, hrr1, hrr2, hdd⟩ := hrr.uncons
  injection hvu with e1 e2
  subst e1; subst e2
  -- the row, or nothing, back into its slot
  have hlen2 : (agrab (σ.set s .any) rest).2.length = σ.length := by
    have := hr2.length
    have := hr.length
    omega
  obtain ⟨cb, hrb2, hle⟩ := hr3.put hrr2 s (by omega)
  rw [list_set_same hvs] at hrb2
  have hrfb : RefOk ((agrab (σ.set s .any) rest).2.set s y) a.tmps.toList := by
    rcases hy with rfl | ⟨e', k', es', rfl⟩
    · exact (hrf1.agrab rest).less s rfl
    · have hbase := (rbase_spec hr hrf hrb).1
      have back : ∀ {i : Nat} {x : AV}, (agrab (σ.set s .any) rest).2[i]? = some x → pb x = false → σ[i]? = some x := fun h hp => (set_away (agrab_back rest h hp) (by rintro rfl; cases hp)).2
      refine ⟨fun i s2 off T2 cs2 hi hs2 => ?_, fun i s2 e2 k2 es2 hi hs2 => ?_, fun i s2 k3 j o e2 k2 es2 hi hs2 => ?_⟩
      · obtain ⟨n1, g1⟩ := set_away hi (by intro h; cases h)
        obtain ⟨n2, g2⟩ := set_away hs2 (by intro h; cases h)
        exact hrf.ref i s2 off T2 cs2 (back g1 rfl) (back g2 rfl)
      · obtain ⟨n1, g1⟩ := set_away hi (by intro h; cases h)
        by_cases hss : s = s2
        · subst hss
          exact hrf.al i s _ _ _ (back g1 rfl) hbase
        · rw [set_other hss] at hs2
          exact hrf.al i s2 _ _ _ (back g1 rfl) (back hs2 rfl)
      · obtain ⟨n1, g1⟩ := set_away hi (by intro h; cases h)
        by_cases hss : s = s2
        · subst hss
          exact hrf.pr i s k3 j o _ _ _ (back g1 rfl) hbase
        · rw [set_other hss] at hs2
          exact hrf.pr i s2 k3 j o _ _ _ (back g1 rfl) (back hs2 rfl)
  refine ⟨_, hR, Stt.value (c := fun b => c' b + c2 b) hrfb hpb ?_ hd hz' (hs.trans hfr) hrb2 hrr1 (fun b => by have := hle b; have := hdd b; omega) _⟩
  intro b
  show c' b + c2 b ≤ 1
  have := h1 b
  have := hcc b
  have := hc12 b
  have := hc1 b
  rcases Nat.lt_or_ge b w.heap.size with hb | hb
  · have h5 := hstp.own b hb
    have h6 : c' b ≤ cx b + c1 b := h5
    omega
  · have : c2 b = 0 := by
      rcases Nat.eq_zero_or_pos (c2 b) with h | h
      · exact h
      · have := hr2.lt b h; omega
    omega

theorem rep_nilv {S : Nat → Nat} {x : AV} {v : Value} {c : Nat → Nat} {pos : Bool} {K : AV → Prop} (h : RepC w S [x] [v] c) (hx : rnil1 pos K x) : ∃ A n cap, v = .slice A n cap ∧ K (.raw (.bool (if A.isNone then pos else !pos))) := by
  cases h with
  | nilS h => exact ⟨_, _, _, rfl, hx⟩
  | slE hcap h =>
    rename_i k a cap
    cases a with
    | none => exact ⟨_, _, _, rfl, hx.1 rfl⟩
    | some a => exact ⟨_, _, _, rfl, hx.2⟩
  | sl hn hcap hsp hk h1 h0 hcell hst h => exact ⟨_, _, _, rfl, hx.2⟩
  | ownE h => exact ⟨_, _, _, rfl, hx.1 rfl⟩
  | own hn hcap hk hb hs' hS h1 h0 hoc h hcc => exact ⟨_, _, _, rfl, hx.2⟩
  | mineE h => exact ⟨_, _, _, rfl, hx.1 rfl⟩
  | mine hn hcap hk hb hs' hS h1 h0 hoc h hcc => exact ⟨_, _, _, rfl, hx.2⟩
  | _ => exact hx.elim
theorem isEl_spec (hT : TabOk P T) {t : Nat} (h : isEl (T t) = true) : ∃ e, P.underlying t = some (.slice e) := by
  unfold isEl at h
  split at h
  · rename_i i hi
    obtain ⟨inf, z, d, g1, gz, gzz, g4, _, g6, g7⟩ := (hT t i hi).get
    obtain ⟨e', he'⟩ := Option.isSome_iff_exists.1 h
    have hd' : d = .slice e' := td_elem (P := P) (by rw [g7]; exact he')
    exact ⟨e', by rw [← hd']; exact g6⟩
  · cases h
theorem rbin_sound (hT : TabOk P T) {op : BinOp} {t t' : Nat} {x y : Operand} (ho : o.op = .binOp op t x y t') (hst : Stt dfs w0 S0 c0 σ a w) (h : rbin T op t (aev σ x) (aev σ y) fun z => K (aset σ o.dst z)) :
    o.wp P a w (fun a' w' => ∃ σ', K σ' ∧ Stt dfs w0 S0 c0 σ' a' w') Q := by
  unfold rbin at h
  split at h
  · rename_i hy
    obtain ⟨hrf, S, c, hr, h1, hd, hz, hs⟩ := hst
    obtain ⟨cx, hrx⟩ := aev_rep hr x
    obtain ⟨cy, hry⟩ := aev_rep hr y
    rw [hy] at hry
    have e2 : a.eval y = .slice none 0 0 := by
      generalize a.eval y = v at hry
      cases hry with | nilS h => rfl
    have key : ∀ (op : BinOp) (pos : Bool), o.op = .binOp op t x y t' → isEl (T t) = true → rnil1 pos (fun z => K (aset σ o.dst z)) (aev σ x) →
        (∀ (A : Option Addr) (n cap e : Nat), P.underlying t = some (.slice e) → (binOp op t (.slice A n cap) (.slice none 0 0)).run P w = .ok (.bool (if A.isNone then pos else !pos)) w) →
        o.wp P a w (fun a' w' => ∃ σ', K σ' ∧ Stt dfs w0 S0 c0 σ' a' w') Q := by
      intro op pos ho hel hnil hrun
      obtain ⟨e, he⟩ := isEl_spec hT hel
      obtain ⟨A, n, cap, e1, hK⟩ := rep_nilv hrx hnil
      have hg : ∀ (p q : Operand), (eqGuard op t p q (.slice A n cap) (.slice none 0 0)).run P w = .ok () w := by
        intro p q; unfold eqGuard; split <;> simp
      refine wp_value (v := .bool (if A.isNone then pos else !pos)) (w' := w) ?_ ⟨_, hK, Stt.value hrf rfl h1 hd hz hs hr (c1 := fun _ => 0) (rep_mk rfl zc0) (fun b => by omega) _⟩
      unfold execOp
      simp only [ho, e1, e2, hg, hrun A n cap e he, Sem.run_bind, Result.andThen_ok]
      rfl
    cases op <;> simp only [] at h <;> try exact h.elim
    · refine key .eql true ho h.1 h.2 fun A n cap e he => ?_
      rw [Lib.run_eql_slice_nil w t e A n cap 0 0 he]
      cases A <;> rfl
    · refine key .neq false ho h.1 h.2 fun A n cap e he => ?_
      have hb : binOp .neq t (.slice A n cap) (.slice none 0 0) = (do pure (.bool (!(← Op.equal t (.slice A n cap) (.slice none 0 0))))) := rfl
      have he' : (Op.equal t (.slice A n cap) (.slice none 0 0)).run P w = .ok A.isNone w := by
        simp [Op.equal, Op.maxDepth, Lib.run_equalIn_slice_nil w 9999 t e A n cap 0 0 he]
      rw [hb]
      simp only [Sem.run_bind, he', Result.andThen_ok, Sem.run_pure]
      cases A <;> rfl
  · exact bin_sound hT ho hst h
theorem rbs0_sound (hT : TabOk P T) {t n : Nat} {ps : Array (Nat × Operand)} (ho : o.op = .buildSlice t n ps) (hps : ps.toList = []) (hst : Stt dfs w0 S0 c0 σ a w) (h : rbs0 T t n fun z => K (aset σ o.dst z)) :
    o.wp P a w (fun a' w' => ∃ σ', K σ' ∧ Stt dfs w0 S0 c0 σ' a' w') Q := by
  unfold rbs0 at h
  split at h
  · rename_i i hi
    split at h
    · rename_i e he
      split at h
      · rename_i j hj
        obtain ⟨rfl, hK⟩ := h
        obtain ⟨inf, z, d, g1, gz, gzz, g4, _, g6, g7⟩ := (hT t i hi).get
        obtain ⟨inf2, z2, d2, f1, fz, fzz, f4, _, f6, f7⟩ := (hT e j hj).get
        have hd' : d = .slice e := td_elem (P := P) (by rw [g7]; exact he)
        subst hd'
        obtain ⟨hrf, S, c, hr, h1, hd, hz, hs⟩ := hst
        have hsz2 : (sizeOf e).run P w = .ok j.size w := by simp [sizeOf, typeInfo, f1, f4]
        have hpe : ps = #[] := by apply Array.ext'; simpa using hps
        refine wp_value (w' := w.alloc (.cells #[] e)) (v := .slice (some ⟨w.heap.size, 0, none⟩) 0 0) ?_ ⟨_, hK, Stt.new (s := 0) hrf rfl h1 hr.lt hd hz hs hr (c1 := fun _ => 0) ?_ (fun b => by show 0 + c b ≤ c b; omega) _⟩
        · unfold execOp
          simp only [ho, hpe, Instr.buildSlice, Sem.run_bind, run_underlying g6, Result.andThen_ok, hsz2]
          have hr0 : ∀ f : Nat → Value, Array.map f (Array.range 0) = #[] := fun f => by apply Array.ext'; simp
          simp [Instr.fill, newRow, hr0]
        · exact .mine (es := []) (cur := #[]) (c0 := fun _ => 0) (c2 := fun _ => 0) (Nat.le_refl _) (by decide) (fun x hx => by simp at hx) (heap_alloc_new w _) (by simp) (by simp [upd]) (by simp only [flat, List.length_nil, Nat.zero_mul, List.take_zero]; exact .nil zc0) zc0 (by simp) (.nil zc0) (fun x => by simp)
      · exact h.elim
    · exact h.elim
  · exact h.elim
theorem flat_at {k : Nat} : ∀ {es : List AV} {j : Nat} (off n : Nat), (∀ x ∈ es, (cellsOf x).length = k) → j < es.length → off + n ≤ k → pcells (flat es) (j * k + off) n = pcells (cellsOf (es.getD j .any)) off n
  | [], j, off, n, _, h, _ => by simp at h
  | x :: es, j, off, n, hk, hj, ho => by
    have hx := hk x (by simp)
    cases j with
    | zero =>
      simp only [pcells, flat, Nat.zero_mul, Nat.zero_add, List.getD_cons_zero]
      rw [List.drop_append_of_le_length (by omega), List.take_append_of_le_length (by simp; omega)]
    | succ j =>
      have ih := flat_at (es := es) (j := j) off n (fun y hy => hk y (by simp [hy])) (by simpa using hj) ho
      rw [List.getD_cons_succ, ← ih]
      simp only [pcells, flat]
      rw [show (j + 1) * k + off = (cellsOf x).length + (j * k + off) by rw [hx, Nat.add_mul]; omega, ← List.drop_drop, List.drop_left]
theorem flat_put {k : Nat} : ∀ {es : List AV} {j : Nat} {el : AV} (off n : Nat) (ys : List AV), (∀ x ∈ es, (cellsOf x).length = k) → j < es.length → off + n ≤ k → cellsOf el = pleft (cellsOf (es.getD j .any)) off n ys → pleft (flat es) (j * k + off) n ys = flat (es.set j el)
  | [], j, el, off, n, ys, _, h, _, _ => by simp at h
  | x :: es, j, el, off, n, ys, hk, hj, ho, he => by
    have hx := hk x (by simp)
    cases j with
    | zero =>
      rw [List.getD_cons_zero] at he
      simp only [List.set_cons_zero, flat, he, pleft, Nat.zero_mul, Nat.zero_add]
      rw [List.take_append_of_le_length (by omega), List.drop_append_of_le_length (by omega)]
      simp only [List.append_assoc]
    | succ j =>
      rw [List.getD_cons_succ] at he
      have ih := flat_put (es := es) (j := j) (el := el) off n ys (fun y hy => hk y (by simp [hy])) (by simpa using hj) ho he
      simp only [List.set_cons_succ, flat]
      rw [← ih]
      simp only [pleft]
      rw [show (j + 1) * k + off = (cellsOf x).length + (j * k + off) by rw [hx, Nat.add_mul]; omega]
      rw [show (cellsOf x).length + (j * k + off) + n = (cellsOf x).length + (j * k + off + n) by omega, ← List.drop_drop, List.drop_left]
      rw [List.take_append, List.take_of_length_le (by omega), show (cellsOf x).length + (j * k + off) - (cellsOf x).length = j * k + off by omega]
      simp only [List.append_assoc]
theorem pref_dst {d s k j off b n cap : Nat} (hod : o.dst = some d) (hst : Stt dfs w0 S0 c0 σ a w) (hsd : s ≠ d) (hv : a.tmps.toList[s]? = some (.slice (some ⟨b, 0, none⟩) n cap))
    (hrun : (execOp a.eval o).run P w = .ok (.value (.pointer (some ⟨b, j * k + off, none⟩))) w) (hK : K (σ.set d (.pref s k j off))) : o.wp P a w (fun a' w' => ∃ σ', K σ' ∧ Stt dfs w0 S0 c0 σ' a' w') Q := by
  obtain ⟨hrf, S, c, hr, h1, hd, hz, hs⟩ := hst
  refine wp_value (v := .pointer (some ⟨b, j * k + off, none⟩)) (w' := w) hrun ⟨_, hK, ?_⟩
  rw [hod]
  obtain ⟨c', h2, h3⟩ := hr.aset (RepC.pref (s := s) (k := k) (j := j) (o := off) (v := .pointer (some ⟨b, j * k + off, none⟩)) (.nil zc0)) (some d)
  exact ⟨by rw [put_tmps]; exact hrf.newpref hsd hv hr.length, S, c', h2, fun b => by have := h1 b; have := h3 b; omega, by rw [put_defers]; exact hd, hz, hs.drop fun b => by have := h3 b; omega⟩
theorem rix_sound (hT : TabOk P T) {t q s e k : Nat} {y : Operand} {es : List AV} (ho : o.op = .indexAddr t (.tmp q) y) (hst : Stt dfs w0 S0 c0 σ a w) (hrb : rbase σ q = some (s, e, k, es)) (h : rixa T t s k es.length (aev σ y) o.dst σ K) :
    o.wp P a w (fun a' w' => ∃ σ', K σ' ∧ Stt dfs w0 S0 c0 σ' a' w') Q := by
  unfold rixa at h
  split at h
  · rename_i i hi
    split at h
    · rename_i e' he
      split at h
      · rename_i j hj
        unfold rixb at h
        split at h
        · rename_i kk m d hy hod
          obtain ⟨hk, h0, hm, hsd, hK⟩ := h
          have hst' := hst
          obtain ⟨hrf, S, c, hr, _⟩ := hst
          obtain ⟨inf, zz, dd, g1, _, _, g4, _, g6, g7⟩ := (hT t i hi).get
          have hd : dd = .slice e' := td_elem (P := P) (by rw [g7]; exact he)
          subst hd
          obtain ⟨inf2, _, _, g1', _, _, g4', _⟩ := (hT e' j hj).get
          have hsz2 : (sizeOf e').run P w = .ok j.size w := by simp [sizeOf, typeInfo, g1', g4']
          obtain ⟨cy, hry⟩ := aev_rep hr y
          rw [hy] at hry
          have e2 := (rep_raw hry).1
          obtain ⟨v, cx, cr, hev, hvs, hxr, _⟩ := take_row hr hrf hrb
          have hne : es ≠ [] := by intro h; subst h; simp at hm
          cases hxr with
          | rowE h => exact absurd rfl hne
          | row hn hcap hkk hb hs' hS hx1 h0' hoc h hcc =>
            rename_i b cap cur d0 d2
            refine pref_dst (k := k) (j := m.toNat) (off := 0) hod hst' hsd hvs ?_ hK
            have hb1 : m < (es.length : Int) := by omega
            unfold execOp
            simp only [ho, hev, e2, Instr.indexAt, Sem.run_bind, asIntOf, Sem.run_pure, Result.andThen_ok, run_underlying g6, h0, hb1, and_self, if_true, hsz2, hk, add_mk, Nat.zero_add, Nat.add_zero]
        · exact h.elim
      · exact h.elim
    · exact h.elim
  · exact h.elim
theorem pref_at {q s k j off e k' : Nat} {es : List AV} {c : Nat → Nat} (hr : RepC w S σ a.tmps.toList c) (hrf : RefOk σ a.tmps.toList) (hq : σ.getD q .any = .pref s k j off) (hx : σ.getD s .any = .row e k' es) :
    ∃ b n cap, a.tmps.toList[s]? = some (.slice (some ⟨b, 0, none⟩) n cap) ∧ a.eval (.tmp q) = .pointer (some ⟨b, j * k + off, none⟩) := by
  obtain ⟨b, n, cap, h1, h2⟩ := hrf.pr q s k j off e k' es (rep_at hr hq (by simp)) (rep_at hr hx (by simp))
  exact ⟨b, n, cap, h1, eval_tmp h2⟩
theorem rfad_sound {t q s k j off f : Nat} {i : TI} (ho : o.op = .fieldAddr t (.tmp q) f) (hi : TIok P t i) (hst : Stt dfs w0 S0 c0 σ a w) (hq : σ.getD q .any = .pref s k j off) (h : rfad i.td.flds[f]? (σ.getD s .any) s k j off o.dst σ K) :
    o.wp P a w (fun a' w' => ∃ σ', K σ' ∧ Stt dfs w0 S0 c0 σ' a' w') Q := by
  unfold rfad at h
  split at h
  · rename_i fo n ag e k' es d hfl hx hod
    obtain ⟨hn, hsd, hK⟩ := h
    obtain ⟨fs, fd, hu, hfd, hoff, hsz, hag⟩ := fld_get hi hfl
    have hst' := hst
    obtain ⟨hrf, S, c, hr, _⟩ := hst
    obtain ⟨b, n', cap, h1, h2⟩ := pref_at hr hrf hq hx
    refine pref_dst (k := k) (j := j) (off := off + fo) hod hst' hsd h1 ?_ hK
    unfold execOp
    simp [ho, h2, Instr.fieldAt, run_underlying hu, hfd, Instr.sureAddr, fplace hsz hn, add_mk, hoff, Nat.add_assoc]
  · exact h.elim
theorem rpld_sound {t q s k j off : Nat} {i : TI} (ho : o.op = .load t (.tmp q)) (hi : TIok P t i) (hst : Stt dfs w0 S0 c0 σ a w) (hq : σ.getD q .any = .pref s k j off) (h : rpld i (σ.getD s .any) k j off o.dst σ K) :
    o.wp P a w (fun a' w' => ∃ σ', K σ' ∧ Stt dfs w0 S0 c0 σ' a' w') Q := by
  unfold rpld at h
  split at h
  · rename_i e k' es hx
    obtain ⟨rfl, hj, hoff, hK⟩ := h
    obtain ⟨hrf, S, c, hr, h1, hd, hz, hs⟩ := hst
    obtain ⟨b, n, cap, hv, hev⟩ := pref_at hr hrf hq hx
    obtain ⟨v, d1, d2, hv', hxr, hr2, hcc⟩ := hr.take s (rep_at hr hx (by simp))
    rw [hv] at hv'
    injection hv' with hv'
    subst hv'
    cases hxr with
    | row hn hcap hkk hb hs' hS hx1 h0 hoc hnil hcc' =>
      rename_i cur e0 e2
      have hfl := flat_at off (lsz i) hkk hj hoff
      have hlen : (flat es).length = es.length * k' := flat_len hkk
      obtain ⟨p1, hp, hple⟩ := hx1.sub0 (j * k' + off) (lsz i)
      rw [hfl] at hp
      have hjk : j * k' + k' ≤ es.length * k' := by
        have := Nat.mul_le_mul_right k' (show j + 1 ≤ es.length from hj); rwa [Nat.add_mul, Nat.one_mul] at this
      have hjc : j * k' + k' ≤ cap * k' := Nat.le_trans hjk (Nat.mul_le_mul_right k' hn)
      have hval := rep_pval hp (fun u hu => hoc u (List.mem_of_mem_drop (List.mem_of_mem_take hu))) i.td.agg (fun ha => by
        have hl1 : lsz i = 1 := by unfold lsz; rw [ha]; rfl
        have hcl := hkk _ (show es.getD j .any ∈ es by rw [List.getD_eq_getElem?_getD, List.getElem?_eq_getElem hj]; exact List.getElem_mem hj)
        rw [pcells, List.length_take, List.length_drop, hcl]
        omega)
      obtain ⟨e3, hval, hle3⟩ := hval.pl
      have htk : ((cur.toList.take (es.length * k')).drop (j * k' + off)).take (lsz i) = (cur.toList.drop (j * k' + off)).take (lsz i) := by
        rw [List.drop_take, List.take_take, Nat.min_eq_left (by omega)]
      rw [htk] at hval
      have hz3 : Zc p1 := fun x => by have := hple x; have := h0 x; omega
      refine wp_value (w' := w) (v := if i.td.agg then .agg ((cur.toList.drop (j * k' + off)).take (lsz i)).toArray else ((cur.toList.drop (j * k' + off)).take (lsz i)).headD undef) ?_ ⟨_, hK, Stt.value hrf (pb_pl _) h1 hd hz hs hr hval (fun x => ?_) _⟩
      · have hrun := run_loadBox (P := P) (w := w) (t := t) (off := j * k' + off) hi hb rfl (by rw [hs']; omega)
        unfold execOp
        simp only [ho, hev, Sem.run_bind, hrun, Result.andThen_ok, Sem.run_pure]
      · have := hle3 x; have := hz3 x; omega
  · exact h.elim
theorem mkel_cells {x : AV} {cs : List AV} {k : Nat} (hx : (cellsOf x).length = k) (hc : cs.length = k) (h1 : (∀ ys, x ≠ .agg ys) → k = 1 → ∀ z, cs = [z] → cellsOf z = [z]) : cellsOf (mkel x cs) = cs := by
  by_cases ha : ∃ ys, x = .agg ys
  · obtain ⟨ys, rfl⟩ := ha; rfl
  · have hna : ∀ ys, x ≠ .agg ys := fun ys h => ha ⟨ys, h⟩
    have hk1 : k = 1 := by rw [← hx]; cases x <;> first | rfl | exact absurd rfl (hna _)
    subst hk1
    match cs, hc with
    | [z], _ =>
      have := h1 hna rfl z rfl
      have hm : mkel x [z] = z := by cases x <;> first | rfl | exact absurd rfl (hna _)
      rw [hm]; exact this
theorem rpst_sound {t q s k j off : Nat} {y : Operand} {i : TI} (ho : o.op = .store t (.tmp q) y) (hi : TIok P t i) (hst : Stt dfs w0 S0 c0 σ a w) (hq : σ.getD q .any = .pref s k j off) (h : rpst i ((amv σ y).getD s .any) s k j off (view (aev σ y)) o.dst (amv σ y) K) :
    o.wp P a w (fun a' w' => ∃ σ', K σ' ∧ Stt dfs w0 S0 c0 σ' a' w') Q := by
  unfold rpst at h
  split at h
  · rename_i e k' es hx
    obtain ⟨rfl, hj, hoff, hok, hlen, hK⟩ := h
    obtain ⟨inf, z, d, g1, gz, gzz, g4, _, g6, g7⟩ := hi.get
    obtain ⟨hrf, S, c, hr, h1, hd, hz, hs⟩ := hst
    obtain ⟨cy, cr, hy0, hr1, hc⟩ := grab1 hr y
    have hy := hy0.view
    obtain ⟨hcells, hone, hsz⟩ := rep_cells hy hok
    have hσs := rep_at hr1 hx (by simp)
    have hσs0 := amv_back hσs rfl
    have hσq := rep_at hr hq (by simp)
    obtain ⟨b, n, cap, hv, hpq⟩ := hrf.pr q s k' j off e k' es hσq hσs0
    have hev := eval_tmp hpq
    obtain ⟨v, d1, d2, hv', hxr, hr2, hcr⟩ := hr1.take s hσs
    rw [hv] at hv'
    injection hv' with hv'
    subst hv'
    generalize hes : AV.row e k' es = xr at hxr
    generalize hvv : Value.slice (some ⟨b, 0, none⟩) n cap = vv at hxr
    cases hxr with
    | row hn hcap hkk hb hs' hS hx1 h0 hoc hnil hcc' =>
      rename_i e1 k1 es1 b1 cap1 cur e0 e2
      injection hes with he1 he2 he3
      subst he1; subst he2; subst he3
      injection hvv with hv1 hv2 hv3
      injection hv1 with hv1
      injection hv1 with hv1
      subst hv1
      have hfl : (flat es).length = es.length * k' := flat_len hkk
      have hjk : j * k' + k' ≤ es.length * k' := by
        have := Nat.mul_le_mul_right k' (show j + 1 ≤ es.length from hj); rwa [Nat.add_mul, Nat.one_mul] at this
      have hjc : es.length * k' ≤ cap1 * k' := Nat.mul_le_mul_right k' hn
      have hcb : c b ≠ 0 := by rw [hc, hcr, hcc']; simp
      have hcsz : j * k' + off + (a.eval y).cells.toList.length ≤ cur.size := by
        rw [hs']; simp at hsz ⊢; omega
      have hrun := run_storeCells_at P b (j * k' + off) e (a.eval y).cells.toList 0 cur w hb (by simpa using hcsz) hone
      simp only [Nat.add_zero] at hrun
      generalize hnew : (cur.toList.take (j * k' + off) ++ (a.eval y).cells.toList ++ cur.toList.drop (j * k' + off + (a.eval y).cells.toList.length)).toArray = new at hrun
      have hyl : (a.eval y).cells.toList.length = i.size := by simp; omega
      have hnl : new.toList = cur.toList.take (j * k' + off) ++ (a.eval y).cells.toList ++ cur.toList.drop (j * k' + off + i.size) := by
        rw [← hnew, hyl]
      have hk := Stp.row (S := S) (c := fun x => if x = b then 1 else 0) (s := 0) (new := new) hb (by simp) (fun o ho => by rw [hS] at ho; omega) (by omega)
      have hSS : upd S b 0 = S := by funext x; unfold upd; split <;> simp_all
      rw [hSS] at hk
      have hk2 := Stp.row (S := S) (c := c) (s := 0) (new := new) hb hcb (fun o ho => by rw [hS] at ho; omega) (by omega)
      rw [hSS] at hk2
      have htot : ∀ x, c x = cy x + ((if x = b then 1 else 0) + e2 x + d2 x) := fun x => by rw [hc, hcr, hcc']
      have hy' := hcells.step hk (fun x => by have := h1 x; have := htot x; omega)
      have hx1' := hx1.step hk (fun x => by have := h1 x; have := htot x; have := h0 x; omega)
      have hr2' := hr2.step hk (fun x => by have := h1 x; have := htot x; omega)
      have hb' := setRow_heap w b cur new e (0, 0) hb
      obtain ⟨p1, p2, hp, hput, hce⟩ := hx1'.part (j * k' + off) i.size
      obtain ⟨c', hp2, hc'⟩ := hput _ _ _ hy'
      -- the element
      have hel : cellsOf (mkel (es.getD j .any) (pleft (cellsOf (es.getD j .any)) off i.size (cellsOf (view (aev σ y))))) = pleft (cellsOf (es.getD j .any)) off i.size (cellsOf (view (aev σ y))) := by
        have hmem : es.getD j .any ∈ es := by
          rw [List.getD_eq_getElem?_getD, List.getElem?_eq_getElem hj]; exact List.getElem_mem hj
        have hcl := hkk _ hmem
        refine mkel_cells hcl (by simp only [pleft, List.length_append, List.length_take, List.length_drop, hcl, hlen]; omega) fun hna hk1 z hz' => ?_
        -- one cell: what is put, or what was there
        rcases Nat.eq_zero_or_pos i.size with h0s | h1s
        · have hcy0 : cellsOf (view (aev σ y)) = [] := List.eq_nil_of_length_eq_zero (by omega)
          rw [h0s, hcy0] at hz'
          simp only [pleft, List.append_nil, Nat.add_zero, List.take_append_drop] at hz'
          generalize hxx : es.getD j .any = xx at *
          have : cellsOf xx = [xx] := by cases xx <;> first | rfl | exact absurd rfl (hna _)
          rw [this] at hz'
          injection hz' with hz'
          rw [← hz']; exact this
        · have ho0 : off = 0 := by omega
          have hs1 : i.size = 1 := by omega
          subst ho0
          rw [hs1] at hz'
          simp only [pleft, List.take_zero, List.nil_append, Nat.zero_add] at hz'
          rw [List.drop_of_length_le (by omega), List.append_nil] at hz'
          have hrz := hcells
          rw [hz'] at hrz
          match hvq : (a.eval y).cells.toList, hyl with
          | [u], _ =>
            rw [hvq] at hrz
            exact rep_cell hrz (hone u (by rw [hvq]; simp))
          | [], hl => rw [hs1] at hl; simp at hl
          | _ :: _ :: _, hl => rw [hs1] at hl; simp at hl
      rw [flat_put off i.size _ hkk hj hoff hel] at hp2
      have htk : (cur.toList.take (es.length * k')).take (j * k' + off) ++ (a.eval y).cells.toList ++ (cur.toList.take (es.length * k')).drop (j * k' + off + i.size) = new.toList.take (es.length * k') := by
        rw [hnl, List.take_append, List.take_append, List.take_take, Nat.min_eq_left (by omega), List.drop_take]
        simp only [List.length_take, List.length_append, hyl]
        have hcl : cur.toList.length = cap1 * k' := by simp [hs']
        rw [hcl, Nat.min_eq_left (by omega), List.take_of_length_le (show (List.take (j * k' + off) cur.toList).length ≤ es.length * k' by rw [List.length_take]; omega), List.take_of_length_le (show (a.eval y).cells.toList.length ≤ es.length * k' - (j * k' + off) by omega)]
      rw [htk] at hp2
      have honeN : ∀ u ∈ new.toList.take (es.length * k'), u.oneCell' = true := by
        rw [← htk]
        intro u hu
        simp only [List.mem_append] at hu
        rcases hu with (hu | hu) | hu
        · exact hoc u (List.mem_of_mem_take hu)
        · exact hone u hu
        · exact hoc u (List.mem_of_mem_drop hu)
      have hz' : Zc c' := fun x => by have := hc' x; have := hce x; have := h0 x; simp only at *; omega
      have hsl : (es.set j (mkel (es.getD j .any) (pleft (cellsOf (es.getD j .any)) off i.size (cellsOf (view (aev σ y)))))).length = es.length := by simp
      have hrow : RepC (w.setRow b new) S [.row e k' (es.set j (mkel (es.getD j .any) (pleft (cellsOf (es.getD j .any)) off i.size (cellsOf (view (aev σ y))))))] [.slice (some ⟨b, 0, none⟩) es.length cap1] (fun x => if x = b then 1 else 0) := by
        rw [← hsl]
        refine .row (c2 := fun _ => 0) (by rw [hsl]; exact hn) hcap (fun z hz2 => ?_) hb' (by have := congrArg List.length hnl; simp at this; rw [this]; simp at hyl; omega) hS (by rw [hsl]; exact hp2) hz' (by rw [hsl]; exact honeN) (.nil zc0) (fun x => by simp)
        rcases List.mem_or_eq_of_mem_set hz2 with hz2 | rfl
        · exact hkk z hz2
        · rw [hel]
          have hmem : es.getD j .any ∈ es := by
            rw [List.getD_eq_getElem?_getD, List.getElem?_eq_getElem hj]; exact List.getElem_mem hj
          have hcl := hkk _ hmem
          simp only [pleft, List.length_append, List.length_take, List.length_drop, hcl, hlen]; omega
      have hr3 := hr2'.fill hrow s (by have := (List.getElem?_eq_some_iff.1 hσs).1; simp [this])
      rw [List.set_set, list_set_same (l := a.tmps.toList) (by rw [hv, hv2, hv3])] at hr3
      have hsz2 : Sz (w.setRow b new) S := hz.row hb hk2 (fun _ _ => rfl)
      refine wp_skip' (w' := w.setRow b new) ?_ ⟨_, hK, Stt.value ((hrf.amv y).rerow _ _ _ hσs) rfl h1 hd hsz2 (hs.trans hk2) hr3 (.any (.nil zc0)) (fun x => ?_) _⟩
      · have hz2 : (sizeOf t).run P w = .ok i.size w := by simp [sizeOf, typeInfo, g1, g4]
        have hne : ¬ (a.eval y).cells.size ≠ i.size := by omega
        unfold execOp
        simp [ho, hev, Instr.storeAt, Instr.sureAddr, storeVar, hz2, hne, hrun]
      · have := htot x
        show 0 + ((if x = b then 1 else 0) + d2 x) ≤ c x
        omega
    | rowE h =>
      injection hes with _ _ he
      subst he
      simp at hj
    | _ => cases hes
  · exact h.elim
theorem rop_sound (hT : TabOk P T) (hst : Stt dfs w0 S0 c0 σ a w) (h : rop P T o σ K) : o.wp P a w (fun a' w' => ∃ σ', K σ' ∧ Stt dfs w0 S0 c0 σ' a' w') Q := by
  have alias_sound : ∀ {t s d : Nat} {v : Value}, o.op = .move (.tmp t) → o.dst = some d → a.tmps.toList[t]? = some v → s ≠ d → a.tmps.toList[s]? = some v → K (σ.set d (.alias s)) → o.wp P a w (fun a' w' => ∃ σ', K σ' ∧ Stt dfs w0 S0 c0 σ' a' w') Q := by
    intro t s d v ho hd hvt hsd hvs hK
    obtain ⟨hrf, S, c, hr, h1, hdf, hz, hs⟩ := hst
    refine wp_value (v := v) (w' := w) ?_ ⟨_, hK, ?_⟩
    · unfold execOp
      simp [ho, eval_of hvt]
    · rw [hd]
      obtain ⟨c', h2, h3⟩ := hr.aset (RepC.alias (s := s) (v := v) (.nil zc0)) (some d)
      refine ⟨by rw [put_tmps]; exact hrf.newal hsd hvs hr.length, S, c', h2, fun b => by have := h1 b; have := h3 b; omega, by rw [put_defers]; exact hdf, hz, hs.drop fun b => by have := h3 b; omega⟩
  unfold rop at h
  split at h
  · rename_i t ho
    split at h
    · rename_i e k es d hx hd
      have hst' := hst
      obtain ⟨hrf, S, c, hr, h1, hdf, hz, hs⟩ := hst'
      obtain ⟨v, c1, c2, hv, _⟩ := hr.take t (rep_at hr hx (by simp))
      exact alias_sound ho hd hv h.1 hv h.2
    · rename_i s d hx hd
      have hst' := hst
      obtain ⟨hrf, S, c, hr, h1, hdf, hz, hs⟩ := hst'
      have hta := rep_at hr hx (by simp)
      obtain ⟨v, c1, c2, hv, _⟩ := hr.take t hta
      by_cases hrow : ∃ e k es, σ[s]? = some (.row e k es)
      · obtain ⟨e, k, es, hrow⟩ := hrow
        exact alias_sound ho hd hv h.1 ((hrf.al t s e k es hta hrow).symm.trans hv) h.2
      · -- nothing is known of what it shows
        refine wp_value (v := v) (w' := w) ?_ ⟨_, h.2, ?_⟩
        · unfold execOp
          simp [ho, eval_of hv]
        · rw [hd]
          obtain ⟨c', h2, h3⟩ := hr.aset (RepC.alias (s := s) (v := v) (.nil zc0)) (some d)
          refine ⟨?_, S, c', h2, fun b => by have := h1 b; have := h3 b; omega, by rw [put_defers]; exact hdf, hz, hs.drop fun b => by have := h3 b; omega⟩
          rw [put_tmps]
          refine ⟨fun i s2 off2 T2 cs2 hi hs2 => ?_, fun i s2 e k es hi hs2 => ?_, fun i s2 k j o e k' es hi hs2 => ?_⟩
          · obtain ⟨n1, g1⟩ := set_away hi (by intro h; cases h)
            obtain ⟨n2, g2⟩ := set_away hs2 (by intro h; cases h)
            obtain ⟨b, k1, k2⟩ := hrf.ref i s2 off2 T2 cs2 g1 g2
            exact ⟨b, by rw [set_other n2]; exact k1, by rw [set_other n1]; exact k2⟩
          · obtain ⟨n2, g2⟩ := set_away hs2 (by intro h; cases h)
            rw [List.getElem?_set] at hi
            split at hi
            · split at hi
              · injection hi with hi
                cases hi
                exact absurd ⟨e, k, es, g2⟩ hrow
              · cases hi
            · rename_i hdi
              rw [set_other hdi, set_other n2]
              exact hrf.al i s2 e k es hi g2
          · obtain ⟨n1, g1⟩ := set_away hi (by intro h; cases h)
            obtain ⟨n2, g2⟩ := set_away hs2 (by intro h; cases h)
            obtain ⟨b, n, cap, k1, k2⟩ := hrf.pr i s2 k j o e k' es g1 g2
            exact ⟨b, n, cap, by rw [set_other n2]; exact k1, by rw [set_other n1]; exact k2⟩
    · exact aop_sound hT hst h
  · rename_i t ho
    split at h
    · rename_i e k es d hx hd
      obtain ⟨htd, hnr, hK⟩ := h
      obtain ⟨hrf, S, c, hr, h1, hdf, hz, hs⟩ := hst
      obtain ⟨v, c1, c2, hv, hxr, hr2, hc⟩ := hr.take t (rep_at hr hx (by simp))
      refine wp_value (v := v) (w' := w) ?_ ⟨_, hK, ?_⟩
      · unfold execOp
        simp [ho, eval_of hv]
      · rw [hd]
        exact Stt.putrow (hrf.less t rfl) hnr h1 hdf hz hs hr2 hxr (fun b => by rw [hc]; omega)
    · exact aop_sound hT hst h
  · rename_i c ho
    split at h
    · rename_i t hc hca
      split at h
      · rename_i s e k es hrb
        split at h
        · rename_i ty hta
          split at h
          · rename_i i hi
            obtain ⟨hel, h⟩ := h
            obtain ⟨inf, z, d, g1, gz, gzz, g4, _, g6, g7⟩ := (hT ty i hi).get
            obtain ⟨e', he'⟩ := Option.isSome_iff_exists.1 hel
            have hd' : d = .slice e' := td_elem (P := P) (by rw [g7]; exact he')
            subst hd'
            obtain ⟨hrf, S, cc, hr, h1, hdf, hz, hs⟩ := hst
            obtain ⟨v, cx, cr, hev, hvs, hxr, _⟩ := take_row hr hrf hrb
            obtain ⟨A, cap, rfl, _⟩ := rep_row hxr
            refine wp_value (v := .int .i64 (es.length : Int)) (w' := w) ?_ ⟨_, h, Stt.value hrf rfl h1 hdf hz hs hr (c1 := fun _ => 0) (rep_mk rfl zc0) (fun b => by omega) _⟩
            unfold execOp
            simp [ho, resolve, hc, arr1 hca, arr1 hta, invoke, builtin, hev, Builtin.len_, run_underlying g6, goInt]
          · exact h.elim
        · exact h.elim
      · exact aop_sound hT hst h
    · rename_i t y hc hca
      split at h
      · rename_i s e k es hrb
        split at h
        · rename_i ty ty' hta
          obtain ⟨rfl, h⟩ := h
          split at h
          · rename_i i hi
            split at h
            · rename_i e' he
              split at h
              · rename_i j hj
                exact rappend_sound ho hc (arr2 hca) (arr2 hta) (hT ty i hi) he (hT e' j hj) hst hrb h
              · exact h.elim
            · exact h.elim
          · exact h.elim
        · exact h.elim
      · exact aop_sound hT hst h
    · rename_i g t rest hc hca
      split at h
      · rename_i s e k es hrb
        exact rcall_sound ho hc hca hst hrb h
      · exact aop_sound hT hst h
    · exact aop_sound hT hst h
  · rename_i t q y ho
    split at h
    · rename_i s e k es hrb
      exact rix_sound hT ho hst hrb h
    · exact aop_sound hT hst h
  · rename_i t q f ho
    split at h
    · rename_i s k j off hq
      split at h
      · rename_i i hi
        exact rfad_sound ho (hT t i hi) hst hq h
      · exact h.elim
    · exact aop_sound hT hst h
  · rename_i t q ho
    split at h
    · rename_i s k j off hq
      split at h
      · rename_i i hi
        exact rpld_sound ho (hT t i hi) hst hq h
      · exact h.elim
    · exact aop_sound hT hst h
  · rename_i t q y ho
    split at h
    · rename_i s k j off hq
      split at h
      · rename_i i hi
        exact rpst_sound ho (hT t i hi) hst hq h
      · exact h.elim
    · exact aop_sound hT hst h
  · rename_i op t x y t' ho
    exact rbin_sound hT ho hst h
  · rename_i t n ps ho
    split at h
    · rename_i hps
      exact rbs0_sound hT ho hps hst h
    · exact aop_sound hT hst h
  · exact aop_sound hT hst h

/-! ## regions -/
def aopl (P : Program) (T : Tab) (ops : Array Oper) (K : List AV → Prop) : List Oper → List AV → Prop
  | [], σ => K σ
  | o :: l, σ =>
    match o.guard with
    | none => rop P T o σ (aopl P T ops K l)
    | some (j, want) =>
      match gslot ops j with
      | some t =>
        match σ.getD t .any with
        | .raw (.bool e) =>
          asplit e
            (if want then rop P T o (σ.set t (.raw (.bool true))) (aopl P T ops K l) else aopl P T ops K l (aset (σ.set t (.raw (.bool true))) o.dst (.tup [])))
            (if want then aopl P T ops K l (aset (σ.set t (.raw (.bool false))) o.dst (.tup [])) else rop P T o (σ.set t (.raw (.bool false))) (aopl P T ops K l))
        | .tup [] => aopl P T ops K l (aset σ o.dst (.tup []))
        | _ => False
      | none => False

theorem aopl_sound (hT : TabOk P T) {ops : Array Oper} {K : List AV → Prop} {Q : Exit → Act → World → Prop} {fr : List Nat} :
    ∀ (l : List Nat) (os : List Oper) (σ : List AV) (a : Act) (w : World), l.map (ops[·]?) = os.map some → (∀ s ∈ fr, ∀ o ∈ os, o.dst ≠ some s) → Stt dfs w0 S0 c0 σ a w → aopl P T ops K os σ → (∀ σ a' w', Stt dfs w0 S0 c0 σ a' w' → K σ → (∀ s ∈ fr, a'.tmps[s]? = a.tmps[s]?) → Q .normal a' w') → wpOps P ops Q l a w
  | [], os, σ, a, w, hl, hfr, hst, h, hQ => by
    cases os with
    | nil => exact hQ σ a w hst h (fun _ _ => rfl)
    | cons o os => simp at hl
  | i :: l, [], σ, a, w, hl, hfr, hst, h, hQ => by simp at hl
  | i :: l, o :: os, σ, a, w, hl, hfr, hst, h, hQ => by
    simp only [List.map_cons, List.cons.injEq] at hl
    obtain ⟨ho, hl⟩ := hl
    have hfro := fun s hs => hfr s hs o (by simp)
    have hfrs : ∀ s ∈ fr, ∀ o ∈ os, o.dst ≠ some s := fun s hs o ho => hfr s hs o (by simp [ho])
    have mono : o.wp P a w (fun a' w' => ∃ σ', aopl P T ops K os σ' ∧ Stt dfs w0 S0 c0 σ' a' w') Q → o.wp P a w (wpOps P ops Q l) Q := fun h =>
      wp_mono' (fun a' w' ⟨⟨σ', h1, h2⟩, h3⟩ => aopl_sound hT l os σ' a' w' hl hfrs h2 h1 fun σ'' a'' w'' g1 g2 g3 => hQ σ'' a'' w'' g1 g2 fun s hs => (g3 s hs).trans (h3 s (hfro s hs))) (wp_keep h)
    have hQs : ∀ v σ a' w', Stt dfs w0 S0 c0 σ a' w' → K σ → (∀ s ∈ fr, a'.tmps[s]? = (a.put o.dst v).tmps[s]?) → Q .normal a' w' := fun v σ'' a'' w'' g1 g2 g3 =>
      hQ σ'' a'' w'' g1 g2 fun s hs => (g3 s hs).trans (put_keep a o.dst v s (hfro s hs))
    simp only [wpOps, ho]
    unfold aopl at h
    split at h
    · rename_i hg
      have hw : Region.wanted o (yielded ops a.tmps) = true := by simp [Region.wanted, hg]
      rw [if_pos hw]
      exact .inl (mono (rop_sound hT hst h))
    · rename_i j want hg
      split at h
      · rename_i t ht
        split at h
        · rename_i e he
          have hst' := hst
          obtain ⟨_, S, c, hr, _⟩ := hst
          have hts := getD_lt he (by simp)
          obtain ⟨v, c1, c2, hv, hy, h2, hc⟩ := hr.take t (rep_at hr he (by simp))
          have e1 := (rep_raw hy).1
          subst e1
          have hyl : yielded ops a.tmps j = some e := by
            unfold yielded
            unfold gslot at ht
            rw [ht]
            simp only [Option.bind_some]
            rw [← Array.getElem?_toList, hv]
          have hset : ∀ b, e = b → Stt dfs w0 S0 c0 (σ.set t (.raw (.bool b))) a w := by
            intro b hb
            subst hb
            rw [set_self hts he]
            exact hst'
          have hwant : Region.wanted o (yielded ops a.tmps) = (e == want) := by
            simp [Region.wanted, hg, hyl]
          rw [hwant]
          cases e with
          | true =>
            have h := h.1 rfl
            cases want with
            | true => rw [if_pos (show (true == true) = true from rfl)]; exact .inl (mono (rop_sound hT (hset true rfl) h))
            | false => rw [if_neg (by simp)]; exact aopl_sound hT l os _ _ w hl hfrs (skip_stt (hset true rfl) _) h (hQs _)
          | false =>
            have h := h.2 rfl
            cases want with
            | true => rw [if_neg (by simp)]; exact aopl_sound hT l os _ _ w hl hfrs (skip_stt (hset false rfl) _) h (hQs _)
            | false => rw [if_pos (show (false == false) = true from rfl)]; exact .inl (mono (rop_sound hT (hset false rfl) h))
        · rename_i he
          have hst' := hst
          obtain ⟨_, S, c, hr, _⟩ := hst
          obtain ⟨v, c1, c2, hv, hy, h2, hc⟩ := hr.take t (rep_at hr he (by simp))
          have e1 : v = .tuple #[] := by
            cases hy with | tup h1 h hcc => obtain ⟨rfl, _⟩ := h1.zero; rfl
          have hyl : yielded ops a.tmps j = none := by
            unfold yielded
            unfold gslot at ht
            rw [ht]
            simp only [Option.bind_some]
            rw [← Array.getElem?_toList, hv, e1]
          have hwant : Region.wanted o (yielded ops a.tmps) = false := by simp [Region.wanted, hg, hyl]
          rw [hwant, if_neg (by simp)]
          exact aopl_sound hT l os _ _ w hl hfrs (skip_stt hst' _) h (hQs _)
        · exact h.elim
      · exact h.elim
end
end Go.Proofs.Ytohelofjlkoboaa
