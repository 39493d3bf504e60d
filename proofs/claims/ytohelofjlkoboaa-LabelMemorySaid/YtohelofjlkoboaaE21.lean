/- The region of LabelMemory that appends to a new slice with room for 200: whatever order is drawn, its spare room is known. -/
import Derived.Orders
import Derived.Test.YtohelofjlkoboaaT
import Derived.Test.YtohelofjlkoboaaA10
import Derived.Test.YtohelofjlkoboaaA14
import Derived.Test.YtohelofjlkoboaaR6
import Derived.Test.YtohelofjlkoboaaE9
namespace Go.Proofs.Ytohelofjlkoboaa
open Go.RowKit Go.Proofs
set_option linter.unusedSimpArgs false
set_option linter.unusedVariables false
set_option maxRecDepth 100000
set_option maxHeartbeats 4000000

variable {dfs : List Deferred}
def zs200 : Array Value := madeCells #[Value.int .i64 0] 200
theorem made_list (n : Nat) (x : Value) : (madeCells #[x] n).toList = List.replicate n x := by
  apply List.ext_getElem?
  intro q
  by_cases hq : q < n
  · simp [madeCells, hq, Nat.mod_one]
  · simp [madeCells, hq]
theorem zs200_list : zs200.toList = List.replicate 200 (Value.int .i64 0) := made_list 200 _
def zer (n : Nat) : List AV := rawsA (Value.int .i64) (List.replicate n (0 : Int))
/-- Behind the make: the block n is nobody's yet; all of it is zero. -/
def MidS (dfs : List Deferred) (w0 : World) (S0 c0 : Nat → Nat) (n : Nat) (σ : List AV) (a : Act) (w : World) : Prop :=
  ∃ w1 S1 c1, w1.heap[n]? = some (.cells zs200 3 (0, 0)) ∧ c1 n = 0 ∧ S1 n = 0 ∧ w0.heap.size ≤ n ∧ Stp w0 S0 c0 w1 S1 c1 ∧ Stt dfs w1 S1 c1 σ a w
section
variable {w0 w : World} {S0 c0 : Nat → Nat} {σ : List AV} {a : Act} {o : Oper} {Q : Exit → Act → World → Prop}
theorem mk_make {d : Nat} (ho : o.op = .makeSlice 23 (.const (.int .i64 0)) (.const (.int .i64 200))) (hd : o.dst = some d) (hst : Stt dfs w0 S0 c0 σ a w) :
    o.wp Try.prog a w (fun a' w' => ∃ n, MidS dfs w0 S0 c0 n (σ.set d (.raw (.slice (some ⟨n, 0, none⟩) 0 200))) a' w') Q := by
  obtain ⟨inf, z, ds, g1, gz, gzz, g4, _, g6, g7⟩ := tok23.get
  obtain ⟨inf2, z2, dd, f1, fz, fzz, f4, f5, f6, f7⟩ := tok3.get
  have hds : ds = .slice 3 := td_elem (P := Try.prog) (by rw [g7]; rfl)
  subst hds
  obtain ⟨hrf, S, c, hr, h1, hdf, hz, hs⟩ := hst
  have hzc : z2.cells = #[.int .i64 0] := by apply Array.ext'; rw [fzz]; rfl
  have hrun := run_make (P := Try.prog) (w := w) 23 3 inf2 z2 g6 f1 fz .i64 .i64 0 200 (by omega) (by omega) (by rw [f5]; decide) (by omega)
  rw [f4, hzc] at hrun
  have hS : upd S w.heap.size 0 = S := by funext x; unfold upd; split <;> simp_all [hz.z]
  have hk := Stp.alloc (w := w) (S := S) (c := fun _ => 0) hz (.cells zs200 3) 0
  rw [hS] at hk
  have hk2 := Stp.alloc (w := w) (S := S) (c := c) hz (.cells zs200 3) 0
  rw [hS] at hk2
  have hz2 := hz.alloc (.cells zs200 3) 0
  rw [hS] at hz2
  have hr2 := hr.step hk (fun b => by have := h1 b; show c b + 0 ≤ 1; omega)
  obtain ⟨c', h2, h3⟩ := hr2.aset (.raw (v := .slice (some ⟨w.heap.size, 0, none⟩) 0 200) rfl (.nil zc0)) (some d)
  have hcn : c w.heap.size = 0 := by
    rcases Nat.eq_zero_or_pos (c w.heap.size) with h | h
    · exact h
    · exact absurd (hr.lt _ h) (Nat.lt_irrefl _)
  refine wp_value (w' := w.alloc (.cells zs200 3)) (v := .slice (some ⟨w.heap.size, 0, none⟩) 0 200) ?_ ⟨w.heap.size, _, S, c', heap_alloc_new w _, ?_, hz.z _ (Nat.le_refl _), hs.size, (hs.trans hk2).drop fun b => ?_, ?_⟩
  · unfold execOp
    simp only [ho, Sem.run_bind, Act.eval, hrun, Result.andThen_ok, Sem.run_pure]
    rfl
  · have := h3 w.heap.size; omega
  · have := h3 b; show c' b ≤ (if b = w.heap.size then 1 else 0) + c b; omega
  · rw [hd]
    exact ⟨by rw [put_tmps]; exact hrf.set d _ rfl, S, c', h2, fun b => by have := h3 b; have := h1 b; omega, by rw [put_defers]; exact hdf, hz2, Stp.refl _ S c'⟩
theorem mk_old {n : Nat} {σ' : List AV} (h : MidS dfs w0 S0 c0 n σ a w) (hop : ∀ (w0 : World) (S0 c0 : Nat → Nat), Stt dfs w0 S0 c0 σ a w → o.wp Try.prog a w (fun a' w' => ∃ σ2, σ2 = σ' ∧ Stt dfs w0 S0 c0 σ2 a' w') Q) :
    o.wp Try.prog a w (fun a' w' => MidS dfs w0 S0 c0 n σ' a' w') Q := by
  obtain ⟨w1, S1, c1, h1, h2, h3, h4, h5, h6⟩ := h
  exact wp_mono' (fun a' w' ⟨σ2, e, hs⟩ => by subst e; exact ⟨w1, S1, c1, h1, h2, h3, h4, h5, hs⟩) (hop w1 S1 c1 h6)
theorem mk_append {n d : Nat} {l : List Int} (h : MidS dfs w0 S0 c0 n σ a w) (h18 : σ.getD 18 .any = .raw (.slice (some ⟨n, 0, none⟩) 0 200)) (h20 : σ.getD 20 .any = .own 3 1 (nums l)) (hl : l.length ≤ 200)
    (ho : o.op = .call ⟨.builtin .append, #[.tmp 18, .tmp 20], #[23, 23]⟩) (hd : o.dst = some d) :
    o.wp Try.prog a w (fun a' w' => ∃ σ', σ' = σ.set d (.slx 1 (nums l) (zer (200 - l.length))) ∧ Stt dfs w0 S0 c0 σ' a' w') Q := by
  obtain ⟨inf, z, ds, g1, gz, gzz, g4, _, g6, g7⟩ := tok23.get
  obtain ⟨inf2, z2, dd, f1, fz, fzz, f4, f5, f6, f7⟩ := tok3.get
  have hds : ds = .slice 3 := td_elem (P := Try.prog) (by rw [g7]; rfl)
  subst hds
  obtain ⟨w1, S1, c1, hb1, hc1, hS1, hn, hs1, hst⟩ := h
  obtain ⟨hrf, S, c, hr, hone, hdf, hz, hs⟩ := hst
  have hlt1 : n < w1.heap.size := (Array.getElem?_eq_some_iff.1 hb1).1
  have hkn := hs.keep n hlt1 hc1
  have hb : w.heap[n]? = some (.cells zs200 3 (0, 0)) := hkn.1.trans hb1
  have hSn : S n = 0 := hkn.2.trans hS1
  have hcn : c n = 0 := by have := hs.own n hlt1; omega
  have hltn : n < w.heap.size := (Array.getElem?_eq_some_iff.1 hb).1
  have hst0 := hs1.trans hs
  obtain ⟨cx, hrx⟩ := aev_rep hr (.tmp 18)
  have e18 : aev σ (.tmp 18) = .raw (.slice (some ⟨n, 0, none⟩) 0 200) := by show pl (σ.getD 18 .any) = _; rw [h18]; rfl
  rw [e18] at hrx
  have hev := (rep_raw hrx).1
  obtain ⟨cy, hry⟩ := aev_rep hr (.tmp 20)
  have e20 : aev σ (.tmp 20) = .own 3 1 (nums l) := by show pl (σ.getD 20 .any) = _; rw [h20]; rfl
  rw [e20] at hry
  obtain ⟨B, cc, cv, cz, eY, hky, hcv, hz0, honey, hmemy⟩ := src_rep hry (show asrc 1 (.own 3 1 (nums l)) = some (nums l) from rfl)
  have hlen : (nums l).length = l.length := by simp [nums]
  have hcve : cv = l.map (Value.int .i64) := by
    have : flat (nums l) = rawsA (Value.int .i64) l := flat_raws l
    rw [this] at hcv
    exact rep_raws hcv
  subst hcve
  have hwp : ∀ {v : Value} {w' : World}, (Builtin.append_ #[23, 23] o.type #[a.eval (.tmp 18), a.eval (.tmp 20)]).run Try.prog w = .ok v w' → ∀ {next : Act → World → Prop}, next (a.put o.dst v) w' → o.wp Try.prog a w next Q := by
    intro v w' hrun next hn
    refine wp_value (v := v) (w' := w') ?_ hn
    unfold execOp
    simp only [ho, resolve, invoke, builtin, Sem.run_bind, Sem.run_pure, Result.andThen_ok, List.map_toArray, List.map_cons, List.map_nil, hrun]
  have fin : ∀ (w' : World) (new : Array Value), w'.heap[n]? = some (.cells new 3 (0, 0)) → new.toList = (l ++ List.replicate (200 - l.length) (0 : Int)).map (Value.int .i64) → w'.os = w.os → w'.tape = w.tape → w'.output = w.output → w'.drawn = w.drawn → w'.heap.size = w.heap.size →
      (∀ b, b ≠ n → w'.heap[b]? = w.heap[b]?) → Stt dfs w0 S0 c0 (σ.set d (.slx 1 (nums l) (zer (200 - l.length)))) (a.put (some d) (.slice (some ⟨n, 0, none⟩) l.length 200)) w' := by
    intro w' new hb' hnew k1 k2 k3 k4 k5 hoth
    have hle : ∀ x, S x ≤ upd S n 200 x := fun x => by unfold upd; split <;> simp_all
    have hcell : ∀ b o, o < S b → w'.cell? ⟨b, o, none⟩ = w.cell? ⟨b, o, none⟩ := fun b o ho => by
      have : b ≠ n := by rintro rfl; omega
      exact World.cell?_of_block (hoth b this)
    have hr2 : RepC w' (upd S n 200) σ a.tmps.toList c := hr.keep hcell hle fun b hb => by
      have : b ≠ n := by rintro rfl; omega
      exact ⟨hoth b this, by simp [upd, this]⟩
    have hslx : RepC w' (upd S n 200) [.slx 1 (nums l) (zer (200 - l.length))] [.slice (some ⟨n, 0, none⟩) l.length 200] (fun _ => 0) := by
      have e1 : nums l ++ zer (200 - l.length) = rawsA (Value.int .i64) (l ++ List.replicate (200 - l.length) (0 : Int)) := by simp [nums, zer, rawsA, num]
      have e2 : (200 : Nat) = (nums l).length + (zer (200 - l.length)).length := by simp [hlen, zer, rawsA]; omega
      have key : RepC w' (upd S n 200) [.slx 1 (nums l) (zer (200 - l.length))] [.slice (some ⟨n, 0, none⟩) (nums l).length ((nums l).length + (zer (200 - l.length)).length)] (fun _ => 0) := by
       refine .slx (ad := ⟨n, 0, none⟩) (c0 := fun _ => 0) (cv := (l ++ List.replicate (200 - l.length) (0 : Int)).map (Value.int .i64)) (by rw [← e2]; decide) rfl ?_ ?_ zc0 (fun j u hj => ?_) ?_ (.nil zc0)
       · rw [e1]; exact raws_cells _
       · rw [e1, flat_raws]; exact raws_rep encI_one _
       · refine ⟨?_, raws_one encI_one _ u (List.mem_of_getElem? hj)⟩
         rw [Nat.zero_add, cell_of_row w' n j new 3 (0, 0) hb', ← Array.getElem?_toList, hnew]
         exact hj
       · simp [upd]; omega
      rw [← e2, hlen] at key
      exact key
    obtain ⟨c', h2, h3⟩ := hr2.aset hslx (some d)
    refine ⟨by rw [put_tmps]; exact hrf.set d _ rfl, _, c', h2, fun b => by have := h3 b; have := hone b; omega, by rw [put_defers]; exact hdf, ⟨fun b hb => ?_, fun g hg => (List.not_mem_nil hg).elim⟩, ?_⟩
    · have : b ≠ n := by omega
      simp only [upd, this, if_false]
      exact hz.z b (by omega)
    · refine ⟨k1.trans hst0.os, k2.trans hst0.tape, ⟨k3.trans hst0.output.1, fun e => by rw [k4]; exact hst0.output.2 e⟩, by rw [k5]; exact hst0.size, fun b hb hb0 => ?_, fun b o ho => ?_, fun b => Nat.le_trans (hst0.le b) (hle b), fun b hb => ?_⟩
      · have : b ≠ n := by omega
        have g := hst0.keep b hb hb0
        exact ⟨(hoth b this).trans g.1, by simp only [upd, this, if_false]; exact g.2⟩
      · exact (hcell b o (Nat.lt_of_lt_of_le ho (hst0.le b))).trans (hst0.cell b o ho)
      · have := hst0.own b hb; have := h3 b; omega
  by_cases hne : nums l = []
  · have hl0 : l = [] := List.map_eq_nil_iff.1 hne
    subst hl0
    have hrun := run_app0 (P := Try.prog) (w := w) 23 o.type 3 inf2 g6 f1 (some ⟨n, 0, none⟩) 0 200 (by omega) B cc
    have heY : a.eval (.tmp 20) = .slice B 0 cc := eY
    rw [← hev, ← heY] at hrun
    refine hwp hrun ⟨_, rfl, ?_⟩
    rw [hd, hev]
    exact fin w zs200 hb (by rw [zs200_list]; simp) rfl rfl rfl rfl rfl fun _ _ => rfl
  · obtain ⟨ad, hB, hsp, hmem⟩ := hmemy hne
    subst hB
    have hsz : inf2.size = 1 := f4
    have hrun := run_append_room (P := Try.prog) w 23 o.type 3 inf2 g6 f1 n 0 200 zs200 hb ad l.length cc (l.map (Value.int .i64)) (by rw [hsz]; simp) hmem honey (by omega) (by have := congrArg List.length zs200_list; simp at this ⊢; omega)
    rw [hlen] at eY
    rw [← hev, ← eY] at hrun
    refine hwp hrun ⟨_, rfl, ?_⟩
    rw [hd, Nat.zero_add]
    refine fin _ _ (setRow_heap w n zs200 _ 3 (0, 0) hb) ?_ rfl rfl rfl rfl (by simp [World.setRow]) fun b hb => ?_
    · simp only [Nat.zero_mul, List.take_zero, List.nil_append, Nat.zero_add, List.length_map, zs200_list, List.drop_replicate, List.map_append, List.map_replicate]
    · exact setRow_other w n b _ hb
end
end Go.Proofs.Ytohelofjlkoboaa
