/- A box that holds a slice, lent to a region for reading alone. -/
import Derived.Test.YtohelofjlkoboaaA12
namespace Go.Proofs.Ytohelofjlkoboaa
open Go.RowKit
set_option linter.unusedVariables false
set_option linter.unusedSimpArgs false
set_option linter.unusedSectionVars false
variable [Env]
variable {dfs : List Deferred}

def israw : AV → Bool
  | .raw _ => true
  | _ => false
/-- What leans on no block but its own. -/
def kfl : AV → Bool
  | .any => true
  | .raw _ => true
  | .nil => true
  | .own _ _ es => es.all israw
  | _ => false
def kf (x : AV) : AV := bif kfl x then x else .any
theorem kf_kfl (x : AV) : kfl (kf x) = true := by
  unfold kf
  cases h : kfl x
  · rfl
  · exact h
theorem kfl_nrf (s : Nat) (x : AV) (h : kfl x = true) : nrf s x = true := by
  cases x <;> first | rfl | (simp [kfl] at h)
theorem kf_wk : ∀ (xs : List AV), Wk xs (xs.map kf)
  | [] => .nil
  | x :: xs => by
    rw [List.map_cons]
    unfold kf
    cases h : kfl x
    · exact .cons (W1.any x) rfl (kf_wk xs)
    · exact .same (kf_wk xs)
theorem flat_raw {es : List AV} (h : es.all israw = true) : (flat es).all kfl = true := by
  induction es with
  | nil => rfl
  | cons x es ih =>
    simp only [List.all_cons, Bool.and_eq_true] at h
    have := ih h.2
    cases x <;> first | (simp [israw] at h) | skip
    simp only [flat, List.flatMap_cons, cellsOf, List.all_append, List.all_cons, List.all_nil, Bool.and_true, kfl, Bool.true_and] at this ⊢
    exact this
theorem RepC.low {w : World} {S S2 : Nat → Nat} {B : Nat → Prop} (hS2 : ∀ x, ¬ B x → S2 x = S x) {xs : List AV} {vs : List Value} {c : Nat → Nat} (h : RepC w S xs vs c) : xs.all kfl = true → (∀ x, B x → c x = 0) → RepC w S2 xs vs c := by
  induction h with
  | nil hc => intro _ _; exact .nil hc
  | any h ih =>
    intro hk h1
    simp only [List.all_cons, Bool.and_eq_true] at hk
    exact .any (ih hk.2 h1)
  | raw hv h ih =>
    intro hk h1
    simp only [List.all_cons, Bool.and_eq_true] at hk
    exact .raw hv (ih hk.2 h1)
  | nilS h ih =>
    intro hk h1
    simp only [List.all_cons, Bool.and_eq_true] at hk
    exact .nilS (ih hk.2 h1)
  | ownE h ih =>
    intro hk h1
    simp only [List.all_cons, Bool.and_eq_true] at hk
    exact .ownE (ih hk.2 h1)
  | own hn hcap hk hb hs hS hx h0 ho h hc ih1 ih2 =>
    intro hkk h1
    simp only [List.all_cons, Bool.and_eq_true, kfl] at hkk
    rename_i e k es b1 cap cur xs us c c0 c2
    have n1 : ¬ B b1 := fun hB => by
      have := h1 b1 hB
      rw [hc] at this; simp at this
    exact .own hn hcap hk hb hs (by rw [hS2 _ n1]; exact hS) (ih1 (flat_raw hkk.1) (fun x _ => h0 x)) h0 ho (ih2 hkk.2 (fun x hB => by have := h1 x hB; rw [hc] at this; omega)) hc
  | _ => intro hk; simp [kfl] at hk
theorem vchk_app2 {vs fr : List Nat} {l : List Oper} (h1 : vchk vs l = true) (h2 : vchk fr l = true) : vchk (vs ++ fr) l = true := by
  unfold vchk at *
  rw [List.all_append, h1, h2]; rfl
theorem mine_view {w : World} {S S1 : Nat → Nat} {e k : Nat} {es : List AV} {v : Value} {e1 : Nat → Nat} (h : RepC w S [.mine e k es] [v] e1) (hle : ∀ x, S x ≤ S1 x) (hN : ∀ x, e1 x ≠ 0 → es.length * k ≤ S1 x) : RepC w S1 [.sl k es] [v] (fun _ => 0) := by
  cases h with
  | mineE h => exact .slE (by decide) (.nil zc0)
  | mine hn hcap hk hb hs' hS' h1 h0 hoc h hcc =>
    rename_i b cap cur c0 c2
    refine .sl (c0 := c0) (ad := ⟨b, 0, none⟩) hn hcap rfl hk (h1.keep (fun _ _ _ => rfl) hle fun x hx => by have := h0 x; omega) h0 (fun j u hj => ?_) ?_ (.nil zc0)
    · refine ⟨?_, hoc u (List.mem_of_getElem? hj)⟩
      have hj' := hj
      rw [List.getElem?_take] at hj'
      split at hj'
      · simp only [Nat.zero_add]
        rw [cell_of_row w b j cur e (0, 0) hb]
        simpa using hj'
      · cases hj'
    · have : (cur.toList.take (es.length * k)).length ≤ es.length * k := by simp; omega
      have := hN b (by rw [hcc]; simp)
      simp only []
      omega
theorem mine_zero {w : World} {S : Nat → Nat} {e k : Nat} {es : List AV} {v : Value} {e1 : Nat → Nat} (h : RepC w S [.mine e k es] [v] e1) : ∀ x, e1 x ≠ 0 → S x = 0 ∧ x < w.heap.size := by
  intro x hx
  have hlt := h.lt x (by omega)
  cases h with
  | mineE h => obtain ⟨_, hz⟩ := h.zero; exact absurd (hz x) hx
  | mine hn hcap hk hb hs' hS' h1 h0 hoc h hcc =>
    obtain ⟨_, hz⟩ := h.zero
    rw [hcc, hz x] at hx
    split at hx
    · rename_i hxb; subst hxb; exact ⟨hS', hlt⟩
    · simp at hx
section
variable {P : Program} {T : Tab} {w0 : World} {S0 c0 : Nat → Nat}
theorem reg_keep (hT : TabOk P T) (hm : P.follows .mixedOrders = true) {A : Ann} {id : Nat} {ops : Array Oper} {dr : Bool} {d : CC} {s : Nat} (hl : isLend A id = none) (hd : comp A (.region id ops dr) = some d) (hk : cok A (.region id ops dr) = true) (hn : vchk [s] ops.toList = true)
    {Q : Exit → List AV → Prop} {σ : List AV} {a : Act} {w : World} (hst : Stt dfs w0 S0 c0 σ a w) (h : cwp P T d Q σ) :
    (Code.region id ops dr).wp P (fun e a' w' => e = .normal ∧ ∃ σ', Q .normal σ' ∧ Stt dfs w0 S0 c0 σ' a' w' ∧ a'.tmps[s]? = a.tmps[s]?) a w := by
  simp only [comp, hl] at hd
  simp only [cok] at hk
  split at hd
  · rename_i l hl'
    rw [hl'] at hk
    cases dr with
    | false =>
      simp only [Bool.false_eq_true, if_false] at hd hk
      injection hd with hd
      subst hd
      obtain ⟨σ1, h, hst⟩ := twp_sound _ hst h
      have hr := run_text (vs := vlook A id ++ [s]) hT hl' (vchk_app2 hk hn)
      have h1 := rgn_sound hr (vlook A id) (fun s hs => List.mem_append_left _ hs)
      exact wp_region (h1 dfs w0 S0 c0 σ1 a w _ (fun a' w' => ∃ σ', Q .normal σ' ∧ Stt dfs w0 S0 c0 σ' a' w' ∧ a'.tmps[s]? = a.tmps[s]?) hst h (fun σ' a' w' g1 g2 g3 => ⟨σ', g2, g1, g3 s (by simp)⟩) _ fun a w h => ⟨rfl, h⟩)
    | true =>
      simp only [if_true, mkd, Bool.and_eq_true] at hd hk
      injection hd with hd
      subst hd
      obtain ⟨σ1, h, hst⟩ := twp_sound _ hst h
      refine wp_region_draw fun t => ?_
      simp only [Region.schedule, hm, Bool.true_or, if_true]
      have hr := run_draw2 (vs := (vlook A id ++ dsOf (shOf l) l) ++ [s]) hT hl' (vchk_app2 hk.2 hn) hk.1 t
      have h1 := rgn_sound hr (vlook A id ++ dsOf (shOf l) l) (fun s hs => List.mem_append_left _ hs)
      exact h1 dfs w0 S0 c0 σ1 a w.drew _ (fun a' w' => ∃ σ', Q .normal σ' ∧ Stt dfs w0 S0 c0 σ' a' w' ∧ a'.tmps[s]? = a.tmps[s]?) hst.drew h (fun σ' a' w' g1 g2 g3 => ⟨σ', g2, g1, g3 s (by simp)⟩) _ fun a w h => ⟨rfl, h⟩
  · cases hd
def frzK (s : Nat) (y : AV) (K : List AV → Prop) : Exit → List AV → Prop
  | .normal, σ => K ((σ.map kf).set s y)
  | _, _ => False
def frz (x : AV) (P : Program) (T : Tab) (s : Nat) (d : CC) (K : List AV → Prop) (σ : List AV) : Prop := match x with
  | .box Te (.mine e k es :: cs) => cs.all zc1 = true ∧ cwp P T d (frzK s (.box Te (.mine e k es :: cs)) K) (σ.set s (.elt (.agg (.sl k es :: cs))))
  | _ => False
theorem cwpX_frozen (A : Ann) (hT : TabOk P T) (hm : P.follows .mixedOrders = true) {id : Nat} {ops : Array Oper} {dr : Bool} {d : CC} (s : Nat) {σ : List AV} {Q : Exit → List AV → Prop} (hl : isLend A id = none) (hd : comp A (.region id ops dr) = some d) (hk : cok A (.region id ops dr) = true) (hn : vchk [s] ops.toList = true)
    (h : frz (σ.getD s .any) P T s d (Q .normal) σ) : cwpX P T (.ext (.region id ops dr)) Q σ := by
  intro dfs w0 S0 c0 a w hst
  unfold frz at h
  split at h
  · rename_i Te e k es cs hx
    obtain ⟨hcz, h⟩ := h
    obtain ⟨hrf, S, cc, hr, h1, hd', hz, hs⟩ := hst
    obtain ⟨b, cur, d0, c2, hev, hb, hS, hcs', hone, hr2, hcc, hv⟩ := take_box hr hx
    obtain ⟨v, rest, e1, e2, hcv, hmi, hrest, hde⟩ := hcs'.uncons
    have hsl : s < σ.length := (List.getElem?_eq_some_iff.1 (rep_at hr hx (by simp))).1
    have hbs : b < w.heap.size := (Array.getElem?_eq_some_iff.1 hb).1
    have hmz := mine_zero hmi
    -- what is read stands still
    obtain ⟨S1, hS1⟩ : ∃ S1 : Nat → Nat, S1 = fun x => if x = b then cur.size else if e1 x = 0 then S x else es.length * k := ⟨_, rfl⟩
    have hle1 : ∀ x, S x ≤ S1 x := fun x => by
      rw [hS1]; dsimp only
      split
      · rename_i h; subst h; omega
      · split
        · exact Nat.le_refl _
        · rename_i h; have := (hmz x h).1; omega
    have hb1 : e1 b = 0 := by have := h1 b; have := hcc b; have := hde b; simp at *; omega
    have hc2b : c2 b = 0 := by have := h1 b; have := hcc b; simp at *; omega
    have hc2e : ∀ x, e1 x ≠ 0 → c2 x = 0 := fun x hx => by have := h1 x; have := hcc x; have := hde x; omega
    have hsame : ∀ x, x ≠ b → e1 x = 0 → S1 x = S x := fun x n1 n2 => by rw [hS1]; simp [n1, n2]
    have hr3 : RepC w S1 (σ.set s .any) a.tmps.toList c2 := hr2.keep (fun _ _ _ => rfl) hle1 fun x hx => ⟨rfl, hsame x (by rintro rfl; omega) (by rcases Nat.eq_zero_or_pos (e1 x) with h | h; exact h; have := hc2e x (by omega); omega)⟩
    have hz1 : Sz w S1 := ⟨fun x hx => by
        have : x ≠ b := by omega
        rw [hS1]; dsimp only
        rw [if_neg this]
        split
        · exact hz x hx
        · rename_i h; have := (hmz x h).2; omega,
      fun g hg => by
        obtain ⟨k1, v1, k2, k3⟩ := hz.g g hg
        exact ⟨Nat.lt_of_lt_of_le k1 (hle1 _), v1, k2, k3⟩⟩
    have he2 := zc1s_spec hrest hcz
    have hview : RepC w S1 (.sl k es :: cs) cur.toList (fun _ => 0) := by
      rw [hcv]
      exact RepC.cons (mine_view hmi hle1 fun x hx => by
        have : x ≠ b := by rintro rfl; exact hx hb1
        rw [hS1]; simp [this, hx]) (hrest.keep (fun _ _ _ => rfl) hle1 fun x hx => by have := he2 x; omega) fun x => by rw [he2 x]
    have helt : RepC w S1 [.elt (.agg (.sl k es :: cs))] [.pointer (some ⟨b, 0, none⟩)] (fun _ => 0) := by
      refine .elt (cv := cur.toList) rfl hview zc0 (fun j u hj => ⟨?_, hone u (List.mem_of_getElem? hj)⟩) (by rw [hS1]; simp) (.nil zc0)
      simp only [Nat.zero_add]
      rw [cell_of_row w b j cur Te (0, 0) hb]
      simpa using hj
    have hfill := hr3.fill helt s (by simp [hsl])
    rw [List.set_set, list_set_same hv] at hfill
    have hst1 : Stt dfs w S1 c2 (σ.set s (.elt (.agg (.sl k es :: cs)))) a w :=
      ⟨hrf.less s rfl, S1, c2, hfill.congr (fun x => by simp), fun x => by have := h1 x; have := hcc x; omega, hd', hz1, Stp.refl w S1 c2⟩
    refine wp_mono (reg_keep hT hm hl hd hk hn hst1 h) fun e' a' w' hq => ?_
    obtain ⟨rfl, σ2, hK, hst2, hks⟩ := hq
    obtain ⟨hrf3, S', c3, hr4, h13, hd3, hz3, hstp⟩ := (kf_wk σ2).stt hst2
    have hBs : ∀ x, x = b ∨ e1 x ≠ 0 → S x = 0 ∧ x < w.heap.size ∧ c2 x = 0 := fun x hx => by
      rcases hx with rfl | hx
      · exact ⟨hS, hbs, hc2b⟩
      · exact ⟨(hmz x hx).1, (hmz x hx).2, hc2e x hx⟩
    obtain ⟨S2, hS2⟩ : ∃ S2 : Nat → Nat, S2 = fun x => if x = b ∨ e1 x ≠ 0 then 0 else S' x := ⟨_, rfl⟩
    have hS2n : ∀ x, ¬ (x = b ∨ e1 x ≠ 0) → S2 x = S' x := fun x hx => by rw [hS2]; dsimp only; rw [if_neg hx]
    have hS2y : ∀ x, (x = b ∨ e1 x ≠ 0) → S2 x = 0 := fun x hx => by rw [hS2]; dsimp only; rw [if_pos hx]
    have hr5 := hr4.low (B := fun x => x = b ∨ e1 x ≠ 0) hS2n (List.all_eq_true.2 fun x hx => by
      obtain ⟨y, _, rfl⟩ := List.mem_map.1 hx
      exact kf_kfl y) fun x hB => by
        have g1 := hBs x hB
        have := hstp.own x g1.2.1
        omega
    have hle2 : ∀ x, S x ≤ S2 x := fun x => by
      by_cases hx : x = b ∨ e1 x ≠ 0
      · rw [(hBs x hx).1]; exact Nat.zero_le _
      · rw [hS2n x hx]; exact Nat.le_trans (hle1 x) (hstp.le x)
    have hcell : ∀ x o, o < S x → w'.cell? ⟨x, o, none⟩ = w.cell? ⟨x, o, none⟩ := fun x o ho => hstp.cell x o (Nat.lt_of_lt_of_le ho (hle1 x))
    have hmi' := hmi.keep hcell hle2 fun x hx => by
      have hB : x = b ∨ e1 x ≠ 0 := .inr (by omega)
      have g1 := hBs x hB
      exact ⟨(hstp.keep x g1.2.1 g1.2.2).1, by rw [hS2y x hB, g1.1]⟩
    have hrest' := hrest.keep hcell hle2 fun x hx => by have := he2 x; omega
    have hkb := hstp.keep b hbs hc2b
    have hbox : RepC w' S2 [.box Te (.mine e k es :: cs)] [.pointer (some ⟨b, 0, none⟩)] (fun x => (if x = b then 1 else 0) + e1 x) :=
      .box (c1 := e1) (c2 := fun _ => 0) (hkb.1.trans hb) (hS2y b (.inl rfl)) (by rw [hcv]; exact RepC.cons hmi' hrest' fun x => by rw [he2 x]; omega) hone (.nil zc0) (fun x => by simp)
    have hvs' : a'.tmps.toList[s]? = some (.pointer (some ⟨b, 0, none⟩)) := by
      rw [Array.getElem?_toList, hks, ← Array.getElem?_toList]; exact hv
    have hsl5 : s < (σ2.map kf).length := by
      have g1 := hr4.length
      have g2 := (List.getElem?_eq_some_iff.1 hvs').1
      omega
    obtain ⟨cb, hrb, hleb⟩ := hr5.put hbox s hsl5
    rw [list_set_same hvs'] at hrb
    have hrfb : RefOk ((σ2.map kf).set s (.box Te (.mine e k es :: cs))) a'.tmps.toList := by
      have := hrf3.newbox (d := s) Te (.mine e k es :: cs) (.pointer (some ⟨b, 0, none⟩)) (List.all_eq_true.2 fun x hx => by
        obtain ⟨y, _, rfl⟩ := List.mem_map.1 hx
        exact kfl_nrf s _ (kf_kfl y))
      rwa [list_set_same hvs'] at this
    have hcb : ∀ x, cb x ≤ (if x = b then 1 else 0) + e1 x + c3 x := fun x => by have := hleb x; omega
    have hfr : Stp w S cc w' S2 cb := ⟨hstp.os, hstp.tape, hstp.output, hstp.size, fun x hx hx0 => by
        have g1 := hcc x; have g2 := hde x
        have hB : ¬ (x = b ∨ e1 x ≠ 0) := by
          rintro (rfl | h)
          · simp at g1; omega
          · omega
        have g3 := hstp.keep x hx (by omega)
        refine ⟨g3.1, ?_⟩
        rw [hS2n x hB, g3.2]
        exact hsame x (fun h => hB (.inl h)) (by rcases Nat.eq_zero_or_pos (e1 x) with h | h; exact h; exact absurd (.inr (by omega)) hB),
      hcell, hle2, fun x hx => by
        have g1 := hcc x; have g2 := hde x; have g3 := hstp.own x hx; have g4 := hcb x
        omega⟩
    refine ⟨_, hK, hrfb, S2, cb, hrb, fun x => ?_, hd3, ⟨fun x hx => ?_, fun g hg => ?_⟩, hs.trans hfr⟩
    · have g4 := hcb x
      rcases Nat.lt_or_ge x w.heap.size with hbx | hbx
      · have g1 := hcc x; have g2 := hde x; have g3 := hstp.own x hbx; have := h1 x
        omega
      · have g2 : x ≠ b := by omega
        have g3 : e1 x = 0 := by
          rcases Nat.eq_zero_or_pos (e1 x) with h | h
          · exact h
          · have := (hmz x (by omega)).2; omega
        have := h13 x
        simp only [g2, g3, if_false] at g4
        omega
    · by_cases hB : x = b ∨ e1 x ≠ 0
      · exact hS2y x hB
      · rw [hS2n x hB]; exact hz3 x hx
    · obtain ⟨k1, _⟩ := hz.g g hg
      obtain ⟨k2, v1, k3, k4⟩ := hz3.g g hg
      have hB : ¬ (g.1 = b ∨ e1 g.1 ≠ 0) := fun hB => by have := (hBs _ hB).1; omega
      exact ⟨by rw [hS2n _ hB]; exact k2, v1, k3, k4⟩
  · exact h.elim
end
/-! ## rules -/
theorem frz_box {P : Program} {T : Tab} {K : List AV → Prop} {σ : List AV} (s Te e k : Nat) (es cs : List AV) (d : CC) : frz (.box Te (.mine e k es :: cs)) P T s d K σ = (cs.all zc1 = true ∧ cwp P T d (frzK s (.box Te (.mine e k es :: cs)) K) (σ.set s (.elt (.agg (.sl k es :: cs))))) := (rfl)
theorem frzK_normal {K : List AV → Prop} {σ : List AV} (s : Nat) (y : AV) : frzK s y K .normal σ = K ((σ.map kf).set s y) := (rfl)
theorem kf_any : kf .any = .any := rfl
theorem kf_raw (v : Value) : kf (.raw v) = .raw v := rfl
theorem kf_nil : kf .nil = .nil := rfl
theorem kf_agg (cs : List AV) : kf (.agg cs) = .any := rfl
theorem kf_tup (cs : List AV) : kf (.tup cs) = .any := rfl
theorem kf_sl (k : Nat) (es : List AV) : kf (.sl k es) = .any := rfl
theorem kf_mine (e k : Nat) (es : List AV) : kf (.mine e k es) = .any := rfl
theorem kf_row (e k : Nat) (es : List AV) : kf (.row e k es) = .any := rfl
theorem kf_box (U : Nat) (cs : List AV) : kf (.box U cs) = .any := rfl
theorem kf_elt (x : AV) : kf (.elt x) = .any := rfl
theorem kf_clo (g : Nat) (cs : List AV) : kf (.clo g cs) = .any := rfl
theorem kf_ref (t o : Nat) : kf (.ref t o) = .any := rfl
theorem kf_alias (t : Nat) : kf (.alias t) = .any := rfl
theorem kf_pref (t k j o : Nat) : kf (.pref t k j o) = .any := rfl
theorem kf_strs (e k : Nat) (l : List (List UInt8)) : kf (.own e k (l.map str)) = .own e k (l.map str) := by
  have : (l.map str).all israw = true := List.all_eq_true.2 fun x hx => by
    obtain ⟨y, _, rfl⟩ := List.mem_map.1 hx
    rfl
  simp [kf, kfl, this]
attribute [go_sem] frz_box frzK_normal kf_any kf_raw kf_nil kf_agg kf_tup kf_sl kf_mine kf_row kf_box kf_elt kf_clo kf_ref kf_alias kf_pref kf_strs
end Go.Proofs.Ytohelofjlkoboaa
