/- The library's Sort, Compact over rows of values of one cell; its Reverse over rows of structs. What is its holder's alone may be shown from now on. -/
import Derived.Test.YtohelofjlkoboaaR4
import Derived.Shelf.SlicesQ.Reverse
import Derived.Test.YtohelofjlkoboaaA10
namespace Go.Proofs.Ytohelofjlkoboaa
open Go.RowKit Go.Proofs Go.Sort Go.Shelf Go.Lib
set_option linter.unusedSimpArgs false
set_option linter.unusedVariables false
set_option linter.unusedSectionVars false
variable [Env]

section
variable {α : Type} {enc : α → Value}
def rawsA (enc : α → Value) (zs : List α) : List AV := zs.map fun a => .raw (enc a)
theorem flat_raws : ∀ zs : List α, flat (rawsA enc zs) = rawsA enc zs
  | [] => rfl
  | z :: zs => by
    have := flat_raws zs
    simp only [rawsA, List.map_cons, flat] at this ⊢
    rw [this]; rfl
theorem rep_raws {w : World} {S : Nat → Nat} : ∀ {zs : List α} {cv : List Value} {c : Nat → Nat}, RepC w S (rawsA enc zs) cv c → cv = zs.map enc
  | [], cv, c, h => h.zero.1
  | z :: zs, cv, c, h => by
    cases h with
    | raw h1 h => rw [rep_raws (zs := zs) h]; rfl
theorem raws_rep (ho : ∀ a, (enc a).oneCell' = true) {w : World} {S : Nat → Nat} : ∀ zs : List α, RepC w S (rawsA enc zs) (zs.map enc) (fun _ => 0)
  | [] => .nil zc0
  | z :: zs => .raw (ho z) (raws_rep ho zs)
theorem raws_cells (zs : List α) : ∀ x ∈ rawsA enc zs, (cellsOf x).length = 1 := by
  intro x hx
  simp only [rawsA, List.mem_map] at hx
  obtain ⟨a, _, rfl⟩ := hx
  rfl
theorem raws_one (ho : ∀ a, (enc a).oneCell' = true) (zs : List α) : ∀ u ∈ zs.map enc, u.oneCell' = true := by
  intro u hu
  simp only [List.mem_map] at hu
  obtain ⟨a, _, rfl⟩ := hu
  exact ho a
theorem raws_length (zs : List α) : (rawsA enc zs).length = zs.length := by simp [rawsA]
theorem holds_raw [Inhabited α] {w : World} {g : Nat} {cur : Array Value} {e : TypeId} {ss : List α} (hb : w.heap[g]? = some (.cells cur e (0, 0))) (ht : cur.toList.take ss.length = ss.map enc) : Holds enc w g 0 ss.toArray := by
  intro j hj
  have hj' : j < ss.length := by simpa using hj
  refine ⟨?_, by simp [World.frozen?, hb]⟩
  have h1 : (cur.toList.take ss.length)[j]? = (ss.map enc)[j]? := by rw [ht]
  rw [List.getElem?_take_of_lt hj'] at h1
  simp only [World.cell?, hb, Nat.zero_add]
  simp only [Option.isSome_none, Bool.false_eq_true, if_false]
  rw [← Array.getElem?_toList, h1]
  simp [hj']
theorem heap_raw [Inhabited α] {w : World} {g n : Nat} {os : Array Obj} {cur : Array Value} {e : TypeId} {fr : Nat × Nat} (d : Array α) (hb : w.heap[g]? = some (.cells cur e fr)) :
    (grow (putRow enc (Sort.ahead w n) g 0 d) os).heap[g]? = some (.cells (putCells enc 0 d cur) e fr) := by
  have hg : g < w.heap.size := (Array.getElem?_eq_some_iff.1 hb).1
  rw [heap_grow_old _ _ (by simpa using hg)]
  simp [putRow, mapBlock, Sort.ahead, Array.getElem?_modify, hb, onCells]
theorem grownBy_raw [Inhabited α] {w : World} {g n : Nat} {os : Array Obj} (d : Array α) : w.grownBy (grow (putRow enc (Sort.ahead w n) g 0 d) os) (some g) := by
  refine ⟨rfl, rfl, rfl, by simp, fun k hk hne => ?_⟩
  rw [heap_grow_old _ _ (by simpa using hk)]
  have : g ≠ k := fun e => hne (by rw [e])
  simp [putRow, mapBlock, Sort.ahead, Array.getElem?_modify, this]
theorem take_raw [Inhabited α] (cur : Array Value) (ts : List α) (h : ts.length ≤ cur.size) : (putCells enc 0 ts.toArray cur).toList.take ts.length = ts.map enc := by
  apply List.ext_getElem?
  intro j
  by_cases hj : j < ts.length
  · rw [List.getElem?_take_of_lt hj, Array.getElem?_toList]
    simp [putCells, hj, show j < cur.size by omega]
  · rw [List.getElem?_take_eq_none (by omega), List.getElem?_eq_none (by simp; omega)]
theorem stp_raw [Inhabited α] {w : World} {S c : Nat → Nat} {b n : Nat} {os : Array Obj} {cur : Array Value} {e : TypeId} (d : Array α) (hz : Sz w S) (hb : w.heap[b]? = some (.cells cur e (0, 0))) (hc : 0 < c b) (hS : S b = 0) (s : Nat) :
    Stp w S c (grow (putRow enc (Sort.ahead w n) b 0 d) os) (upd S b s) c ∧ Sz (grow (putRow enc (Sort.ahead w n) b 0 d) os) (upd S b s) := by
  have hg := grownBy_raw (enc := enc) (w := w) (g := b) (n := n) (os := os) d
  obtain ⟨h1, h2, h3, h4, h5⟩ := hg
  have hbs : b < w.heap.size := (Array.getElem?_eq_some_iff.1 hb).1
  have hother : ∀ x, x < w.heap.size → x ≠ b → (grow (putRow enc (Sort.ahead w n) b 0 d) os).heap[x]? = w.heap[x]? := fun x hx hne => h5 x hx (by intro h; injection h with h; exact hne h)
  refine stp_sz hz ⟨by first | exact h1 | rfl, by first | exact h2 | rfl, ⟨by first | exact h3 | rfl, fun _ => Nat.le_add_right _ _⟩, h4, fun x hx hx0 => ?_, fun x o ho => ?_, fun x => ?_, fun x hx => Nat.le_refl _⟩ fun x hx => ?_
  · have hne : x ≠ b := by rintro rfl; omega
    exact ⟨hother x hx hne, by simp [upd, hne]⟩
  · have hne : x ≠ b := by rintro rfl; omega
    rcases Nat.lt_or_ge x w.heap.size with h | h
    · simp only [World.cell?, hother x h hne]
    · have := hz x h; omega
  · unfold upd; split
    · rename_i h; subst h; omega
    · exact Nat.le_refl _
  · have hne : x ≠ b := by rintro rfl; omega
    simp only [upd, hne, if_false]
    exact hz x (by omega)

theorem sort_raw [Inhabited α] {P : Program} {f e : Nat} (hfn : FnOk P f) (ho : ∀ a, (enc a).oneCell' = true) (srt : List α → List α) (hsl : ∀ l, (srt l).length = l.length) (zs : List α)
    (hnil : ∀ p cap w, Calls P f #[.slice p 0 cap] w fun e w' => e = .returned (.tuple #[]) ∧ w' = w)
    (hcall : ∀ b cap w, Holds enc w b 0 zs.toArray → b < w.heap.size → Calls P f #[.slice (some ⟨b, 0, none⟩) zs.length cap] w fun e w' => e = .returned (.tuple #[]) ∧ ∃ n os, w' = grow (putRow enc (Sort.ahead w n) b 0 (srt zs).toArray) os) :
    RCalls P f (.row e 1 (rawsA enc zs)) [] (fun r y => r = .tup [] ∧ y = .row e 1 (rawsA enc (srt zs))) := by
  refine ⟨hfn, ⟨_, _, rfl, rfl⟩, fun w S v vs c hz hr hc => ?_⟩
  cases hzs : zs with
  | nil =>
    subst hzs
    obtain ⟨v', us, d1, d2, he, h1, h2, hd⟩ := hr.uncons
    injection he with he1 he2
    subst he1; subst he2
    obtain ⟨rfl, hz2⟩ := h2.zero
    have hv : ∃ p cap, v = .slice p 0 cap := by
      cases h1 with
      | rowE h => exact ⟨_, _, rfl⟩
      | row => exact ⟨_, _, rfl⟩
    obtain ⟨p, cap, rfl⟩ := hv
    refine (hnil p cap w).mono ?_
    rintro e w' ⟨rfl, rfl⟩
    refine ⟨_, _, _, S, d1, rfl, ⟨rfl, rfl⟩, rfl, .inr ⟨_, _, _, rfl⟩, ?_, fun b => by have := hc b; have := hd b; omega, hz, (Stp.refl _ _ _).drop fun b => by have := hd b; omega⟩
    have hm : srt ([] : List α) = [] := List.eq_nil_of_length_eq_zero (by rw [hsl]; rfl)
    rw [hm]
    exact RepC.tup (.nil zc0) h1 (c1 := fun _ => 0) (c2 := d1) (fun b => by simp)
  | cons z0 zs0 =>
    rw [← hzs]
    have hne : rawsA enc zs ≠ [] := by rw [hzs]; simp [rawsA]
    generalize hes : rawsA enc zs = es at hr
    cases hr with
    | rowE h => exact absurd hes hne
    | row hn hcap hk hb hs hS h1 h0 ho' hnil' hcc =>
      rename_i b cap cur c0 c2
      obtain ⟨rfl, hz2⟩ := hnil'.zero
      subst hes
      have hlen := raws_length (enc := enc) zs
      rw [flat_raws] at h1
      have ht := rep_raws h1
      rw [hlen, Nat.mul_one] at ht
      have hbs : b < w.heap.size := (Array.getElem?_eq_some_iff.1 hb).1
      rw [hlen]
      refine (hcall b cap w (holds_raw hb ht) hbs).mono ?_
      rintro e w' ⟨rfl, n, os, rfl⟩
      generalize hss : srt zs = ss
      have hsl' : ss.length = zs.length := by rw [← hss]; exact hsl _
      have hcb : 0 < c b := by rw [hcc]; simp; omega
      obtain ⟨hst, hsz⟩ := stp_raw (enc := enc) (n := n) (os := os) ss.toArray hz hb hcb hS 0
      have hu : upd S b 0 = S := by
        funext x; unfold upd; split
        · rename_i h; subst h; rw [hS]
        · rfl
      rw [hu] at hst hsz
      refine ⟨_, _, _, S, c, rfl, ⟨rfl, rfl⟩, rfl, .inr ⟨_, _, _, rfl⟩, ?_, hc, hsz, hst⟩
      refine RepC.tup (c1 := fun _ => 0) (c2 := c) (.nil zc0) ?_ (fun b => by simp)
      have hl2 : (rawsA enc ss).length = zs.length := by rw [raws_length, hsl']
      rw [← hl2]
      have htake : (putCells enc 0 ss.toArray cur).toList.take ss.length = ss.map enc := take_raw cur ss (by rw [hs]; omega)
      refine .row (c0 := fun _ => 0) (c2 := c2) (by omega) hcap (raws_cells ss) (heap_raw _ hb) (by simp [putCells, hs]) hS ?_ zc0 ?_ (.nil hz2) hcc
      · rw [flat_raws, hl2, ← hsl', Nat.mul_one, htake]; exact raws_rep ho ss
      · rw [hl2, ← hsl', Nat.mul_one, htake]; exact raws_one ho ss

theorem compact_raw [Inhabited α] {P : Program} {f e : Nat} (hfn : FnOk P f) (ho : ∀ a, (enc a).oneCell' = true) (cmp : List α → List α) (hcl0 : ∀ l, (cmp l).length ≤ l.length) (z : α) (zs : List α)
    (hnil : ∀ p cap w, Calls P f #[.slice p 0 cap] w fun e w' => e = .returned (.slice p 0 cap) ∧ w' = w)
    (hcall : ∀ b cap w, Holds enc w b 0 zs.toArray → zs.length ≤ cap → Calls P f #[.slice (some ⟨b, 0, none⟩) zs.length cap] w fun e w' => e = .returned (.slice (some ⟨b, 0, none⟩) (cmp zs).length cap) ∧ ∃ q, w' = putRow enc (Sort.ahead w q) b 0 (cmp zs ++ List.replicate (zs.length - (cmp zs).length) z).toArray) :
    ACalls P f [.mine e 1 (rawsA enc zs)] (fun r => r = .own e 1 (rawsA enc (cmp zs))) := by
  refine ⟨hfn, ⟨_, rfl⟩, fun w S vs c hz hr hc => ?_⟩
  cases hzs : zs with
  | nil =>
    subst hzs
    have hm : cmp ([] : List α) = [] := List.eq_nil_of_length_eq_zero (by have := hcl0 []; simpa using this)
    rw [hm]
    obtain ⟨v', us, d1, d2, rfl, h1, h2, hd⟩ := hr.uncons
    obtain ⟨rfl, hz2⟩ := h2.zero
    cases h1 with
    | mineE hnil' =>
      refine (hnil none 0 w).mono ?_
      rintro e w' ⟨rfl, rfl⟩
      exact ⟨_, _, S, d1, rfl, rfl, rfl, .ownE hnil', fun b => by have := hc b; have := hd b; omega, hz, (Stp.refl _ _ _).drop fun b => by have := hd b; omega⟩
    | mine hn hcap hk hb hs hS h1 h0 ho' hnil' hcc =>
      rename_i b cap cur c0 c2
      refine (hnil _ cap w).mono ?_
      rintro e w' ⟨rfl, rfl⟩
      exact ⟨_, _, S, d1, rfl, rfl, rfl, .own (es := []) hn hcap hk hb hs (by simpa using hS) h1 h0 ho' hnil' hcc, fun b => by have := hc b; have := hd b; omega, hz, (Stp.refl _ _ _).drop fun b => by have := hd b; omega⟩
  | cons z0 zs0 =>
    rw [← hzs]
    have hne : rawsA enc zs ≠ [] := by rw [hzs]; simp [rawsA]
    generalize hes : rawsA enc zs = es at hr
    cases hr with
    | mineE h => exact absurd hes hne
    | mine hn hcap hk hb hs hS h1 h0 ho' hnil' hcc =>
      rename_i b cap cur us c0 c2
      obtain ⟨rfl, hz2⟩ := hnil'.zero
      subst hes
      have hlen := raws_length (enc := enc) zs
      rw [flat_raws] at h1
      have ht := rep_raws h1
      rw [hlen, Nat.mul_one] at ht
      rw [hlen]
      refine (hcall b cap w (holds_raw hb ht) (by omega)).mono ?_
      rintro e w' ⟨rfl, n, rfl⟩
      have hcl : (cmp zs).length ≤ zs.length := hcl0 zs
      generalize hss : cmp zs = ss at *
      generalize hd : ss ++ List.replicate (zs.length - ss.length) z = dd
      have hdl : dd.length = zs.length := by rw [← hd]; simp; omega
      have hcb : 0 < c b := by rw [hcc]; simp; omega
      obtain ⟨hst, hsz⟩ := stp_raw (enc := enc) (n := n) (os := #[]) dd.toArray hz hb hcb hS ss.length
      rw [grow_empty] at hst hsz
      refine ⟨_, _, _, c, rfl, rfl, rfl, ?_, hc, hsz, hst⟩
      have hl2 := raws_length (enc := enc) ss
      have htake : (putCells enc 0 dd.toArray cur).toList.take dd.length = dd.map enc := take_raw cur dd (by rw [hs]; omega)
      have htake2 : (putCells enc 0 dd.toArray cur).toList.take ss.length = ss.map enc := by
        have := congrArg (List.take ss.length) htake
        rw [List.take_take, Nat.min_eq_left (by omega)] at this
        rw [this, ← hd, List.map_append, List.take_left' (by simp)]
      have hheap := heap_raw (enc := enc) (n := n) (os := #[]) dd.toArray hb
      rw [grow_empty] at hheap
      rw [← hl2]
      refine .own (c0 := fun _ => 0) (c2 := c2) (by omega) hcap (raws_cells ss) hheap (by simp [putCells, hs]) (by simp [upd]) ?_ zc0 ?_ (.nil hz2) hcc
      · rw [flat_raws, hl2, Nat.mul_one, htake2]; exact raws_rep ho ss
      · rw [hl2, Nat.mul_one, htake2]; exact raws_one ho ss
/-- As compact_raw; what is left stays its holder's alone. -/
theorem compact_mine [Inhabited α] {P : Program} {f e : Nat} (hfn : FnOk P f) (ho : ∀ a, (enc a).oneCell' = true) (cmp : List α → List α) (hcl0 : ∀ l, (cmp l).length ≤ l.length) (z : α) (zs : List α)
    (hnil : ∀ p cap w, Calls P f #[.slice p 0 cap] w fun e w' => e = .returned (.slice p 0 cap) ∧ w' = w)
    (hcall : ∀ b cap w, Holds enc w b 0 zs.toArray → zs.length ≤ cap → Calls P f #[.slice (some ⟨b, 0, none⟩) zs.length cap] w fun e w' => e = .returned (.slice (some ⟨b, 0, none⟩) (cmp zs).length cap) ∧ ∃ q, w' = putRow enc (Sort.ahead w q) b 0 (cmp zs ++ List.replicate (zs.length - (cmp zs).length) z).toArray) :
    ACalls P f [.mine e 1 (rawsA enc zs)] (fun r => r = .mine e 1 (rawsA enc (cmp zs))) := by
  refine ⟨hfn, ⟨_, rfl⟩, fun w S vs c hz hr hc => ?_⟩
  cases hzs : zs with
  | nil =>
    subst hzs
    have hm : cmp ([] : List α) = [] := List.eq_nil_of_length_eq_zero (by have := hcl0 []; simpa using this)
    rw [hm]
    obtain ⟨v', us, d1, d2, rfl, h1, h2, hd⟩ := hr.uncons
    obtain ⟨rfl, hz2⟩ := h2.zero
    cases h1 with
    | mineE hnil' =>
      refine (hnil none 0 w).mono ?_
      rintro e w' ⟨rfl, rfl⟩
      exact ⟨_, _, S, d1, rfl, rfl, rfl, .mineE hnil', fun b => by have := hc b; have := hd b; omega, hz, (Stp.refl _ _ _).drop fun b => by have := hd b; omega⟩
    | mine hn hcap hk hb hs hS h1 h0 ho' hnil' hcc =>
      rename_i b cap cur c0 c2
      refine (hnil _ cap w).mono ?_
      rintro e w' ⟨rfl, rfl⟩
      exact ⟨_, _, S, d1, rfl, rfl, rfl, .mine (es := []) hn hcap hk hb hs hS h1 h0 ho' hnil' hcc, fun b => by have := hc b; have := hd b; omega, hz, (Stp.refl _ _ _).drop fun b => by have := hd b; omega⟩
  | cons z0 zs0 =>
    rw [← hzs]
    have hne : rawsA enc zs ≠ [] := by rw [hzs]; simp [rawsA]
    generalize hes : rawsA enc zs = es at hr
    cases hr with
    | mineE h => exact absurd hes hne
    | mine hn hcap hk hb hs hS h1 h0 ho' hnil' hcc =>
      rename_i b cap cur us c0 c2
      obtain ⟨rfl, hz2⟩ := hnil'.zero
      subst hes
      have hlen := raws_length (enc := enc) zs
      rw [flat_raws] at h1
      have ht := rep_raws h1
      rw [hlen, Nat.mul_one] at ht
      rw [hlen]
      refine (hcall b cap w (holds_raw hb ht) (by omega)).mono ?_
      rintro e w' ⟨rfl, n, rfl⟩
      have hcl : (cmp zs).length ≤ zs.length := hcl0 zs
      generalize hss : cmp zs = ss at *
      generalize hd : ss ++ List.replicate (zs.length - ss.length) z = dd
      have hdl : dd.length = zs.length := by rw [← hd]; simp; omega
      have hcb : 0 < c b := by rw [hcc]; simp; omega
      obtain ⟨hst, hsz⟩ := stp_raw (enc := enc) (n := n) (os := #[]) dd.toArray hz hb hcb hS 0
      rw [grow_empty] at hst hsz
      refine ⟨_, _, _, c, rfl, rfl, rfl, ?_, hc, hsz, hst⟩
      have hl2 := raws_length (enc := enc) ss
      have htake : (putCells enc 0 dd.toArray cur).toList.take dd.length = dd.map enc := take_raw cur dd (by rw [hs]; omega)
      have htake2 : (putCells enc 0 dd.toArray cur).toList.take ss.length = ss.map enc := by
        have := congrArg (List.take ss.length) htake
        rw [List.take_take, Nat.min_eq_left (by omega)] at this
        rw [this, ← hd, List.map_append, List.take_left' (by simp)]
      have hheap := heap_raw (enc := enc) (n := n) (os := #[]) dd.toArray hb
      rw [grow_empty] at hheap
      rw [← hl2]
      refine .mine (c0 := fun _ => 0) (c2 := c2) (by omega) hcap (raws_cells ss) hheap (by simp [putCells, hs]) (by simp [upd]) ?_ zc0 ?_ (.nil hz2) hcc
      · rw [flat_raws, hl2, Nat.mul_one, htake2]; exact raws_rep ho ss
      · rw [hl2, Nat.mul_one, htake2]; exact raws_one ho ss
end

/-- slices.Reverse over a row of structs. -/
theorem reverse_row {P : Program} {ρ : Ren} (L : SlLaysE0.n35 P ρ) (k : Nat) (hk0 : 0 < k) (aE : ∀ w, (isAgg (ρ.t 23)).run P w = .ok true w) (zE : ∀ w, (Go.sizeOf (ρ.t 23)).run P w = .ok k w) {e : Nat} (hfn : FnOk P (ρ.f 35))
    (es : List AV) (hk : ∀ x ∈ es, ∃ ys, x = .agg ys ∧ ys.length = k) (hlen : es.length ≤ 1000000) :
    RCalls P (ρ.f 35) (.row e k es) [] (fun r y => r = .tup [] ∧ y = .row e k es.reverse) := by
  have hkc : ∀ x ∈ es, (cellsOf x).length = k := fun x hx => by obtain ⟨ys, rfl, hy⟩ := hk x hx; exact hy
  refine ⟨hfn, ⟨_, _, rfl, rfl⟩, fun w S v vs c hz hr hc => ?_⟩
  obtain ⟨v', us, d1, d2, he0, h1, h2, hd⟩ := hr.uncons
  injection he0 with e1 e2
  subst e1; subst e2
  obtain ⟨rfl, hz4⟩ := h2.zero
  have hd' : ∀ b, c b = d1 b := fun b => by rw [hd, hz4 b]; omega
  have h1c : RepC w S [.row e k es] [v] c := h1.congr hd'
  rcases Nat.eq_zero_or_pos es.length with h0 | hpos
  · have hes : es = [] := List.eq_nil_of_length_eq_zero h0
    subst hes
    have hv : ∃ p cap, v = .slice p 0 cap := by
      cases h1 with
      | rowE h => exact ⟨_, _, rfl⟩
      | row => exact ⟨_, _, rfl⟩
    obtain ⟨p, cap, rfl⟩ := hv
    refine (AnyQ.slices_Reverse_empty L p cap w).mono ?_
    rintro e' w' ⟨rfl, rfl⟩
    exact ⟨_, _, _, S, c, rfl, ⟨rfl, rfl⟩, rfl, .inr ⟨_, _, _, rfl⟩, RepC.tup (.nil zc0) h1c (c1 := fun _ => 0) (c2 := c) (fun b => by simp), hc, hz, Stp.refl _ _ _⟩
  · haveI : Inhabited (Fin es.length) := ⟨⟨0, hpos⟩⟩
    cases h1c with
    | rowE h => simp at hpos
    | row hn hcap hkk hb hs hS hf h0 ho hnil hcc =>
      rename_i b cap cur c0 c2
      obtain ⟨_, hz2⟩ := hnil.zero
      obtain ⟨css, hcl, hcv, hcs⟩ := flat_parts hkc hf h0
      have hbs : b < w.heap.size := (Array.getElem?_eq_some_iff.1 hb).1
      have hck : ∀ i : Fin es.length, ∃ cs, css[i.1]? = some cs := fun i => ⟨_, List.getElem?_eq_getElem (by rw [hcl]; exact i.2)⟩
      obtain ⟨enc, hencdef⟩ : ∃ enc : Fin es.length → List Value, ∀ i, css[i.1]? = some (enc i) := ⟨fun i => (hck i).choose, fun i => (hck i).choose_spec⟩
      have hek : ∀ i, (enc i).length = k := fun i => (hcs i.1 (es.get i) (enc i) (by simp) (hencdef i)).1
      have her : ∀ i, RepC w S (cellsOf (es.get i)) (enc i) (fun _ => 0) := fun i => (hcs i.1 (es.get i) (enc i) (by simp) (hencdef i)).2
      have hmap : (List.finRange es.length).map enc = css := by
        apply List.ext_getElem?
        intro i
        rcases Nat.lt_or_ge i es.length with hi | hi
        · rw [hencdef ⟨i, hi⟩, List.getElem?_map, List.getElem?_eq_getElem (by simpa using hi)]
          simp
        · rw [List.getElem?_eq_none (by simpa using hi), List.getElem?_eq_none (by omega)]
      have hone : ∀ i, ∀ u ∈ enc i, u.oneCell' = true := fun i u hu => by
        refine ho u ?_
        rw [hcv, ← hmap]
        exact List.mem_flatten.2 ⟨enc i, List.mem_map.2 ⟨i, List.mem_finRange i, rfl⟩, hu⟩
      have hfl : flatK enc k (List.finRange es.length).toArray = css.flatten.toArray := by rw [flatK_eq hk0 enc hek, hmap]
      have hclen : css.flatten.length = es.length * k := by
        have hq : cur.toList.length = cap * k := by simp [hs]
        rw [← hcv, List.length_take, hq]
        exact Nat.min_eq_left (Nat.mul_le_mul_right k hn)
      have hH : HoldsK enc k w b 0 (List.finRange es.length).toArray := by
        rw [HoldsK, hfl]
        exact holds_id hb (by rw [hclen]; exact hcv)
      have hcb : 0 < c b := by rw [hcc]; simp; omega
      have hsz : (List.finRange es.length).toArray.size = es.length := by simp
      have hcon := AnyQ.slices_Reverse L k aE zE enc hek hone b 0 cap (List.finRange es.length).toArray w hH (by rw [hsz]; omega)
      rw [hsz] at hcon
      refine hcon.mono ?_
      rintro e' w' ⟨rfl, n, rfl⟩
      have hrv : (List.finRange es.length).toArray.reverse = ((List.finRange es.length).reverse).toArray := by simp
      rw [hrv]
      obtain ⟨ss, hss⟩ : ∃ ss, (List.finRange es.length).reverse = ss := ⟨_, rfl⟩
      rw [hss]
      have hes : es.reverse = ss.map es.get := by rw [← hss, List.map_reverse, finRange_map]
      rw [hes]
      have hsl : ss.length = es.length := by rw [← hss]; simp
      obtain ⟨hst, hszz⟩ := stp_id (n := n) (os := #[]) (flatK enc k ss.toArray) hz hb hcb hS
      rw [grow_empty] at hst hszz
      have hfs : flatK enc k ss.toArray = (ss.map enc).flatten.toArray := flatK_eq hk0 enc hek ss
      have hfsl : (ss.map enc).flatten.length = es.length * k := by
        rw [flatten_len (k := k) _ (fun cs hcs => by obtain ⟨i, _, rfl⟩ := List.mem_map.1 hcs; exact hek i), List.length_map, hsl]
      refine ⟨_, _, _, S, c, rfl, ⟨rfl, rfl⟩, rfl, .inr ⟨_, _, _, rfl⟩, ?_, hc, hszz, hst⟩
      refine RepC.tup (c1 := fun _ => 0) (c2 := c) (.nil zc0) ?_ (fun b => by simp)
      have hml : (ss.map es.get).length = es.length := by rw [List.length_map, hsl]
      have htake : (putCells id 0 (flatK enc k ss.toArray) cur).toList.take (es.length * k) = (ss.map enc).flatten := by
        rw [hfs, ← hfsl]
        exact take_id cur _ (by rw [hfsl, hs]; exact Nat.mul_le_mul_right k hn)
      have hheap := heap_id (n := n) (os := #[]) (flatK enc k ss.toArray) hb
      rw [grow_empty] at hheap
      have key : RepC (putRow id (Sort.ahead w n) b 0 (flatK enc k ss.toArray)) S [.row e k (ss.map es.get)] [.slice (some ⟨b, 0, none⟩) (ss.map es.get).length cap] c := ?_
      · rw [hml] at key; exact key
      refine .row (c0 := fun _ => 0) (c2 := c2) (by omega) hcap (fun x hx => ?_) hheap (by simp [putCells, hs]) hS ?_ zc0 ?_ (.nil hz2) hcc
      · obtain ⟨i, _, rfl⟩ := List.mem_map.1 hx
        exact hkc _ (List.get_mem _ _)
      · rw [hml, htake]
        refine flat_join (by simp) fun i x cs hx hcx => ?_
        rw [List.getElem?_map, Option.map_eq_some_iff] at hx hcx
        obtain ⟨j, hj, rfl⟩ := hx
        obtain ⟨j', hj', rfl⟩ := hcx
        rw [hj] at hj'
        injection hj' with hj'
        subst hj'
        exact (her j).step hst (fun b => by have := hc b; simpa using this)
      · rw [hml, htake]
        intro u hu
        obtain ⟨cs, hcs, hu⟩ := List.mem_flatten.1 hu
        obtain ⟨i, _, rfl⟩ := List.mem_map.1 hcs
        exact hone i u hu
end Go.Proofs.Ytohelofjlkoboaa
namespace Go.Proofs.Ytohelofjlkoboaa
open Go.RowKit Go.Proofs
set_option linter.unusedSimpArgs false
set_option linter.unusedVariables false
set_option linter.unusedSectionVars false
variable [Env]
theorem ACalls.freeze {P : Program} {f : Nat} {args : List AV} {e k : Nat} {es : List AV} (h : ACalls P f args (fun r => r = .mine e k es)) : ACalls P f args (fun r => r = .own e k es) := by
  obtain ⟨hf, _, h3⟩ := h
  refine ⟨hf, ⟨_, rfl⟩, fun w S vs c hz hv hc => (h3 w S vs c hz hv hc).mono fun e' w' ⟨v, r, S', c', he, hR, hp, hr, h4, h5, h6⟩ => ?_⟩
  subst hR
  cases hr with
  | mineE hn => exact ⟨_, _, S', c', he, rfl, rfl, .ownE hn, h4, h5, h6⟩
  | mine hn hcap hk hb hs' hS hx1 h0 hoc hnil hcc =>
    rename_i b cap cur c0 c2
    obtain ⟨_, hz2⟩ := hnil.zero
    have hcb : 0 < c' b := by rw [hcc]; simp; omega
    have hle : ∀ x, S' x ≤ upd S' b (es.length * k) x := by
      intro x
      unfold upd
      split
      · rename_i hx; subst hx; rw [hS]; exact Nat.zero_le _
      · exact Nat.le_refl _
    have hkeep : ∀ {xs vs c1}, RepC w' S' xs vs c1 → c1 b = 0 → RepC w' (upd S' b (es.length * k)) xs vs c1 := fun h hb0 =>
      h.keep (fun _ _ _ => rfl) hle (fun x hx => ⟨rfl, by unfold upd; rw [if_neg]; intro hxb; subst hxb; omega⟩)
    have hown : RepC w' (upd S' b (es.length * k)) [.own e k es] [.slice (some ⟨b, 0, none⟩) es.length cap] c' :=
      .own hn hcap hk hb hs' (by simp [upd]) (hkeep hx1 (h0 b)) h0 hoc (.nil hz2) hcc
    refine ⟨_, _, _, c', he, rfl, rfl, hown, h4, ⟨fun x hx => ?_, h5.g.upd0 hS _⟩, ⟨h6.os, h6.tape, h6.output, h6.size, fun x hx hx0 => ⟨(h6.keep x hx hx0).1, ?_⟩, h6.cell, fun x => Nat.le_trans (h6.le x) (hle x), h6.own⟩⟩
    · unfold upd
      rw [if_neg]
      · exact h5 x hx
      · intro hxb; subst hxb
        have := (Array.getElem?_eq_some_iff.1 hb).1
        omega
    · unfold upd
      rw [if_neg]
      · exact (h6.keep x hx hx0).2
      · intro hxb; subst hxb
        have := h6.own x hx
        omega
end Go.Proofs.Ytohelofjlkoboaa
