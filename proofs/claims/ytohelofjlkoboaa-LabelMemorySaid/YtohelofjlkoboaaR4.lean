/- The library's SortFunc over rows of structs. The library's SortFunc over a list of things. -/
import Derived.Test.YtohelofjlkoboaaB1
import Derived.Test.YtohelofjlkoboaaR2
import Derived.Shelf.SlSortCmp.NoneTotal
import Derived.Sort.OwnSortedInts
import Derived.Test.YtohelofjlkoboaaA11
namespace Go.Proofs.Ytohelofjlkoboaa
open Go.RowKit Go.Proofs Go.Sort Go.Shelf Go.Lib
set_option linter.unusedSimpArgs false
set_option linter.unusedVariables false
set_option linter.unusedSectionVars false
variable [Env]

theorem Stp.grown (hdr : Env.drawn) {w w' : World} {S S' c' : Nat → Nat} (h : Stp w S (fun _ => 0) w' S' c') : ∃ q os', w' = grow (w.drewN q) os' := by
  refine ⟨w'.drawn - w.drawn, w'.heap.extract w.heap.size w'.heap.size, ?_⟩
  have hheap : w.heap ++ w'.heap.extract w.heap.size w'.heap.size = w'.heap := by
    apply Array.ext_getElem?
    intro i
    have hs := h.size
    rcases Nat.lt_or_ge i w.heap.size with hi | hi
    · rw [Array.getElem?_append_left hi]
      exact (h.keep i hi rfl).1.symm
    · rw [Array.getElem?_append_right hi]
      simp only [Array.getElem?_extract]
      split
      · congr 1; omega
      · rw [Array.getElem?_eq_none (by omega)]
  have h1 := h.os
  have h2 := h.tape
  have h3 := h.output
  obtain ⟨hp, tp, dr, os, out⟩ := w
  obtain ⟨hp', tp', dr', os', out'⟩ := w'
  simp only [grow, World.drewN] at *
  subst h1; subst h2
  obtain ⟨rfl, h3⟩ := h3
  have h3 := h3 hdr
  rw [hheap]
  congr 1
  omega
/-- A call that is handed nothing of its own leaves all as it was, but for draws and new blocks. -/
theorem ACalls.lays (hdr : Env.drawn) {P : Program} {f : Nat} {args : List AV} {n : Int} (h : ACalls P f args (fun r => r = num n)) {w : World} {S : Nat → Nat} {vs : List Value} (hz : Sz w S) (hr : RepC w S args vs (fun _ => 0)) :
    Calls P f vs.toArray w fun e w' => e = .returned (.int .i64 n) ∧ ∃ q os', w' = grow (w.drewN q) os' := by
  refine (h.2.2 w S vs _ hz hr (fun _ => by simp)).mono ?_
  rintro e w' ⟨v, r, S', c', rfl, rfl, hp, hrr, h4, h5, h6⟩
  have hv : v = .int .i64 n := by cases hrr with | raw h1 h => rfl
  subst hv
  exact ⟨rfl, h6.grown hdr⟩
theorem lays_of {P : Program} {f : Nat} {args : List AV} {n : Int} (h : @ACalls ⟨True, Env.globs⟩ P f args (fun r => r = num n)) {w : World} {S : Nat → Nat} {vs : List Value} (hz : Sz w S) (hr : RepC w S args vs (fun _ => 0)) :
    Calls P f vs.toArray w fun e w' => e = .returned (.int .i64 n) ∧ ∃ q os', w' = grow (w.drewN q) os' := by
  have hz2 : @Sz ⟨True, Env.globs⟩ w S := @Sz.mk ⟨True, Env.globs⟩ w S hz.z hz.g
  exact @ACalls.lays ⟨True, Env.globs⟩ trivial P f args n h w S vs hz2 hr
/-- The elements of a row, each with its cells. -/
theorem flat_parts {w : World} {S : Nat → Nat} {k : Nat} : ∀ {es : List AV} {cv : List Value} {c : Nat → Nat}, (∀ x ∈ es, (cellsOf x).length = k) → RepC w S (flat es) cv c → Zc c →
    ∃ css : List (List Value), css.length = es.length ∧ cv = css.flatten ∧ ∀ (i : Nat) (x : AV) (cs : List Value), es[i]? = some x → css[i]? = some cs → cs.length = k ∧ RepC w S (cellsOf x) cs (fun _ => 0)
  | [], cv, c, _, h, _ => ⟨[], rfl, by rw [h.zero.1]; rfl, by simp⟩
  | x :: es, cv, c, hk, h, h0 => by
    rw [flat] at h
    obtain ⟨us1, us2, c1, c2, rfl, g1, g2, hc⟩ := h.unapp
    have z1 : Zc c1 := fun b => by have := hc b; have := h0 b; omega
    have z2 : Zc c2 := fun b => by have := hc b; have := h0 b; omega
    obtain ⟨css, i1, i2, i3⟩ := flat_parts (fun y hy => hk y (by simp [hy])) g2 z2
    refine ⟨us1 :: css, by simp [i1], by rw [i2]; rfl, fun i y cs hy hcs => ?_⟩
    cases i with
    | zero =>
      simp at hy hcs
      subst hy; subst hcs
      exact ⟨by rw [g1.length]; exact hk x (by simp), g1.congr fun b => (z1 b).symm⟩
    | succ i => exact i3 i y cs (by simpa using hy) (by simpa using hcs)
theorem flat_join {w : World} {S : Nat → Nat} : ∀ {es : List AV} {css : List (List Value)}, css.length = es.length → (∀ (i : Nat) (x : AV) (cs : List Value), es[i]? = some x → css[i]? = some cs → RepC w S (cellsOf x) cs (fun _ => 0)) → RepC w S (flat es) css.flatten (fun _ => 0)
  | [], [], _, _ => .nil zc0
  | [], _ :: _, h, _ => by simp at h
  | _ :: _, [], h, _ => by simp at h
  | x :: es, cs :: css, h, hr => by
    rw [flat, List.flatten_cons]
    exact (hr 0 x cs rfl rfl).app (flat_join (by simpa using h) fun i y ds hy hd => hr (i + 1) y ds (by simpa using hy) (by simpa using hd)) (fun _ => rfl)
/-! ## rows of values as they lie -/
theorem holds_id {w : World} {g : Nat} {cur : Array Value} {e : TypeId} {ss : List Value} (hb : w.heap[g]? = some (.cells cur e (0, 0))) (ht : cur.toList.take ss.length = ss) : Holds id w g 0 ss.toArray := by
  intro j hj
  have hj' : j < ss.length := by simpa using hj
  refine ⟨?_, by simp [World.frozen?, hb]⟩
  have h1 : (cur.toList.take ss.length)[j]? = ss[j]? := by rw [ht]
  rw [List.getElem?_take_of_lt hj'] at h1
  simp only [World.cell?, hb, Nat.zero_add]
  simp only [Option.isSome_none, Bool.false_eq_true, if_false]
  rw [← Array.getElem?_toList, h1]
  simp [hj']
theorem heap_id {w : World} {g n : Nat} {os : Array Obj} {cur : Array Value} {e : TypeId} {fr : Nat × Nat} (d : Array Value) (hb : w.heap[g]? = some (.cells cur e fr)) :
    (grow (putRow id (Sort.ahead w n) g 0 d) os).heap[g]? = some (.cells (putCells id 0 d cur) e fr) := by
  have hg : g < w.heap.size := (Array.getElem?_eq_some_iff.1 hb).1
  rw [heap_grow_old _ _ (by simpa using hg)]
  simp [putRow, mapBlock, Sort.ahead, Array.getElem?_modify, hb, onCells]
theorem grownBy_id {w : World} {g n : Nat} {os : Array Obj} (d : Array Value) : w.grownBy (grow (putRow id (Sort.ahead w n) g 0 d) os) (some g) := by
  refine ⟨rfl, rfl, rfl, by simp, fun k hk hne => ?_⟩
  rw [heap_grow_old _ _ (by simpa using hk)]
  have : g ≠ k := fun e => hne (by rw [e])
  simp [putRow, mapBlock, Sort.ahead, Array.getElem?_modify, this]
theorem take_id (cur : Array Value) (ts : List Value) (h : ts.length ≤ cur.size) : (putCells id 0 ts.toArray cur).toList.take ts.length = ts := by
  apply List.ext_getElem?
  intro j
  by_cases hj : j < ts.length
  · rw [List.getElem?_take_of_lt hj, Array.getElem?_toList]
    simp [putCells, hj, show j < cur.size by omega]
  · rw [List.getElem?_take_eq_none (by omega), List.getElem?_eq_none (by omega)]
/-- What a turning of a row leaves of the world. -/
theorem stp_id {w : World} {S c : Nat → Nat} {b n : Nat} {os : Array Obj} {cur : Array Value} {e : TypeId} (d : Array Value) (hz : Sz w S) (hb : w.heap[b]? = some (.cells cur e (0, 0))) (hc : 0 < c b) (hS : S b = 0) :
    Stp w S c (grow (putRow id (Sort.ahead w n) b 0 d) os) S c ∧ Sz (grow (putRow id (Sort.ahead w n) b 0 d) os) S := by
  have hg := grownBy_id (w := w) (g := b) (n := n) (os := os) d
  obtain ⟨h1, h2, h3, h4, h5⟩ := hg
  have hbs : b < w.heap.size := (Array.getElem?_eq_some_iff.1 hb).1
  have hother : ∀ x, x < w.heap.size → x ≠ b → (grow (putRow id (Sort.ahead w n) b 0 d) os).heap[x]? = w.heap[x]? := fun x hx hne => h5 x hx (by intro h; injection h with h; exact hne h)
  refine stp_sz hz ⟨by first | exact h1 | rfl, by first | exact h2 | rfl, ⟨by first | exact h3 | rfl, fun _ => Nat.le_add_right _ _⟩, h4, fun x hx hx0 => ?_, fun x o ho => ?_, fun x => Nat.le_refl _, fun x hx => Nat.le_refl _⟩ fun x hx => hz x (by omega)
  · have hne : x ≠ b := by rintro rfl; omega
    exact ⟨hother x hx hne, rfl⟩
  · have hne : x ≠ b := by rintro rfl; omega
    rcases Nat.lt_or_ge x w.heap.size with h | h
    · simp only [World.cell?, hother x h hne]
    · have := hz x h; omega
theorem flatten_get {k : Nat} (hk : 0 < k) : ∀ (css : List (List Value)), (∀ cs ∈ css, cs.length = k) → ∀ t, t < css.length * k → css.flatten[t]! = (css[t / k]!)[t % k]!
  | [], _, t, h => by simp at h
  | cs :: css, hl, t, h => by
    have h0 := hl cs (by simp)
    rcases Nat.lt_or_ge t k with ht | ht
    · rw [Nat.div_eq_of_lt ht, Nat.mod_eq_of_lt ht]
      simp only [List.flatten_cons, List.getElem!_cons_zero]
      rw [getElem!_def, getElem!_def, List.getElem?_append_left (by omega)]
    · have ih := flatten_get hk css (fun c hc => hl c (by simp [hc])) (t - k) (by simp only [List.length_cons, Nat.add_mul] at h; omega)
      have e1 : t / k = (t - k) / k + 1 := by rw [← Nat.sub_add_cancel ht, Nat.add_div_right _ hk]; simp
      have e2 : t % k = (t - k) % k := by rw [← Nat.sub_add_cancel ht, Nat.add_mod_right]; simp
      rw [e1, e2]
      simp only [List.flatten_cons, List.getElem!_cons_succ]
      rw [← ih, getElem!_def, getElem!_def, List.getElem?_append_right (by omega), h0]
theorem flatten_len {k : Nat} : ∀ (css : List (List Value)), (∀ cs ∈ css, cs.length = k) → css.flatten.length = css.length * k
  | [], _ => by simp
  | cs :: css, hl => by
    rw [List.flatten_cons, List.length_append, flatten_len css (fun c hc => hl c (by simp [hc])), hl cs (by simp), List.length_cons, Nat.add_mul]; omega
theorem flatK_eq {k n : Nat} (hk : 0 < k) [Inhabited (Fin n)] (enc : Fin n → List Value) (he : ∀ i, (enc i).length = k) (d : List (Fin n)) : flatK enc k d.toArray = (d.map enc).flatten.toArray := by
  have hl : ∀ cs ∈ d.map enc, cs.length = k := fun cs hcs => by
    obtain ⟨i, _, rfl⟩ := List.mem_map.1 hcs; exact he i
  have hlen := flatten_len (d.map enc) hl
  rw [List.length_map] at hlen
  apply Array.ext
  · simp [hlen]
  · intro t h1 h2
    have ht : t < d.length * k := by simpa using h1
    have hq : t / k < d.length := by rw [Nat.div_lt_iff_lt_mul hk]; exact ht
    have := flatten_get hk (d.map enc) hl t (by simpa using ht)
    have g1 := get_flatK enc k d.toArray t (by simpa using ht)
    rw [getElem!_pos _ t h1] at g1
    rw [getElem!_pos _ t (by rw [hlen]; exact ht)] at this
    rw [g1]
    simp only [List.getElem_toArray]
    rw [this]
    congr 1
    rw [getElem!_pos _ _ (by simpa using hq), getElem!_pos _ _ (by simpa using hq)]
    simp
theorem finRange_map {α : Type} (es : List α) : (List.finRange es.length).map es.get = es := by
  apply List.ext_getElem
  · simp
  · intro i h1 h2
    simp
/-- slices.SortFunc over a row of structs, by a literal that compares any two of them. -/
theorem sortFunc_row {P : Program} {ρ : Ren} (L : SlLaysF0.n6 P ρ) (k : Nat) (hk0 : 0 < k) (aE : ∀ w, (isAgg (ρ.t 24)).run P w = .ok true w) (zE : ∀ w, (Go.sizeOf (ρ.t 24)).run P w = .ok k w) {e g : Nat} (hfn : FnOk P (ρ.f 6))
    (eg : ∀ args w, (callFunc g args).run P w = .ok (.enter g args) w) (es : List AV) (hk : ∀ x ∈ es, ∃ ys, x = .agg ys ∧ ys.length = k) (hlen : es.length ≤ 1000000) (cf : Fin es.length → Fin es.length → Int) (hO : SWO (ltOf cf))
    (hT : ∀ x y, (ltOf cf) x y = false → (ltOf cf) y x = false → x = y) (hcall : ∀ i j : Fin es.length, @ACalls ⟨True, Env.globs⟩ P g [es.get i, es.get j] (fun r => r = num (cf i j))) :
    RCalls P (ρ.f 6) (.row e k es) [.raw (.func (.func g) #[] #[])] (fun r y => r = .tup [] ∧ y = .row e k (((List.finRange es.length).mergeSort fun x y => !(ltOf cf) y x).map es.get)) := by
  have hkc : ∀ x ∈ es, (cellsOf x).length = k := fun x hx => by obtain ⟨ys, rfl, hy⟩ := hk x hx; exact hy
  refine ⟨hfn, ⟨_, _, rfl, rfl⟩, fun w S v vs c hz hr hc => ?_⟩
  obtain ⟨v', us, d1, d2, he0, h1, h2, hd⟩ := hr.uncons
  injection he0 with e1 e2
  subst e1; subst e2
  obtain ⟨fv, us2, d3, d4, rfl, h3, h4, hd2⟩ := h2.uncons
  obtain ⟨rfl, hz4⟩ := h4.zero
  have hfv : fv = .func (.func g) #[] #[] ∧ Zc d3 := by cases h3 with | raw ho h => cases h with | nil hz => exact ⟨rfl, hz⟩
  obtain ⟨rfl, hz3⟩ := hfv
  have hd' : ∀ b, c b = d1 b := fun b => by rw [hd, hd2, hz3 b, hz4 b]; omega
  have hc1 : ∀ b, d1 b ≤ 1 := fun b => by rw [← hd']; exact hc b
  have h1c : RepC w S [.row e k es] [v] c := h1.congr hd'
  rcases Nat.eq_zero_or_pos es.length with h0 | hpos
  · have hes : es = [] := List.eq_nil_of_length_eq_zero h0
    subst hes
    have hv : ∃ p cap, v = .slice p 0 cap := by
      cases h1 with
      | rowE h => exact ⟨_, _, rfl⟩
      | row => exact ⟨_, _, rfl⟩
    obtain ⟨p, cap, rfl⟩ := hv
    refine (AnyF.slices_SortFunc_none L p cap _ w).mono ?_
    rintro e' w' ⟨rfl, rfl⟩
    refine ⟨_, _, _, S, c, rfl, ⟨rfl, rfl⟩, rfl, .inr ⟨_, _, _, rfl⟩, ?_, hc, hz, Stp.refl _ _ _⟩
    have : ((List.finRange ([] : List AV).length).mergeSort fun x y => !(ltOf cf) y x).map ([] : List AV).get = [] := by
      have : (List.finRange ([] : List AV).length) = [] := rfl
      rw [this]; simp
    rw [this]
    exact RepC.tup (.nil zc0) h1c (c1 := fun _ => 0) (c2 := c) (fun b => by simp)
  · haveI : Inhabited (Fin es.length) := ⟨⟨0, hpos⟩⟩
    cases h1c with
    | rowE h => simp at hpos
    | row hn hcap hkk hb hs hS hf h0 ho hnil hcc =>
      rename_i b cap cur c0 c2
      obtain ⟨_, hz2⟩ := hnil.zero
      obtain ⟨css, hcl, hcv, hcs⟩ := flat_parts hkc hf h0
      have hbs : b < w.heap.size := (Array.getElem?_eq_some_iff.1 hb).1
      have hck : ∀ i : Fin es.length, ∃ cs, css[i.1]? = some cs := fun i => ⟨_, List.getElem?_eq_getElem (by rw [hcl]; exact i.2)⟩
      obtain ⟨enc, hencdef⟩ : ∃ enc : Fin es.length → List Value, ∀ i, css[i.1]? = some (enc i) := ⟨fun i => (hck i).choose, fun i => (hck i).choose_spec⟩
      have hek : ∀ i, (enc i).length = k := fun i => (hcs i.1 (es.get i) (enc i) (by simp) (hencdef i)).1
      have her : ∀ i, RepC w S (cellsOf (es.get i)) (enc i) (fun _ => 0) := fun i => (hcs i.1 (es.get i) (enc i) (by simp) (hencdef i)).2
      have hmap : (List.finRange es.length).map enc = css := by
        apply List.ext_getElem?
        intro i
        rcases Nat.lt_or_ge i es.length with hi | hi
        · rw [hencdef ⟨i, hi⟩, List.getElem?_map, List.getElem?_eq_getElem (by simpa using hi)]
          simp
        · rw [List.getElem?_eq_none (by simpa using hi), List.getElem?_eq_none (by omega)]
      have hone : ∀ i, ∀ u ∈ enc i, u.oneCell' = true := fun i u hu => by
        refine ho u ?_
        rw [hcv, ← hmap]
        exact List.mem_flatten.2 ⟨enc i, List.mem_map.2 ⟨i, List.mem_finRange i, rfl⟩, hu⟩
      have hfl : flatK enc k (List.finRange es.length).toArray = css.flatten.toArray := by rw [flatK_eq hk0 enc hek, hmap]
      have hclen : css.flatten.length = es.length * k := by
        have hq : cur.toList.length = cap * k := by simp [hs]
        rw [← hcv, List.length_take, hq]
        exact Nat.min_eq_left (Nat.mul_le_mul_right k hn)
      have hH : HoldsK enc k w b 0 (List.finRange es.length).toArray := by
        rw [HoldsK, hfl]
        exact holds_id hb (by rw [hclen]; exact hcv)
      have hcb : 0 < c b := by rw [hcc]; simp; omega
      have hcmp : CmpLays P g #[] enc k cf b 0 (List.finRange es.length).toArray.size w := fun m os dk hdk x y => by
        have hsw := stp_id (n := m) (os := os) (flatK enc k dk) hz hb hcb hS
        have hrx := (her x).step hsw.1 (fun b => by have := hc b; simpa using this)
        have hry := (her y).step hsw.1 (fun b => by have := hc b; simpa using this)
        obtain ⟨ax, hax, _⟩ := hk (es.get x) (List.get_mem _ _)
        obtain ⟨ay, hay, _⟩ := hk (es.get y) (List.get_mem _ _)
        have hcl' := hcall x y
        rw [hax, hay] at hcl'
        rw [hax] at hrx
        rw [hay] at hry
        have ha1 : RepC (sortWorldK enc k w b 0 m dk os) S [.agg ay] [.agg (enc y).toArray] (fun _ => 0) :=
          RepC.agg (c1 := fun _ => 0) (c2 := fun _ => 0) hry (hone y) (.nil zc0) (fun b => by simp)
        have hargs : RepC (sortWorldK enc k w b 0 m dk os) S [.agg ax, .agg ay] [.agg (enc x).toArray, .agg (enc y).toArray] (fun _ => 0) :=
          RepC.agg (c1 := fun _ => 0) (c2 := fun _ => 0) hrx (hone x) ha1 (fun b => by simp)
        have hres := lays_of hcl' hsw.2 hargs
        rw [Array.append_empty]
        exact hres
      have hsz : (List.finRange es.length).toArray.size = es.length := by simp
      have hcon := AnyQ.slices_SortFunc_total L k aE zE enc hek hone cf hO g #[] b 0 cap (List.finRange es.length).toArray w eg hcmp hH hbs (by rw [hsz]; omega) hT
      rw [hsz] at hcon
      refine hcon.mono ?_
      rintro e' w' ⟨rfl, n, os, rfl⟩
      generalize hsrt : ((List.finRange es.length).toArray.toList.mergeSort fun x y => !(ltOf cf) y x) = ss
      have hss : ((List.finRange es.length).mergeSort fun x y => !(ltOf cf) y x) = ss := by rw [← hsrt]
      have hsl : ss.length = es.length := by rw [← hss, List.length_mergeSort]; simp
      obtain ⟨hst, hszz⟩ := stp_id (n := n) (os := os) (flatK enc k ss.toArray) hz hb hcb hS
      have hfs : flatK enc k ss.toArray = (ss.map enc).flatten.toArray := flatK_eq hk0 enc hek ss
      have hfsl : (ss.map enc).flatten.length = es.length * k := by
        rw [flatten_len (k := k) _ (fun cs hcs => by obtain ⟨i, _, rfl⟩ := List.mem_map.1 hcs; exact hek i), List.length_map, hsl]
      refine ⟨_, _, _, S, c, rfl, ⟨rfl, rfl⟩, rfl, .inr ⟨_, _, _, rfl⟩, ?_, hc, hszz, hst⟩
      refine RepC.tup (c1 := fun _ => 0) (c2 := c) (.nil zc0) ?_ (fun b => by simp)
      have hml : (ss.map es.get).length = es.length := by rw [List.length_map, hsl]
      have htake : (putCells id 0 (flatK enc k ss.toArray) cur).toList.take (es.length * k) = (ss.map enc).flatten := by
        rw [hfs, ← hfsl]
        exact take_id cur _ (by rw [hfsl, hs]; exact Nat.mul_le_mul_right k hn)
      have key : RepC (grow (putRow id (Sort.ahead w n) b 0 (flatK enc k ss.toArray)) os) S [.row e k (ss.map es.get)] [.slice (some ⟨b, 0, none⟩) (ss.map es.get).length cap] c := ?_
      · rw [hml] at key; exact key
      refine .row (c0 := fun _ => 0) (c2 := c2) (by omega) hcap (fun x hx => ?_) (heap_id _ hb) (by simp [putCells, hs]) hS ?_ zc0 ?_ (.nil hz2) hcc
      · obtain ⟨i, _, rfl⟩ := List.mem_map.1 hx
        exact hkc _ (List.get_mem _ _)
      · rw [hml, htake]
        refine flat_join (by simp) fun i x cs hx hcx => ?_
        rw [List.getElem?_map, Option.map_eq_some_iff] at hx hcx
        obtain ⟨j, hj, rfl⟩ := hx
        obtain ⟨j', hj', rfl⟩ := hcx
        rw [hj] at hj'
        injection hj' with hj'
        subst hj'
        exact (her j).step hst (fun b => by have := hc b; simpa using this)
      · rw [hml, htake]
        intro u hu
        obtain ⟨cs, hcs, hu⟩ := List.mem_flatten.1 hu
        obtain ⟨i, _, rfl⟩ := List.mem_map.1 hcs
        exact hone i u hu
end Go.Proofs.Ytohelofjlkoboaa
namespace Go.Proofs.Ytohelofjlkoboaa
open Go.RowKit Go.Proofs Go.Sort Go.Shelf Go.Lib
set_option linter.unusedSimpArgs false
set_option linter.unusedVariables false
set_option linter.unusedSectionVars false
variable [Env]
/-- SortFunc over a row of things that a comparison orders: the row holds the one ascending order of them. -/
theorem sortFunc_list {P : Program} {ρ : Ren} (L : SlLaysF0.n6 P ρ) (k : Nat) (hk0 : 0 < k) (aE : ∀ w, (isAgg (ρ.t 24)).run P w = .ok true w) (zE : ∀ w, (Go.sizeOf (ρ.t 24)).run P w = .ok k w) {e g : Nat} (hfn : FnOk P (ρ.f 6))
    (eg : ∀ args w, (callFunc g args).run P w = .ok (.enter g args) w) {α : Type} (XS D : List α) (f : α → AV) (cmp : α → α → Int) (hk : ∀ x ∈ XS, ∃ ys, f x = .agg ys ∧ ys.length = k) (hlen : XS.length ≤ 1000000)
    (hir : ∀ x ∈ XS, ¬ cmp x x < 0) (htr : ∀ x ∈ XS, ∀ y ∈ XS, ∀ z ∈ XS, cmp x y < 0 → cmp y z < 0 → cmp x z < 0) (htri : ∀ x ∈ XS, ∀ y ∈ XS, cmp x y < 0 ∨ x = y ∨ cmp y x < 0) (hnd : XS.Nodup)
    (hcall : ∀ x ∈ XS, ∀ y ∈ XS, @ACalls ⟨True, Env.globs⟩ P g [f x, f y] (fun r => r = num (cmp x y))) (hD : D.Perm XS) (hDs : D.Pairwise fun x y => cmp x y < 0) :
    RCalls P (ρ.f 6) (.row e k (XS.map f)) [.raw (.func (.func g) #[] #[])] (fun r y => r = .tup [] ∧ y = .row e k (D.map f)) := by
  obtain ⟨es, hes⟩ : ∃ es, XS.map f = es := ⟨_, rfl⟩
  have hl : es.length = XS.length := by rw [← hes, List.length_map]
  have hat : ∀ i : Fin es.length, i.1 < XS.length := fun i => by have := i.2; omega
  have hget : ∀ i : Fin es.length, es.get i = f (XS[i.1]'(hat i)) := fun i => by
    subst hes; simp
  have hmem : ∀ i : Fin es.length, XS[i.1]'(hat i) ∈ XS := fun i => List.getElem_mem _
  have hinj : ∀ i j : Fin es.length, XS[i.1]'(hat i) = XS[j.1]'(hat j) → i = j := fun i j h => Fin.ext ((List.getElem_inj hnd).1 h)
  have hlt : ∀ i j : Fin es.length, ltOf (fun i j : Fin es.length => cmp (XS[i.1]'(hat i)) (XS[j.1]'(hat j))) i j = true ↔ cmp (XS[i.1]'(hat i)) (XS[j.1]'(hat j)) < 0 := fun i j => by simp [ltOf]
  have hnlt : ∀ i j : Fin es.length, ltOf (fun i j : Fin es.length => cmp (XS[i.1]'(hat i)) (XS[j.1]'(hat j))) i j = false ↔ ¬ cmp (XS[i.1]'(hat i)) (XS[j.1]'(hat j)) < 0 := fun i j => by rw [← hlt i j]; simp
  have hO : SWO (ltOf (fun i j : Fin es.length => cmp (XS[i.1]'(hat i)) (XS[j.1]'(hat j)))) := by
    refine ⟨fun i => (hnlt i i).2 (hir _ (hmem i)), fun i j k h1 h2 => (hlt i k).2 (htr _ (hmem i) _ (hmem j) _ (hmem k) ((hlt i j).1 h1) ((hlt j k).1 h2)), fun i j k h1 h2 => (hnlt i k).2 fun h3 => ?_⟩
    have h1 := (hnlt i j).1 h1
    have h2 := (hnlt j k).1 h2
    rcases htri _ (hmem j) _ (hmem k) with h | h | h
    · exact h2 h
    · rw [← h] at h3; exact h1 h3
    · exact h1 (htr _ (hmem i) _ (hmem k) _ (hmem j) h3 h)
  have hT : ∀ i j : Fin es.length, ltOf (fun i j : Fin es.length => cmp (XS[i.1]'(hat i)) (XS[j.1]'(hat j))) i j = false → ltOf (fun i j : Fin es.length => cmp (XS[i.1]'(hat i)) (XS[j.1]'(hat j))) j i = false → i = j := fun i j h1 h2 => by
    rcases htri _ (hmem i) _ (hmem j) with h | h | h
    · exact absurd h ((hnlt i j).1 h1)
    · exact hinj i j h
    · exact absurd h ((hnlt j i).1 h2)
  have hrow := sortFunc_row (e := e) L k hk0 aE zE hfn eg es (fun x hx => by rw [← hes] at hx; obtain ⟨y, hy, rfl⟩ := List.mem_map.1 hx; exact hk y hy) (by omega) (fun i j : Fin es.length => cmp (XS[i.1]'(hat i)) (XS[j.1]'(hat j))) hO hT
    (fun i j => by rw [hget i, hget j]; exact hcall _ (hmem i) _ (hmem j))
  rw [hes]
  refine RCalls.mono hrow ?_
  rintro r y ⟨rfl, rfl⟩
  refine ⟨rfl, ?_⟩
  congr 1
  generalize hss : ((List.finRange es.length).mergeSort fun x y => !(ltOf (fun i j : Fin es.length => cmp (XS[i.1]'(hat i)) (XS[j.1]'(hat j)))) y x) = ss
  have hp : ss.Perm (List.finRange es.length) := by rw [← hss]; exact List.mergeSort_perm _ _
  have hle : ∀ i j : Fin es.length, (!(ltOf (fun i j : Fin es.length => cmp (XS[i.1]'(hat i)) (XS[j.1]'(hat j)))) j i) = true ↔ ¬ cmp (XS[j.1]'(hat j)) (XS[i.1]'(hat i)) < 0 := fun i j => by rw [← hnlt j i]; simp
  have hpw : ss.Pairwise fun i j => ¬ cmp (XS[j.1]'(hat j)) (XS[i.1]'(hat i)) < 0 := by
    have := List.pairwise_mergeSort (le := fun x y => !(ltOf (fun i j : Fin es.length => cmp (XS[i.1]'(hat i)) (XS[j.1]'(hat j)))) y x) (fun i j k h1 h2 => ?_) (fun i j => ?_) (List.finRange es.length)
    · rw [hss] at this
      exact this.imp fun {a b} h => (hle a b).1 h
    · have h1 := (hle i j).1 h1
      have h2 := (hle j k).1 h2
      refine (hle i k).2 fun h3 => ?_
      rcases htri _ (hmem i) _ (hmem j) with h | h | h
      · exact h2 (htr _ (hmem k) _ (hmem i) _ (hmem j) h3 h)
      · rw [h] at h3; exact h2 h3
      · exact h1 h
    · rw [Bool.or_eq_true]
      by_cases h : cmp (XS[j.1]'(hat j)) (XS[i.1]'(hat i)) < 0
      · exact .inr ((hle j i).2 fun h2 => hir _ (hmem i) (htr _ (hmem i) _ (hmem j) _ (hmem i) h2 h))
      · exact .inl ((hle i j).2 h)
  have hnds : ss.Nodup := hp.symm.nodup (List.nodup_finRange _)
  have hpw2 : ss.Pairwise fun i j => cmp (XS[i.1]'(hat i)) (XS[j.1]'(hat j)) < 0 := by
    refine (hpw.and hnds).imp fun {i j} h => ?_
    rcases htri _ (hmem i) _ (hmem j) with h2 | h2 | h2
    · exact h2
    · exact absurd (hinj i j h2) h.2
    · exact absurd h2 h.1
  have hX : (List.finRange es.length).map (fun i : Fin es.length => XS[i.1]'(hat i)) = XS := by
    apply List.ext_getElem
    · simp [hl]
    · intro i h1 h2; simp
  have hSD : ss.map (fun i : Fin es.length => XS[i.1]'(hat i)) = D := by
    have hperm : (ss.map (fun i : Fin es.length => XS[i.1]'(hat i))).Perm D := by
      have h1 := hp.map (fun i : Fin es.length => XS[i.1]'(hat i))
      rw [hX] at h1
      exact h1.trans hD.symm
    refine List.Perm.eq_of_pairwise (le := fun x y => cmp x y < 0) (fun x y hx hy h1 h2 => ?_) ?_ hDs hperm
    · have hx' : x ∈ XS := by obtain ⟨i, _, rfl⟩ := List.mem_map.1 hx; exact hmem i
      have hy' : y ∈ XS := hD.mem_iff.1 hy
      exact absurd (htr _ hx' _ hy' _ hx' h1 h2) (hir _ hx')
    · exact List.pairwise_map.2 hpw2
  rw [← hSD, List.map_map]
  exact List.map_congr_left fun i _ => hget i
end Go.Proofs.Ytohelofjlkoboaa
