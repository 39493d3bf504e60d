/- Whatever came in with a statement's arguments, as data: over any program and any type. The forms of what came in, taken apart. -/
import Derived.Test.YtohelofjlkoboaaB1
import Derived.ChangeBears
import Derived.ChangeShapes
import Derived.Carry
import Derived.ProofKit
namespace Go.Proofs.Ytohelofjlkoboaa
open Go.RowKit Go.Proofs
set_option linter.unusedVariables false
set_option linter.unusedSectionVars false
variable [Env]

def isAgg (P : Program) (t : TypeId) : Bool := match P.underlying t with
  | some (.struct _) | some (.array _ _) => true
  | _ => false
/-- The form of one value, from the form of its cells. -/
def OfE (P : Program) (F : TypeId → List AV → Prop) (t : TypeId) (x : AV) : Prop :=
  if isAgg P t then ∃ ys, x = .agg ys ∧ F t ys else F t [x]
/-- The forms of a row of values of these types. -/
inductive OfR (F : TypeId → List AV → Prop) : List TypeId → List AV → Prop
  | nil : OfR F [] []
  | cons {t ts xs ys} (h1 : F t xs) (h : OfR F ts ys) : OfR F (t :: ts) (xs ++ ys)
/-- The cells of a value of the type t, as data. -/
def OfT (P : Program) : Nat → TypeId → List AV → Prop
  | 0, _, _ => False
  | n + 1, t, xs =>
    match P.underlying t with
    | some .bool => ∃ b, xs = [tru b]
    | some (.int k) => ∃ m, xs = [.raw (.int k m)] ∧ (Lit.int k m).wf = true
    | some .string => ∃ l, xs = [str l] ∧ l.length ≤ maxLen
    | some (.slice e) => if P.cellsOf e = 0 then xs = [.any] else
        ∃ es, xs = [.sl (P.cellsOf e) es] ∧ es.length ≤ maxLen ∧ ∀ x ∈ es, OfE P (OfT P n) e x
    | some (.struct fs) => OfR (OfT P n) (fs.toList.map (·.type)) xs
    | some (.array m e) => OfR (OfT P n) (List.replicate m e) xs
    | _ => xs = [.any]
/-- How much of each block is read: all. -/
def Sb (w : World) (b : Nat) : Nat := match w.heap[b]? with
  | some (.cells cs _ _) => cs.size
  | _ => 0
theorem sz_Sb (w : World) (hg : Gs w (Sb w)) : Sz w (Sb w) := ⟨fun b hb => by
  have : w.heap[b]? = none := Array.getElem?_eq_none hb
  simp [Sb, this], hg⟩
theorem cell_Sb {w : World} {a : Addr} {v : Value} (h : w.cell? a = some v) : a.spot = none ∧ a.off < Sb w a.block := by
  unfold World.cell? at h
  split at h
  · rename_i c e f hh
    split at h
    · cases h
    · rename_i hs
      refine ⟨by simpa using hs, ?_⟩
      simp only [Sb, hh]
      exact (Array.getElem?_eq_some_iff.1 h).1
  · cases h
theorem mapM_all {α β : Type} {f : α → Option β} : ∀ {l : List α} {ys : List β}, l.mapM f = some ys → ys.length = l.length ∧ ∀ (i : Nat) (y : β), ys[i]? = some y → ∃ x : α, l[i]? = some x ∧ f x = some y
  | [], ys, h => by
    simp at h; subst h; simp
  | a :: l, ys, h => by
    rw [List.mapM_cons] at h
    simp only [Option.bind_eq_bind, Option.bind_eq_some_iff] at h
    obtain ⟨y, hy, ys', hys, he⟩ := h
    simp at he; subst he
    obtain ⟨h1, h2⟩ := mapM_all hys
    refine ⟨by simp [h1], fun i z hz => ?_⟩
    cases i with
    | zero => simp at hz; subst hz; exact ⟨a, rfl, hy⟩
    | succ i => simpa using h2 i z (by simpa using hz)
theorem cells_all {w : World} {a : Addr} {n : Nat} {cs : List Value} (h : w.cells? 0 a n = some cs) : cs.length = n ∧ ∀ j u, cs[j]? = some u → w.cell? (a.add j) = some u := by
  unfold World.cells? at h
  rw [if_pos (Nat.zero_le _)] at h
  obtain ⟨h1, h2⟩ := mapM_all h
  refine ⟨by simpa using h1, fun j u hj => ?_⟩
  obtain ⟨x, hx, hf⟩ := h2 j u hj
  rw [List.getElem?_range (by have := (List.getElem?_eq_some_iff.1 hj).1; simp at h1; omega)] at hx
  injection hx with hx
  subst hx
  exact hf
theorem add_flat {a : Addr} (hs : a.spot = none) (n : Nat) : a.add n = ⟨a.block, a.off + n, none⟩ := by
  obtain ⟨b, o, s⟩ := a
  simp at hs; subst hs
  unfold Addr.add
  split <;> simp_all
/-- What is shown of one value's cells. -/
def Opn {H : Type} (enc : TypeId × Value → H) (P : Program) (w : World) (n : Nat) : Prop :=
  ∀ (t : TypeId) (cs : List Value) (d : DataW H × List MemPlace), t < P.types.size → DataW.trod enc P w 0 (fun _ => true) true n t cs = some d →
    cs.length = P.cellsOf t ∧ (∀ u ∈ cs, u.oneCell' = true) ∧ ∃ xs, OfT P n t xs ∧ RepC w (Sb w) xs cs (fun _ => 0)
theorem opn_row {w : World} {F : TypeId → List AV → Prop} {P : Program} {G : TypeId → List Value → Prop}
    (hG : ∀ t cs, G t cs → cs.length = P.cellsOf t ∧ (∀ u ∈ cs, u.oneCell' = true) ∧ ∃ xs, F t xs ∧ RepC w (Sb w) xs cs (fun _ => 0)) :
    ∀ (ts : List TypeId) (cs : List Value), cs.length = (ts.map P.cellsOf).sum → (∀ j t, ts[j]? = some t → G t ((cs.drop ((ts.take j).map P.cellsOf).sum).take (P.cellsOf t))) →
      (∀ u ∈ cs, u.oneCell' = true) ∧ ∃ xs, OfR F ts xs ∧ RepC w (Sb w) xs cs (fun _ => 0)
  | [], cs, hl, _ => by
    simp at hl
    subst hl
    exact ⟨by simp, [], .nil, .nil zc0⟩
  | t :: ts, cs, hl, h => by
    simp only [List.map_cons, List.sum_cons] at hl
    obtain ⟨h1, h2, xs, h3, h4⟩ := hG _ _ (by simpa using h 0 t rfl)
    obtain ⟨g2, ys, g3, g4⟩ := opn_row hG ts (cs.drop (P.cellsOf t)) (by rw [List.length_drop]; omega) (fun j u hj => by
      have := h (j + 1) u (by simpa using hj)
      simpa [List.take_succ_cons, List.drop_drop] using this)
    refine ⟨fun u hu => ?_, xs ++ ys, .cons h3 g3, ?_⟩
    · rw [← List.take_append_drop (P.cellsOf t) cs, List.mem_append] at hu
      rcases hu with hu | hu
      · exact h2 u hu
      · exact g2 u hu
    · rw [← List.take_append_drop (P.cellsOf t) cs]
      exact h4.app g4 (fun _ => rfl)
theorem OfT_one {P : Program} {n : Nat} {t : TypeId} {xs : List AV} (h : OfT P n t xs) (ha : isAgg P t = false) : ∃ y, xs = [y] ∧ cellsOf y = [y] := by
  cases n with
  | zero => exact h.elim
  | succ n =>
    unfold OfT at h
    unfold isAgg at ha
    split at h
    · obtain ⟨b, rfl⟩ := h; exact ⟨_, rfl, rfl⟩
    · obtain ⟨b, rfl, _⟩ := h; exact ⟨_, rfl, rfl⟩
    · obtain ⟨b, rfl, _⟩ := h; exact ⟨_, rfl, rfl⟩
    · split at h
      · subst h; exact ⟨_, rfl, rfl⟩
      · obtain ⟨es, rfl, _⟩ := h; exact ⟨_, rfl, rfl⟩
    · rename_i h1; rw [h1] at ha; cases ha
    · rename_i h1; rw [h1] at ha; cases ha
    · subst h; exact ⟨_, rfl, rfl⟩
theorem opn_slice {w : World} {P : Program} {n : Nat} {e : TypeId} {a : Addr} (hk : 0 < P.cellsOf e) : ∀ (len off : Nat) (css : List (List Value)), css.length = len →
    (∀ i cs, css[i]? = some cs → (cs.length = P.cellsOf e ∧ (∀ u ∈ cs, u.oneCell' = true) ∧ ∃ xs, OfT P n e xs ∧ RepC w (Sb w) xs cs (fun _ => 0)) ∧ ∀ j u, cs[j]? = some u → w.cell? ⟨a.block, off + (i * P.cellsOf e + j), none⟩ = some u) →
    ∃ es cv, es.length = len ∧ cv.length = len * P.cellsOf e ∧ (∀ x ∈ es, OfE P (OfT P n) e x ∧ (cellsOf x).length = P.cellsOf e) ∧ RepC w (Sb w) (flat es) cv (fun _ => 0) ∧ ∀ j u, cv[j]? = some u → w.cell? ⟨a.block, off + j, none⟩ = some u ∧ u.oneCell' = true
  | 0, off, css, hl, h => ⟨[], [], rfl, by simp, by simp, .nil zc0, by simp⟩
  | len + 1, off, [], hl, h => by simp at hl
  | len + 1, off, cs :: css, hl, h => by
    obtain ⟨⟨h1, h2, xs, h3, h4⟩, h5⟩ := h 0 cs rfl
    obtain ⟨es, cv, g1, g2, g3, g4, g5⟩ := opn_slice (n := n) hk len (off + P.cellsOf e) css (by simpa using hl) (fun i cs' hi => by
      obtain ⟨i1, i2⟩ := h (i + 1) cs' (by simpa using hi)
      refine ⟨i1, fun j u hj => ?_⟩
      have := i2 j u hj
      rw [show off + P.cellsOf e + (i * P.cellsOf e + j) = off + ((i + 1) * P.cellsOf e + j) by rw [Nat.add_mul]; omega]
      exact this)
    have hxl : xs.length = P.cellsOf e := by rw [← h1]; exact h4.length.symm
    have hone : ∃ x, OfE P (OfT P n) e x ∧ cellsOf x = xs := by
      cases ha : isAgg P e with
      | true => exact ⟨.agg xs, by rw [OfE, ha]; exact ⟨xs, rfl, h3⟩, rfl⟩
      | false =>
        obtain ⟨y, rfl, hy⟩ := OfT_one h3 ha
        exact ⟨y, by rw [OfE, ha]; exact h3, hy⟩
    obtain ⟨x, hx, hc⟩ := hone
    refine ⟨x :: es, cs ++ cv, by simp [g1], by rw [List.length_append, h1, g2, Nat.add_mul]; omega, fun y hy => ?_, ?_, fun j u hj => ?_⟩
    · rw [List.mem_cons] at hy
      rcases hy with rfl | hy
      · exact ⟨hx, by rw [hc, hxl]⟩
      · exact g3 y hy
    · rw [flat, hc]
      exact h4.app g4 (fun _ => rfl)
    · rw [List.getElem?_append] at hj
      split at hj
      · rename_i hlt
        have := h5 j u hj
        rw [Nat.zero_mul, Nat.zero_add] at this
        exact ⟨this, h2 u (List.mem_of_getElem? hj)⟩
      · rename_i hge
        obtain ⟨q1, q2⟩ := g5 _ u hj
        rw [show off + P.cellsOf e + (j - cs.length) = off + j by omega] at q1
        exact ⟨q1, q2⟩
theorem opn_all {H : Type} {enc : TypeId × Value → H} {P : Program} {w : World} (hl : laidOutB P = true) : ∀ n, Opn enc P w n
  | 0, t, cs, d, ht, h => by simp [DataW.trod] at h
  | n + 1, t, cs, d, ht, h => by
    have ih := opn_all (enc := enc) (w := w) hl n
    have hf := rowFine_of hl ht
    unfold DataW.trod at h
    unfold OfT
    split at h
    · rename_i hu; rw [hu]
      simp [rowFine, isVar, ht, hu, kindOk] at hf
      exact ⟨hf.symm, by simp [Value.oneCell'], _, ⟨_, rfl⟩, .raw rfl (.nil zc0)⟩
    · rename_i hu; rw [hu]
      simp [rowFine, isVar, ht, hu, kindOk] at hf
      split at h
      · rename_i hk
        obtain ⟨rfl, hk⟩ := hk
        exact ⟨hf.symm, by simp [Value.oneCell'], _, ⟨_, rfl, hk⟩, .raw rfl (.nil zc0)⟩
      · cases h
    · rename_i hu; rw [hu]
      simp [rowFine, isVar, ht, hu, kindOk] at hf
      exact ⟨hf.symm, by simp [Value.oneCell'], _, rfl, .any (.nil zc0)⟩
    · rename_i s hu; rw [hu]
      simp [rowFine, isVar, ht, hu, kindOk] at hf
      split at h
      · rename_i hk
        refine ⟨hf.symm, by simp [Value.oneCell'], [str s.data.toList], ⟨_, rfl, ?_⟩, ?_⟩
        · rw [Array.length_toList]; exact hk
        · exact .raw rfl (.nil zc0)
      · cases h
    · rename_i hu; rw [hu]
      simp [rowFine, isVar, ht, hu, kindOk] at hf
      exact ⟨hf.2.symm, by simp [Value.oneCell'], _, rfl, .any (.nil zc0)⟩
    · rename_i hu; rw [hu]
      simp [rowFine, isVar, ht, hu, kindOk] at hf
      exact ⟨hf.2.symm, by simp [Value.oneCell'], _, rfl, .any (.nil zc0)⟩
    · rename_i e hu; rw [hu]
      simp [rowFine, isVar, ht, hu, kindOk] at hf
      dsimp only
      refine ⟨hf.2.symm, by simp [Value.oneCell'], ?_⟩
      split
      · exact ⟨_, rfl, .any (.nil zc0)⟩
      · exact ⟨_, ⟨[], rfl, by simp, by simp⟩, .slE (by decide) (.nil zc0)⟩
    · rename_i e a len cap hu; rw [hu]
      simp [rowFine, isVar, ht, hu, kindOk] at hf
      dsimp only at h ⊢
      refine ⟨hf.2.symm, by simp [Value.oneCell'], ?_⟩
      split
      · exact ⟨_, rfl, .any (.nil zc0)⟩
      rename_i hk0
      have hk : 0 < P.cellsOf e := Nat.pos_of_ne_zero hk0
      split at h
      · rename_i hb
        obtain ⟨_, hlc, hcm⟩ := hb
        rw [Option.bind_eq_some_iff] at h
        obtain ⟨elems, hel, h⟩ := h
        obtain ⟨m1, m2⟩ := mapM_all hel
        rw [List.length_range] at m1
        rcases Nat.eq_zero_or_pos len with rfl | hpos
        · exact ⟨[.sl (P.cellsOf e) []], ⟨[], rfl, by simp, by simp⟩, .slE hcm (.nil zc0)⟩
        have key : ∀ i, i < len → ∃ cs, w.cells? 0 (a.add (i * P.cellsOf e)) (P.cellsOf e) = some cs ∧ ∃ d, DataW.trod enc P w 0 (fun _ => true) true n e cs = some d := by
          intro i hi
          obtain ⟨y, hy⟩ : ∃ y, elems[i]? = some y := ⟨_, List.getElem?_eq_getElem (by omega)⟩
          obtain ⟨x, hx, hfx⟩ := m2 i y hy
          rw [List.getElem?_range hi] at hx
          injection hx with hx
          subst hx
          rw [Option.bind_eq_some_iff] at hfx
          obtain ⟨cs, hcs, hd⟩ := hfx
          exact ⟨cs, hcs, y, hd⟩
        have he : e < P.types.size := kid_slice hl ht hu
        have hsp : a.spot = none := by
          obtain ⟨cs, hcs, d', hd⟩ := key 0 hpos
          obtain ⟨l1, l2⟩ := cells_all hcs
          obtain ⟨c, hc⟩ : ∃ c, cs[0]? = some c := ⟨_, List.getElem?_eq_getElem (by omega)⟩
          have := (cell_Sb (l2 0 c hc)).1
          simpa [Addr.add] using this
        have hall : ∃ css : List (List Value), css.length = len ∧ ∀ (i : Nat) (cs : List Value), css[i]? = some cs → w.cells? 0 (a.add (i * P.cellsOf e)) (P.cellsOf e) = some cs ∧ ∃ d, DataW.trod enc P w 0 (fun _ => true) true n e cs = some d := by
          refine ⟨(List.range len).map fun i => (w.cells? 0 (a.add (i * P.cellsOf e)) (P.cellsOf e)).getD [], by simp, fun i cs hi => ?_⟩
          rw [List.getElem?_map] at hi
          have hlt : i < len := by
            rcases Nat.lt_or_ge i len with hlt | hge
            · exact hlt
            · rw [List.getElem?_eq_none (by simp; omega)] at hi
              cases hi
          rw [List.getElem?_range hlt] at hi
          obtain ⟨cs', hcs, hd⟩ := key i hlt
          simp [hcs] at hi
          subst hi
          exact ⟨hcs, hd⟩
        obtain ⟨css, hcl, hcss⟩ := hall
        obtain ⟨es, cv, g1, g2, g3, g4, g5⟩ := opn_slice (w := w) (P := P) (n := n) (e := e) (a := a) hk len a.off css hcl (fun i cs hi => by
          obtain ⟨hcs, d', hd⟩ := hcss i cs hi
          refine ⟨ih e cs d' he hd, fun j u hj => ?_⟩
          have := (cells_all hcs).2 j u hj
          rw [add_flat hsp, add_flat rfl] at this
          rw [← Nat.add_assoc]
          exact this)
        subst g1
        refine ⟨[.sl (P.cellsOf e) es], ⟨es, rfl, by omega, fun x hx => (g3 x hx).1⟩, .sl (cv := cv) (c0 := fun _ => 0) hlc hcm hsp (fun x hx => (g3 x hx).2) g4 zc0 g5 ?_ (.nil zc0)⟩
        have hp : 0 < cv.length := by rw [g2]; exact Nat.mul_pos hpos hk
        obtain ⟨u, hu'⟩ : ∃ u, cv[cv.length - 1]? = some u := ⟨_, List.getElem?_eq_getElem (by omega)⟩
        have := (cell_Sb (g5 _ u hu').1).2
        dsimp only at this
        omega
      · cases h
    · rename_i cs _ _ fs hu; rw [hu]
      obtain ⟨k1, k2, k3⟩ := kid_struct hl ht hu
      split at h
      · rename_i hlen
        rw [Option.map_eq_some_iff] at h
        obtain ⟨ys, hys, _⟩ := h
        obtain ⟨m1, m2⟩ := mapM_all hys
        have := opn_row (w := w) (F := OfT P n) (P := P) (G := fun t cs => t < P.types.size ∧ ∃ d, DataW.trod enc P w 0 (fun _ => true) true n t cs = some d)
          (fun t cs ⟨h1, d', h2⟩ => ih t cs d' h1 h2) (fs.toList.map (·.type)) cs (by rw [hlen, k2, List.map_map]; rfl) (fun j t hj => by
            rw [List.getElem?_map, Option.map_eq_some_iff] at hj
            obtain ⟨f, hf', rfl⟩ := hj
            obtain ⟨y, hy⟩ : ∃ y, ys[j]? = some y := ⟨_, List.getElem?_eq_getElem (by rw [m1]; exact (List.getElem?_eq_some_iff.1 hf').1)⟩
            obtain ⟨x, hx, hfx⟩ := m2 j y hy
            rw [hf'] at hx
            injection hx with hx
            subst hx
            rw [k3 j f hf'] at hfx
            refine ⟨k1 f (List.mem_of_getElem? hf'), y, ?_⟩
            rw [← List.map_take, List.map_map]
            exact hfx)
        exact ⟨hlen, this.1, this.2⟩
      · cases h
    · rename_i cs _ _ m e hu; rw [hu]
      obtain ⟨k1, k2⟩ := kid_array hl ht hu
      split at h
      · rename_i hlen
        rw [Option.map_eq_some_iff] at h
        obtain ⟨ys, hys, _⟩ := h
        obtain ⟨m1, m2⟩ := mapM_all hys
        rw [List.length_range] at m1
        have := opn_row (w := w) (F := OfT P n) (P := P) (G := fun t cs => t < P.types.size ∧ ∃ d, DataW.trod enc P w 0 (fun _ => true) true n t cs = some d)
          (fun t cs ⟨h1, d', h2⟩ => ih t cs d' h1 h2) (List.replicate m e) cs (by rw [hlen, k2]; simp) (fun j t hj => by
            have hjm : j < m := by have := (List.getElem?_eq_some_iff.1 hj).1; simpa using this
            have ht' : t = e := by have := (List.getElem?_eq_some_iff.1 hj).2; simpa using this.symm
            subst ht'
            obtain ⟨y, hy⟩ : ∃ y, ys[j]? = some y := ⟨_, List.getElem?_eq_getElem (by omega)⟩
            obtain ⟨x, hx, hfx⟩ := m2 j y hy
            rw [List.getElem?_range hjm] at hx
            injection hx with hx
            subst hx
            refine ⟨k1, y, ?_⟩
            have e1 : ((List.replicate m t).take j |>.map P.cellsOf).sum = j * P.cellsOf t := by
              rw [List.take_replicate, Nat.min_eq_left (by omega)]; simp
            rw [e1]
            exact hfx)
        exact ⟨hlen, this.1, this.2⟩
      · cases h
    · rename_i hu; rw [hu]
      simp [rowFine, isVar, ht, hu, kindOk] at hf
      exact ⟨hf.symm, by simp [Value.oneCell'], _, rfl, .any (.nil zc0)⟩
    · rename_i hu; rw [hu]
      simp [rowFine, isVar, ht, hu, kindOk] at hf
      exact ⟨hf.symm, by simp [Value.oneCell'], _, rfl, .any (.nil zc0)⟩
    · rename_i hu; rw [hu]
      simp [rowFine, isVar, ht, hu, kindOk] at hf
      exact ⟨hf.symm, by simp [Value.oneCell'], _, rfl, .any (.nil zc0)⟩
    · rename_i hu; rw [hu]
      simp [rowFine, isVar, ht, hu, kindOk] at hf
      exact ⟨hf.symm, by simp [Value.oneCell'], _, rfl, .any (.nil zc0)⟩
    · rename_i hu; rw [hu]
      simp [rowFine, isVar, ht, hu, kindOk] at hf
      exact ⟨hf.symm, by simp [Value.oneCell'], _, rfl, .any (.nil zc0)⟩
    · rename_i hu; rw [hu]
      simp [rowFine, isVar, ht, hu, kindOk] at hf
      exact ⟨hf.symm, by simp [Value.oneCell'], _, rfl, .any (.nil zc0)⟩
    · rename_i hu; rw [hu]
      simp [rowFine, isVar, ht, hu, kindOk] at hf
      exact ⟨hf.symm, by simp [Value.oneCell'], _, rfl, .any (.nil zc0)⟩
    · rename_i hu; rw [hu]
      simp [rowFine, isVar, ht, hu, kindOk] at hf
      exact ⟨hf.symm, by simp [Value.oneCell'], _, rfl, .any (.nil zc0)⟩
    · rename_i hu; rw [hu]
      simp [rowFine, isVar, ht, hu, kindOk] at hf
      exact ⟨hf.symm, by simp [Value.oneCell'], _, rfl, .any (.nil zc0)⟩
    · rename_i hu; rw [hu]
      simp [rowFine, isVar, ht, hu, kindOk] at hf
      exact ⟨hf.symm, by simp [Value.oneCell'], _, rfl, .any (.nil zc0)⟩
    · cases h
/-- One argument. -/
theorem opn_val {H : Type} {enc : TypeId × Value → H} {P : Program} {w w1 : World} {r : Reach} {b0 : Nat} (hl : laidOutB P = true) {t : TypeId} {v : Value} {d : DataW H} {ps : List MemPlace} (ht : t < P.types.size)
    (hv : Value.okWide P w1 r b0 t v) (h : DataW.Trod enc P w 0 (fun _ => true) true t v d ps) : ∃ n x, OfE P (OfT P n) t x ∧ RepC w (Sb w) [x] [v] (fun _ => 0) := by
  obtain ⟨n, h⟩ := h
  obtain ⟨h1, h2, xs, h3, h4⟩ := opn_all hl n t _ _ ht h
  refine ⟨n, ?_⟩
  cases ha : isAgg P t with
  | true =>
    have : ∃ cs, v = .agg cs := by
      unfold Value.okWide at hv
      unfold isAgg at ha
      split at hv
      · obtain ⟨cs, h, _⟩ := hv; exact ⟨cs, h⟩
      · obtain ⟨cs, h, _⟩ := hv; exact ⟨cs, h⟩
      · split at ha <;> simp_all
    obtain ⟨cs, rfl⟩ := this
    refine ⟨.agg xs, by rw [OfE, ha]; exact ⟨xs, rfl, h3⟩, ?_⟩
    have := RepC.agg (S := Sb w) (w := w) h4 h2 (.nil zc0) (c := fun _ => 0) (fun b => by simp)
    simpa [Value.cells] using this
  | false =>
    obtain ⟨y, rfl, hy⟩ := OfT_one h3 ha
    refine ⟨y, by rw [OfE, ha]; exact h3, ?_⟩
    have : v.cells.toList = [v] := by
      cases v with
      | agg cs =>
        exfalso
        unfold Value.okWide at hv
        unfold isAgg at ha
        split at hv
        · simp_all
        · simp_all
        · unfold Cell.okWide at hv
          split at hv <;> simp_all [Cell.ok]
      | _ => rfl
    rw [this] at h4
    exact h4
inductive OfA (P : Program) : List TypeId → List AV → Prop
  | nil : OfA P [] []
  | cons {t n x ts xs} (h1 : OfE P (OfT P n) t x) (h : OfA P ts xs) : OfA P (t :: ts) (x :: xs)
/-- All arguments. -/
theorem opn_args {H : Type} {enc : TypeId × Value → H} {P : Program} {w w1 : World} {r : Reach} {b0 : Nat} (hl : laidOutB P = true) : ∀ {ts : List TypeId} {vs : List Value} {ds : List (DataW H)} {ps : List MemPlace}, (∀ t ∈ ts, t < P.types.size) →
    (∀ (j : Nat) t v, ts[j]? = some t → vs[j]? = some v → Value.okWide P w1 r b0 t v) → DataW.TrodAll enc P w 0 (fun _ => true) true ts vs ds ps →
    ∃ xs, OfA P ts xs ∧ RepC w (Sb w) xs vs (fun _ => 0)
  | [], [], [], ps, _, _, h => ⟨[], .nil, .nil zc0⟩
  | t :: ts, v :: vs, d :: ds, ps, ht, hv, h => by
    obtain ⟨p, q, h1, h2, _⟩ := h
    obtain ⟨n, x, hx, hr⟩ := opn_val hl (ht t (by simp)) (hv 0 t v rfl rfl) h1
    obtain ⟨xs, hxs, hrs⟩ := opn_args hl (fun t h => ht t (by simp [h])) (fun j t v h1 h2 => hv (j + 1) t v (by simpa using h1) (by simpa using h2)) h2
    exact ⟨x :: xs, .cons hx hxs, RepC.cons hr hrs (fun b => by simp)⟩
  | [], [], _ :: _, _, _, _, h => h.elim
  | [], _ :: _, _, _, _, _, h => h.elim
  | _ :: _, [], _, _, _, _, h => h.elim
  | _ :: _, _ :: _, [], _, _, _, h => h.elim
/-- Behind the call all arguments read as before. -/
theorem shut_args {H : Type} {enc : TypeId × Value → H} {P : Program} {W W' : World} (hl : laidOutB P = true) (hb : Below W.heap.size W W') : ∀ {ts : List TypeId} {vs : List Value} {ds : List (DataW H)} {ps : List MemPlace}, (∀ t ∈ ts, t < P.types.size ∧ P.readableRec t = true) →
    DataW.TrodAll enc P W 0 (fun _ => true) true ts vs ds ps → DataW.TrodAll enc P W' 0 (fun b => decide (b < W.heap.size)) true ts vs ds ps
  | [], [], [], ps, _, h => h
  | t :: ts, v :: vs, d :: ds, ps, ht, h => by
    obtain ⟨p, q, h1, h2, e⟩ := h
    refine ⟨p, q, Below.trod hl (ht t (by simp)).2 (ht t (by simp)).1 h1 hb ?_, shut_args hl hb (fun t h => ht t (by simp [h])) h2, e⟩
    obtain ⟨m, hm⟩ := h1; exact DataW.trod_lt m _ _ _ hm
  | [], [], _ :: _, _, _, h => h.elim
  | [], _ :: _, _, _, _, h => h.elim
  | _ :: _, [], _, _, _, h => h.elim
  | _ :: _, _ :: _, [], _, _, h => h.elim
end Go.Proofs.Ytohelofjlkoboaa
namespace Go.Proofs.Ytohelofjlkoboaa
open Go.RowKit Go.Proofs
set_option linter.unusedVariables false
set_option linter.unusedSectionVars false
variable [Env]
variable {P : Program} {n : Nat} {t : TypeId} {x : AV} {xs : List AV}

theorem OfE_flat (ha : isAgg P t = false) (h : OfE P (OfT P n) t x) : OfT P n t [x] := by rw [OfE, ha] at h; exact h
theorem OfT_flat (ha : isAgg P t = false) (h : OfT P n t xs) : ∃ x, xs = [x] ∧ OfE P (OfT P n) t x := by
  obtain ⟨y, rfl, _⟩ := OfT_one h ha
  exact ⟨y, rfl, by rw [OfE, ha]; exact h⟩
theorem OfE_agg (ha : isAgg P t = true) (h : OfE P (OfT P n) t x) : ∃ ys, x = .agg ys ∧ OfT P n t ys := by rw [OfE, ha] at h; exact h
theorem OfE_str (hu : P.underlying t = some .string) (h : OfE P (OfT P n) t x) : ∃ l, x = str l ∧ l.length ≤ maxLen := by
  have h := OfE_flat (by simp [isAgg, hu]) h
  cases n with
  | zero => exact h.elim
  | succ n =>
    unfold OfT at h; rw [hu] at h
    obtain ⟨l, e, hl⟩ := h
    injection e with e
    exact ⟨l, e, hl⟩
theorem OfE_bool (hu : P.underlying t = some .bool) (h : OfE P (OfT P n) t x) : ∃ b, x = tru b := by
  have h := OfE_flat (by simp [isAgg, hu]) h
  cases n with
  | zero => exact h.elim
  | succ n =>
    unfold OfT at h; rw [hu] at h
    obtain ⟨l, e⟩ := h
    injection e with e
    exact ⟨l, e⟩
theorem OfE_int {k : IntKind} (hu : P.underlying t = some (.int k)) (h : OfE P (OfT P n) t x) : ∃ m, x = .raw (.int k m) ∧ (Lit.int k m).wf = true := by
  have h := OfE_flat (by simp [isAgg, hu]) h
  cases n with
  | zero => exact h.elim
  | succ n =>
    unfold OfT at h; rw [hu] at h
    obtain ⟨l, e, hl⟩ := h
    injection e with e
    exact ⟨l, e, hl⟩
theorem OfE_i64 (hu : P.underlying t = some (.int .i64)) (h : OfE P (OfT P n) t x) : ∃ m, x = num m ∧ -9223372036854775808 ≤ m ∧ m ≤ 9223372036854775807 := by
  obtain ⟨m, rfl, hm⟩ := OfE_int hu h
  exact ⟨m, rfl, wf_i64 hm⟩
theorem wf_u8 {n : Int} (h : (Lit.int .u8 n).wf = true) : 0 ≤ n ∧ n ≤ 255 := by
  simp [Lit.wf, IntKind.min, IntKind.max, IntKind.signed, IntKind.bits] at h
  omega
theorem OfE_u8 (hu : P.underlying t = some (.int .u8)) (h : OfE P (OfT P n) t x) : ∃ m, x = .raw (.int .u8 m) ∧ 0 ≤ m ∧ m ≤ 255 := by
  obtain ⟨m, rfl, hm⟩ := OfE_int hu h
  exact ⟨m, rfl, wf_u8 hm⟩
theorem OfE_slice {e : TypeId} {k : Nat} (hu : P.underlying t = some (.slice e)) (hk : P.cellsOf e = k) (h0 : k ≠ 0) (h : OfE P (OfT P n) t x) : ∃ m es, x = .sl k es ∧ es.length ≤ maxLen ∧ ∀ y ∈ es, OfE P (OfT P m) e y := by
  have h := OfE_flat (by simp [isAgg, hu]) h
  cases n with
  | zero => exact h.elim
  | succ n =>
    unfold OfT at h; rw [hu] at h
    dsimp only at h
    rw [hk] at h
    rw [if_neg h0] at h
    obtain ⟨es, e, hl, hy⟩ := h
    injection e with e
    exact ⟨n, es, e, hl, hy⟩
theorem OfT_struct {fs : Array Field} (hu : P.underlying t = some (.struct fs)) (h : OfT P n t xs) : ∃ m, OfR (OfT P m) (fs.toList.map (·.type)) xs := by
  cases n with
  | zero => exact h.elim
  | succ n =>
    unfold OfT at h; rw [hu] at h
    exact ⟨n, h⟩
theorem OfT_array {m : Nat} {e : TypeId} (hu : P.underlying t = some (.array m e)) (h : OfT P n t xs) : ∃ k, OfR (OfT P k) (List.replicate m e) xs := by
  cases n with
  | zero => exact h.elim
  | succ n =>
    unfold OfT at h; rw [hu] at h
    exact ⟨n, h⟩
theorem OfE_struct {fs : Array Field} (hu : P.underlying t = some (.struct fs)) (h : OfE P (OfT P n) t x) : ∃ m ys, x = .agg ys ∧ OfR (OfT P m) (fs.toList.map (·.type)) ys := by
  obtain ⟨ys, rfl, h2⟩ := OfE_agg (by simp [isAgg, hu]) h
  obtain ⟨m, h3⟩ := OfT_struct hu h2
  exact ⟨m, ys, rfl, h3⟩
theorem OfE_array {m : Nat} {e : TypeId} (hu : P.underlying t = some (.array m e)) (h : OfE P (OfT P n) t x) : ∃ k ys, x = .agg ys ∧ OfR (OfT P k) (List.replicate m e) ys := by
  obtain ⟨ys, rfl, h2⟩ := OfE_agg (by simp [isAgg, hu]) h
  obtain ⟨k, h3⟩ := OfT_array hu h2
  exact ⟨k, ys, rfl, h3⟩
theorem OfR_cons {F : TypeId → List AV → Prop} {ts : List TypeId} (h : OfR F (t :: ts) xs) : ∃ ys zs, xs = ys ++ zs ∧ F t ys ∧ OfR F ts zs := by
  cases h with
  | cons h1 h => exact ⟨_, _, rfl, h1, h⟩
theorem OfR_nil {F : TypeId → List AV → Prop} (h : OfR F [] xs) : xs = [] := by cases h; rfl
/-- The next one is a single cell. -/
theorem OfR_one {ts : List TypeId} (ha : isAgg P t = false) (h : OfR (OfT P n) (t :: ts) xs) : ∃ y zs, xs = y :: zs ∧ OfE P (OfT P n) t y ∧ OfR (OfT P n) ts zs := by
  obtain ⟨ys, zs, rfl, h1, h2⟩ := OfR_cons h
  obtain ⟨y, rfl, hy⟩ := OfT_flat ha h1
  exact ⟨y, zs, rfl, hy, h2⟩
theorem OfA_cons {ts : List TypeId} (h : OfA P (t :: ts) xs) : ∃ n y ys, xs = y :: ys ∧ OfE P (OfT P n) t y ∧ OfA P ts ys := by
  cases h with
  | cons h1 h => exact ⟨_, _, _, rfl, h1, h⟩
theorem OfA_nil (h : OfA P [] xs) : xs = [] := by cases h; rfl
theorem map_of {α : Type} {f : α → AV} {Q : α → Prop} : ∀ {es : List AV}, (∀ y ∈ es, ∃ s, y = f s ∧ Q s) → ∃ ss : List α, es = ss.map f ∧ ∀ s ∈ ss, Q s
  | [], _ => ⟨[], rfl, by simp⟩
  | y :: es, h => by
    obtain ⟨s, rfl, hs⟩ := h y (by simp)
    obtain ⟨ss, rfl, hq⟩ := map_of (es := es) (fun y hy => h y (by simp [hy]))
    exact ⟨s :: ss, rfl, by simp only [List.mem_cons]; rintro z (rfl | hz); exact hs; exact hq z hz⟩
theorem args_len {H : Type} {enc : TypeId × Value → H} {P : Program} {w : World} {b : Nat} {sp : Nat → Bool} {hd : Bool} : ∀ {ts : List TypeId} {vs : List Value} {ds : List (DataW H)} {ps : List MemPlace}, DataW.TrodAll enc P w b sp hd ts vs ds ps → ds.length = ts.length
  | [], [], [], ps, _ => rfl
  | t :: ts, v :: vs, d :: ds, ps, h => by
    obtain ⟨p, q, h1, h2, e⟩ := h
    simp only [List.length_cons, args_len h2]
  | [], [], _ :: _, _, h => h.elim
  | [], _ :: _, _, _, h => h.elim
  | _ :: _, [], _, _, h => h.elim
  | _ :: _, _ :: _, [], _, h => h.elim
end Go.Proofs.Ytohelofjlkoboaa
