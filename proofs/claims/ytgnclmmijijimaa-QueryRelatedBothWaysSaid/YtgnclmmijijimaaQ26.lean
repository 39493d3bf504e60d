/- Related, by members: both ways. -/
import Derived.Test.YtgnclmmijijimaaT
import Derived.Test.YtgnclmmijijimaaA10
import Derived.Test.YtgnclmmijijimaaA12
import Derived.Test.YtgnclmmijijimaaQ11
import Derived.Test.YtgnclmmijijimaaQ15
namespace Go.Proofs.Ytgnclmmijijimaa
open Go.RowKit Go.Proofs
set_option linter.unusedSimpArgs false
set_option linter.unusedVariables false
set_option maxRecDepth 100000
set_option maxHeartbeats 4000000

theorem foldP_mem2 {v : List UInt8} {L : List Sto} {s : Sto} : s ∈ newL v L ↔ s ∈ L ∧ lstd s = true ∧ hasB s v = true := by
  rw [← newP_map]
  have hm : ∀ (L : List Sto) (i : Nat), (selF (fun s _ => hasB s v) i L).map (·.1) = L.filter (fun s => lstd s && hasB s v) := by
    intro L
    induction L with
    | nil => intro i; rfl
    | cons s L ih =>
      intro i
      unfold selF
      by_cases h : (lstd s && hasB s v) = true
      · rw [if_pos h, List.filter_cons, if_pos h, List.map_cons, ih]
      · rw [if_neg h, List.filter_cons, if_neg h, ih]
  have hp := ((foldP_perm (selF (fun s _ => hasB s v) 0 L) []).map (·.1)).mem_iff (a := s)
  rw [List.append_nil, hm] at hp
  rw [show newP (selF (fun s _ => hasB s v) 0 L) = (selF (fun s _ => hasB s v) 0 L).foldl insP [] from rfl, hp, List.mem_filter]
  simp
/-- The stories, the first i of them renumbered. -/
def rid : Nat → List Sto → List Sto
  | i, L => L.zipIdx.map fun x => if x.2 < i then { x.1 with id := ((x.2 + 1 : Nat) : Int) } else x.1
theorem rid_len (i : Nat) (L : List Sto) : (rid i L).length = L.length := by simp [rid]
theorem rid_zero (L : List Sto) : rid 0 L = L := by
  simp [rid]
theorem rid_get (i : Nat) {L : List Sto} {j : Nat} {s : Sto} (h : L[j]? = some s) : (rid i L)[j]? = some (if j < i then { s with id := ((j + 1 : Nat) : Int) } else s) := by
  simp [rid, List.getElem?_zipIdx, h]
theorem rid_set {i : Nat} {L : List Sto} {s : Sto} (h : L[i]? = some s) : (rid i L).set i { s with id := ((i + 1 : Nat) : Int) } = rid (i + 1) L := by
  have hi := (List.getElem?_eq_some_iff.1 h).1
  apply List.ext_getElem?
  intro j
  rw [List.getElem?_set]
  by_cases hj : i = j
  · subst hj
    rw [if_pos rfl, if_pos (by rw [rid_len]; exact hi), rid_get _ h, if_pos (by omega)]
  · rw [if_neg hj]
    cases hq : L[j]? with
    | none =>
      have hn := List.getElem?_eq_none_iff.1 hq
      rw [List.getElem?_eq_none (by rw [rid_len]; exact hn), List.getElem?_eq_none (by rw [rid_len]; exact hn)]
    | some t =>
      rw [rid_get _ hq, rid_get _ hq]
      by_cases h2 : j < i
      · rw [if_pos h2, if_pos (by omega)]
      · rw [if_neg h2, if_neg (by omega)]
/-- All renumbered: what is at j has the number j + 1. -/
def Num (L : List Sto) : Prop := ∀ (j : Nat) (s : Sto), L[j]? = some s → s.id = ((j + 1 : Nat) : Int)
theorem rid_num (L : List Sto) : Num (rid L.length L) := by
  intro j s h
  cases hq : L[j]? with
  | none =>
    have hn := List.getElem?_eq_none_iff.1 hq
    rw [List.getElem?_eq_none (by rw [rid_len]; exact hn)] at h
    cases h
  | some t =>
    have hj := (List.getElem?_eq_some_iff.1 hq).1
    rw [rid_get _ hq, if_pos hj] at h
    injection h with h
    rw [← h]
theorem rid_mem {i : Nat} {L : List Sto} {s : Sto} (h : s ∈ rid i L) : ∃ t ∈ L, s.tp = t.tp ∧ s.ed = t.ed := by
  obtain ⟨x, hx, rfl⟩ := List.mem_map.1 h
  have hm : x.1 ∈ L := (List.mem_zipIdx hx).2.2 ▸ List.getElem_mem _
  refine ⟨x.1, hm, ?_⟩
  split <;> exact ⟨rfl, rfl⟩
theorem num_find {L : List Sto} (hN : Num L) {i : Nat} {s : Sto} (h : L[i]? = some s) : L.find? (fun s => decide (s.id = ((i + 1 : Nat) : Int))) = some s := by
  refine find_at h (fun y hy he => ?_) (hN i s h)
  obtain ⟨j, hj, e⟩ := List.getElem_of_mem hy
  have hji : j < i := by rw [List.length_take] at hj; omega
  have hg : L[j]? = some y := by
    rw [List.getElem_take] at e
    rw [← e]; exact List.getElem?_eq_getElem _
  have := hN j y hg
  omega
theorem relG_mem {M : List Sto} {s0 : Sto} {id : Int} : ∀ {k : Nat} {x : Int}, x ∈ relG M s0 id k ↔ ∃ y ∈ M, y.id = x ∧ y.id ≠ id ∧ 0 < cmn s0 y ∧ cmn s0 y ≤ k
  | 0, x => by
    simp only [relG, List.not_mem_nil, false_iff]
    rintro ⟨y, _, _, _, h1, h2⟩
    omega
  | k + 1, x => by
    rw [relG, List.mem_append, relG_mem, List.mem_map]
    constructor
    · rintro (⟨y, hy, rfl⟩ | ⟨y, h1, h2, h3, h4, h5⟩)
      · obtain ⟨h1, h2⟩ := List.mem_filter.1 hy
        simp only [relQ, Bool.and_eq_true, decide_eq_true_eq] at h2
        exact ⟨y, h1, rfl, h2.1, by omega, by omega⟩
      · exact ⟨y, h1, h2, h3, h4, by omega⟩
    · rintro ⟨y, h1, h2, h3, h4, h5⟩
      by_cases hk : cmn s0 y = k + 1
      · exact .inl ⟨y, List.mem_filter.2 ⟨h1, by simp [relQ, h3, hk]⟩, h2⟩
      · exact .inr ⟨y, h1, h2, h3, h4, by omega⟩
theorem relG_len2 (M : List Sto) (s0 : Sto) (id : Int) : ∀ k, (relG M s0 id k).length ≤ (M.filter fun y => decide (cmn s0 y ≤ k)).length
  | 0 => by simp [relG]
  | k + 1 => by
    have ih := relG_len2 M s0 id k
    rw [relG, List.length_append, List.length_map]
    have : ∀ M : List Sto, (M.filter (relQ s0 id (k + 1))).length + (M.filter fun y => decide (cmn s0 y ≤ k)).length ≤ (M.filter fun y => decide (cmn s0 y ≤ k + 1)).length := by
      intro M
      induction M with
      | nil => simp
      | cons y M ih =>
        have h1 : (List.filter (relQ s0 id (k + 1)) (y :: M)).length ≤ (List.filter (relQ s0 id (k + 1)) M).length + if cmn s0 y = k + 1 then 1 else 0 := by
          rw [List.filter_cons]
          split
          · rename_i h
            simp only [relQ, Bool.and_eq_true, decide_eq_true_eq] at h
            rw [if_pos h.2, List.length_cons]
            exact Nat.le_refl _
          · split <;> omega
        have h2 : ∀ n, (List.filter (fun y => decide (cmn s0 y ≤ n)) (y :: M)).length = (List.filter (fun y => decide (cmn s0 y ≤ n)) M).length + if cmn s0 y ≤ n then 1 else 0 := by
          intro n
          rw [List.filter_cons]
          by_cases h : cmn s0 y ≤ n
          · simp [h]
          · simp [h]
        rw [h2 k, h2 (k + 1)]
        have h3 : (if cmn s0 y = k + 1 then 1 else 0) + (if cmn s0 y ≤ k then 1 else 0) ≤ if cmn s0 y ≤ k + 1 then 1 else 0 := by
          split <;> split <;> split <;> omega
        omega
    have := this M
    omega
theorem commF_pos {b : List Str} : ∀ {l seen : List Str}, 0 < commF b seen l ↔ ∃ x ∈ l, x ∉ seen ∧ x ∈ b
  | [], seen => by simp [commF]
  | x :: l, seen => by
    have ih := commF_pos (b := b) (l := l) (seen := seen ++ [x])
    constructor
    · intro h
      by_cases hx : x ∉ seen ∧ x ∈ b
      · exact ⟨x, by simp, hx⟩
      · simp only [commF, if_neg hx, Nat.zero_add] at h
        obtain ⟨z, h1, h2, h3⟩ := ih.1 h
        exact ⟨z, by simp [h1], fun h => h2 (by simp [h]), h3⟩
    · rintro ⟨z, h1, h2, h3⟩
      by_cases hx : x ∉ seen ∧ x ∈ b
      · simp only [commF, if_pos hx]; omega
      · have : z ≠ x := fun e => hx (e ▸ ⟨h2, h3⟩)
        have hz : z ∈ l := by rcases List.mem_cons.1 h1 with h | h; exact absurd h this; exact h
        have := ih.2 ⟨z, hz, by simp [h2, this], h3⟩
        simp only [commF]; omega
theorem cmn_symm {s t : Sto} (h : 0 < cmn s t) : 0 < cmn t s := by
  unfold cmn at *
  rw [commF_pos] at *
  obtain ⟨x, h1, _, h2⟩ := h
  exact ⟨x, h2, by simp, h1⟩
/-- All that are related to the story numbered i + 1. -/
def allR (L : List Sto) (i : Nat) : List Int := relR L ((i + 1 : Nat) : Int) 100
section
variable {L : List Sto} (hN : Num L) (hl : L.length ≤ 25)
include hN hl
theorem rel_full {i : Nat} (hi : i < L.length) (n : Int) : relR L ((i + 1 : Nat) : Int) n = (allR L i).take n.toNat := by
  have hg : L[i]? = some L[i] := List.getElem?_eq_getElem hi
  unfold allR relR
  rw [num_find hN hg]
  dsimp only
  split
  · have h1 := relG_len2 (newL [] L) L[i] ((i + 1 : Nat) : Int) L[i].tp.length
    have h2 := List.length_filter_le (fun y => decide (cmn L[i] y ≤ L[i].tp.length)) (newL [] L)
    have h3 := newL_len [] L
    rw [List.take_of_length_le (i := (100 : Int).toNat) (by simp only [Int.reduceToNat]; omega)]
  · simp
theorem rel_few {i : Nat} (hi : i < L.length) (n : Int) : ((relR L ((i + 1 : Nat) : Int) n).length : Int) = min (max n 0) ((allR L i).length : Int) ∧ (allR L i).take (relR L ((i + 1 : Nat) : Int) n).length = relR L ((i + 1 : Nat) : Int) n := by
  rw [rel_full hN hl hi n]
  refine ⟨?_, ?_⟩
  · rw [List.length_take]; omega
  · rw [List.length_take]
    rcases Nat.le_total n.toNat (allR L i).length with h | h
    · rw [Nat.min_eq_left h]
    · rw [Nat.min_eq_right h, List.take_of_length_le (Nat.le_refl _), List.take_of_length_le h]
theorem allR_mem {i : Nat} (hi : i < L.length) {x : Int} : x ∈ allR L i ↔ lstd L[i] = true ∧ ∃ y ∈ newL [] L, y.id = x ∧ y.id ≠ ((i + 1 : Nat) : Int) ∧ 0 < cmn L[i] y := by
  have hg : L[i]? = some L[i] := List.getElem?_eq_getElem hi
  unfold allR relR
  rw [num_find hN hg]
  dsimp only
  split
  · rename_i hls
    have h1 := relG_len2 (newL [] L) L[i] ((i + 1 : Nat) : Int) L[i].tp.length
    have h2 := List.length_filter_le (fun y => decide (cmn L[i] y ≤ L[i].tp.length)) (newL [] L)
    have h3 := newL_len [] L
    rw [List.take_of_length_le (by simp only [Int.reduceToNat]; omega), relG_mem]
    exact ⟨fun ⟨y, a, b, c, d, _⟩ => ⟨hls, y, a, b, c, d⟩, fun ⟨_, y, a, b, c, d⟩ => ⟨y, a, b, c, d, commF_le _ _ _⟩⟩
  · rename_i hls
    simp [hls]
theorem rel_in {i : Nat} (hi : i < L.length) {x : Int} (h : x ∈ allR L i) : ∃ k : Nat, k < L.length ∧ x = ((k + 1 : Nat) : Int) ∧ k ≠ i ∧ ((i + 1 : Nat) : Int) ∈ allR L k := by
  obtain ⟨h1, y, hy, rfl, hne, hc⟩ := (allR_mem hN hl hi).1 h
  obtain ⟨hyL, hly, _⟩ := foldP_mem2.1 hy
  obtain ⟨k, hk, e⟩ := List.getElem_of_mem hyL
  have hgk : L[k]? = some y := by rw [List.getElem?_eq_getElem hk, e]
  have hid := hN k y hgk
  refine ⟨k, hk, hid, fun h => hne (by rw [hid, h]), ?_⟩
  rw [allR_mem hN hl hk, e]
  refine ⟨hly, L[i], foldP_mem2.2 ⟨List.getElem_mem _, h1, by simp [hasB]⟩, hN i _ (List.getElem?_eq_getElem hi), ?_, cmn_symm hc⟩
  rw [hN i _ (List.getElem?_eq_getElem hi)]
  omega
end
end Go.Proofs.Ytgnclmmijijimaa
