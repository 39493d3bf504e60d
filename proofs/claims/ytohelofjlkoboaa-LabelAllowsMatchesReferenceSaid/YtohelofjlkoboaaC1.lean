/- The library's Sort and Compact over rows of integers. -/
import Derived.Test.YtohelofjlkoboaaS
import Derived.Test.YtohelofjlkoboaaA10
import Derived.Sort.OwnSortedInts
namespace Go.Proofs.Ytohelofjlkoboaa
open Go.RowKit Go.Proofs Go.Sort
set_option linter.unusedSimpArgs false
set_option linter.unusedVariables false

theorem flat_nums : ∀ zs : List Int, flat (nums zs) = nums zs
  | [] => rfl
  | z :: zs => by
    have := flat_nums zs
    simp only [nums, List.map_cons, flat] at this ⊢
    rw [this]; rfl
theorem rep_nums {w : World} {S : Nat → Nat} : ∀ {zs : List Int} {cv : List Value} {c : Nat → Nat}, RepC w S (nums zs) cv c → cv = zs.map (Value.int .i64)
  | [], cv, c, h => h.zero.1
  | z :: zs, cv, c, h => by
    cases h with
    | raw h1 h => rw [rep_nums (zs := zs) h]; rfl
theorem nums_rep {w : World} {S : Nat → Nat} : ∀ zs : List Int, RepC w S (nums zs) (zs.map (Value.int .i64)) (fun _ => 0)
  | [] => .nil zc0
  | z :: zs => .raw rfl (nums_rep zs)
theorem nums_cells (zs : List Int) : ∀ x ∈ nums zs, (cellsOf x).length = 1 := by
  intro x hx
  simp only [nums, List.mem_map] at hx
  obtain ⟨a, _, rfl⟩ := hx
  rfl
theorem ints_one (zs : List Int) : ∀ u ∈ zs.map (Value.int .i64), u.oneCell' = true := by
  intro u hu
  simp only [List.mem_map] at hu
  obtain ⟨a, _, rfl⟩ := hu
  rfl

theorem fn_ok {f : Nat} {fn : Func} {code : Code} (h1 : Try.prog.funcs[f]? = some fn) (h2 : fn.body = some code) (h3 : (fn.name == "runtime.NumGoroutine") = false) : FnOk Try.prog f := ⟨fn, code, h1, h2, h3⟩

/-- What a sort or a compacting leaves of the world. -/
theorem stp_put {w : World} {S c : Nat → Nat} {b n : Nat} {os : Array Obj} {cur : Array Value} {e : TypeId} (d : Array Int) (hz : Sz w S) (hb : w.heap[b]? = some (.cells cur e (0, 0))) (hc : 0 < c b) (hS : S b = 0) (s : Nat) (c' : Nat → Nat) (hc' : ∀ x, c' x ≤ c x) :
    Stp w S c (grow (putRow (Value.int .i64) (Sort.ahead w n) b 0 d) os) (upd S b s) c' ∧ Sz (grow (putRow (Value.int .i64) (Sort.ahead w n) b 0 d) os) (upd S b s) := by
  have hg := grownBy_sortedI (w := w) (g := b) (n := n) (os := os) d
  obtain ⟨h1, h2, h3, h4, h5⟩ := hg
  have hbs : b < w.heap.size := (Array.getElem?_eq_some_iff.1 hb).1
  have hother : ∀ x, x < w.heap.size → x ≠ b → (grow (putRow (Value.int .i64) (Sort.ahead w n) b 0 d) os).heap[x]? = w.heap[x]? := fun x hx hne => h5 x hx (by intro h; injection h with h; exact hne h)
  refine ⟨⟨by first | exact h1 | rfl, by first | exact h2 | rfl, by first | exact h3 | rfl, h4, fun x hx hx0 => ?_, fun x o ho => ?_, fun x => ?_, fun x hx => hc' x⟩, fun x hx => ?_⟩
  · have hne : x ≠ b := by rintro rfl; omega
    exact ⟨hother x hx hne, by simp [upd, hne]⟩
  · have hne : x ≠ b := by rintro rfl; omega
    rcases Nat.lt_or_ge x w.heap.size with h | h
    · simp only [World.cell?, hother x h hne]
    · have := hz x h; omega
  · unfold upd; split
    · rename_i h; subst h; omega
    · exact Nat.le_refl _
  · have hne : x ≠ b := by rintro rfl; omega
    simp only [upd, hne, if_false]
    exact hz x (by omega)

theorem sort33 (zs : List Int) (h : zs.length ≤ 1000000) : RCalls Try.prog 33 (.row 3 1 (nums zs)) [] (fun r y => r = .tup [] ∧ y = .row 3 1 (nums (zs.mergeSort fun x y => decide (x ≤ y)))) := by
  refine ⟨⟨_, _, Try.func33, rfl, by decide⟩, ⟨_, _, rfl, rfl⟩, fun w S v vs c hz hr hc => ?_⟩
  cases hzs : zs with
  | nil =>
    subst hzs
    obtain ⟨v', us, d1, d2, he, h1, h2, hd⟩ := hr.uncons
    injection he with he1 he2
    subst he1; subst he2
    obtain ⟨rfl, hz2⟩ := h2.zero
    have hv : ∃ p cap, v = .slice p 0 cap := by
      cases h1 with
      | rowE h => exact ⟨_, _, rfl⟩
      | row => exact ⟨_, _, rfl⟩
    obtain ⟨p, cap, rfl⟩ := hv
    refine (Try.slices_Sort_int_none p cap w).mono ?_
    rintro e w' ⟨rfl, rfl⟩
    refine ⟨_, _, _, S, d1, rfl, ⟨rfl, rfl⟩, rfl, .inr ⟨_, _, _, rfl⟩, ?_, fun b => by have := hc b; have := hd b; omega, hz, (Stp.refl _ _ _).drop fun b => by have := hd b; omega⟩
    have hm : ([] : List Int).mergeSort (fun x y => decide (x ≤ y)) = [] := by simp
    rw [hm]
    exact RepC.tup (.nil zc0) h1 (c1 := fun _ => 0) (c2 := d1) (fun b => by simp)
  | cons z0 zs0 =>
    rw [← hzs]
    have hne : nums zs ≠ [] := by rw [hzs]; simp [nums]
    generalize hes : nums zs = es at hr
    cases hr with
    | rowE h => exact absurd hes hne
    | row hn hcap hk hb hs hS h1 h0 ho hnil hcc =>
      rename_i b cap cur c0 c2
      obtain ⟨rfl, hz2⟩ := hnil.zero
      subst hes
      have hlen : (nums zs).length = zs.length := by simp [nums]
      rw [flat_nums] at h1
      have ht := rep_nums h1
      rw [hlen, Nat.mul_one] at ht
      have hbs : b < w.heap.size := (Array.getElem?_eq_some_iff.1 hb).1
      have hcall := Try.slices_Sort_int b 0 cap zs w (holds_of_blockI hb ht) hbs (by omega)
      rw [hlen]
      refine hcall.mono ?_
      rintro e w' ⟨rfl, n, os, rfl⟩
      generalize hss : (zs.mergeSort fun x y => decide (x ≤ y)) = ss
      have hsl : ss.length = zs.length := by rw [← hss]; exact List.length_mergeSort _
      have hcb : 0 < c b := by rw [hcc]; simp; omega
      obtain ⟨hst, hsz⟩ := stp_put (n := n) (os := os) ss.toArray hz hb hcb hS 0 c (fun x => Nat.le_refl _)
      have hu : upd S b 0 = S := by funext x; unfold upd; split
                                    · rename_i h; subst h; rw [hS]
                                    · rfl
      rw [hu] at hst hsz
      refine ⟨_, _, _, S, c, rfl, ⟨rfl, rfl⟩, rfl, .inr ⟨_, _, _, rfl⟩, ?_, hc, hsz, hst⟩
      refine RepC.tup (c1 := fun _ => 0) (c2 := c) (.nil zc0) ?_ (fun b => by simp)
      have hl2 : (nums ss).length = zs.length := by simp [nums, hsl]
      rw [← hl2]
      have htake : (putCells (Value.int .i64) 0 ss.toArray cur).toList.take ss.length = ss.map (Value.int .i64) := take_putCellsI cur ss (by rw [hs]; omega)
      refine .row (c0 := fun _ => 0) (c2 := c2) (by omega) hcap (nums_cells ss) (heap_sortedI _ hb) (by simp [putCells, hs]) hS ?_ zc0 ?_ (.nil hz2) hcc
      · rw [flat_nums, hl2, ← hsl, Nat.mul_one, htake]; exact nums_rep ss
      · rw [hl2, ← hsl, Nat.mul_one, htake]; exact ints_one ss

theorem compact34 (zs : List Int) (h : zs.length ≤ 1000000) : ACalls Try.prog 34 [.mine 3 1 (nums zs)] (fun r => r = .own 3 1 (nums (Lib.compact zs))) := by
  refine ⟨⟨_, _, Try.func34, rfl, by decide⟩, ⟨_, rfl⟩, fun w S vs c hz hr hc => ?_⟩
  cases hzs : zs with
  | nil =>
    subst hzs
    obtain ⟨v', us, d1, d2, rfl, h1, h2, hd⟩ := hr.uncons
    obtain ⟨rfl, hz2⟩ := h2.zero
    cases h1 with
    | mineE hnil =>
      refine (Try.slices_Compact_int_empty none 0 w).mono ?_
      rintro e w' ⟨rfl, rfl⟩
      exact ⟨_, _, S, d1, rfl, rfl, rfl, .ownE hnil, fun b => by have := hc b; have := hd b; omega, hz, (Stp.refl _ _ _).drop fun b => by have := hd b; omega⟩
    | mine hn hcap hk hb hs hS h1 h0 ho hnil hcc =>
      rename_i b cap cur c0 c2
      refine (Try.slices_Compact_int_empty _ cap w).mono ?_
      rintro e w' ⟨rfl, rfl⟩
      exact ⟨_, _, S, d1, rfl, rfl, rfl, .own (es := []) hn hcap hk hb hs (by simpa using hS) h1 h0 ho hnil hcc, fun b => by have := hc b; have := hd b; omega, hz, (Stp.refl _ _ _).drop fun b => by have := hd b; omega⟩
  | cons z0 zs0 =>
    rw [← hzs]
    have hne : nums zs ≠ [] := by rw [hzs]; simp [nums]
    generalize hes : nums zs = es at hr
    cases hr with
    | mineE h => exact absurd hes hne
    | mine hn hcap hk hb hs hS h1 h0 ho hnil hcc =>
      rename_i b cap cur us c0 c2
      obtain ⟨rfl, hz2⟩ := hnil.zero
      subst hes
      have hlen : (nums zs).length = zs.length := by simp [nums]
      rw [flat_nums] at h1
      have ht := rep_nums h1
      rw [hlen, Nat.mul_one] at ht
      have hcall := Try.slices_Compact_int b 0 cap zs w (holds_of_blockI hb ht) (by omega) (by omega)
      rw [hlen]
      refine hcall.mono ?_
      rintro e w' ⟨rfl, n, rfl⟩
      have hcl : (Lib.compact zs).length ≤ zs.length := Lib.compact_length_le zs
      generalize hss : Lib.compact zs = ss at *
      generalize hd : ss ++ List.replicate (zs.length - ss.length) 0 = dd
      have hdl : dd.length = zs.length := by rw [← hd]; simp; omega
      have hcb : 0 < c b := by rw [hcc]; simp; omega
      obtain ⟨hst, hsz⟩ := stp_put (n := n) (os := #[]) dd.toArray hz hb hcb hS ss.length c (fun x => Nat.le_refl _)
      rw [grow_empty] at hst hsz
      refine ⟨_, _, _, c, rfl, rfl, rfl, ?_, hc, hsz, hst⟩
      have hl2 : (nums ss).length = ss.length := by simp [nums]
      have htake : (putCells (Value.int .i64) 0 dd.toArray cur).toList.take dd.length = dd.map (Value.int .i64) := take_putCellsI cur dd (by rw [hs]; omega)
      have htake2 : (putCells (Value.int .i64) 0 dd.toArray cur).toList.take ss.length = ss.map (Value.int .i64) := by
        have := congrArg (List.take ss.length) htake
        rw [List.take_take, Nat.min_eq_left (by omega)] at this
        rw [this, ← hd, List.map_append, List.take_left' (by simp)]
      have hheap := heap_sortedI (n := n) (os := #[]) dd.toArray hb
      rw [grow_empty] at hheap
      rw [← hl2]
      refine .own (c0 := fun _ => 0) (c2 := c2) (by omega) hcap (nums_cells ss) hheap (by simp [putCells, hs]) (by simp [upd]) ?_ zc0 ?_ (.nil hz2) hcc
      · rw [flat_nums, hl2, Nat.mul_one, htake2]; exact nums_rep ss
      · rw [hl2, Nat.mul_one, htake2]; exact ints_one ss
end Go.Proofs.Ytohelofjlkoboaa
