/- Slices of integers that came in with a statement's arguments. -/
import Derived.Test.YtohelofjlkoboaaB1
namespace Go.Proofs.Ytohelofjlkoboaa
open Go.RowKit Go.Proofs
set_option linter.unusedVariables false
def IsRow2 (k : IntKind) (w : World) (a : Option Addr) (len cap : Nat) (zs : List Int) : Prop :=
  (a = none ∧ len = 0 ∧ cap = 0 ∧ zs = []) ∨
  ∃ x, a = some x ∧ len ≤ cap ∧ cap ≤ maxLen ∧ len ≤ zs.length ∧ (∀ i, i < zs.length → w.cell? (x.add i) = some (.int k (zs.getD i 0))) ∧ ∀ n ∈ zs, (Lit.int k n).wf = true
def rowTop (a : Option Addr) (len : Nat) : Nat := match a with
  | some x => x.off + len
  | none => 0
def Sw (w : World) (B : Nat) (b : Nat) : Nat := if b < w.heap.size then B else 0
theorem sz_Sw (w : World) (B : Nat) : Sz w (Sw w B) := fun b hb => by simp [Sw]; omega
theorem len_le {k : IntKind} {w : World} {a : Option Addr} {len cap : Nat} {zs : List Int} (h : IsRow2 k w a len cap zs) : (zs.take len).length ≤ 9223372036854775807 := by
  rcases h with ⟨_, rfl, _, rfl⟩ | ⟨x, _, h1, h2, _⟩
  · simp
  · have : maxLen = 9223372036854775807 := rfl
    simp; omega
theorem cell_block {w : World} {a : Addr} {v : Value} (h : w.cell? a = some v) : a.block < w.heap.size ∧ a.spot = none := by
  unfold World.cell? at h
  split at h
  · rename_i c e f hh
    refine ⟨(Array.getElem?_eq_some_iff.1 hh).1, ?_⟩
    split at h
    · cases h
    · rename_i hs; simpa using hs
  · cases h
theorem rep_rowS {w : World} {B : Nat} {a : Option Addr} {len cap : Nat} {zs : List Int} {xs : List AV} {vs : List Value} (h : IsRow2 .i64 w a len cap zs) (hB : rowTop a len ≤ B) (hr : RepC w (Sw w B) xs vs (fun _ => 0)) :
    RepC w (Sw w B) (.sl 1 (nums (zs.take len)) :: xs) (.slice a len cap :: vs) (fun _ => 0) := by
  rcases h with ⟨rfl, rfl, rfl, rfl⟩ | ⟨x, rfl, h1, h2, h3, h4, h5⟩
  · exact .slE (by decide) hr
  · rcases Nat.eq_zero_or_pos len with rfl | hpos
    · exact .slE h2 hr
    · have hlen : (nums (zs.take len)).length = len := by simp [nums]; omega
      obtain ⟨hb, hsp⟩ := cell_block (h4 0 (by omega))
      have hflat : flat (nums (zs.take len)) = nums (zs.take len) := by
        generalize zs.take len = l
        induction l with
        | nil => rfl
        | cons y l ih => simp only [nums, List.map_cons, flat] at ih ⊢; rw [ih]; rfl
      have key : RepC w (Sw w B) (.sl 1 (nums (zs.take len)) :: xs) (.slice (some x) (nums (zs.take len)).length cap :: vs) (fun _ => 0) := by
        refine .sl (cv := (zs.take len).map (Value.int .i64)) (c0 := fun _ => 0) (by omega) h2 (by simpa [Addr.add] using hsp) (fun y hy => ?_) ?_ zc0 (fun j u hj => ?_) ?_ hr
        · simp only [nums, List.mem_map] at hy; obtain ⟨n, _, rfl⟩ := hy; rfl
        · rw [hflat]
          generalize zs.take len = l
          induction l with
          | nil => exact .nil zc0
          | cons y l ih => exact .raw rfl ih
        · have hj' := (List.getElem?_eq_some_iff.1 hj).1
          simp at hj'
          have := h4 j (by omega)
          have e : zs.getD j 0 = zs[j]'(by omega) := by simp [List.getD_eq_getElem?_getD, show j < zs.length by omega]
          have hu : u = .int .i64 (zs.getD j 0) := by
            rw [List.getElem?_map, List.getElem?_take, if_pos (by omega), List.getElem?_eq_getElem (by omega)] at hj
            rw [e]; simpa using hj.symm
          rw [hu]
          refine ⟨?_, rfl⟩
          rw [← this]
          have : x.add j = ⟨x.block, x.off + j, none⟩ := by
            have hsp' : x.spot = none := by simpa [Addr.add] using hsp
            obtain ⟨bb, oo, sp⟩ := x
            simp at hsp'; subst hsp'
            unfold Addr.add
            split <;> simp_all
          rw [this]
        · have hb' : x.block < w.heap.size := hb
          simp only [Sw, hb', if_true]
          simp only [rowTop] at hB
          simp; omega
      rw [hlen] at key
      exact key
end Go.Proofs.Ytohelofjlkoboaa
