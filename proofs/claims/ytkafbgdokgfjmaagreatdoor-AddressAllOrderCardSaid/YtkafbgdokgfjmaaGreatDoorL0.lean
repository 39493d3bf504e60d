/- From the kit's contracts to contracts of the logic (no word is said on draws). -/
import Derived.Test.YtkafbgdokgfjmaaGreatDoorA10
import Derived.Below
import Derived.Lib.AtoiAll
import Derived.Lib.ItoaNum
import Derived.Lib.Join
import Derived.Lib.Split
namespace Go.Proofs.YtkafbgdokgfjmaaGreatDoor
open Go.RowKit Go.Proofs Go.Shelf
set_option linter.unusedSimpArgs false
set_option linter.unusedVariables false
set_option linter.unusedSectionVars false
variable [Env]

section
variable {P : Program}
theorem stp_below (hd : ¬ Env.drawn) {w w' : World} {S c : Nat → Nat} (hz : Sz w S) (hb : Below w.heap.size w w') : Stp w S c w' S (fun _ => 0) ∧ Sz w' S := by
  refine stp_sz hz ⟨hb.os, hb.tape, ⟨hb.output, fun h => absurd h hd⟩, hb.size, fun b hb' _ => ⟨hb.block b hb', rfl⟩, fun b o ho => ?_, fun _ => Nat.le_refl _, fun _ _ => Nat.zero_le _⟩ (fun b hb2 => hz b (Nat.le_trans hb.size hb2))
  refine hb.cell (p := ⟨b, o, none⟩) ?_
  rcases Nat.lt_or_ge b w.heap.size with h | h
  · exact h
  · have := hz b h; omega
theorem acalls_below (hd : ¬ Env.drawn) {f : Nat} {args : List AV} (hfn : FnOk P f) (x : AV) (hx : pb x = true)
    (h : ∀ w S vs c, Sz w S → RepC w S args vs c → Calls P f vs.toArray w fun e w' => ∃ v, e = .returned v ∧ RepC w' S [x] [v] (fun _ => 0) ∧ Below w.heap.size w w') : ACalls P f args (fun r => r = x) :=
  ⟨hfn, ⟨_, rfl⟩, fun w S vs c hz hv hc => (h w S vs c hz hv).mono fun e w' ⟨v, he, hr, hb⟩ => ⟨v, x, S, fun _ => 0, he, rfl, hx, hr, fun _ => Nat.zero_le _, (stp_below (c := c) hd hz hb).2, (stp_below (c := c) hd hz hb).1⟩⟩
theorem rep_raw1 {w : World} {S : Nat → Nat} {v : Value} (ho : v.oneCell' = true) : RepC w S [.raw v] [v] (fun _ => 0) := .raw ho (.nil zc0)
theorem rep_tup_any {w : World} {S : Nat → Nat} {v u : Value} (ho : v.oneCell' = true) : RepC w S [.tup [.raw v, .any]] [.tuple #[v, u]] (fun _ => 0) :=
  RepC.tup (vs := [v, u]) (c1 := fun _ => 0) (c2 := fun _ => 0) (.raw ho (.any (.nil zc0))) (.nil zc0) (fun _ => rfl)
/-- Arguments that are one raw value each. -/
theorem rep_one {w : World} {S c : Nat → Nat} {v : Value} {xs : List AV} {vs : List Value} (h : RepC w S (.raw v :: xs) vs c) : ∃ us, vs = v :: us ∧ RepC w S xs us c := by
  cases h with
  | raw h1 h => exact ⟨_, rfl, h⟩
def bsOf (l : List UInt8) : ByteArray := ⟨l.toArray⟩
theorem bsOf_toList (l : List UInt8) : (bsOf l).data.toList = l := by simp [bsOf]
theorem bs_map (zs : List (List UInt8)) : (zs.map bsOf).map (·.data.toList) = zs := by
  rw [List.map_map]
  conv => rhs; rw [← List.map_id zs]
  exact List.map_congr_left fun x _ => by simp [bsOf]
theorem rep_strs {w : World} {S : Nat → Nat} : ∀ {zs : List (List UInt8)} {cv : List Value} {c : Nat → Nat}, RepC w S (zs.map str) cv c → cv = zs.map fun l => .string (bsOf l)
  | [], cv, c, h => h.zero.1
  | z :: zs, cv, c, h => by
    cases h with
    | raw h1 h => rw [rep_strs (zs := zs) h]; rfl
theorem flat_strs : ∀ zs : List (List UInt8), flat (zs.map str) = zs.map str
  | [] => rfl
  | z :: zs => by
    have := flat_strs zs
    simp only [List.map_cons, flat] at this ⊢
    rw [this]; rfl
theorem strs_rep {w : World} {S : Nat → Nat} : ∀ zs : List (List UInt8), RepC w S (zs.map str) (zs.map fun l => .string (bsOf l)) (fun _ => 0)
  | [] => .nil zc0
  | z :: zs => .raw rfl (strs_rep zs)

theorem co_assignf {T : Nat → Option TI} {σ : List AV} {K : List AV → Prop} (d f : Nat) : cop P T (some d) (.assign (.func f)) σ K = K (σ.set d (.raw (.func (.func f) #[] #[]))) := (rfl)
theorem do_assignf {T : Nat → Option TI} {σ : List AV} {K : List AV → Prop} (d f : Nat) : dcop P T (some d) (.assign (.func f)) σ K = K (σ.set d (.raw (.func (.func f) #[] #[]))) := (rfl)
attribute [go_sem] co_assignf do_assignf
def atoiV (l : List UInt8) : Int := match Lib.atoiAll l with
  | .ok v => v
  | .range => Lib.atoiSat l
  | _ => 0
end
end Go.Proofs.YtkafbgdokgfjmaaGreatDoor
