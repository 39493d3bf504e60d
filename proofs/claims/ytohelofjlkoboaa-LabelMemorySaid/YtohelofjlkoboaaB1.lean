/- From a contract to the walk that a statement asks for. -/
import Derived.Test.YtohelofjlkoboaaA10
import Derived.Below
namespace Go.Proofs.Ytohelofjlkoboaa
open Go.RowKit Go.Proofs
set_option linter.unusedVariables false
set_option linter.unusedSectionVars false
variable [Env]

/-- A slice of integers that came in. -/
def IsRow (k : IntKind) (w : World) (a : Option Addr) (len cap : Nat) (zs : List Int) : Prop :=
  (a = none ∧ len = 0 ∧ cap = 0 ∧ zs = []) ∨
  ∃ x, a = some x ∧ x.block < w.heap.size ∧ len ≤ cap ∧ cap ≤ maxLen ∧ zs.length = cap ∧ (∀ i, i < zs.length → w.cell? (x.add i) = some (.int k (zs.getD i 0))) ∧ ∀ n ∈ zs, (Lit.int k n).wf = true
theorem bridge {P : Program} {f : Nat} {args : List AV} {vs : List Value} {w : World} {S : Nat → Nat} (h : ACalls P f args (fun r => r = tru true)) (hz : Sz w S) (hr : RepC w S args vs (fun _ => 0)) :
    Calls P f vs.toArray w fun e w' => e = .returned (.bool true) ∧ Below w.heap.size w w' := by
  refine (h.2.2 w S vs _ hz hr (fun _ => by simp)).mono ?_
  rintro e w' ⟨v, r, S', c', rfl, rfl, hp, hrr, h4, h5, h6⟩
  have hv : v = .bool true := by cases hrr with | raw h1 h => rfl
  subst hv
  exact ⟨rfl, h6.os, h6.tape, h6.output.1, h6.size, fun k hk => (h6.keep k hk rfl).1⟩
theorem sz_zero (w : World) (hg : Gs w (fun _ => 0)) : Sz w (fun _ => 0) := ⟨fun _ _ => rfl, hg⟩
theorem rep_agg4 {w : World} {S : Nat → Nat} {xs us : List AV} {a b c d : Int} {vs : List Value} (h : RepC w S xs vs (fun _ => 0)) : RepC w S (.agg [num a, num b, num c, num d] :: xs) (.agg #[.int .i64 a, .int .i64 b, .int .i64 c, .int .i64 d] :: vs) (fun _ => 0) := by
  refine RepC.agg (vs := [.int .i64 a, .int .i64 b, .int .i64 c, .int .i64 d]) (c1 := fun _ => 0) (c2 := fun _ => 0) ?_ (by simp [Value.oneCell']) h (fun _ => rfl)
  exact .raw rfl (.raw rfl (.raw rfl (.raw rfl (.nil zc0))))
theorem rep_agg3 {w : World} {S : Nat → Nat} {xs us : List AV} {a b c : Int} {vs : List Value} (h : RepC w S xs vs (fun _ => 0)) : RepC w S (.agg [num a, num b, num c] :: xs) (.agg #[.int .i64 a, .int .i64 b, .int .i64 c] :: vs) (fun _ => 0) := by
  refine RepC.agg (vs := [.int .i64 a, .int .i64 b, .int .i64 c]) (c1 := fun _ => 0) (c2 := fun _ => 0) ?_ (by simp [Value.oneCell']) h (fun _ => rfl)
  exact .raw rfl (.raw rfl (.raw rfl (.nil zc0)))
theorem rep_i64 {w : World} {S : Nat → Nat} {xs us : List AV} {a : Int} {vs : List Value} (h : RepC w S xs vs (fun _ => 0)) : RepC w S (num a :: xs) (.int .i64 a :: vs) (fun _ => 0) := .raw rfl h
theorem wf_i64 {n : Int} (h : (Lit.int .i64 n).wf = true) : -9223372036854775808 ≤ n ∧ n ≤ 9223372036854775807 := by
  simp [Lit.wf, IntKind.min, IntKind.max, IntKind.signed, IntKind.bits] at h
  omega
end Go.Proofs.Ytohelofjlkoboaa
