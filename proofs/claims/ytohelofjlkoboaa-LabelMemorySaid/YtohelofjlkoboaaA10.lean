/- Small words over the logic. -/
import Derived.Test.YtohelofjlkoboaaA9
namespace Go.Proofs.Ytohelofjlkoboaa
open Go.RowKit
set_option linter.unusedVariables false
set_option linter.unusedSectionVars false
variable [Env]

def num (n : Int) : AV := .raw (.int .i64 n)
def str (l : List UInt8) : AV := .raw (.string ⟨l.toArray⟩)
def tru (b : Bool) : AV := .raw (.bool b)
def nums (l : List Int) : List AV := l.map num
@[go_sem] theorem nums_length (l : List Int) : (nums l).length = l.length := by simp [nums]
theorem nums_getD {l : List Int} {i : Nat} (h : i < l.length) : (nums l).getD i .any = .raw (.int .i64 (l.getD i 0)) := by
  simp [nums, List.getD_eq_getElem?_getD, h, num]
theorem beq_dec (a b : Int) : (a == b) = decide (a = b) := by
  by_cases h : a = b <;> simp [h]
theorem bne_dec (a b : Int) : (a != b) = !decide (a = b) := by
  by_cases h : a = b <;> simp [h]
attribute [go_sem] beq_dec bne_dec
theorem asq_dmk {p : Prop} {hp : Decidable p} {A B : List AV → Prop} {σ : List AV} (h1 : p → A σ) (h2 : ¬ p → B σ) : asq (decide p) A B σ := asq_mk (fun h => h1 (of_decide_eq_true h)) (fun h => h2 (of_decide_eq_false h))
theorem asp_dmk {p : Prop} {hp : Decidable p} {A B : List AV → Prop} {σ : List AV} {t : Nat} (h1 : p → A (σ.set t (.raw (.bool true)))) (h2 : ¬ p → B (σ.set t (.raw (.bool false)))) : asp (decide p) σ t A B := asp_mk (fun h => h1 (of_decide_eq_true h)) (fun h => h2 (of_decide_eq_false h))
theorem asq_nmk {e : Bool} {A B : List AV → Prop} {σ : List AV} (h1 : e = false → A σ) (h2 : e = true → B σ) : asq (!e) A B σ := asq_mk (fun h => h1 (by simpa using h)) (fun h => h2 (by simpa using h))
theorem asp_nmk {e : Bool} {A B : List AV → Prop} {σ : List AV} {t : Nat} (h1 : e = false → A (σ.set t (.raw (.bool true)))) (h2 : e = true → B (σ.set t (.raw (.bool false)))) : asp (!e) σ t A B := asp_mk (fun h => h1 (by simpa using h)) (fun h => h2 (by simpa using h))
theorem asq_ndmk {p : Prop} {hp : Decidable p} {A B : List AV → Prop} {σ : List AV} (h1 : ¬ p → A σ) (h2 : p → B σ) : asq (!decide p) A B σ := asq_nmk (fun h => h1 (of_decide_eq_false h)) (fun h => h2 (of_decide_eq_true h))
theorem asp_ndmk {p : Prop} {hp : Decidable p} {A B : List AV → Prop} {σ : List AV} {t : Nat} (h1 : ¬ p → A (σ.set t (.raw (.bool true)))) (h2 : p → B (σ.set t (.raw (.bool false)))) : asp (!decide p) σ t A B := asp_nmk (fun h => h1 (of_decide_eq_false h)) (fun h => h2 (of_decide_eq_true h))
/-- The split at a test, whatever its form. -/
class Spl (G : Prop) (A B : outParam Prop) : Prop where
  on : A → B → G
instance {e : Bool} {A B : List AV → Prop} {σ : List AV} : Spl (asq e A B σ) (e = true → A σ) (e = false → B σ) := ⟨asq_mk⟩
instance {e : Bool} {A B : List AV → Prop} {σ : List AV} {t : Nat} : Spl (asp e σ t A B) (e = true → A (σ.set t (.raw (.bool true)))) (e = false → B (σ.set t (.raw (.bool false)))) := ⟨asp_mk⟩
instance {e : Bool} {A B : List AV → Prop} {σ : List AV} : Spl (asq (!e) A B σ) (e = false → A σ) (e = true → B σ) := ⟨asq_nmk⟩
instance {e : Bool} {A B : List AV → Prop} {σ : List AV} {t : Nat} : Spl (asp (!e) σ t A B) (e = false → A (σ.set t (.raw (.bool true)))) (e = true → B (σ.set t (.raw (.bool false)))) := ⟨asp_nmk⟩
instance {p : Prop} {hp : Decidable p} {A B : List AV → Prop} {σ : List AV} : Spl (asq (decide p) A B σ) (p → A σ) (¬ p → B σ) := ⟨asq_dmk⟩
instance {p : Prop} {hp : Decidable p} {A B : List AV → Prop} {σ : List AV} {t : Nat} : Spl (asp (decide p) σ t A B) (p → A (σ.set t (.raw (.bool true)))) (¬ p → B (σ.set t (.raw (.bool false)))) := ⟨asp_dmk⟩
instance {p : Prop} {hp : Decidable p} {A B : List AV → Prop} {σ : List AV} : Spl (asq (!decide p) A B σ) (¬ p → A σ) (p → B σ) := ⟨asq_ndmk⟩
instance {p : Prop} {hp : Decidable p} {A B : List AV → Prop} {σ : List AV} {t : Nat} : Spl (asp (!decide p) σ t A B) (¬ p → A (σ.set t (.raw (.bool true)))) (p → B (σ.set t (.raw (.bool false)))) := ⟨asp_ndmk⟩
theorem gd {A B : Prop} (hb : B) (ha : A := by first|omega|rfl|decide|with_unfolding_all rfl) : A ∧ B := ⟨ha, hb⟩
attribute [go_sem] Nat.reduceLT Nat.reduceAdd Nat.reduceSub Nat.reduceMul Nat.reduceLeDiff ne_eq Nat.reduceEqDiff not_false_eq_true Bool.and_true Bool.true_and Nat.succ_ne_self and_true Bool.not_true Bool.not_false Int.toNat_zero Int.reduceToNat Nat.mul_one Int.toNat_one
/-- A contract serves whoever knows more of the arguments. -/
theorem ACalls.wk {P : Program} {f : Nat} {xs ys : List AV} {R : AV → Prop} (h : ACalls P f ys R) (hw : Wk xs ys) : ACalls P f xs R := by
  obtain ⟨h1, h2, h3⟩ := h
  refine ⟨h1, h2, fun w S vs c hz hv hc => ?_⟩
  obtain ⟨c', hv', hle⟩ := hw.rep hv
  refine (h3 w S vs c' hz hv' (fun b => Nat.le_trans (hle b) (hc b))).mono fun e w' ⟨v, r, S', c'', he, hR, hp, hr, h4, h5, h6⟩ => ⟨v, r, S', c'', he, hR, hp, hr, h4, h5, ?_⟩
  exact ⟨h6.os, h6.tape, h6.output, h6.size, fun b hb h0 => h6.keep b hb (by have := hle b; omega), h6.cell, h6.le, fun b hb => Nat.le_trans (h6.own b hb) (hle b)⟩
theorem W1.agg {xs ys : List AV} (h : Wk xs ys) : W1 (.agg xs) (.agg ys) := fun w S v c hr => by
  cases hr with
  | agg h1 ho h' hc =>
    cases h' with
    | nil hz =>
      obtain ⟨c', h2, hle⟩ := h.rep h1
      exact ⟨c', .agg h2 ho (.nil zc0) (fun b => by simp), fun b => by rw [hc]; have := hle b; omega⟩
theorem W1.box {T : Nat} {xs ys : List AV} (h : Wk xs ys) : W1 (.box T xs) (.box T ys) := fun w S v c hr => by
  cases hr with
  | box hb hS h1 ho h' hc =>
    cases h' with
    | nil hz =>
      obtain ⟨c', h2, hle⟩ := h.rep h1
      exact ⟨_, .box hb hS h2 ho (.nil zc0) (fun b => rfl), fun b => by rw [hc]; have := hle b; have := hz b; omega⟩
theorem wk_agg {cs ds xs ys : List AV} (h1 : Wk cs ds) (h : Wk xs ys) : Wk (.agg cs :: xs) (.agg ds :: ys) := .cons (W1.agg h1) rfl h
theorem Wk.snoc1 {x y : AV} (h : W1 x y) (hp : pb y = true) : Wk [x] [y] := .cons h hp .nil
/-- A contract's answer, known less well. -/
theorem ACalls.wkr {P : Program} {f : Nat} {xs : List AV} {R R' : AV → Prop} (h : ACalls P f xs R) (hw : ∀ r, R r → ∃ r', W1 r r' ∧ pb r' = true ∧ R' r') : ACalls P f xs R' := by
  obtain ⟨h1, ⟨r0, h0⟩, h3⟩ := h
  refine ⟨h1, ?_, fun w S vs c hz hv hc => ?_⟩
  · obtain ⟨r', _, _, h⟩ := hw r0 h0; exact ⟨r', h⟩
  refine (h3 w S vs c hz hv hc).mono fun e w' ⟨v, r, S', c', he, hR, hp, hr, h4, h5, h6⟩ => ?_
  obtain ⟨r', hw', hp', hR'⟩ := hw r hR
  obtain ⟨c'', hr', hle⟩ := hw' w' S' v c' hr
  exact ⟨v, r', S', c'', he, hR', hp', hr', fun b => Nat.le_trans (hle b) (h4 b), h5, h6.drop hle⟩
/-- A drawn region's lists, reckoned. -/
def mkc (l : List CO) (ds rb bm : List Nat) (fs : List (List Nat)) : Bool := dsOf (shOf l) l == ds && (rbOf l == rb && (bmOf l == bm && ((ann (shOf l) (rbOf l) l).map (·.2) == fs)))
theorem zip_ann (sh rb : List Nat) : ∀ l : List CO, l.zip ((ann sh rb l).map (·.2)) = ann sh rb l
  | [] => rfl
  | c :: l => by
    have := zip_ann sh rb l
    simp only [ann, List.map_cons, List.zip_cons_cons] at this ⊢
    rw [this]
theorem mkd_eq (ds rb bm : List Nat) (fs : List (List Nat)) {ts vs : List Nat} {l : List CO} (h : mkc l ds rb bm fs = true) : mkd ts vs (shOf l) l = .dops ts (vs ++ ds) rb bm (l.zip fs) := by
  simp only [mkc, Bool.and_eq_true, beq_iff_eq] at h
  obtain ⟨h1, h2, h3, h4⟩ := h
  rw [mkd, h1, ← h4, zip_ann, h2, h3]
theorem wrap_in {n : Int} (h0 : -9223372036854775808 ≤ n) (h1 : n ≤ 9223372036854775807) : IntKind.i64.wrap n = n := by rw [IntKind.wrap_i64]; omega
theorem wrap_succ {i : Nat} (h1 : i < 9223372036854775807) : IntKind.i64.wrap ((i : Int) + 1) = ((i + 1 : Nat) : Int) := by rw [IntKind.wrap_i64]; omega
end Go.Proofs.Ytohelofjlkoboaa
