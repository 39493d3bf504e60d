/- Rules of the reckoning: yield, ranges over functions. -/
import Derived.Test.YtibdijaacolhkaaA11
import Derived.Test.YtibdijaacolhkaaG8
namespace Go.Proofs.Ytibdijaacolhkaa
open Go.RowKit
set_option linter.unusedVariables false
section
variable {P : Program} {T : Tab} {Y : Nat → List AV → Prop} {l nt : Nat} {asl : List Nat} {Q : Exit → Option Nat → List AV → Prop} {st : Option Nat} {σ : List AV}
def ky2 (P : Program) (T : Tab) (l2 : List CO) (Q : Exit → Option Nat → List AV → Prop) (st : Option Nat) (σ : List AV) : Prop := copl P T (Q .normal st) l2 σ
def ky (P : Program) (T : Tab) (Y : Nat → List AV → Prop) (l : Nat) (d : Option Nat) (f : Operand) (args : List Operand) (l2 : List CO) (Q : Exit → Option Nat → List AV → Prop) (st : Option Nat) (σ : List AV) : Prop :=
  ycall Y l (aev σ f) (agrab σ args).1 (agrab σ args).2 d (ky2 P T l2 Q) st
def yc (Y : Nat → List AV → Prop) (l : Nat) (x : AV) (p : List AV × List AV) (d : Option Nat) (K : Option Nat → List AV → Prop) (st : Option Nat) : Prop := ycall Y l x p.1 p.2 d K st
theorem cwpG_base (c : CC) : cwpG P T Y l nt asl (.base c) Q st σ = cwp P T c (xst Q st) σ := (rfl)
theorem cwpG_seq (x y : CG) : cwpG P T Y l nt asl (.seq x y) Q st σ = cwpG P T Y l nt asl x (xseqG (cwpG P T Y l nt asl y Q) Q) st σ := (rfl)
theorem cwpG_block (id : Nat) (c : CG) : cwpG P T Y l nt asl (.block id c) Q st σ = cwpG P T Y l nt asl c (xblkG id Q) st σ := (rfl)
theorem cwpG_cond (c : Operand) (x y : CG) : cwpG P T Y l nt asl (.cond c x y) Q st σ = ccq (aev σ c) (cwpG P T Y l nt asl x Q st) (cwpG P T Y l nt asl y Q st) σ := by
  show ccond _ _ _ = _
  cases aev σ c <;> rfl
theorem cwpG_yreg (l1 l2 : List CO) (d : Option Nat) (f : Operand) (args : List Operand) : cwpG P T Y l nt asl (.yreg l1 d f args l2) Q st σ = copl P T (ky P T Y l d f args l2 Q st) l1 σ := (rfl)
theorem ky_eq (d : Option Nat) (f : Operand) (args : List Operand) (l2 : List CO) : ky P T Y l d f args l2 Q st σ = yc Y l (aev σ f) (agrab σ args) d (ky2 P T l2 Q) st := (rfl)
theorem ky2_eq (l2 : List CO) : ky2 P T l2 Q st σ = copl P T (Q .normal st) l2 σ := (rfl)
theorem xst_eq (e : Exit) : xst Q st e σ = Q e st σ := (rfl)
theorem xseqG_normal (K : Option Nat → List AV → Prop) : xseqG K Q .normal st σ = K st σ := (rfl)
theorem xseqG_ret (K : Option Nat → List AV → Prop) : xseqG K Q .ret st σ = Q .ret st σ := (rfl)
theorem xseqG_exit (K : Option Nat → List AV → Prop) (id : Nat) : xseqG K Q (.exit id) st σ = Q (.exit id) st σ := (rfl)
theorem xblkG_normal (id : Nat) : xblkG id Q .normal st σ = Q .normal st σ := (rfl)
theorem xblkG_ret (id : Nat) : xblkG id Q .ret st σ = Q .ret st σ := (rfl)
theorem xblkG_exit (id : Nat) : xblkG id Q (.exit id) st σ = Q .normal st σ := by simp [xblkG]
theorem xblkG_exit3 {id id' : Nat} (h : id' ≠ id) : xblkG id Q (.exit id') st σ = Q (.exit id') st σ := by simp [xblkG, h]
theorem cwpG_scope (c : CG) : cwpG P T Y l nt asl (.scope c) Q st σ = cwpG P T Y l nt asl c (xscoG Q) st σ := (rfl)
theorem xscoG_normal : xscoG Q .normal st σ = Q .normal st σ := (rfl)
theorem xscoG_ret : xscoG Q .ret st σ = Q .ret st σ := (rfl)
theorem xscoG_exit (id : Nat) : xscoG Q (.exit id) st σ = Q (.exit id) st σ := (rfl)
theorem finG_eq (rs : List ResultVar) (R : AV → Prop) (e : Exit) : finG T rs R e st σ = afin T rs R e σ := (rfl)
theorem finI_normal (n : Nat) : finI n .normal st σ = (st = some n ∨ st = none) := (rfl)
theorem finI_ret (n : Nat) : finI n .ret st σ = (st = some n ∨ st = none) := (rfl)
theorem xasg_normal (K : List AV → Prop) : xasg K .normal σ = K σ := (rfl)
theorem xrnd_normal (L : Nat) (K : List AV → Prop) (Q : Exit → List AV → Prop) : xrnd asl L K Q .normal σ = (σ.length = L ∧ K (fgt asl σ)) := (rfl)
theorem xrnd_ret (L : Nat) (K : List AV → Prop) (Q : Exit → List AV → Prop) : xrnd asl L K Q .ret σ = (σ.length = L ∧ Q .ret (fgt asl σ)) := (rfl)
theorem xrnd_exit (L : Nat) (K : List AV → Prop) (Q : Exit → List AV → Prop) (id : Nat) : xrnd asl L K Q (.exit id) σ = (σ.length = L ∧ Q (.exit id) (fgt asl σ)) := (rfl)
theorem fgt_nil : fgt [] σ = σ := rfl
theorem fgt_cons (s : Nat) (ss : List Nat) : fgt (s :: ss) σ = fgt ss (σ.set s .any) := rfl
theorem pps_nil (xs : List AV) : pps [] xs σ = σ := by cases xs <;> rfl
theorem pps_cons (p : Nat) (ps : List Nat) (x : AV) (xs : List AV) : pps (p :: ps) (x :: xs) σ = pps ps xs (σ.set p x) := rfl
/-- A call of yield. -/
theorem yc_mk {k : Nat} {args σ' : List AV} {d : Option Nat} {K : Option Nat → List AV → Prop} (h1 : Y k args) (h2 : K (some (k + 1)) (aset σ' d (.raw (.bool true)))) (h3 : K none (aset σ' d (.raw (.bool false)))) : yc Y l (.raw (.func (.yield l) #[] #[])) (args, σ') d K (some k) :=
  ⟨rfl, k, rfl, h1, h2, h3⟩
/-- A range over a function: the iterator's contract; between two rounds, R k says what the slots ss hold; the slots that the round writes are forgotten. -/
def rend (m : List Bool) (ss : List Nat) (R : Nat → List AV → Prop) (σ : List AV) (k : Nat) (σ2 : List AV) : Prop := ∃ σ3, Wk σ2 σ3 ∧ ∃ xs, R k xs ∧ σ3 = puts ss xs (hvm m σ)
theorem cwpG_range {x : Operand} {ps : List Nat} {asg bdy : CC} (m : List Bool) (ss : List Nat) (R : Nat → List AV → Prop) {g : Nat} {cs : List AV} {n : Nat} {Y' : Nat → List AV → Prop} (hlen : σ.length ≤ nt) (hx : isClo (aev σ x) g cs) (hi : AIter P g cs n Y') (start : ∃ xs, R 0 xs ∧ Wk σ (puts ss xs (hvm m σ)))
    (round : ∀ k args xs, Y' k args → R k xs → args.length = ps.length ∧ args.all pb = true ∧ cwp P T asg (xasg (cwp P T bdy (xrnd asl σ.length (rend m ss R σ (k + 1)) (xst Q st)))) (pps ps args (puts ss xs (hvm m σ))))
    (done : ∀ xs, R n xs → Q .normal st (puts ss xs (hvm m σ))) : cwpG P T Y l nt asl (.range x ps asg bdy) Q st σ := by
  obtain ⟨xs0, h0, hw0⟩ := start
  refine ⟨g, cs, n, Y', hlen, hx, hi, fun k σ' => ∃ xs, R k xs ∧ σ' = puts ss xs (hvm m σ), ⟨_, hw0, xs0, h0, rfl⟩, ?_, ?_⟩
  · rintro k args σ1 hY ⟨xs, hR, rfl⟩
    exact round k args xs hY hR
  · rintro σ1 ⟨xs, hR, rfl⟩
    exact done xs hR
theorem rend_mk {m : List Bool} {ss : List Nat} {R : Nat → List AV → Prop} {k : Nat} {σ2 : List AV} (xs : List AV) (hR : R k xs) (hw : Wk σ2 (puts ss xs (hvm m σ))) : rend m ss R σ k σ2 := ⟨_, hw, xs, hR, rfl⟩
/-- A cut, with the stage. -/
def cutKG (m : List Bool) (ss : List Nat) (R : Option Nat → List AV → Prop) (σ : List AV) (st2 : Option Nat) (σ2 : List AV) : Prop := ∃ σ3, Wk σ2 σ3 ∧ ∃ xs, R st2 xs ∧ σ3 = puts ss xs (hvm m σ)
theorem cwpG_cut {x y : CG} (m : List Bool) (ss : List Nat) (R : Option Nat → List AV → Prop)
    (before : cwpG P T Y l nt asl x (xseqG (cutKG m ss R σ) Q) st σ) (behind : ∀ st1 xs, R st1 xs → cwpG P T Y l nt asl y Q st1 (puts ss xs (hvm m σ))) : cwpG P T Y l nt asl (.cut x y) Q st σ :=
  ⟨fun st' σ' => ∃ xs, R st' xs ∧ σ' = puts ss xs (hvm m σ), fun st1 σ1 ⟨xs, hR, he⟩ => he ▸ behind st1 xs hR, before⟩
theorem cutG_mk {m : List Bool} {ss : List Nat} {R : Option Nat → List AV → Prop} {st2 : Option Nat} {σ2 : List AV} (xs : List AV) (hR : R st2 xs) (hw : Wk σ2 (puts ss xs (hvm m σ))) : cutKG m ss R σ st2 σ2 :=
  ⟨_, hw, xs, hR, rfl⟩
/-- A loop by slots, with the stage. -/
def lendG (m : List Bool) (ss : List Nat) (R : Nat → Option Nat → List AV → Prop) (σ : List AV) (n : Nat) (st2 : Option Nat) (σ2 : List AV) : Prop := ∃ k σ3, k < n ∧ Wk σ2 σ3 ∧ ∃ xs, R k st2 xs ∧ σ3 = puts ss xs (hvm m σ)
theorem cwpG_loop {c : CG} (m : List Bool) (ss : List Nat) (R : Nat → Option Nat → List AV → Prop) (start : ∃ n xs, R n st xs ∧ Wk σ (puts ss xs (hvm m σ)))
    (round : ∀ n st xs, R n st xs → cwpG P T Y l nt asl c (xseqG (lendG m ss R σ n) Q) st (puts ss xs (hvm m σ))) : cwpG P T Y l nt asl (.loop c) Q st σ := by
  obtain ⟨n0, f0, h0, hw0⟩ := start
  refine ⟨fun n st σ' => ∃ xs, R n st xs ∧ σ' = puts ss xs (hvm m σ), ⟨n0, _, hw0, f0, h0, rfl⟩, ?_⟩
  rintro n st σ1 ⟨f, hR, rfl⟩
  exact round n st f hR
theorem lendG_mk {m : List Bool} {ss : List Nat} {R : Nat → Option Nat → List AV → Prop} {n : Nat} {st2 : Option Nat} {σ2 : List AV} (k : Nat) (xs : List AV) (hm : k < n) (hR : R k st2 xs) (hw : Wk σ2 (puts ss xs (hvm m σ))) : lendG m ss R σ n st2 σ2 := ⟨k, _, hm, hw, xs, hR, rfl⟩
end
attribute [go_sem] cwpG_scope xscoG_normal xscoG_ret xscoG_exit cwpG_base cwpG_seq cwpG_block cwpG_cond cwpG_yreg ky_eq ky2_eq xst_eq xseqG_normal xseqG_ret xseqG_exit xblkG_normal xblkG_ret xblkG_exit finG_eq finI_normal finI_ret xasg_normal xrnd_normal xrnd_ret xrnd_exit fgt_nil fgt_cons pps_nil pps_cons
end Go.Proofs.Ytibdijaacolhkaa
