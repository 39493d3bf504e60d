/- Iterators: a function that calls yield, against a client whose state is a ghost; ranges over functions. -/
import Derived.Test.YtibdijaacolhkaaG1
namespace Go.Proofs.Ytibdijaacolhkaa
open Go.RowKit
set_option linter.unusedVariables false
set_option linter.unusedSimpArgs false

/-! ## the ghost: a client's state, by its stage -/
abbrev Gh := Option Nat → World → (Nat → Nat) → (Nat → Nat) → Prop
structure GOk (G : Gh) : Prop where
  lt : ∀ st w S cg, G st w S cg → ∀ b, 0 < cg b → b < w.heap.size
  keep : ∀ st w S cg w' S' c c', G st w S cg → Stp w S c w' S' c' → (∀ b, c b + cg b ≤ 1) → Sz w S → G st w' S' cg
def noG : Gh := fun _ _ _ cg => Zc cg
theorem noG_ok : GOk noG := ⟨fun st w S cg h b hb => by have := h b; omega, fun st w S cg w' S' c c' h _ _ _ => h⟩
def mark (D : Nat) : Deferred := { target := .collected D, args := #[] }
def Mks (ms : List Nat) (w : World) (cm : Nat → Nat) : Prop := ms.Nodup ∧ (∀ D ∈ ms, 0 < cm D ∧ w.heap[D]? = some (.deferred (some []))) ∧ ∀ b, 0 < cm b → b < w.heap.size
def SttG (G : Gh) (w0 : World) (S0 c0 : Nat → Nat) (st : Option Nat) (σ : List AV) (a : Act) (w : World) : Prop :=
  RefOk σ a.tmps.toList ∧ ∃ (ms : List Nat) (S c cg cm : Nat → Nat), RepC w S σ a.tmps.toList c ∧ G st w S cg ∧ Mks ms w cm ∧ (∀ b, c b + cg b + cm b ≤ 1) ∧ a.defers = ms.map mark ∧ Sz w S ∧ Stp w0 S0 c0 w S (fun b => c b + cg b + cm b)
theorem Stp.frameG {w w' : World} {S S' c c' c1 c2 : Nat → Nat} (h : Stp w S c1 w' S' c') (hc : ∀ b, c b = c1 b + c2 b) : Stp w S c w' S' (fun b => c' b + c2 b) :=
  ⟨h.os, h.tape, h.output, h.size, fun b hb h0 => h.keep b hb (by have := hc b; omega), h.cell, h.le, fun b hb => by have := hc b; have := h.own b hb; show c' b + c2 b ≤ c b; omega⟩
theorem Mks.keep {ms : List Nat} {w w' : World} {S S' c c' cm : Nat → Nat} (h : Mks ms w cm) (k : Stp w S c w' S' c') (h1 : ∀ b, c b + cm b ≤ 1) : Mks ms w' cm := by
  refine ⟨h.1, fun D hD => ⟨(h.2.1 D hD).1, ?_⟩, fun b hb => Nat.lt_of_lt_of_le (h.2.2 b hb) k.size⟩
  obtain ⟨g1, g2⟩ := h.2.1 D hD
  rw [(k.keep D (h.2.2 D g1) (by have := h1 D; omega)).1, g2]
section
variable {G : Gh} {w0 : World} {S0 c0 : Nat → Nat} {st : Option Nat} {σ : List AV} {a : Act} {w : World}
/-- The ordinary logic serves under a ghost: from here on, and back. -/
theorem SttG.open (hG : GOk G) (h : SttG G w0 S0 c0 st σ a w) : ∃ S c, Stt a.defers w S c σ a w ∧ ∀ (σ' : List AV) (a' : Act) (w' : World), Stt a.defers w S c σ' a' w' → SttG G w0 S0 c0 st σ' a' w' := by
  obtain ⟨hrf, ms, S, c, cg, cm, hr, hg, hm, h1, hd, hz, hs⟩ := h
  refine ⟨S, c, ⟨hrf, S, c, hr, fun b => by have := h1 b; omega, rfl, hz, Stp.refl w S c⟩, fun σ' a' w' hst => ?_⟩
  obtain ⟨hrf', S', c', hr', h1', hd', hz', hs'⟩ := hst
  refine ⟨hrf', ms, S', c', cg, cm, hr', hG.keep st w S cg w' S' c c' hg hs' (fun b => by have := h1 b; omega) hz, hm.keep hs' (fun b => by have := h1 b; omega), fun b => ?_, by rw [hd', hd], hz', ?_⟩
  · rcases Nat.lt_or_ge b w.heap.size with hb | hb
    · have := hs'.own b hb; have := h1 b; omega
    · have e1 : cg b = 0 := by
        rcases Nat.eq_zero_or_pos (cg b) with h | h
        · exact h
        · have := hG.lt _ _ _ _ hg b h; omega
      have e2 : cm b = 0 := by
        rcases Nat.eq_zero_or_pos (cm b) with h | h
        · exact h
        · have := hm.2.2 b h; omega
      have := h1' b
      omega
  · have := hs.trans (hs'.frameG (c := fun b => c b + cg b + cm b) (c2 := fun b => cg b + cm b) (fun b => by omega))
    exact this.drop fun b => by omega
theorem Wk.sttG {σ' : List AV} (hG : GOk G) (h : Wk σ σ') (hst : SttG G w0 S0 c0 st σ a w) : SttG G w0 S0 c0 st σ' a w := by
  obtain ⟨S, c, h1, h2⟩ := hst.open hG
  exact h2 _ _ _ (h.stt h1)
theorem SttG.evalc {c : Operand} {v : Value} (hst : SttG G w0 S0 c0 st σ a w) (he : aev σ c = .raw v) : a.eval c = v := by
  obtain ⟨hrf, ms, S, c, cg, cm, hr, _⟩ := hst
  obtain ⟨cx, hrx⟩ := aev_rep hr _
  rw [he] at hrx
  exact (rep_raw hrx).1
end

/-! ## code with calls of yield and ranges over functions -/
inductive CG where
  | base (c : CC)
  | seq (x y : CG)
  | cut (x y : CG)
  | cond (c : Operand) (x y : CG)
  | block (id : Nat) (c : CG)
  | loop (c : CG)
  | scope (c : CG)
  | yreg (l1 : List CO) (d : Option Nat) (f : Operand) (args : List Operand) (l2 : List CO)
  | range (x : Operand) (ps : List Nat) (asg bdy : CC)

/-- A contract of an iterator: it calls yield at most n times, the k-th time with what Y k takes, until yield says no; Y is the client's. -/
def YOk (P : Program) (l : Nat) (Y : Nat → List AV → Prop) (G : Gh) : Prop :=
  ∀ (k : Nat) (args : List AV) (w : World) (S : Nat → Nat) (vs : List Value) (c cg : Nat → Nat), Y k args → RepC w S args vs c → G (some k) w S cg → (∀ b, c b + cg b ≤ 1) → Sz w S →
    ∃ fn tmps assign body, (Instr.yield l vs.toArray).run P w = .ok (.round l fn tmps assign body) w ∧ ∀ m, RoundIn (Fr none) m P l fn tmps assign body w fun e w' =>
      ∃ S' cg' st', ((e = .returned (.bool true) ∧ st' = some (k + 1)) ∨ (e = .returned (.bool false) ∧ st' = none)) ∧ G st' w' S' cg' ∧ (∀ b, cg' b ≤ 1) ∧ Sz w' S' ∧ Stp w S (fun b => c b + cg b) w' S' cg'
def AIter (P : Program) (g : Nat) (cs : List AV) (n : Nat) (Y : Nat → List AV → Prop) : Prop :=
  FnOk P g ∧ ∀ (G : Gh), GOk G → ∀ l, YOk P l Y G → ∀ (w : World) (S : Nat → Nat) (vs : List Value) (c cg : Nat → Nat), Sz w S → RepC w S cs vs c → G (some 0) w S cg → (∀ b, c b + cg b ≤ 1) →
    Calls P g (.func (.yield l) #[] #[] :: vs).toArray w fun e w' => ∃ v st S' cg', e = .returned v ∧ (st = some n ∨ st = none) ∧ G st w' S' cg' ∧ (∀ b, cg' b ≤ 1) ∧ Sz w' S' ∧ Stp w S (fun b => c b + cg b) w' S' cg'

def xst (Q : Exit → Option Nat → List AV → Prop) (st : Option Nat) : Exit → List AV → Prop := fun e σ => Q e st σ
def xseqG (K : Option Nat → List AV → Prop) (Q : Exit → Option Nat → List AV → Prop) : Exit → Option Nat → List AV → Prop
  | .normal, st, σ => K st σ
  | e, st, σ => Q e st σ
def xblkG (id : Nat) (Q : Exit → Option Nat → List AV → Prop) : Exit → Option Nat → List AV → Prop
  | .exit id', st, σ => if id' = id then Q .normal st σ else Q (.exit id') st σ
  | e, st, σ => Q e st σ
def xscoG (Q : Exit → Option Nat → List AV → Prop) : Exit → Option Nat → List AV → Prop
  | .goto _, _, _ => False
  | e, st, σ => Q e st σ
def ycall (Y : Nat → List AV → Prop) (l : Nat) (x : AV) (args σ : List AV) (d : Option Nat) (K : Option Nat → List AV → Prop) (st : Option Nat) : Prop :=
  x = .raw (.func (.yield l) #[] #[]) ∧ ∃ k, st = some k ∧ Y k args ∧ K (some (k + 1)) (aset σ d (.raw (.bool true))) ∧ K none (aset σ d (.raw (.bool false)))
def fgt : List Nat → List AV → List AV
  | [], σ => σ
  | s :: ss, σ => fgt ss (σ.set s .any)
def pps : List Nat → List AV → List AV → List AV
  | p :: ps, x :: xs, σ => pps ps xs (σ.set p x)
  | _, _, σ => σ
def isClo (x : AV) (g : Nat) (cs : List AV) : Prop := x = .clo g cs ∨ (x = .raw (.func (.func g) #[] #[]) ∧ cs = [])
/-- Behind a round: what the slots asl hold is forgotten. -/
def xrnd (asl : List Nat) (L : Nat) (K : List AV → Prop) (Q : Exit → List AV → Prop) : Exit → List AV → Prop
  | .normal, σ => σ.length = L ∧ K (fgt asl σ)
  | .ret, σ => σ.length = L ∧ Q .ret (fgt asl σ)
  | .exit id, σ => σ.length = L ∧ Q (.exit id) (fgt asl σ)
  | _, _ => False
def xasg (K : List AV → Prop) : Exit → List AV → Prop
  | .normal, σ => K σ
  | _, _ => False
def cwpG (P : Program) (T : Tab) (Y : Nat → List AV → Prop) (l : Nat) (nt : Nat) (asl : List Nat) : CG → (Exit → Option Nat → List AV → Prop) → Option Nat → List AV → Prop
  | .base c, Q, st, σ => cwp P T c (xst Q st) σ
  | .seq x y, Q, st, σ => cwpG P T Y l nt asl x (xseqG (cwpG P T Y l nt asl y Q) Q) st σ
  | .cut x y, Q, st, σ => ∃ I : Option Nat → List AV → Prop, (∀ st1 σ1, I st1 σ1 → cwpG P T Y l nt asl y Q st1 σ1) ∧ cwpG P T Y l nt asl x (xseqG (fun st2 σ2 => ∃ σ3, Wk σ2 σ3 ∧ I st2 σ3) Q) st σ
  | .cond c x y, Q, st, σ => ccond (aev σ c) (cwpG P T Y l nt asl x Q st σ) (cwpG P T Y l nt asl y Q st σ)
  | .block id c, Q, st, σ => cwpG P T Y l nt asl c (xblkG id Q) st σ
  | .scope c, Q, st, σ => cwpG P T Y l nt asl c (xscoG Q) st σ
  | .loop c, Q, st, σ => ∃ I : Nat → Option Nat → List AV → Prop, (∃ n σ1, Wk σ σ1 ∧ I n st σ1) ∧ ∀ n st σ1, I n st σ1 → cwpG P T Y l nt asl c (xseqG (fun st2 σ2 => ∃ m σ3, m < n ∧ Wk σ2 σ3 ∧ I m st2 σ3) Q) st σ1
  | .yreg l1 d f args l2, Q, st, σ => copl P T (fun σ1 => ycall Y l (aev σ1 f) (agrab σ1 args).1 (agrab σ1 args).2 d (fun st' σ2 => copl P T (Q .normal st') l2 σ2) st) l1 σ
  | .range x ps asg bdy, Q, st, σ => ∃ g cs n Y', σ.length ≤ nt ∧ isClo (aev σ x) g cs ∧ AIter P g cs n Y' ∧ ∃ I : Nat → List AV → Prop, (∃ σ1, Wk σ σ1 ∧ I 0 σ1) ∧
      (∀ k args σ1, Y' k args → I k σ1 → args.length = ps.length ∧ args.all pb = true ∧ cwp P T asg (xasg (cwp P T bdy (xrnd asl σ.length (fun σ3 => ∃ σ4, Wk σ3 σ4 ∧ I (k + 1) σ4) (xst Q st)))) (pps ps args σ1)) ∧ ∀ σ1, I n σ1 → Q .normal st σ1

def ylook : List (Nat × Nat) → Nat → Option Nat
  | [], _ => none
  | (k, p) :: r, id => if k = id then some p else ylook r id
/-- A region with one call of yield, at the place p. -/
def compY (ops : Array Oper) (p : Nat) : Option CG :=
  match ops.toList[p]? with
  | some o => match o.op, o.guard with
    | .call c, none => match c.callee, cops ops (ops.toList.take p), cops ops (ops.toList.drop (p + 1)) with
      | .value f, some l1, some l2 => some (.yreg l1 o.dst f c.args.toList l2)
      | _, _, _ => none
    | _, _ => none
  | none => none
def mkSeqG : Bool → CG → CG → CG
  | true, x, y => .cut x y
  | false, x, y => .seq x y
def compG (A : Ann) (yr : List (Nat × Nat)) : Code → Option CG
  | .region id ops dr => match ylook yr id with
    | some p => if dr then none else compY ops p
    | none => (comp A (.region id ops dr)).map .base
  | .seq a b => match compG A yr a, compG A yr b with
    | some x, some y => some (mkSeqG (cutAt A b) x y)
    | _, _ => none
  | .cond c a b => match compG A yr a, compG A yr b with
    | some x, some y => some (.cond c x y)
    | _, _ => none
  | .block id c => (compG A yr c).map (.block id)
  | .loop c => (compG A yr c).map .loop
  | .scope c => (compG A yr c).map .scope
  | .rangeFunc g ps asg bdy => match comp A asg, comp A bdy with
    | some x, some y => some (.range g ps.toList x y)
    | _, _ => none
  | .skip => some (.base .skip)
  | .label _ => some (.base .skip)
  | .exit id => some (.base (.exit id))
  | .ret => some (.base .ret)
  | _ => none
def frs (nt : Nat) (asl : List Nat) : List Nat := (List.range nt).filter fun s => !asl.contains s
def okG (A : Ann) (yr : List (Nat × Nat)) (nt : Nat) (asl : List Nat) : Code → Bool
  | .region id ops dr => match ylook yr id with
    | some p => ops.toList.all fun o => ndef o.op
    | none => cok A (.region id ops dr) && nchk [] (.region id ops dr)
  | .seq a b => okG A yr nt asl a && okG A yr nt asl b
  | .cond _ a b => okG A yr nt asl a && okG A yr nt asl b
  | .block _ c => okG A yr nt asl c
  | .loop c => okG A yr nt asl c
  | .scope c => okG A yr nt asl c
  | .rangeFunc g ps asg bdy => ps.toList.all (fun p => asl.contains p) && (cok A asg && nchk (frs nt asl) asg) && (cok A bdy && nchk (frs nt asl) bdy)
  | _ => true

section
variable {P : Program} {n : Nat} {ro : Option Nat}
theorem uponIn_mono {o : Oper} {a : Act} {n1 n2 : Act → World → Prop} {Q1 Q2 : Exit → Act → World → Prop} (hn : ∀ a w, n1 a w → n2 a w) (hQ : ∀ e a w, e ≠ Exit.normal → Q1 e a w → Q2 e a w) {r : Result Next} (h : o.uponIn (Fr ro) n P a n1 Q1 r) : o.uponIn (Fr ro) n P a n2 Q2 r := by
  cases r with
  | ok x w' =>
    cases x with
    | value v => exact hn _ _ h
    | skip => exact hn _ _ h
    | defer d => exact hn _ _ h
    | enter f args =>
      rw [Oper.uponIn_enter] at h ⊢
      refine ⟨h.1, callsFr.2 ((callsFr.1 h.2).mono fun e w'' he => ?_)⟩
      cases e with
      | returned v => exact hn _ _ he
      | panicked ch => exact hQ _ _ _ (by simp) he
      | outgrown => obtain ⟨a, w, he⟩ := he; exact ⟨a, w, hQ _ _ _ (by simp) he⟩
    | row r args =>
      rw [Oper.uponIn_row] at h ⊢
      exact ⟨h.1, h.2.mono fun v w'' hv => hn _ _ hv⟩
    | round l f tmps asg bdy =>
      rw [Oper.uponIn_round] at h ⊢
      refine ⟨h.1, h.2.mono fun e w'' he => ?_⟩
      cases e with
      | returned v => exact hn _ _ he
      | panicked ch => exact hQ _ _ _ (by simp) he
      | outgrown => obtain ⟨a, w, he⟩ := he; exact ⟨a, w, hQ _ _ _ (by simp) he⟩
    | _ => exact h.elim
  | halt h' w' =>
    cases h' with
    | panic v => exact hQ _ _ _ (by simp) h
    | _ => exact h.elim
theorem wpOpsIn_app {ops : Array Oper} {Q : Exit → Act → World → Prop} (l2 : List Nat) : ∀ (l1 : List Nat) (a : Act) (w : World), wpOpsIn (Fr ro) n P ops (fun e a w => e = .normal ∧ wpOpsIn (Fr ro) n P ops Q l2 a w) l1 a w → wpOpsIn (Fr ro) n P ops Q (l1 ++ l2) a w
  | [], a, w, h => h.2
  | i :: l1, a, w, h => by
    simp only [wpOpsIn, List.cons_append] at h ⊢
    cases ho : ops[i]? with
    | none => simp only [ho] at h; exact wpOpsIn_app l2 l1 a w h
    | some o =>
      simp only [ho] at h
      simp only []
      split
      · rename_i hw
        rw [if_pos hw] at h
        exact ⟨h.1, uponIn_mono (fun a w h => wpOpsIn_app l2 l1 a w h) (fun e a w hne h => absurd h.1 hne) h.2⟩
      · rename_i hw
        rw [if_neg hw] at h
        exact ⟨h.1, wpOpsIn_app l2 l1 _ w h.2⟩
end
end Go.Proofs.Ytibdijaacolhkaa
