/- More rules of the reckoning. -/
import Derived.Test.YtohelofjlkoboaaA10
namespace Go.Proofs.Ytohelofjlkoboaa
open Go.RowKit
set_option linter.unusedVariables false
set_option linter.unusedSectionVars false
variable [Env]
section
variable {P : Program} {T : Tab} {K : AV → Prop} {σ : List AV} {L : List AV → Prop}
theorem amakeSlice_int (e : Nat) (j : TI) (k k' : IntKind) (l c : Int) : amakeSlice e j (.raw (.int k l)) (.raw (.int k' c)) K = (0 ≤ l ∧ l ≤ c ∧ c ≤ 9223372036854775807 ∧ (j.bytes : Int) * c ≤ 281474976710656 ∧ (l = 0 ∨ (j.size = 1 ∧ j.zero.length = 1 ∧ allOne j.zero = true)) ∧ K (.own e j.size (List.replicate l.toNat (ac1 (j.zero.headD undef))))) := (rfl)
theorem amax_t (k k' : IntKind) (a b : Int) : amax true (.raw (.int k a)) (.raw (.int k' b)) K = (k = k' ∧ K (.raw (.int k (max a b)))) := by
  have : (if b > a then b else a) = max a b := by rw [Int.max_def]; split <;> split <;> omega
  simp only [amax, if_true, this]
theorem amax_f (k k' : IntKind) (a b : Int) : amax false (.raw (.int k a)) (.raw (.int k' b)) K = (k = k' ∧ K (.raw (.int k (min a b)))) := by
  have : (if b < a then b else a) = min a b := by rw [Int.min_def]; split <;> split <;> omega
  simp only [amax, Bool.false_eq_true, if_false, this]
def rap2 (x : AV) (σ : List AV) (e : Nat) (j : TI) (t s : Nat) (y : Operand) (d : Option Nat) (L : List AV → Prop) : Prop := match x with
  | .row e' k xs => rappend σ e j t s e' k xs y d L
  | _ => False
theorem rapp_row (e e' k : Nat) (j : TI) (xs : List AV) (t : Nat) (y : Operand) (d : Option Nat) : rapp σ e j (.row e' k xs) t y d L = rappend σ e j t t e' k xs y d L := (rfl)
theorem rapp_alias (e s : Nat) (j : TI) (t : Nat) (y : Operand) (d : Option Nat) : rapp σ e j (.alias s) t y d L = rap2 (σ.getD s .any) σ e j t s y d L := (rfl)
theorem rap2_row (e e' k : Nat) (j : TI) (xs : List AV) (t s : Nat) (y : Operand) (d : Option Nat) : rap2 (.row e' k xs) σ e j t s y d L = rappend σ e j t s e' k xs y d L := (rfl)
theorem rapp_own (e e' k : Nat) (j : TI) (xs : List AV) (t : Nat) (y : Operand) (d : Option Nat) : rapp σ e j (.own e' k xs) t y d L = aappend σ e j (.tmp t) y d L := (rfl)
theorem rapp_mine (e e' k : Nat) (j : TI) (xs : List AV) (t : Nat) (y : Operand) (d : Option Nat) : rapp σ e j (.mine e' k xs) t y d L = aappend σ e j (.tmp t) y d L := (rfl)
theorem rapp_nil (e : Nat) (j : TI) (t : Nat) (y : Operand) (d : Option Nat) : rapp σ e j .nil t y d L = aappend σ e j (.tmp t) y d L := (rfl)
def rap3 (o : Option (List AV)) (σ : List AV) (e : Nat) (j : TI) (t s e' k : Nat) (xs : List AV) (d : Nat) (L : List AV → Prop) : Prop := match o with
  | some ys => e' = e ∧ k = j.size ∧ 0 < j.size ∧ j.zero.length = j.size ∧ xs.length + ys.length ≤ 9223372036854775807 ∧ (xs.length + ys.length) * j.bytes ≤ 140737488355328 ∧
      ((σ.set s .any).set t .any).all (nrf d) = true ∧ L (((σ.set s .any).set t .any).set d (.row e j.size (xs ++ ys)))
  | none => False
theorem rappend_eq (e : Nat) (j : TI) (t s e' k : Nat) (xs : List AV) (y : Operand) (d : Nat) : rappend σ e j t s e' k xs y (some d) L = rap3 (asrc j.size (aev σ y)) σ e j t s e' k xs d L := by
  unfold rappend rap3
  cases asrc j.size (aev σ y) <;> rfl
theorem rap3_some (ys : List AV) (e : Nat) (j : TI) (t s e' k : Nat) (xs : List AV) (d : Nat) : rap3 (some ys) σ e j t s e' k xs d L = (e' = e ∧ k = j.size ∧ 0 < j.size ∧ j.zero.length = j.size ∧ xs.length + ys.length ≤ 9223372036854775807 ∧ (xs.length + ys.length) * j.bytes ≤ 140737488355328 ∧
      ((σ.set s .any).set t .any).all (nrf d) = true ∧ L (((σ.set s .any).set t .any).set d (.row e j.size (xs ++ ys)))) := (rfl)
theorem asrc_nil (k : Nat) : asrc k .nil = some [] := (rfl)
theorem asrc_sl (k : Nat) (es : List AV) : asrc k (.sl k es) = some es := by simp [asrc]
theorem asrc_own (e k : Nat) (es : List AV) : asrc k (.own e k es) = some es := by simp [asrc]
theorem adst_nil (e k : Nat) : adst e k .nil = some [] := (rfl)
theorem adst_own (e k : Nat) (es : List AV) : adst e k (.own e k es) = some es := by simp [adst]
theorem adst_mine (e k : Nat) (es : List AV) : adst e k (.mine e k es) = some es := by simp [adst]
theorem adr_nil (e k : Nat) (zs : List AV) : adr e k .nil zs = .own e k zs := (rfl)
theorem adr_own' (e k e' k' : Nat) (es zs : List AV) : adr e k (.own e' k' es) zs = .own e k zs := (rfl)
theorem adr_mine (e k e' k' : Nat) (es zs : List AV) : adr e k (.mine e' k' es) zs = .mine e k zs := (rfl)
def aap (v : AV) (o : Option (List AV)) (o' : Option (List AV)) (τ : List AV) (e : Nat) (j : TI) (d : Option Nat) (L : List AV → Prop) : Prop := match o, o' with
  | some xs, some ys => 0 < j.size ∧ j.zero.length = j.size ∧ xs.length + ys.length ≤ 9223372036854775807 ∧ (xs.length + ys.length) * j.bytes ≤ 140737488355328 ∧ L (aset τ d (adr e j.size v (xs ++ ys)))
  | _, _ => False
theorem aappend_eq (e : Nat) (j : TI) (x y : Operand) (d : Option Nat) : aappend σ e j x y d L = aap (aev σ x) (adst e j.size (aev σ x)) (asrc j.size (aev (amv σ x) y)) (amv σ x) e j d L := by
  unfold aappend aap
  cases adst e j.size (aev σ x) <;> cases asrc j.size (aev (amv σ x) y) <;> rfl
theorem aap_some (v : AV) (xs ys τ : List AV) (e : Nat) (j : TI) (d : Option Nat) : aap v (some xs) (some ys) τ e j d L = (0 < j.size ∧ j.zero.length = j.size ∧ xs.length + ys.length ≤ 9223372036854775807 ∧ (xs.length + ys.length) * j.bytes ≤ 140737488355328 ∧ L (aset τ d (adr e j.size v (xs ++ ys)))) := (rfl)
def afl (o : Option (Nat × Option Nat × Option Bool)) (cs : List AV) (K : AV → Prop) : Prop := match o with
  | some (off, some n, some agg) => (agg = false → n = 1) ∧ off + n ≤ cs.length ∧ K (pl (pval agg ((pcells cs off n).map v1)))
  | _ => False
theorem afield_agg (i : TI) (f : Nat) (cs : List AV) : afield i f (.agg cs) K = afl i.td.flds[f]? cs K := by
  unfold afield afl
  cases i.td.flds[f]? with
  | none => rfl
  | some p => obtain ⟨a, b, c⟩ := p; cases b <;> cases c <;> rfl
theorem afl_some (off n : Nat) (agg : Bool) (cs : List AV) : afl (some (off, some n, some agg)) cs K = ((agg = false → n = 1) ∧ off + n ≤ cs.length ∧ K (pl (pval agg ((pcells cs off n).map v1)))) := (rfl)
def aix (o : Option (Nat × Nat)) (T : Tab) (cs : List AV) (n : Int) (K : AV → Prop) : Prop := match o with
  | some (len, e) => (match T e with
      | some j => 0 ≤ n ∧ n < len ∧ (j.td.agg = false → j.size = 1) ∧ n.toNat * j.size + j.size ≤ cs.length ∧ K (pl (pval j.td.agg ((pcells cs (n.toNat * j.size) j.size).map v1)))
      | none => False)
  | none => False
def aix2 (o : Option TI) (len : Nat) (cs : List AV) (n : Int) (K : AV → Prop) : Prop := match o with
  | some j => 0 ≤ n ∧ n < len ∧ (j.td.agg = false → j.size = 1) ∧ n.toNat * j.size + j.size ≤ cs.length ∧ K (pl (pval j.td.agg ((pcells cs (n.toNat * j.size) j.size).map v1)))
  | none => False
theorem aindex_agg (i : TI) (cs : List AV) (k : IntKind) (n : Int) : aindex T i (.agg cs) (.raw (.int k n)) K = aix i.td.arr T cs n K := by
  unfold aindex aix
  cases i.td.arr <;> rfl
theorem aix_some (len e : Nat) (cs : List AV) (n : Int) : aix (some (len, e)) T cs n K = aix2 (T e) len cs n K := (rfl)
theorem aix2_some (j : TI) (len : Nat) (cs : List AV) (n : Int) : aix2 (some j) len cs n K = (0 ≤ n ∧ n < len ∧ (j.td.agg = false → j.size = 1) ∧ n.toNat * j.size + j.size ≤ cs.length ∧ K (pl (pval j.td.agg ((pcells cs (n.toNat * j.size) j.size).map v1)))) := (rfl)
theorem aindex_str (i : TI) (s : ByteArray) (k : IntKind) (n : Int) : aindex T i (.raw (.string s)) (.raw (.int k n)) K = (i.td.str = true ∧ 0 ≤ n ∧ n.toNat < s.data.toList.length ∧ K (.raw (.int .u8 ((s.data.toList.getD n.toNat 0).toNat : Int)))) := (rfl)
def abd (dflt : Int) (x : Option AV) (K : Int → Prop) : Prop := abound dflt x K
theorem abound_none (d : Int) (K : Int → Prop) : abound d none K = K d := (rfl)
theorem abound_int (d : Int) (k : IntKind) (n : Int) (K : Int → Prop) : abound d (some (.raw (.int k n))) K = K n := (rfl)
def asl (o : Option Nat) (T : Tab) (k : Nat) (es : List AV) (lo hi : Option AV) (K : AV → Prop) : Prop := match o with
  | some e => (match T e with
    | some j => k = j.size ∧ abound 0 lo fun l => abound es.length hi fun h => 0 ≤ l ∧ l ≤ h ∧ h ≤ es.length ∧ K (.sl k ((es.drop l.toNat).take (h.toNat - l.toNat)))
    | none => False)
  | none => False
def asl2 (o : Option TI) (k : Nat) (es : List AV) (lo hi : Option AV) (K : AV → Prop) : Prop := match o with
  | some j => k = j.size ∧ abound 0 lo fun l => abound es.length hi fun h => 0 ≤ l ∧ l ≤ h ∧ h ≤ es.length ∧ K (.sl k ((es.drop l.toNat).take (h.toNat - l.toNat)))
  | none => False
theorem aslice_sl (i : TI) (k : Nat) (es : List AV) (lo hi : Option AV) : aslice T i (.sl k es) lo hi K = asl i.td.elem T k es lo hi K := (rfl)
theorem aslice_own (i : TI) (e k : Nat) (es : List AV) (lo hi : Option AV) : aslice T i (.own e k es) lo hi K = asl i.td.elem T k es lo hi K := (rfl)
theorem asl_some (e k : Nat) (es : List AV) (lo hi : Option AV) : asl (some e) T k es lo hi K = asl2 (T e) k es lo hi K := (rfl)
theorem asl2_some (j : TI) (k : Nat) (es : List AV) (lo hi : Option AV) : asl2 (some j) k es lo hi K = (k = j.size ∧ abound 0 lo fun l => abound es.length hi fun h => 0 ≤ l ∧ l ≤ h ∧ h ≤ es.length ∧ K (.sl k ((es.drop l.toNat).take (h.toNat - l.toNat)))) := (rfl)
theorem aslice_str (i : TI) (s : ByteArray) (lo hi : Option AV) : aslice T i (.raw (.string s)) lo hi K = (i.td.str = true ∧ abound 0 lo fun l => abound s.data.toList.length hi fun h =>
      0 ≤ l ∧ l ≤ h ∧ h ≤ s.data.toList.length ∧ K (.raw (.string ⟨((s.data.toList.drop l.toNat).take (h.toNat - l.toNat)).toArray⟩))) := (rfl)
def aslx (o : Option Nat) (T : Tab) (k : Nat) (es zs : List AV) (lo hi : Option AV) (K : AV → Prop) : Prop := match o with
  | some e => (match T e with
    | some j => k = j.size ∧ abound 0 lo fun l => abound es.length hi fun h => (l = 0 ∧ h = ((es ++ zs).length : Int)) ∧ K (.sl k (es ++ zs))
    | none => False)
  | none => False
def aslx2 (o : Option TI) (k : Nat) (es zs : List AV) (lo hi : Option AV) (K : AV → Prop) : Prop := match o with
  | some j => k = j.size ∧ abound 0 lo fun l => abound es.length hi fun h => (l = 0 ∧ h = ((es ++ zs).length : Int)) ∧ K (.sl k (es ++ zs))
  | none => False
theorem aslice_slx (i : TI) (k : Nat) (es zs : List AV) (lo hi : Option AV) : aslice T i (.slx k es zs) lo hi K = aslx i.td.elem T k es zs lo hi K := (rfl)
theorem aslx_some (e k : Nat) (es zs : List AV) (lo hi : Option AV) : aslx (some e) T k es zs lo hi K = aslx2 (T e) k es zs lo hi K := (rfl)
theorem aslx2_some (j : TI) (k : Nat) (es zs : List AV) (lo hi : Option AV) : aslx2 (some j) k es zs lo hi K = (k = j.size ∧ abound 0 lo fun l => abound es.length hi fun h => (l = 0 ∧ h = ((es ++ zs).length : Int)) ∧ K (.sl k (es ++ zs))) := (rfl)
def acv (o : Option IntKind) (n : Int) (K : AV → Prop) : Prop := match o with
  | some k => K (.raw (.int k (k.wrap n)))
  | none => False
theorem aconv2_int (s d : TI) (k : IntKind) (n : Int) : aconv2 T s d (.raw (.int k n)) K = acv d.td.ik n K := (rfl)
theorem acv_some (k : IntKind) (n : Int) : acv (some k) n K = K (.raw (.int k (k.wrap n))) := (rfl)
def aex (x : AV) (σ : List AV) (s n : Nat) (d : Option Nat) (L : List AV → Prop) : Prop := match x with
  | .tup cs => n < cs.length ∧ L (aset (σ.set s (.tup (cs.set n (v2 (cs.getD n .any))))) d (pl (cs.getD n .any)))
  | _ => False
theorem aextract_eq (s n : Nat) (d : Option Nat) : aextract σ (.tmp s) n d L = aex (σ.getD s .any) σ s n d L := (rfl)
theorem aex_tup (cs : List AV) (s n : Nat) (d : Option Nat) : aex (.tup cs) σ s n d L = (n < cs.length ∧ L (aset (σ.set s (.tup (cs.set n (v2 (cs.getD n .any))))) d (pl (cs.getD n .any)))) := (rfl)
/-- A call that turns its first argument's row. -/
def krow (s : Nat) (σ : List AV) (d : Option Nat) (L : List AV → Prop) (r y : AV) : Prop := L (aset (σ.set s y) d r)
theorem rcall_eq (g s e k : Nat) (es : List AV) (rest : List Operand) (d : Option Nat) : rcall P σ g s e k es rest d L = (d ≠ some s ∧ RCalls P g (.row e k es) (agrab (σ.set s .any) rest).1 (krow s (agrab (σ.set s .any) rest).2 d L)) := (rfl)
theorem krow_eq (s : Nat) (d : Option Nat) (r y : AV) : krow s σ d L r y = L (aset (σ.set s y) d r) := (rfl)
def rcl2 (P : Program) (x : AV) (σ : List AV) (s g t : Nat) (rest : List Operand) (d : Option Nat) (L : List AV → Prop) : Prop := match x with
  | .row e k es => rcall P σ g s e k es rest d L
  | _ => acall P σ (.func g) (.tmp t :: rest) d L
theorem rcl_alias' (s g t : Nat) (rest : List Operand) (d : Option Nat) : rcl P σ (.alias s) g t rest d L = rcl2 P (σ.getD s .any) σ s g t rest d L := (rfl)
theorem rcl2_row (e k : Nat) (es : List AV) (s g t : Nat) (rest : List Operand) (d : Option Nat) : rcl2 P (.row e k es) σ s g t rest d L = rcall P σ g s e k es rest d L := (rfl)
theorem RCalls.mono {f : Nat} {x : AV} {args : List AV} {R R' : AV → AV → Prop} (h : RCalls P f x args R) (hr : ∀ r y, R r y → R' r y) : RCalls P f x args R' := by
  obtain ⟨h1, ⟨r, y, h0⟩, h2⟩ := h
  exact ⟨h1, ⟨r, y, hr r y h0⟩, fun w S v vs c hz hv hc => (h2 w S v vs c hz hv hc).mono fun e w' ⟨u, r, y, S', c', he, hR, h3⟩ => ⟨u, r, y, S', c', he, hr r y hR, h3⟩⟩
end
attribute [go_sem] aslice_slx aslx_some aslx2_some
attribute [go_sem] Option.map_none Option.map_some Nat.sub_zero Nat.zero_add Int.toNat_zero amakeSlice_int amax_t amax_f rapp_row rapp_alias rap2_row rapp_own rapp_nil rappend_eq rap3_some asrc_nil asrc_sl asrc_own adst_nil adst_own adst_mine adr_nil adr_own' adr_mine rapp_mine aappend_eq aap_some afield_agg afl_some aindex_agg aix_some aix2_some aindex_str abound_none abound_int aslice_sl aslice_own asl_some asl2_some aslice_str aconv2_int acv_some aextract_eq aex_tup rcall_eq krow_eq rcl_alias' rcl2_row
  List.replicate_zero List.replicate_succ List.headD_cons List.headD_nil
end Go.Proofs.Ytohelofjlkoboaa
