/- Rules of the reckoning. -/
import Derived.Test.YtohelofjlkoboaaA8
namespace Go.Proofs.Ytohelofjlkoboaa
open Go.RowKit
set_option linter.unusedVariables false
set_option linter.unusedSectionVars false
variable [Env]

/-! ## continuations without binders -/
def kset (d : Nat) (σ : List AV) (K : List AV → Prop) (z : AV) : Prop := K (σ.set d z)
def ksetO (d : Option Nat) (σ : List AV) (K : List AV → Prop) (z : AV) : Prop := K (aset σ d z)
def kfin (sh bm : List Nat) (d : Option Nat) (σ : List AV) (A : List AV → Prop) (σ' : List AV) : Prop := fin2 sh bm d σ σ' (A σ')
def kskip (d : Option Nat) (A : List AV → Prop) (σ : List AV) : Prop := A (aset σ d (.tup []))
def kpk (d : Nat) (x : Operand) (K : List AV → Prop) (σ : List AV) : Prop := K ((amv σ x).set d (aev σ x))
def krst (s : Nat) (x : AV) (K : List AV → Prop) (σ' : List AV) : Prop := K (σ'.set s (rv x (σ'.getD s .any)))
def kagg (d : Nat) (σ : List AV) (K : List AV → Prop) (cs : List AV) : Prop := K (σ.set d (.agg cs))
/-- A truth value parts the ways. -/
def asq (e : Bool) (A B : List AV → Prop) (σ : List AV) : Prop := asplit e (A σ) (B σ)
def asp (e : Bool) (σ : List AV) (t : Nat) (A B : List AV → Prop) : Prop := asplit e (A (σ.set t (.raw (.bool true)))) (B (σ.set t (.raw (.bool false))))
theorem asq_mk {e : Bool} {A B : List AV → Prop} {σ : List AV} (h1 : e = true → A σ) (h2 : e = false → B σ) : asq e A B σ := ⟨h1, h2⟩
theorem asp_mk {e : Bool} {σ : List AV} {t : Nat} {A B : List AV → Prop} (h1 : e = true → A (σ.set t (.raw (.bool true)))) (h2 : e = false → B (σ.set t (.raw (.bool false)))) : asp e σ t A B := ⟨h1, h2⟩
theorem asq_t (A B : List AV → Prop) (σ : List AV) : asq true A B σ = A σ := by simp [asq, asplit]
theorem asq_f (A B : List AV → Prop) (σ : List AV) : asq false A B σ = B σ := by simp [asq, asplit]
theorem asp_t (σ : List AV) (t : Nat) (A B : List AV → Prop) : asp true σ t A B = A (σ.set t (.raw (.bool true))) := by simp [asp, asplit]
theorem asp_f (σ : List AV) (t : Nat) (A B : List AV → Prop) : asp false σ t A B = B (σ.set t (.raw (.bool false))) := by simp [asp, asplit]
def crun (P : Program) (T : Tab) (l : List CO) (K : List AV → Prop) (σ : List AV) : Prop := copl P T K l σ
def drun (P : Program) (T : Tab) (rb bm : List Nat) (l : List (CO × List Nat)) (K : List AV → Prop) (σ : List AV) : Prop := nrp σ (eopl P T rb bm K l σ) bm
def ccq (x : AV) (A B : List AV → Prop) (σ : List AV) : Prop := match x with
  | .raw (.bool e) => asq e A B σ
  | _ => False
def cgq (x : AV) (t : Nat) (want : Bool) (σ : List AV) (A B : List AV → Prop) : Prop := match x with
  | .raw (.bool e) => if want then asp e σ t A B else asp e σ t B A
  | .tup [] => B σ
  | _ => False
def tchq (rb : List Nat) (op : Op) (σ : List AV) (F : List AV → (List AV → Prop) → Prop) (K : List AV → Prop) : Prop := tchp rb op σ (F σ K)

/-! ## rules of the reckoning -/
section
variable {P : Program} {T : Tab} {Q : Exit → List AV → Prop} {K : List AV → Prop} {σ : List AV} {l : List CO}
theorem cwp_skip : cwp P T .skip Q σ = Q .normal σ := (rfl)
theorem cwp_ops0 : cwp P T (.ops [] [] l) Q σ = copl P T (Q .normal) l σ := (rfl)
theorem cwp_ops (ts vs : List Nat) : cwp P T (.ops ts vs l) Q σ = twp ts (rgn (crun P T l) vs (Q .normal)) σ := (rfl)
theorem cwp_dops (ts vs rb bm : List Nat) (l : List (CO × List Nat)) : cwp P T (.dops ts vs rb bm l) Q σ = twp ts (rgn (drun P T rb bm l) vs (Q .normal)) σ := (rfl)
theorem crun_eq : crun P T l K σ = copl P T K l σ := (rfl)
theorem drun_eq (rb bm : List Nat) (l : List (CO × List Nat)) : drun P T rb bm l K σ = nrp σ (eopl P T rb bm K l σ) bm := (rfl)
theorem twp_nil : twp [] K σ = K σ := (rfl)
theorem twp_cons (s : Nat) (ts : List Nat) : twp (s :: ts) K σ = tw1 (σ.getD (s % 100000) .any) (decide (100000 ≤ s)) (s % 100000) (twp ts K) σ := (rfl)
theorem tw1_own (e k : Nat) (m : Bool) (s : Nat) : tw1 (.own e k []) m s K σ = (σ.all (nrf s) = true ∧ K (σ.set s (.row e k []))) := (rfl)
theorem tw1_row (e k : Nat) (es : List AV) (s : Nat) : tw1 (.row e k es) false s K σ = K (σ.set s (.own e k es)) := (rfl)
theorem tw1_rowm (e k : Nat) (es : List AV) (s : Nat) : tw1 (.row e k es) true s K σ = K (σ.set s (.mine e k es)) := (rfl)
theorem tw1_minef (e k : Nat) (es : List AV) (s : Nat) : tw1 (.mine e k es) false s K σ = K σ := (rfl)
theorem tw1_minet (e k : Nat) (es : List AV) (s : Nat) : tw1 (.mine e k es) true s K σ = (σ.all (nrf s) = true ∧ K (σ.set s (.row e k es))) := (rfl)
theorem tw1_alias (t : Nat) (m : Bool) (s : Nat) : tw1 (.alias t) m s K σ = K (σ.set s .any) := (rfl)
theorem tw1_pref (t k j o : Nat) (m : Bool) (s : Nat) : tw1 (.pref t k j o) m s K σ = K (σ.set s .any) := (rfl)
theorem tw1_tup (cs : List AV) (m : Bool) (s : Nat) : tw1 (.tup cs) m s K σ = K σ := (rfl)
theorem tw1_any (m : Bool) (s : Nat) : tw1 .any m s K σ = K σ := (rfl)
theorem tw1_raw (v : Value) (m : Bool) (s : Nat) : tw1 (.raw v) m s K σ = K σ := (rfl)
theorem rgn_nil (run : (List AV → Prop) → List AV → Prop) : rgn run [] K σ = run K σ := (rfl)
theorem rgn_cons (run : (List AV → Prop) → List AV → Prop) (s : Nat) (vs : List Nat) : rgn run (s :: vs) K σ = rgn run vs (krst s (σ.getD s .any) K) (σ.set s (nv (σ.getD s .any))) := (rfl)
theorem cwp_seq (x y : CC) : cwp P T (.seq x y) Q σ = cwp P T x (xseq (cwp P T y Q) Q) σ := (rfl)
theorem ccq_bool (e : Bool) (A B : List AV → Prop) : ccq (.raw (.bool e)) A B σ = asq e A B σ := (rfl)
theorem cwp_cond (c : Operand) (x y : CC) : cwp P T (.cond c x y) Q σ = ccq (aev σ c) (cwp P T x Q) (cwp P T y Q) σ := by
  show ccond _ _ _ = _
  cases aev σ c <;> rfl
theorem kset_eq (d : Nat) (z : AV) : kset d σ K z = K (σ.set d z) := (rfl)
theorem ksetO_some (d : Nat) (z : AV) : ksetO (some d) σ K z = K (σ.set d z) := (rfl)
theorem ksetO_none (z : AV) : ksetO none σ K z = K σ := (rfl)
theorem kfin_eq (sh bm : List Nat) (d : Option Nat) (σ' : List AV) : kfin sh bm d σ K σ' = fin2 sh bm d σ σ' (K σ') := (rfl)
theorem kskip_some (d : Nat) : kskip (some d) K σ = K (σ.set d (.tup [])) := (rfl)
theorem kpk_eq (d : Nat) (x : Operand) : kpk d x K σ = K ((amv σ x).set d (aev σ x)) := (rfl)
theorem krst_eq (s : Nat) (x : AV) : krst s x K σ = K (σ.set s (rv x (σ.getD s .any))) := (rfl)
theorem kagg_eq (d : Nat) (cs : List AV) : kagg d σ K cs = K (σ.set d (.agg cs)) := (rfl)
theorem cgq_t (e : Bool) (t : Nat) (A B : List AV → Prop) : cgq (.raw (.bool e)) t true σ A B = asp e σ t A B := (rfl)
theorem cgq_f (e : Bool) (t : Nat) (A B : List AV → Prop) : cgq (.raw (.bool e)) t false σ A B = asp e σ t B A := (rfl)
theorem cgq_skip (t : Nat) (want : Bool) (A B : List AV → Prop) : cgq (.tup []) t want σ A B = B σ := (rfl)
theorem tchq_eq (rb : List Nat) (op : Op) (F : List AV → (List AV → Prop) → Prop) : tchq rb op σ F K = tchp rb op σ (F σ K) := (rfl)
theorem cwp_block (id : Nat) (c : CC) : cwp P T (.block id c) Q σ = cwp P T c (xblk id Q) σ := (rfl)
theorem cwp_exit (id : Nat) : cwp P T (.exit id) Q σ = Q (.exit id) σ := (rfl)
theorem cwp_ret : cwp P T .ret Q σ = Q .ret σ := (rfl)
theorem cwp_scope (c : CC) : cwp P T (.scope c) Q σ = cwp P T c (xsco Q) σ := (rfl)
theorem xsco_ret : xsco Q .ret σ = Q .ret σ := (rfl)
theorem xsco_normal : xsco Q .normal σ = Q .normal σ := (rfl)
theorem xsco_exit (id : Nat) : xsco Q (.exit id) σ = Q (.exit id) σ := (rfl)
theorem xseq_normal {K : List AV → Prop} : xseq K Q .normal σ = K σ := (rfl)
theorem xseq_exit {K : List AV → Prop} (id : Nat) : xseq K Q (.exit id) σ = Q (.exit id) σ := (rfl)
theorem xseq_ret {K : List AV → Prop} : xseq K Q .ret σ = Q .ret σ := (rfl)
theorem xblk_normal (id : Nat) : xblk id Q .normal σ = Q .normal σ := (rfl)
theorem xblk_ret (id : Nat) : xblk id Q .ret σ = Q .ret σ := (rfl)
theorem xblk_exit (id id' : Nat) : xblk id Q (.exit id') σ = if id' = id then Q .normal σ else Q (.exit id') σ := (rfl)
theorem afin_ret (rs : List ResultVar) (R : AV → Prop) : afin T rs R .ret σ = ares T rs σ fun vs => R (match vs with
    | [v] => v
    | vs => .tup vs) := (rfl)
theorem afin_normal (rs : List ResultVar) (R : AV → Prop) : afin T rs R .normal σ = ares T rs σ fun vs => R (match vs with
    | [v] => v
    | vs => .tup vs) := (rfl)
/-- A value moved out of a slot. -/
def cmv (x : AV) (t : Nat) (σ : List AV) (K : List AV → Prop) : Prop := K (amv1 σ t x)

def mvs (x : AV) (t d : Nat) (σ : List AV) : List AV := (amv1 σ t x).set d (pl x)
theorem mvs_raw (v : Value) (t d : Nat) : mvs (.raw v) t d σ = σ.set d (.raw v) := (rfl)
theorem mvs_sl (k : Nat) (es : List AV) (t d : Nat) : mvs (.sl k es) t d σ = σ.set d (.sl k es) := (rfl)
theorem mvs_nil (t d : Nat) : mvs .nil t d σ = σ.set d .nil := (rfl)
theorem mvs_elt (x : AV) (t d : Nat) : mvs (.elt x) t d σ = σ.set d (.elt x) := (rfl)
theorem mvs_own (e k : Nat) (es : List AV) (t d : Nat) : mvs (.own e k es) t d σ = (σ.set t (.sl k es)).set d (.own e k es) := (rfl)
theorem mvs_agg (cs : List AV) (t d : Nat) : mvs (.agg cs) t d σ = (σ.set t (.agg (cs.map v1))).set d (.agg cs) := (rfl)
theorem mvs_tup (cs : List AV) (t d : Nat) : mvs (.tup cs) t d σ = (σ.set t (.tup (cs.map v2))).set d (.tup cs) := (rfl)
theorem mvs_mine (e k : Nat) (es : List AV) (t d : Nat) : mvs (.mine e k es) t d σ = (σ.set t .any).set d (.mine e k es) := (rfl)
theorem mvs_any (t d : Nat) : mvs .any t d σ = σ.set d .any := (rfl)

theorem copl_nil : copl P T K [] σ = K σ := (rfl)
theorem copl_cons (d : Option Nat) (op : Op) : copl P T K (⟨d, op, none⟩ :: l) σ = cop P T d op σ (copl P T K l) := (rfl)
theorem copl_guard (d : Option Nat) (op : Op) (t : Nat) (want : Bool) : copl P T K (⟨d, op, some (t, want)⟩ :: l) σ = cgq (σ.getD t .any) t want σ (copl P T K (⟨d, op, none⟩ :: l)) (kskip d (copl P T K l)) := by
  simp only [copl, cgq]
  cases σ.getD t .any <;> try rfl
  · rename_i v
    cases v <;> try rfl
    cases want <;> rfl
  · rename_i cs
    cases cs <;> rfl
theorem dopl_nil (rb bm : List Nat) : eopl P T rb bm K [] σ = K σ := (rfl)
theorem dopl_cons (sh rb bm : List Nat) (d : Option Nat) (op : Op) (l : List (CO × List Nat)) : eopl P T rb bm K ((⟨d, op, none⟩, sh) :: l) σ = tchq rb op σ (dcop P T d op) (kfin sh bm d σ (eopl P T rb bm K l)) := (rfl)
def kskipd (sh bm : List Nat) (d : Option Nat) (A : List AV → Prop) (σ : List AV) : Prop := fin2 sh bm d σ (aset σ d (.tup [])) (A (aset σ d (.tup [])))
theorem kskipd_some (sh bm : List Nat) (d : Nat) : kskipd sh bm (some d) K σ = fin2 sh bm (some d) σ (σ.set d (.tup [])) (K (σ.set d (.tup []))) := (rfl)
theorem dopl_guard (sh rb bm : List Nat) (d : Option Nat) (op : Op) (t : Nat) (want : Bool) (l : List (CO × List Nat)) : eopl P T rb bm K ((⟨d, op, some (t, want)⟩, sh) :: l) σ = cgq (σ.getD t .any) t want σ (eopl P T rb bm K ((⟨d, op, none⟩, sh) :: l)) (kskipd sh bm d (eopl P T rb bm K l)) := by
  simp only [eopl, cgq]
  cases σ.getD t .any <;> try rfl
  · rename_i v
    cases v <;> try rfl
    cases want <;> rfl
  · rename_i cs
    cases cs <;> rfl
def cpick (x : AV) (A B : Prop) : Prop := match x with
  | .raw (.bool e) => asplit e A B
  | _ => False
theorem abinT_int (op : BinOp) (t : Nat) (k : IntKind) (a : Int) (y : AV) (K : AV → Prop) : abinT T op t (.raw (.int k a)) y K = abin op (.raw (.int k a)) y K := (rfl)
theorem abinT_str (op : BinOp) (t : Nat) (s : ByteArray) (y : AV) (K : AV → Prop) : abinT T op t (.raw (.string s)) y K = abin op (.raw (.string s)) y K := (rfl)
theorem abinT_bool (op : BinOp) (t : Nat) (a b : Bool) (K : AV → Prop) : abinT T op t (.raw (.bool a)) (.raw (.bool b)) K = (match op with
    | .eql => (T t).map (·.td.bl) = some true ∧ K (.raw (.bool (a == b)))
    | .neq => (T t).map (·.td.bl) = some true ∧ K (.raw (.bool (a != b)))
    | _ => False) := (rfl)
theorem cpick_bool (e : Bool) (A B : Prop) : cpick (.raw (.bool e)) A B = asplit e A B := (rfl)
theorem do_assign (d t : Nat) : dcop P T (some d) (.assign (.tmp t)) σ K = K (mvs (σ.getD t .any) t d σ) := (rfl)
theorem co_assignc (d : Nat) (v : Value) : cop P T (some d) (.assign (.const v)) σ K = K (σ.set d (aconst v)) := (rfl)
theorem do_assignc (d : Nat) (v : Value) : dcop P T (some d) (.assign (.const v)) σ K = K (σ.set d (aconst v)) := (rfl)
theorem co_movec (d : Nat) (v : Value) : cop P T (some d) (.move (.const v)) σ K = K (σ.set d (aconst v)) := (rfl)
theorem do_movec (d : Nat) (v : Value) : dcop P T (some d) (.move (.const v)) σ K = K (σ.set d (aconst v)) := (rfl)
theorem co_bin (d : Nat) (op : BinOp) (t t' : Nat) (x y : Operand) : cop P T (some d) (.binOp op t x y t') σ K = rbin T op t (aev σ x) (aev σ y) (kset d σ K) := (rfl)
theorem do_bin (d : Nat) (op : BinOp) (t t' : Nat) (x y : Operand) : dcop P T (some d) (.binOp op t x y t') σ K = abinT T op t (aev σ x) (aev σ y) (kset d σ K) := (rfl)
theorem co_un (d : Nat) (op : UnOp) (t : Nat) (x : Operand) : cop P T (some d) (.unOp op t x) σ K = aun op (aev σ x) (kset d σ K) := (rfl)
theorem do_un (d : Nat) (op : UnOp) (t : Nat) (x : Operand) : dcop P T (some d) (.unOp op t x) σ K = aun op (aev σ x) (kset d σ K) := (rfl)
theorem co_pick (d : Nat) (c x y : Operand) : cop P T (some d) (.pick c x y) σ K = ccq (aev σ c) (kpk d x K) (kpk d y K) σ := by
  show cpick _ _ _ = _
  cases aev σ c <;> try rfl
theorem do_pick (d : Nat) (c x y : Operand) : dcop P T (some d) (.pick c x y) σ K = ccq (aev σ c) (kpk d x K) (kpk d y K) σ := by
  show cpick _ _ _ = _
  cases aev σ c <;> try rfl
theorem co_index (d t : Nat) (x y : Operand) : cop P T (some d) (.index t x y) σ K = (match T t with
    | some i => aindex T i (aev σ x) (aev σ y) (kset d σ K)
    | none => False) := (rfl)
theorem do_index (d t : Nat) (x y : Operand) : dcop P T (some d) (.index t x y) σ K = (match T t with
    | some i => aindex T i (aev σ x) (aev σ y) (kset d σ K)
    | none => False) := (rfl)
def rixq (x : AV) (t q d : Nat) (y : Operand) (T : Tab) (σ : List AV) (K : List AV → Prop) : Prop := match x with
  | .row _ k es => rixa T t q k es.length (aev σ y) (some d) σ K
  | .alias s => (match σ.getD s .any with
    | .row _ k es => rixa T t s k es.length (aev σ y) (some d) σ K
    | _ => (match T t with
      | some i => aindexAddrB T σ i (.tmp q) y (some d) K
      | none => False))
  | _ => (match T t with
    | some i => aindexAddrB T σ i (.tmp q) y (some d) K
    | none => False)
theorem co_indexAddr (d t q : Nat) (y : Operand) : cop P T (some d) (.indexAddr t (.tmp q) y) σ K = rixq (σ.getD q .any) t q d y T σ K := by
  unfold cop rop rixq
  simp only [rbase]
  cases σ.getD q .any <;> try rfl
  rename_i s
  simp only []
  cases σ.getD s .any <;> rfl
def rixq2 (x : AV) (t q s d : Nat) (y : Operand) (T : Tab) (σ : List AV) (K : List AV → Prop) : Prop := match x with
  | .row _ k es => rixa T t s k es.length (aev σ y) (some d) σ K
  | _ => (match T t with
      | some i => aindexAddrB T σ i (.tmp q) y (some d) K
      | none => False)
theorem rixq_row (e k : Nat) (es : List AV) (t q d : Nat) (y : Operand) : rixq (.row e k es) t q d y T σ K = rixa T t q k es.length (aev σ y) (some d) σ K := (rfl)
theorem rixq_alias (s t q d : Nat) (y : Operand) : rixq (.alias s) t q d y T σ K = rixq2 (σ.getD s .any) t q s d y T σ K := (rfl)
theorem rixq2_row (e k : Nat) (es : List AV) (t q s d : Nat) (y : Operand) : rixq2 (.row e k es) t q s d y T σ K = rixa T t s k es.length (aev σ y) (some d) σ K := (rfl)
theorem rixq_sl (k : Nat) (es : List AV) (t q d : Nat) (y : Operand) : rixq (.sl k es) t q d y T σ K = (match T t with
    | some i => aindexAddrB T σ i (.tmp q) y (some d) K
    | none => False) := (rfl)
theorem rixq_own (e k : Nat) (es : List AV) (t q d : Nat) (y : Operand) : rixq (.own e k es) t q d y T σ K = (match T t with
    | some i => aindexAddrB T σ i (.tmp q) y (some d) K
    | none => False) := (rfl)
theorem rixq_box (U : Nat) (cs : List AV) (t q d : Nat) (y : Operand) : rixq (.box U cs) t q d y T σ K = (match T t with
    | some i => aindexAddrB T σ i (.tmp q) y (some d) K
    | none => False) := (rfl)
theorem rixq_ref (s off : Nat) (t q d : Nat) (y : Operand) : rixq (.ref s off) t q d y T σ K = (match T t with
    | some i => aindexAddrB T σ i (.tmp q) y (some d) K
    | none => False) := (rfl)
theorem rixq_elt (x : AV) (t q d : Nat) (y : Operand) : rixq (.elt x) t q d y T σ K = (match T t with
    | some i => aindexAddrB T σ i (.tmp q) y (some d) K
    | none => False) := (rfl)
def rixb1 (o : Option TI) (s k n : Nat) (y : AV) (d : Option Nat) (σ : List AV) (K : List AV → Prop) : Prop := match o with
  | some j => rixb j s k n y d σ K
  | none => False
def rixa1 (o : Option TI) (T : Tab) (s k n : Nat) (y : AV) (d : Option Nat) (σ : List AV) (K : List AV → Prop) : Prop := match o with
  | some i => match i.td.elem with
    | some e => rixb1 (T e) s k n y d σ K
    | none => False
  | none => False
theorem rixa_eq (t s k n : Nat) (y : AV) (d : Option Nat) : rixa T t s k n y d σ K = rixa1 (T t) T s k n y d σ K := (rfl)
theorem rixa1_some (i : TI) (s k n : Nat) (y : AV) (d : Option Nat) : rixa1 (some i) T s k n y d σ K = (match i.td.elem with
    | some e => rixb1 (T e) s k n y d σ K
    | none => False) := (rfl)
theorem rixb1_some (j : TI) (s k n : Nat) (y : AV) (d : Option Nat) : rixb1 (some j) s k n y d σ K = rixb j s k n y d σ K := (rfl)
theorem rixb_int (j : TI) (s k n : Nat) (kk : IntKind) (m : Int) (d : Nat) : rixb j s k n (.raw (.int kk m)) (some d) σ K = (k = j.size ∧ 0 ≤ m ∧ m.toNat < n ∧ s ≠ d ∧ K (σ.set d (.pref s k m.toNat 0))) := (rfl)
theorem do_indexAddr (d t q : Nat) (y : Operand) : dcop P T (some d) (.indexAddr t (.tmp q) y) σ K = rixq (σ.getD q .any) t q d y T σ K := by
  unfold dcop bop rixq
  dsimp only
  cases σ.getD q .any <;> rfl
theorem co_slice (d t : Nat) (x : Operand) (lo hi : Option Operand) : cop P T (some d) (.slice t x lo hi none) σ K = (match T t with
    | some i => aslice T i (aev σ x) (lo.map (aev σ)) (hi.map (aev σ)) (kset d σ K)
    | none => False) := (rfl)
theorem do_slice (d t : Nat) (x : Operand) (lo hi : Option Operand) : dcop P T (some d) (.slice t x lo hi none) σ K = (match T t with
    | some i => aslice T i (aev σ x) (lo.map (aev σ)) (hi.map (aev σ)) (kset d σ K)
    | none => False) := (rfl)
theorem co_alloc (d t : Nat) : cop P T (some d) (.alloc t) σ K = (match T t with
    | some i => aalloc σ t i (some d) K
    | none => False) := (rfl)
theorem do_alloc (d t : Nat) : dcop P T (some d) (.alloc t) σ K = (match T t with
    | some i => allOne i.zero = true ∧ K (σ.set d (.box t (i.zero.map ac1)))
    | none => False) := (rfl)
theorem co_box (d t : Nat) (x : Operand) : cop P T (some d) (.box t x) σ K = abox σ t x (some d) K := (rfl)
theorem do_box (d t : Nat) (x : Operand) : dcop P T (some d) (.box t x) σ K = (okc (aev σ x) = true ∧ K ((amv σ x).set d (.box t (cellsOf (aev σ x))))) := (rfl)
theorem co_build (d t : Nat) (ps : Array (Nat × Operand)) : cop P T (some d) (.build t ps) σ K = (match T t with
    | some i => bok T i = true ∧ ((bflds T i).all fun f => f.2.1.isSome) = true ∧ allOne i.zero = true ∧
        afill (bflds T i) ((ps.toList.map (·.1)).zip (agrab σ (ps.toList.map (·.2))).1) (i.zero.map ac1) (kagg d (agrab σ (ps.toList.map (·.2))).2 K)
    | none => False) := (rfl)
theorem do_build (d t : Nat) (ps : Array (Nat × Operand)) : dcop P T (some d) (.build t ps) σ K = (match T t with
    | some i => bok T i = true ∧ ((bflds T i).all fun f => f.2.1.isSome) = true ∧ allOne i.zero = true ∧
        afill (bflds T i) ((ps.toList.map (·.1)).zip (agrab σ (ps.toList.map (·.2))).1) (i.zero.map ac1) (kagg d (agrab σ (ps.toList.map (·.2))).2 K)
    | none => False) := (rfl)
theorem co_buildSlice (d t n : Nat) (p : Nat × Operand) (l : List (Nat × Operand)) : cop P T (some d) (.buildSlice t n (List.toArray (p :: l))) σ K = (match T t with
    | some i => match i.td.elem with
      | some e => match T e with
        | some j => abuildSlice σ e j n (p :: l) (some d) K
        | none => False
      | none => False
    | none => False) := (rfl)
theorem co_buildSlice0 (d t n : Nat) : cop P T (some d) (.buildSlice t n #[]) σ K = rbs0 T t n (kset d σ K) := (rfl)
theorem rbs0_eq (t n : Nat) (K : AV → Prop) : rbs0 T t n K = (match T t with
    | some i => match i.td.elem with
      | some e => match T e with
        | some j => n = 0 ∧ K (.mine e j.size [])
        | none => False
      | none => False
    | none => False) := (rfl)
theorem rbin_raw (op : BinOp) (t : Nat) (x : AV) (v : Value) (K : AV → Prop) : rbin T op t x (.raw v) K = abinT T op t x (.raw v) K := (rfl)
theorem rbin_agg (op : BinOp) (t : Nat) (x : AV) (cs : List AV) (K : AV → Prop) : rbin T op t x (.agg cs) K = abinT T op t x (.agg cs) K := (rfl)
theorem rbin_nil_eql (t : Nat) (x : AV) (K : AV → Prop) : rbin T .eql t x .nil K = (isEl (T t) = true ∧ rnil1 true K x) := (rfl)
theorem rbin_nil_neq (t : Nat) (x : AV) (K : AV → Prop) : rbin T .neq t x .nil K = (isEl (T t) = true ∧ rnil1 false K x) := (rfl)
theorem rnil1_nil (pos : Bool) (K : AV → Prop) : rnil1 pos K .nil = K (.raw (.bool pos)) := (rfl)
theorem rnil1_sl (pos : Bool) (K : AV → Prop) (k : Nat) (es : List AV) : rnil1 pos K (.sl k es) = rnl es.length pos K := (rfl)
theorem rnil1_own (pos : Bool) (K : AV → Prop) (e k : Nat) (es : List AV) : rnil1 pos K (.own e k es) = rnl es.length pos K := (rfl)
theorem rnil1_mine (pos : Bool) (K : AV → Prop) (e k : Nat) (es : List AV) : rnil1 pos K (.mine e k es) = rnl es.length pos K := (rfl)
theorem rnl_eq (n : Nat) (pos : Bool) (K : AV → Prop) : rnl n pos K = ((n = 0 → K (.raw (.bool pos))) ∧ K (.raw (.bool (!pos)))) := (rfl)
theorem do_buildSlice (d t n : Nat) (ps : Array (Nat × Operand)) : dcop P T (some d) (.buildSlice t n ps) σ K = (match T t with
    | some i => match i.td.elem with
      | some e => match T e with
        | some j => abuildSlice σ e j n ps.toList (some d) K
        | none => False
      | none => False
    | none => False) := (rfl)
def rldq (x : AV) (t q d : Nat) (T : Tab) (σ : List AV) (K : List AV → Prop) : Prop := match x with
  | .pref s k j off => (match T t with
    | some i => rpld i (σ.getD s .any) k j off (some d) σ K
    | none => False)
  | _ => (match T t with
    | some i => aload σ i (.tmp q) (some d) K
    | none => False)
theorem co_load (d t q : Nat) : cop P T (some d) (.load t (.tmp q)) σ K = rldq (σ.getD q .any) t q d T σ K := by
  unfold cop rop rldq
  dsimp only
  cases σ.getD q .any <;> rfl
theorem rldq_pref (s k j off t q d : Nat) : rldq (.pref s k j off) t q d T σ K = (match T t with
    | some i => rpld i (σ.getD s .any) k j off (some d) σ K
    | none => False) := (rfl)
theorem rldq_box (U : Nat) (cs : List AV) (t q d : Nat) : rldq (.box U cs) t q d T σ K = (match T t with
    | some i => aload σ i (.tmp q) (some d) K
    | none => False) := (rfl)
theorem rldq_ref (s off : Nat) (t q d : Nat) : rldq (.ref s off) t q d T σ K = (match T t with
    | some i => aload σ i (.tmp q) (some d) K
    | none => False) := (rfl)
theorem rldq_elt (x : AV) (t q d : Nat) : rldq (.elt x) t q d T σ K = (match T t with
    | some i => aload σ i (.tmp q) (some d) K
    | none => False) := (rfl)
theorem rpld_row (i : TI) (e k' : Nat) (es : List AV) (k j off d : Nat) : rpld i (.row e k' es) k j off (some d) σ K = (k' = k ∧ j < es.length ∧ off + lsz i ≤ k ∧ K (σ.set d (pl (pval i.td.agg (pcells (cellsOf (es.getD j .any)) off (lsz i)))))) := (rfl)
theorem do_load (d t q : Nat) : dcop P T (some d) (.load t (.tmp q)) σ K = rldq (σ.getD q .any) t q d T σ K := by
  unfold dcop bop rldq
  dsimp only
  cases σ.getD q .any <;> rfl
def rstq (x : AV) (t q : Nat) (y : Operand) (T : Tab) (σ : List AV) (K : List AV → Prop) : Prop := match x with
  | .pref s k j off => (match T t with
    | some i => rpst i ((amv σ y).getD s .any) s k j off (view (aev σ y)) none (amv σ y) K
    | none => False)
  | _ => (match T t with
    | some i => astore σ i (.tmp q) y none K
    | none => False)
theorem co_store (t q : Nat) (y : Operand) : cop P T none (.store t (.tmp q) y) σ K = rstq (σ.getD q .any) t q y T σ K := by
  unfold cop rop rstq
  dsimp only
  cases σ.getD q .any <;> rfl
theorem rstq_pref (s k j off t q : Nat) (y : Operand) : rstq (.pref s k j off) t q y T σ K = (match T t with
    | some i => rpst i ((amv σ y).getD s .any) s k j off (view (aev σ y)) none (amv σ y) K
    | none => False) := (rfl)
theorem rstq_box (U : Nat) (cs : List AV) (t q : Nat) (y : Operand) : rstq (.box U cs) t q y T σ K = (match T t with
    | some i => astore σ i (.tmp q) y none K
    | none => False) := (rfl)
theorem rstq_ref (s off : Nat) (t q : Nat) (y : Operand) : rstq (.ref s off) t q y T σ K = (match T t with
    | some i => astore σ i (.tmp q) y none K
    | none => False) := (rfl)
theorem rpst_row (i : TI) (e k' : Nat) (es : List AV) (s k j off : Nat) (z : AV) : rpst i (.row e k' es) s k j off z none σ K = (k' = k ∧ j < es.length ∧ off + i.size ≤ k ∧ okc z = true ∧ (cellsOf z).length = i.size ∧ K (σ.set s (.row e k (es.set j (mkel (es.getD j .any) (pleft (cellsOf (es.getD j .any)) off i.size (cellsOf z))))))) := (rfl)
theorem do_store (t q : Nat) (y : Operand) : dcop P T none (.store t (.tmp q) y) σ K = rstq (σ.getD q .any) t q y T σ K := by
  unfold dcop bop rstq
  dsimp only
  cases σ.getD q .any <;> rfl
theorem co_conv (d s t : Nat) (x : Operand) : cop P T (some d) (.convert s t x) σ K = (match T s, T t with
    | some i, some j => aconv2 T i j (aev σ x) (kset d σ K)
    | _, _ => False) := (rfl)
theorem do_conv (d s t : Nat) (x : Operand) : dcop P T (some d) (.convert s t x) σ K = (match T s, T t with
    | some i, some j => aconv2 T i j (aev σ x) (kset d σ K)
    | _, _ => False) := (rfl)
theorem co_makeFunc (d f : Nat) : cop P T (some d) (.makeFunc (.func f) #[] #[]) σ K = K (σ.set d (.raw (.func (.func f) #[] #[]))) := (rfl)
theorem do_makeFunc (d f : Nat) : dcop P T (some d) (.makeFunc (.func f) #[] #[]) σ K = K (σ.set d (.raw (.func (.func f) #[] #[]))) := (rfl)
theorem co_makeSlice (d t : Nat) (x y : Operand) : cop P T (some d) (.makeSlice t x y) σ K = (match T t with
    | some i => match i.td.elem with
      | some e => match T e with
        | some j => amakeSlice e j (aev σ x) (aev σ y) (kset d σ K)
        | none => False
      | none => False
    | none => False) := (rfl)
theorem do_makeSlice (d t : Nat) (x y : Operand) : dcop P T (some d) (.makeSlice t x y) σ K = (match T t with
    | some i => match i.td.elem with
      | some e => match T e with
        | some j => amakeSlice e j (aev σ x) (aev σ y) (kset d σ K)
        | none => False
      | none => False
    | none => False) := (rfl)
def rfdq (x : AV) (t f q d : Nat) (T : Tab) (σ : List AV) (K : List AV → Prop) : Prop := match x with
  | .pref s k j off => (match T t with
    | some i => rfad i.td.flds[f]? (σ.getD s .any) s k j off (some d) σ K
    | none => False)
  | _ => (match T t with
    | some i => afieldAddr σ i (.tmp q) f (some d) K
    | none => False)
theorem co_fieldAddr (d t f q : Nat) : cop P T (some d) (.fieldAddr t (.tmp q) f) σ K = rfdq (σ.getD q .any) t f q d T σ K := by
  unfold cop rop rfdq
  dsimp only
  cases σ.getD q .any <;> rfl
theorem rfdq_pref (s k j off t f q d : Nat) : rfdq (.pref s k j off) t f q d T σ K = (match T t with
    | some i => rfad i.td.flds[f]? (σ.getD s .any) s k j off (some d) σ K
    | none => False) := (rfl)
theorem rfdq_box (U : Nat) (cs : List AV) (t f q d : Nat) : rfdq (.box U cs) t f q d T σ K = (match T t with
    | some i => afieldAddr σ i (.tmp q) f (some d) K
    | none => False) := (rfl)
theorem rfdq_ref (s off : Nat) (t f q d : Nat) : rfdq (.ref s off) t f q d T σ K = (match T t with
    | some i => afieldAddr σ i (.tmp q) f (some d) K
    | none => False) := (rfl)
theorem rfdq_elt (x : AV) (t f q d : Nat) : rfdq (.elt x) t f q d T σ K = (match T t with
    | some i => afieldAddr σ i (.tmp q) f (some d) K
    | none => False) := (rfl)
theorem rfad_row (f n : Nat) (ag : Bool) (e k' : Nat) (es : List AV) (s k j off d : Nat) : rfad (some (f, some n, some ag)) (.row e k' es) s k j off (some d) σ K = (n ≠ 0 ∧ s ≠ d ∧ K (σ.set d (.pref s k j (off + f)))) := (rfl)
theorem do_fieldAddr (d t f q : Nat) : dcop P T (some d) (.fieldAddr t (.tmp q) f) σ K = rfdq (σ.getD q .any) t f q d T σ K := by
  unfold dcop bop rfdq
  dsimp only
  cases σ.getD q .any <;> rfl
def fld0 (o : Option TI) (x : AV) (σ : List AV) (s f d : Nat) (K : List AV → Prop) : Prop := match o with
  | some i => (match x with
    | .agg cs => (match i.td.flds[f]? with
      | some (off, some n, some agg) => (agg = false → n = 1) ∧ off + n ≤ cs.length ∧ K ((σ.set s (.agg (pleft cs off n ((pcells cs off n).map v1)))).set d (pl (pval agg (pcells cs off n))))
      | _ => False)
    | _ => False)
  | none => False
def fld1 (p : Option (Nat × Option Nat × Option Bool)) (cs σ : List AV) (s d : Nat) (K : List AV → Prop) : Prop := match p with
  | some (off, some n, some agg) => (agg = false → n = 1) ∧ off + n ≤ cs.length ∧ K ((σ.set s (.agg (pleft cs off n ((pcells cs off n).map v1)))).set d (pl (pval agg (pcells cs off n))))
  | _ => False
theorem co_field (d t f s : Nat) : cop P T (some d) (.field t (.tmp s) f) σ K = fld0 (T t) (σ.getD s .any) σ s f d K := (rfl)
theorem do_field (d t f s : Nat) : dcop P T (some d) (.field t (.tmp s) f) σ K = fld0 (T t) (σ.getD s .any) σ s f d K := (rfl)
theorem fld0_agg (i : TI) (cs : List AV) (s f d : Nat) : fld0 (some i) (.agg cs) σ s f d K = fld1 i.td.flds[f]? cs σ s d K := (rfl)
theorem fld1_some (off n : Nat) (agg : Bool) (cs : List AV) (s d : Nat) : fld1 (some (off, some n, some agg)) cs σ s d K = ((agg = false → n = 1) ∧ off + n ≤ cs.length ∧ K ((σ.set s (.agg (pleft cs off n ((pcells cs off n).map v1)))).set d (pl (pval agg (pcells cs off n))))) := (rfl)
theorem co_extract (d n : Nat) (x : Operand) : cop P T (some d) (.extract x n) σ K = aextract σ x n (some d) K := (rfl)
theorem do_extract (d n : Nat) (x : Operand) : dcop P T (some d) (.extract x n) σ K = aextract σ x n (some d) K := (rfl)
theorem do_len (d t : Nat) (x : Operand) : dcop P T (some d) (.call ⟨.builtin .len, #[x], #[t]⟩) σ K = (match T t with
    | some i => alen i (aev σ x) (kset d σ K)
    | none => False) := (rfl)
theorem do_append (d t t' : Nat) (x y : Operand) : dcop P T (some d) (.call ⟨.builtin .append, #[x, y], #[t, t']⟩) σ K = (t = t' ∧ match T t with
    | some i => match i.td.elem with
      | some e => match T e with
        | some j => aappend σ e j x y (some d) K
        | none => False
      | none => False
    | none => False) := (rfl)
theorem co_min (d : Nat) (x y : Operand) (ts : Array TypeId) : cop P T (some d) (.call ⟨.builtin .min, #[x, y], ts⟩) σ K = amax false (aev σ x) (aev σ y) (kset d σ K) := (rfl)
theorem do_min (d : Nat) (x y : Operand) (ts : Array TypeId) : dcop P T (some d) (.call ⟨.builtin .min, #[x, y], ts⟩) σ K = amax false (aev σ x) (aev σ y) (kset d σ K) := (rfl)
theorem co_max (d : Nat) (x y : Operand) (ts : Array TypeId) : cop P T (some d) (.call ⟨.builtin .max, #[x, y], ts⟩) σ K = amax true (aev σ x) (aev σ y) (kset d σ K) := (rfl)
theorem do_max (d : Nat) (x y : Operand) (ts : Array TypeId) : dcop P T (some d) (.call ⟨.builtin .max, #[x, y], ts⟩) σ K = amax true (aev σ x) (aev σ y) (kset d σ K) := (rfl)
theorem do_call (d : Option Nat) (f : Operand) (xs : Array Operand) (ts : Array TypeId) : dcop P T d (.call ⟨.value f, xs, ts⟩) σ K = acall P σ f xs.toList d K := (rfl)
def rmv (x : AV) (t d : Nat) (σ : List AV) (K : List AV → Prop) : Prop := match x with
  | .row _ _ _ => t ≠ d ∧ K (σ.set d (.alias t))
  | .alias s => s ≠ d ∧ K (σ.set d (.alias s))
  | x => K (mvs x t d σ)
theorem co_move (d t : Nat) : cop P T (some d) (.move (.tmp t)) σ K = rmv (σ.getD t .any) t d σ K := by
  unfold cop rop
  simp only [aop, aset, amv, aev, rmv, mvs]
  cases σ.getD t .any <;> rfl
theorem do_move (d t : Nat) : dcop P T (some d) (.move (.tmp t)) σ K = rmv (σ.getD t .any) t d σ K := by
  unfold dcop bop
  dsimp only
  simp only [bop0, aop, aset, amv, aev, rmv, mvs]
  cases σ.getD t .any <;> rfl
theorem rmv_raw (v : Value) (t d : Nat) : rmv (.raw v) t d σ K = K (σ.set d (.raw v)) := (rfl)
theorem rmv_sl (k : Nat) (es : List AV) (t d : Nat) : rmv (.sl k es) t d σ K = K (σ.set d (.sl k es)) := (rfl)
theorem rmv_nil (t d : Nat) : rmv .nil t d σ K = K (σ.set d .nil) := (rfl)
theorem rmv_elt (x : AV) (t d : Nat) : rmv (.elt x) t d σ K = K (σ.set d (.elt x)) := (rfl)
theorem rmv_own (e k : Nat) (es : List AV) (t d : Nat) : rmv (.own e k es) t d σ K = K ((σ.set t (.sl k es)).set d (.own e k es)) := (rfl)
theorem rmv_agg (cs : List AV) (t d : Nat) : rmv (.agg cs) t d σ K = K ((σ.set t (.agg (cs.map v1))).set d (.agg cs)) := (rfl)
theorem rmv_tup (cs : List AV) (t d : Nat) : rmv (.tup cs) t d σ K = K ((σ.set t (.tup (cs.map v2))).set d (.tup cs)) := (rfl)
theorem rmv_mine (e k : Nat) (es : List AV) (t d : Nat) : rmv (.mine e k es) t d σ K = K ((σ.set t .any).set d (.mine e k es)) := (rfl)
theorem rmv_any (t d : Nat) : rmv .any t d σ K = K (σ.set d .any) := (rfl)
theorem rmv_row (e k : Nat) (es : List AV) (t d : Nat) : rmv (.row e k es) t d σ K = (t ≠ d ∧ K (σ.set d (.alias t))) := (rfl)
theorem rmv_alias (s t d : Nat) : rmv (.alias s) t d σ K = (s ≠ d ∧ K (σ.set d (.alias s))) := (rfl)
def ras (x : AV) (t d : Nat) (σ : List AV) (K : List AV → Prop) : Prop := match x with
  | .row e k es => t ≠ d ∧ (σ.set t .any).all (nrf d) = true ∧ K ((σ.set t .any).set d (.row e k es))
  | x => K (mvs x t d σ)
theorem co_assign (d t : Nat) : cop P T (some d) (.assign (.tmp t)) σ K = ras (σ.getD t .any) t d σ K := by
  unfold cop rop
  simp only [aop, aset, amv, aev, ras, mvs]
  cases σ.getD t .any <;> rfl
theorem ras_raw (v : Value) (t d : Nat) : ras (.raw v) t d σ K = K (σ.set d (.raw v)) := (rfl)
theorem ras_sl (k : Nat) (es : List AV) (t d : Nat) : ras (.sl k es) t d σ K = K (σ.set d (.sl k es)) := (rfl)
theorem ras_nil (t d : Nat) : ras .nil t d σ K = K (σ.set d .nil) := (rfl)
theorem ras_elt (x : AV) (t d : Nat) : ras (.elt x) t d σ K = K (σ.set d (.elt x)) := (rfl)
theorem ras_own (e k : Nat) (es : List AV) (t d : Nat) : ras (.own e k es) t d σ K = K ((σ.set t (.sl k es)).set d (.own e k es)) := (rfl)
theorem ras_agg (cs : List AV) (t d : Nat) : ras (.agg cs) t d σ K = K ((σ.set t (.agg (cs.map v1))).set d (.agg cs)) := (rfl)
theorem ras_tup (cs : List AV) (t d : Nat) : ras (.tup cs) t d σ K = K ((σ.set t (.tup (cs.map v2))).set d (.tup cs)) := (rfl)
theorem ras_mine (e k : Nat) (es : List AV) (t d : Nat) : ras (.mine e k es) t d σ K = K ((σ.set t .any).set d (.mine e k es)) := (rfl)
theorem ras_any (t d : Nat) : ras .any t d σ K = K (σ.set d .any) := (rfl)
theorem ras_row (e k : Nat) (es : List AV) (t d : Nat) : ras (.row e k es) t d σ K = (t ≠ d ∧ (σ.set t .any).all (nrf d) = true ∧ K ((σ.set t .any).set d (.row e k es))) := (rfl)
def rlen (x : AV) (i : TI) (σ : List AV) (K : AV → Prop) : Prop := match x with
  | .row _ _ es => i.td.elem.isSome = true ∧ K (.raw (.int .i64 (es.length : Int)))
  | .alias s => (match σ.getD s .any with
    | .row _ _ es => i.td.elem.isSome = true ∧ K (.raw (.int .i64 (es.length : Int)))
    | _ => False)
  | x => alen i (pl x) K
theorem co_len (d t ty : Nat) : cop P T (some d) (.call ⟨.builtin .len, #[.tmp t], #[ty]⟩) σ K = (match T ty with
    | some i => rlen (σ.getD t .any) i σ (kset d σ K)
    | none => False) := by
  unfold cop rop
  simp only [aop, aset, aev, rlen, rbase]
  cases σ.getD t .any <;> simp only [pl, alen] <;> first
    | rfl
    | (rename_i s
       cases σ.getD s .any <;> simp only [] <;> first
         | rfl
         | (cases T ty <;> rfl))
    | (cases T ty <;> rfl)
def rapp (σ : List AV) (e : Nat) (j : TI) (x : AV) (t : Nat) (y : Operand) (d : Option Nat) (K : List AV → Prop) : Prop := match x with
  | .row e' k xs => rappend σ e j t t e' k xs y d K
  | .alias s => (match σ.getD s .any with
    | .row e' k xs => rappend σ e j t s e' k xs y d K
    | _ => False)
  | _ => aappend σ e j (.tmp t) y d K
theorem co_append (d t ty ty' : Nat) (y : Operand) : cop P T (some d) (.call ⟨.builtin .append, #[.tmp t, y], #[ty, ty']⟩) σ K = (ty = ty' ∧ match T ty with
    | some i => match i.td.elem with
      | some e => match T e with
        | some j => rapp σ e j (σ.getD t .any) t y (some d) K
        | none => False
      | none => False
    | none => False) := by
  unfold cop rop
  simp only [aop, rbase]
  cases hx : σ.getD t .any <;> simp only [] <;> first
    | rfl
    | (rename_i s
       cases hs : σ.getD s .any <;> simp only [rapp, hs] <;> first
         | rfl
         | (cases T ty with
            | none => rfl
            | some i =>
              simp only []
              cases i.td.elem with
              | none => rfl
              | some e =>
                simp only []
                cases T e with
                | none => rfl
                | some j => simp only [aappend, aev, hx, pl, adst]))
def rcl (P : Program) (σ : List AV) (x : AV) (g t : Nat) (rest : List Operand) (d : Option Nat) (K : List AV → Prop) : Prop := match x with
  | .row e k es => rcall P σ g t e k es rest d K
  | .alias s => (match σ.getD s .any with
    | .row e k es => rcall P σ g s e k es rest d K
    | _ => acall P σ (.func g) (.tmp t :: rest) d K)
  | _ => acall P σ (.func g) (.tmp t :: rest) d K
theorem co_call (d : Option Nat) (g t : Nat) (rest : List Operand) (ts : Array TypeId) : cop P T d (.call ⟨.value (.func g), ⟨.tmp t :: rest⟩, ts⟩) σ K = rcl P σ (σ.getD t .any) g t rest d K := by
  unfold cop rop
  simp only [aop, rbase, rcl]
  cases σ.getD t .any <;> simp only [] <;> first
    | rfl
    | (rename_i s
       cases σ.getD s .any <;> rfl)
theorem co_call0 (d : Option Nat) (f : Operand) (ts : Array TypeId) : cop P T d (.call ⟨.value f, #[], ts⟩) σ K = acall P σ f [] d K := by
  cases f <;> rfl
theorem co_callc (d : Option Nat) (f : Operand) (v : Value) (rest : List Operand) (ts : Array TypeId) : cop P T d (.call ⟨.value f, ⟨.const v :: rest⟩, ts⟩) σ K = acall P σ f (.const v :: rest) d K := by
  cases f <;> rfl
theorem co_callf (d : Option Nat) (f : Operand) (g : Nat) (rest : List Operand) (ts : Array TypeId) : cop P T d (.call ⟨.value f, ⟨.func g :: rest⟩, ts⟩) σ K = acall P σ f (.func g :: rest) d K := by
  cases f <;> rfl
theorem co_callt (d : Option Nat) (t : Nat) (xs : Array Operand) (ts : Array TypeId) : cop P T d (.call ⟨.value (.tmp t), xs, ts⟩) σ K = acall P σ (.tmp t) xs.toList d K := (rfl)
theorem rcl_raw (v : Value) (g t : Nat) (rest : List Operand) (d : Option Nat) : rcl P σ (.raw v) g t rest d K = acall P σ (.func g) (.tmp t :: rest) d K := (rfl)
theorem rcl_sl (k : Nat) (es : List AV) (g t : Nat) (rest : List Operand) (d : Option Nat) : rcl P σ (.sl k es) g t rest d K = acall P σ (.func g) (.tmp t :: rest) d K := (rfl)
theorem rcl_nil (g t : Nat) (rest : List Operand) (d : Option Nat) : rcl P σ .nil g t rest d K = acall P σ (.func g) (.tmp t :: rest) d K := (rfl)
theorem rcl_mine (e k : Nat) (es : List AV) (g t : Nat) (rest : List Operand) (d : Option Nat) : rcl P σ (.mine e k es) g t rest d K = acall P σ (.func g) (.tmp t :: rest) d K := (rfl)
theorem rcl_own (e k : Nat) (es : List AV) (g t : Nat) (rest : List Operand) (d : Option Nat) : rcl P σ (.own e k es) g t rest d K = acall P σ (.func g) (.tmp t :: rest) d K := (rfl)
theorem rcl_agg (cs : List AV) (g t : Nat) (rest : List Operand) (d : Option Nat) : rcl P σ (.agg cs) g t rest d K = acall P σ (.func g) (.tmp t :: rest) d K := (rfl)
theorem rcl_row (e k : Nat) (es : List AV) (g t : Nat) (rest : List Operand) (d : Option Nat) : rcl P σ (.row e k es) g t rest d K = rcall P σ g t e k es rest d K := (rfl)
theorem rcl_alias (s g t : Nat) (rest : List Operand) (d : Option Nat) : rcl P σ (.alias s) g t rest d K = (match σ.getD s .any with
    | .row e k es => rcall P σ g s e k es rest d K
    | _ => acall P σ (.func g) (.tmp t :: rest) d K) := (rfl)
theorem tchp_move (rb : List Nat) (x : Operand) (A : Prop) : tchp rb (.move x) σ A = A := by cases x <;> rfl
theorem tchp_assign (rb : List Nat) (x : Operand) (A : Prop) : tchp rb (.assign x) σ A = A := (rfl)
theorem tchp_pick (rb : List Nat) (c x y : Operand) (A : Prop) : tchp rb (.pick c x y) σ A = A := (rfl)
theorem tchp_bin (rb : List Nat) (op : BinOp) (t t' : Nat) (x y : Operand) (A : Prop) : tchp rb (.binOp op t x y t') σ A = A := (rfl)
theorem tchp_un (rb : List Nat) (op : UnOp) (t : Nat) (x : Operand) (A : Prop) : tchp rb (.unOp op t x) σ A = A := (rfl)
theorem tchp_call (rb : List Nat) (c : Call) (A : Prop) : tchp rb (.call c) σ A = A := (rfl)
theorem tchp_build (rb : List Nat) (t : Nat) (ps : Array (Nat × Operand)) (A : Prop) : tchp rb (.build t ps) σ A = A := (rfl)
theorem tchp_buildSlice (rb : List Nat) (t n : Nat) (ps : Array (Nat × Operand)) (A : Prop) : tchp rb (.buildSlice t n ps) σ A = A := (rfl)
theorem tchp_index (rb : List Nat) (t : Nat) (x y : Operand) (A : Prop) : tchp rb (.index t x y) σ A = A := (rfl)
theorem tchp_slice (rb : List Nat) (t : Nat) (x : Operand) (lo hi mx : Option Operand) (A : Prop) : tchp rb (.slice t x lo hi mx) σ A = A := (rfl)
theorem tchp_alloc (rb : List Nat) (t : Nat) (A : Prop) : tchp rb (.alloc t) σ A = A := (rfl)
theorem tchp_box (rb : List Nat) (t : Nat) (x : Operand) (A : Prop) : tchp rb (.box t x) σ A = A := (rfl)
theorem tchp_conv (rb : List Nat) (s t : Nat) (x : Operand) (A : Prop) : tchp rb (.convert s t x) σ A = A := (rfl)
theorem tchp_makeFunc (rb : List Nat) (f : Fn) (xs ys : Array Operand) (A : Prop) : tchp rb (.makeFunc f xs ys) σ A = A := (rfl)
theorem tchp_makeSlice (rb : List Nat) (t : Nat) (x y : Operand) (A : Prop) : tchp rb (.makeSlice t x y) σ A = A := (rfl)
theorem tchp_field (rb : List Nat) (t f : Nat) (x : Operand) (A : Prop) : tchp rb (.field t x f) σ A = A := (rfl)
theorem tchp_extract (rb : List Nat) (n : Nat) (x : Operand) (A : Prop) : tchp rb (.extract x n) σ A = A := (rfl)
def tch1 (x : AV) (s : Nat) (rb : List Nat) (A : Prop) : Prop := match x with
  | .ref s' _ => rb.contains (s * 100000 + s') = true ∧ s' < 100000 ∧ A
  | .pref s' _ _ _ => rb.contains (s * 100000 + s') = true ∧ s' < 100000 ∧ A
  | _ => A
def tch2 (x : AV) (s : Nat) (rb : List Nat) (A : Prop) : Prop := match x with
  | .alias s' => rb.contains (s * 100000 + s') = true ∧ s' < 100000 ∧ A
  | _ => A
theorem tch2_alias (s' s : Nat) (rb : List Nat) (A : Prop) : tch2 (.alias s') s rb A = (rb.contains (s * 100000 + s') = true ∧ s' < 100000 ∧ A) := (rfl)
theorem tch2_row (e k : Nat) (es : List AV) (s : Nat) (rb : List Nat) (A : Prop) : tch2 (.row e k es) s rb A = A := (rfl)
theorem tch2_sl (k : Nat) (es : List AV) (s : Nat) (rb : List Nat) (A : Prop) : tch2 (.sl k es) s rb A = A := (rfl)
theorem tch2_own (e k : Nat) (es : List AV) (s : Nat) (rb : List Nat) (A : Prop) : tch2 (.own e k es) s rb A = A := (rfl)
theorem tch2_mine (e k : Nat) (es : List AV) (s : Nat) (rb : List Nat) (A : Prop) : tch2 (.mine e k es) s rb A = A := (rfl)
theorem tch2_box (U : Nat) (cs : List AV) (s : Nat) (rb : List Nat) (A : Prop) : tch2 (.box U cs) s rb A = A := (rfl)
theorem tch2_ref (s' o s : Nat) (rb : List Nat) (A : Prop) : tch2 (.ref s' o) s rb A = A := (rfl)
theorem tch2_elt (x : AV) (s : Nat) (rb : List Nat) (A : Prop) : tch2 (.elt x) s rb A = A := (rfl)
theorem tch2_raw (v : Value) (s : Nat) (rb : List Nat) (A : Prop) : tch2 (.raw v) s rb A = A := (rfl)
theorem tch1_pref (s' k j o s : Nat) (rb : List Nat) (A : Prop) : tch1 (.pref s' k j o) s rb A = (rb.contains (s * 100000 + s') = true ∧ s' < 100000 ∧ A) := (rfl)
theorem tch1_ref (s' off s : Nat) (rb : List Nat) (A : Prop) : tch1 (.ref s' off) s rb A = (rb.contains (s * 100000 + s') = true ∧ s' < 100000 ∧ A) := (rfl)
theorem tch1_box (U : Nat) (cs : List AV) (s : Nat) (rb : List Nat) (A : Prop) : tch1 (.box U cs) s rb A = A := (rfl)
theorem tch1_elt (x : AV) (s : Nat) (rb : List Nat) (A : Prop) : tch1 (.elt x) s rb A = A := (rfl)
theorem tchp_indexAddr (rb : List Nat) (t s : Nat) (y : Operand) (A : Prop) : tchp rb (.indexAddr t (.tmp s) y) σ A = tch2 (σ.getD s .any) s rb A := (rfl)
theorem tchp_load (rb : List Nat) (t s : Nat) (A : Prop) : tchp rb (.load t (.tmp s)) σ A = tch1 (σ.getD s .any) s rb A := (rfl)
theorem tchp_store (rb : List Nat) (t s : Nat) (y : Operand) (A : Prop) : tchp rb (.store t (.tmp s) y) σ A = tch1 (σ.getD s .any) s rb A := (rfl)
theorem tchp_fieldAddr (rb : List Nat) (t s f : Nat) (A : Prop) : tchp rb (.fieldAddr t (.tmp s) f) σ A = tch1 (σ.getD s .any) s rb A := (rfl)
/-! ## rules by what stands in a slot -/
def ald (x : AV) (s : Nat) (i : TI) (σ : List AV) (d : Nat) (K : List AV → Prop) : Prop := match x with
  | .box U cs => lsz i ≤ cs.length ∧ K ((σ.set s (.box U (pleft cs 0 (lsz i) ((pcells cs 0 (lsz i)).map v1)))).set d (pl (pval i.td.agg (pcells cs 0 (lsz i)))))
  | .ref s' off => (match σ.getD s' .any with
    | .box U cs => off + lsz i ≤ cs.length ∧ K ((σ.set s' (.box U (pleft cs off (lsz i) ((pcells cs off (lsz i)).map v1)))).set d (pl (pval i.td.agg (pcells cs off (lsz i)))))
    | _ => False)
  | .elt y => okc y = true ∧ (cellsOf y).length = lsz i ∧ K (σ.set d (pl (pval i.td.agg (cellsOf y))))
  | _ => False
def ald2 (x : AV) (s' off : Nat) (i : TI) (σ : List AV) (d : Nat) (K : List AV → Prop) : Prop := match x with
  | .box U cs => off + lsz i ≤ cs.length ∧ K ((σ.set s' (.box U (pleft cs off (lsz i) ((pcells cs off (lsz i)).map v1)))).set d (pl (pval i.td.agg (pcells cs off (lsz i)))))
  | _ => False
theorem aload_eq (i : TI) (s d : Nat) : aload σ i (.tmp s) (some d) K = ald (σ.getD s .any) s i σ d K := (rfl)
theorem ald_box (U : Nat) (cs : List AV) (s : Nat) (i : TI) (d : Nat) : ald (.box U cs) s i σ d K = (lsz i ≤ cs.length ∧ K ((σ.set s (.box U (pleft cs 0 (lsz i) ((pcells cs 0 (lsz i)).map v1)))).set d (pl (pval i.td.agg (pcells cs 0 (lsz i)))))) := (rfl)
theorem ald_ref (s' off s : Nat) (i : TI) (d : Nat) : ald (.ref s' off) s i σ d K = ald2 (σ.getD s' .any) s' off i σ d K := (rfl)
theorem ald_elt (y : AV) (s : Nat) (i : TI) (d : Nat) : ald (.elt y) s i σ d K = (okc y = true ∧ (cellsOf y).length = lsz i ∧ K (σ.set d (pl (pval i.td.agg (cellsOf y))))) := (rfl)
theorem ald2_box (U : Nat) (cs : List AV) (s' off : Nat) (i : TI) (d : Nat) : ald2 (.box U cs) s' off i σ d K = (off + lsz i ≤ cs.length ∧ K ((σ.set s' (.box U (pleft cs off (lsz i) ((pcells cs off (lsz i)).map v1)))).set d (pl (pval i.td.agg (pcells cs off (lsz i)))))) := (rfl)
def astq (x : AV) (s : Nat) (i : TI) (σ : List AV) (z : AV) (K : List AV → Prop) : Prop := match x with
  | .box U cs => okc z = true ∧ (cellsOf z).length = i.size ∧ i.size ≤ cs.length ∧ K (σ.set s (.box U (pleft cs 0 i.size (cellsOf z))))
  | .ref s' off => (match σ.getD s' .any with
    | .box U cs => okc z = true ∧ (cellsOf z).length = i.size ∧ off + i.size ≤ cs.length ∧ K (σ.set s' (.box U (pleft cs off i.size (cellsOf z))))
    | _ => False)
  | _ => False
def astq2 (x : AV) (s' off : Nat) (i : TI) (σ : List AV) (z : AV) (K : List AV → Prop) : Prop := match x with
  | .box U cs => okc z = true ∧ (cellsOf z).length = i.size ∧ off + i.size ≤ cs.length ∧ K (σ.set s' (.box U (pleft cs off i.size (cellsOf z))))
  | _ => False
theorem astore_eq (i : TI) (s : Nat) (y : Operand) : astore σ i (.tmp s) y none K = astq ((amv σ y).getD s .any) s i (amv σ y) (aev σ y) K := (rfl)
theorem astq_box (U : Nat) (cs : List AV) (s : Nat) (i : TI) (z : AV) : astq (.box U cs) s i σ z K = (okc z = true ∧ (cellsOf z).length = i.size ∧ i.size ≤ cs.length ∧ K (σ.set s (.box U (pleft cs 0 i.size (cellsOf z))))) := (rfl)
theorem astq_ref (s' off s : Nat) (i : TI) (z : AV) : astq (.ref s' off) s i σ z K = astq2 (σ.getD s' .any) s' off i σ z K := (rfl)
theorem astq2_box (U : Nat) (cs : List AV) (s' off : Nat) (i : TI) (z : AV) : astq2 (.box U cs) s' off i σ z K = (okc z = true ∧ (cellsOf z).length = i.size ∧ off + i.size ≤ cs.length ∧ K (σ.set s' (.box U (pleft cs off i.size (cellsOf z))))) := (rfl)
def fad (p : Option (Nat × Option Nat × Option Bool)) (x : AV) (s d : Nat) (σ : List AV) (K : List AV → Prop) : Prop := match p with
  | some (off, some n, some agg) => (match x with
    | .box _ _ => n ≠ 0 ∧ s ≠ d ∧ K (σ.set d (.ref s off))
    | .ref s' o => (match σ.getD s' .any with
      | .box _ _ => n ≠ 0 ∧ s' ≠ d ∧ K (σ.set d (.ref s' (o + off)))
      | _ => False)
    | .elt y => n ≠ 0 ∧ okc y = true ∧ (agg = false → n = 1) ∧ off + n ≤ (cellsOf y).length ∧ K (σ.set d (.elt (pval agg (pcells (cellsOf y) off n))))
    | _ => False)
  | _ => False
def fad2 (x : AV) (s' o n d : Nat) (σ : List AV) (K : List AV → Prop) : Prop := match x with
  | .box _ _ => n ≠ 0 ∧ s' ≠ d ∧ K (σ.set d (.ref s' o))
  | _ => False
theorem afieldAddr_eq (i : TI) (s f d : Nat) : afieldAddr σ i (.tmp s) f (some d) K = fad i.td.flds[f]? (σ.getD s .any) s d σ K := by
  unfold afieldAddr fad
  generalize i.td.flds[f]? = p
  cases p with
  | none => rfl
  | some p =>
    obtain ⟨off, n, g⟩ := p
    cases n <;> cases g <;> rfl
theorem fad_box (off n : Nat) (agg : Bool) (U : Nat) (cs : List AV) (s d : Nat) : fad (some (off, some n, some agg)) (.box U cs) s d σ K = (n ≠ 0 ∧ s ≠ d ∧ K (σ.set d (.ref s off))) := (rfl)
theorem fad_ref (off n : Nat) (agg : Bool) (s' o s d : Nat) : fad (some (off, some n, some agg)) (.ref s' o) s d σ K = fad2 (σ.getD s' .any) s' (o + off) n d σ K := (rfl)
theorem fad2_box (U : Nat) (cs : List AV) (s' o n d : Nat) : fad2 (.box U cs) s' o n d σ K = (n ≠ 0 ∧ s' ≠ d ∧ K (σ.set d (.ref s' o))) := (rfl)
theorem fad_elt (off n : Nat) (agg : Bool) (y : AV) (s d : Nat) : fad (some (off, some n, some agg)) (.elt y) s d σ K = (n ≠ 0 ∧ okc y = true ∧ (agg = false → n = 1) ∧ off + n ≤ (cellsOf y).length ∧ K (σ.set d (.elt (pval agg (pcells (cellsOf y) off n))))) := (rfl)
/-- The address of an element. -/
def iad (T : Tab) (i : TI) (x y : AV) (s d : Nat) (σ : List AV) (K : List AV → Prop) : Prop := match x with
  | .box _ _ => (match i.td.arr, y with
    | some (len, e), .raw (.int _ n) => (match T e with
      | some j => 0 ≤ n ∧ n < len ∧ s ≠ d ∧ K (σ.set d (.ref s (n.toNat * j.size)))
      | none => False)
    | _, _ => False)
  | x => aindexAddr T i (pl x) y (kset d σ K)
def iad2 (a : Option (Nat × Nat)) (T : Tab) (n : Int) (s d : Nat) (σ : List AV) (K : List AV → Prop) : Prop := match a with
  | some (len, e) => (match T e with
    | some j => 0 ≤ n ∧ n < len ∧ s ≠ d ∧ K (σ.set d (.ref s (n.toNat * j.size)))
    | none => False)
  | none => False
def iad3 (o : Option TI) (len : Nat) (n : Int) (s d : Nat) (σ : List AV) (K : List AV → Prop) : Prop := match o with
  | some j => 0 ≤ n ∧ n < len ∧ s ≠ d ∧ K (σ.set d (.ref s (n.toNat * j.size)))
  | none => False
theorem aindexAddrB_eq (i : TI) (s d : Nat) (y : Operand) : aindexAddrB T σ i (.tmp s) y (some d) K = iad T i (σ.getD s .any) (aev σ y) s d σ K := by
  have hx : aev σ (.tmp s) = pl (σ.getD s .any) := (rfl)
  unfold aindexAddrB iad
  simp only [hx]
  generalize aev σ y = u
  cases σ.getD s .any <;> try rfl
  cases i.td.arr <;> cases u <;> try rfl
  rename_i v
  cases v <;> rfl
theorem iad_box (i : TI) (U : Nat) (cs : List AV) (k : IntKind) (n : Int) (s d : Nat) : iad T i (.box U cs) (.raw (.int k n)) s d σ K = iad2 i.td.arr T n s d σ K := by
  unfold iad iad2
  cases i.td.arr <;> rfl
theorem iad2_some (len e : Nat) (n : Int) (s d : Nat) : iad2 (some (len, e)) T n s d σ K = iad3 (T e) len n s d σ K := (rfl)
theorem iad3_some (j : TI) (len : Nat) (n : Int) (s d : Nat) : iad3 (some j) len n s d σ K = (0 ≤ n ∧ n < len ∧ s ≠ d ∧ K (σ.set d (.ref s (n.toNat * j.size)))) := (rfl)
def iae (o : Option Nat) (T : Tab) (k : Nat) (es : List AV) (n : Int) (K : AV → Prop) : Prop := match o with
  | some e => (match T e with
    | some j => k = j.size ∧ 0 ≤ n ∧ n.toNat < es.length ∧ K (.elt (es.getD n.toNat .any))
    | none => False)
  | none => False
def iae2 (o : Option TI) (k : Nat) (es : List AV) (n : Int) (K : AV → Prop) : Prop := match o with
  | some j => k = j.size ∧ 0 ≤ n ∧ n.toNat < es.length ∧ K (.elt (es.getD n.toNat .any))
  | none => False
theorem iad_sl (i : TI) (k : Nat) (es : List AV) (kk : IntKind) (n : Int) (s d : Nat) : iad T i (.sl k es) (.raw (.int kk n)) s d σ K = iae i.td.elem T k es n (kset d σ K) := (rfl)
theorem iad_own (i : TI) (e k : Nat) (es : List AV) (kk : IntKind) (n : Int) (s d : Nat) : iad T i (.own e k es) (.raw (.int kk n)) s d σ K = iae i.td.elem T k es n (kset d σ K) := (rfl)
theorem iae_some (e k : Nat) (es : List AV) (n : Int) (K : AV → Prop) : iae (some e) T k es n K = iae2 (T e) k es n K := (rfl)
theorem iae2_some (j : TI) (k : Nat) (es : List AV) (n : Int) (K : AV → Prop) : iae2 (some j) k es n K = (k = j.size ∧ 0 ≤ n ∧ n.toNat < es.length ∧ K (.elt (es.getD n.toNat .any))) := (rfl)
theorem aalloc_eq (t : Nat) (i : TI) (d : Nat) : aalloc σ t i (some d) K = (allOne i.zero = true ∧ σ.all (nrf d) = true ∧ K (σ.set d (.box t (i.zero.map ac1)))) := (rfl)
theorem abox_eq (t : Nat) (x : Operand) (d : Nat) : abox σ t x (some d) K = (okc (aev σ x) = true ∧ (amv σ x).all (nrf d) = true ∧ K ((amv σ x).set d (.box t (cellsOf (aev σ x))))) := (rfl)
def afi (p : Option (Nat × Option Nat × Option Bool)) (flds : List (Nat × Option Nat × Option Bool)) (x : AV) (r : List (Nat × AV)) (cs : List AV) (K : List AV → Prop) : Prop := match p with
  | some (off, some size, _) => okc x = true ∧ (cellsOf x).length = size ∧ off + size ≤ cs.length ∧ afill flds r (pleft cs off size (cellsOf x)) K
  | _ => False
theorem afill_nil (flds : List (Nat × Option Nat × Option Bool)) (cs : List AV) : afill flds [] cs K = K cs := (rfl)
theorem afill_cons (flds : List (Nat × Option Nat × Option Bool)) (i : Nat) (x : AV) (r : List (Nat × AV)) (cs : List AV) : afill flds ((i, x) :: r) cs K = afi flds[i]? flds x r cs K := by
  unfold afi
  simp only [afill]
  generalize flds[i]? = p
  cases p with
  | none => rfl
  | some p => obtain ⟨off, n, g⟩ := p; cases n <;> rfl
theorem afi_some (off size : Nat) (g : Option Bool) (flds : List (Nat × Option Nat × Option Bool)) (x : AV) (r : List (Nat × AV)) (cs : List AV) : afi (some (off, some size, g)) flds x r cs K = (okc x = true ∧ (cellsOf x).length = size ∧ off + size ≤ cs.length ∧ afill flds r (pleft cs off size (cellsOf x)) K) := (rfl)
def abs2 (is : List Nat) (p : List AV × List AV) (e : Nat) (j : TI) (n d : Nat) (K : List AV → Prop) : Prop :=
  is = List.range n ∧ n * j.size ≤ 16777216 ∧ n ≤ 16777216 ∧ 0 < n * j.size ∧ rowOk j.size (p.1.map view) = true ∧ K (p.2.set d (.own e j.size (p.1.map view)))
theorem abuildSlice_eq (e : Nat) (j : TI) (n : Nat) (ps : List (Nat × Operand)) (d : Nat) : abuildSlice σ e j n ps (some d) K = abs2 (ps.map (·.1)) (agrab σ (ps.map (·.2))) e j n d K := (rfl)
theorem abs2_eq (is : List Nat) (xs σ' : List AV) (e : Nat) (j : TI) (n d : Nat) : abs2 is (xs, σ') e j n d K = (is = List.range n ∧ n * j.size ≤ 16777216 ∧ n ≤ 16777216 ∧ 0 < n * j.size ∧ rowOk j.size (xs.map view) = true ∧ K (σ'.set d (.own e j.size (xs.map view)))) := (rfl)
def acq (P : Program) (f : AV) (p : List AV × List AV) (d : Option Nat) (K : List AV → Prop) : Prop := match f with
  | .raw (.func (.func g) first caps) => first.toList = [] ∧ ACalls P g (p.1 ++ caps.toList.map ac1) (ksetO d p.2 K)
  | .clo g cs => ACalls P g (p.1 ++ cs) (ksetO d p.2 K)
  | _ => False
theorem acall_eq (f : Operand) (xs : List Operand) (d : Option Nat) : acall P σ f xs d K = acq P (aev σ f) (agrab σ xs) d K := (rfl)
theorem acq_fn (g : Nat) (xs σ' : List AV) (d : Option Nat) : acq P (.raw (.func (.func g) #[] #[])) (xs, σ') d K = ACalls P g xs (ksetO d σ' K) := by
  simp [acq]
theorem acq_clo (g : Nat) (cs xs σ' : List AV) (d : Option Nat) : acq P (.clo g cs) (xs, σ') d K = ACalls P g (xs ++ cs) (ksetO d σ' K) := (rfl)
theorem mvs_clo (g : Nat) (cs : List AV) (t d : Nat) : mvs (.clo g cs) t d σ = σ.set d (.clo g cs) := (rfl)
theorem rmv_clo (g : Nat) (cs : List AV) (t d : Nat) : rmv (.clo g cs) t d σ K = K (σ.set d (.clo g cs)) := (rfl)
theorem ras_clo (g : Nat) (cs : List AV) (t d : Nat) : ras (.clo g cs) t d σ K = K (σ.set d (.clo g cs)) := (rfl)
theorem rcl_clo (g' : Nat) (cs : List AV) (g t : Nat) (rest : List Operand) (d : Option Nat) : rcl P σ (.clo g' cs) g t rest d K = acall P σ (.func g) (.tmp t :: rest) d K := (rfl)
theorem rcl_elt (x : AV) (g t : Nat) (rest : List Operand) (d : Option Nat) : rcl P σ (.elt x) g t rest d K = acall P σ (.func g) (.tmp t :: rest) d K := (rfl)
theorem tw1_box (U : Nat) (cs : List AV) (m : Bool) (s : Nat) : tw1 (.box U cs) m s K σ = (cs.all zc1 = true ∧ K (σ.set s (.elt (.agg cs)))) := (rfl)
theorem co_makeFuncC (d f : Nat) (x : Operand) (xs : List Operand) : cop P T (some d) (.makeFunc (.func f) #[] (List.toArray (x :: xs))) σ K = (((x :: xs).map (aev σ)).all zc1 = true ∧ K (σ.set d (.clo f ((x :: xs).map (aev σ))))) := (rfl)
theorem do_makeFuncC (d f : Nat) (x : Operand) (xs : List Operand) : dcop P T (some d) (.makeFunc (.func f) #[] (List.toArray (x :: xs))) σ K = (((x :: xs).map (aev σ)).all zc1 = true ∧ K (σ.set d (.clo f ((x :: xs).map (aev σ))))) := (rfl)
end

/-- Operations on bits, closed. -/
def iand (k : IntKind) (a b : Int) : Int := k.wrap (BitVec.ofInt k.bits a &&& BitVec.ofInt k.bits b).toNat
def ior (k : IntKind) (a b : Int) : Int := k.wrap (BitVec.ofInt k.bits a ||| BitVec.ofInt k.bits b).toNat
def iandn (k : IntKind) (a b : Int) : Int := k.wrap (BitVec.ofInt k.bits a &&& ~~~ (BitVec.ofInt k.bits b)).toNat
def ixor (k : IntKind) (a b : Int) : Int := k.wrap (BitVec.ofInt k.bits a ^^^ BitVec.ofInt k.bits b).toNat
def ishl (k : IntKind) (a b : Int) : Int := k.wrap (a * 2 ^ (min b.toNat k.bits))
def ishr (k : IntKind) (a b : Int) : Int := a.fdiv (2 ^ (min b.toNat k.bits))
section
variable {P : Program} {T : Tab} {K : AV → Prop} {σ : List AV}
theorem abin_i_add (k k' : IntKind) (a b : Int) : abin .add (.raw (.int k a)) (.raw (.int k' b)) K = (k = k' ∧ K (.raw (.int k (k.wrap (a + b))))) := (rfl)
theorem abin_i_sub (k k' : IntKind) (a b : Int) : abin .sub (.raw (.int k a)) (.raw (.int k' b)) K = (k = k' ∧ K (.raw (.int k (k.wrap (a - b))))) := (rfl)
theorem abin_i_mul (k k' : IntKind) (a b : Int) : abin .mul (.raw (.int k a)) (.raw (.int k' b)) K = (k = k' ∧ K (.raw (.int k (k.wrap (a * b))))) := (rfl)
theorem abin_i_quo (k k' : IntKind) (a b : Int) : abin .quo (.raw (.int k a)) (.raw (.int k' b)) K = (k = k' ∧ b ≠ 0 ∧ K (.raw (.int k (k.wrap (a.tdiv b))))) := (rfl)
theorem abin_i_rem (k k' : IntKind) (a b : Int) : abin .rem (.raw (.int k a)) (.raw (.int k' b)) K = (k = k' ∧ b ≠ 0 ∧ K (.raw (.int k (a.tmod b)))) := (rfl)
theorem abin_i_and (k k' : IntKind) (a b : Int) : abin .and (.raw (.int k a)) (.raw (.int k' b)) K = (k = k' ∧ K (.raw (.int k (iand k a b)))) := (rfl)
theorem abin_i_or (k k' : IntKind) (a b : Int) : abin .or (.raw (.int k a)) (.raw (.int k' b)) K = (k = k' ∧ K (.raw (.int k (ior k a b)))) := (rfl)
theorem abin_i_andNot (k k' : IntKind) (a b : Int) : abin .andNot (.raw (.int k a)) (.raw (.int k' b)) K = (k = k' ∧ K (.raw (.int k (iandn k a b)))) := (rfl)
theorem abin_i_xor (k k' : IntKind) (a b : Int) : abin .xor (.raw (.int k a)) (.raw (.int k' b)) K = (k = k' ∧ K (.raw (.int k (ixor k a b)))) := (rfl)
theorem abin_i_eql (k k' : IntKind) (a b : Int) : abin .eql (.raw (.int k a)) (.raw (.int k' b)) K = (k = k' ∧ K (.raw (.bool (a == b)))) := (rfl)
theorem abin_i_neq (k k' : IntKind) (a b : Int) : abin .neq (.raw (.int k a)) (.raw (.int k' b)) K = (k = k' ∧ K (.raw (.bool (a != b)))) := (rfl)
theorem abin_i_lss (k k' : IntKind) (a b : Int) : abin .lss (.raw (.int k a)) (.raw (.int k' b)) K = (k = k' ∧ K (.raw (.bool (decide (a < b))))) := (rfl)
theorem abin_i_leq (k k' : IntKind) (a b : Int) : abin .leq (.raw (.int k a)) (.raw (.int k' b)) K = (k = k' ∧ K (.raw (.bool (decide (a ≤ b))))) := (rfl)
theorem abin_i_gtr (k k' : IntKind) (a b : Int) : abin .gtr (.raw (.int k a)) (.raw (.int k' b)) K = (k = k' ∧ K (.raw (.bool (decide (b < a))))) := (rfl)
theorem abin_i_geq (k k' : IntKind) (a b : Int) : abin .geq (.raw (.int k a)) (.raw (.int k' b)) K = (k = k' ∧ K (.raw (.bool (decide (b ≤ a))))) := (rfl)
theorem abin_i_shl (k k' : IntKind) (a b : Int) : abin .shl (.raw (.int k a)) (.raw (.int k' b)) K = (0 ≤ b ∧ K (.raw (.int k (ishl k a b)))) := (rfl)
theorem abin_i_shr (k k' : IntKind) (a b : Int) : abin .shr (.raw (.int k a)) (.raw (.int k' b)) K = (0 ≤ b ∧ K (.raw (.int k (ishr k a b)))) := (rfl)
theorem abin_s_add (s t : ByteArray) : abin .add (.raw (.string s)) (.raw (.string t)) K = (s.data.toList.length + t.data.toList.length ≤ 9223372036854775807 ∧ K (.raw (.string ⟨(s.data.toList ++ t.data.toList).toArray⟩))) := (rfl)
theorem abin_s_eql (s t : ByteArray) : abin .eql (.raw (.string s)) (.raw (.string t)) K = (K (.raw (.bool (s.data.toList == t.data.toList)))) := (rfl)
theorem abin_s_neq (s t : ByteArray) : abin .neq (.raw (.string s)) (.raw (.string t)) K = (K (.raw (.bool (!(s.data.toList == t.data.toList))))) := (rfl)
theorem abin_s_lss (s t : ByteArray) : abin .lss (.raw (.string s)) (.raw (.string t)) K = (K (.raw (.bool (Op.bytesLess s.data.toList t.data.toList)))) := (rfl)
theorem abin_s_leq (s t : ByteArray) : abin .leq (.raw (.string s)) (.raw (.string t)) K = (K (.raw (.bool (Op.bytesLess s.data.toList t.data.toList || s.data.toList == t.data.toList)))) := (rfl)
theorem abin_s_gtr (s t : ByteArray) : abin .gtr (.raw (.string s)) (.raw (.string t)) K = (K (.raw (.bool (!(Op.bytesLess s.data.toList t.data.toList || s.data.toList == t.data.toList))))) := (rfl)
theorem abin_s_geq (s t : ByteArray) : abin .geq (.raw (.string s)) (.raw (.string t)) K = (K (.raw (.bool (!(Op.bytesLess s.data.toList t.data.toList))))) := (rfl)
theorem abinT_a_eql (t : Nat) (xs ys : List AV) : abinT T .eql t (.agg xs) (.agg ys) K = abq1 (T t) xs ys K false := (rfl)
theorem abinT_a_neq (t : Nat) (xs ys : List AV) : abinT T .neq t (.agg xs) (.agg ys) K = abq1 (T t) xs ys K true := (rfl)
theorem abq1_some (i : TI) (xs ys : List AV) (neg : Bool) (K : AV → Prop) : abq1 (some i) xs ys K neg = abq2 i.eqs xs ys K neg := (rfl)
theorem abq2_some (q : List (Nat × Nat)) (xs ys : List AV) (neg : Bool) (K : AV → Prop) : abq2 (some q) xs ys K neg = abq3 (aeqs xs ys q) K neg := (rfl)
theorem abq3_f (b : Bool) (K : AV → Prop) : abq3 (some b) K false = K (.raw (.bool b)) := by simp [abq3]
theorem abq3_t (b : Bool) (K : AV → Prop) : abq3 (some b) K true = K (.raw (.bool (!b))) := by simp [abq3]
theorem aeqs_nil (xs ys : List AV) : aeqs xs ys [] = some true := (rfl)
theorem aeqs_cons (xs ys : List AV) (o k : Nat) (r : List (Nat × Nat)) : aeqs xs ys ((o, k) :: r) = aeqc (aeq1 (xs.getD o .any) (ys.getD o .any) k) (aeqs xs ys r) := (rfl)
theorem aeqc_some (a b : Bool) : aeqc (some a) (some b) = some (a && b) := (rfl)
theorem aeq1_i (k : IntKind) (a b : Int) : aeq1 (.raw (.int k a)) (.raw (.int k b)) 0 = some (a == b) := by simp [aeq1]
theorem aeq1_s (a b : List UInt8) : aeq1 (.raw (.string ⟨a.toArray⟩)) (.raw (.string ⟨b.toArray⟩)) 1 = some (a == b) := by simp [aeq1]
theorem aeq1_b (a b : Bool) : aeq1 (.raw (.bool a)) (.raw (.bool b)) 2 = some (a == b) := (rfl)
attribute [go_sem] abinT_a_eql abinT_a_neq abq1_some abq2_some abq3_f abq3_t aeqs_nil aeqs_cons aeqc_some aeq1_i aeq1_s aeq1_b
theorem abinT_b_eql (t : Nat) (a b : Bool) : abinT T .eql t (.raw (.bool a)) (.raw (.bool b)) K = ((T t).map (·.td.bl) = some true ∧ K (.raw (.bool (a == b)))) := (rfl)
theorem abinT_b_neq (t : Nat) (a b : Bool) : abinT T .neq t (.raw (.bool a)) (.raw (.bool b)) K = ((T t).map (·.td.bl) = some true ∧ K (.raw (.bool (a != b)))) := (rfl)
theorem aun_not (b : Bool) : aun .not (.raw (.bool b)) K = K (.raw (.bool (!b))) := (rfl)
theorem aun_neg (k : IntKind) (n : Int) : aun .neg (.raw (.int k n)) K = K (.raw (.int k (k.wrap (0 - n)))) := (rfl)
theorem rlen_raw (i : TI) (s : ByteArray) : rlen (.raw (.string s)) i σ K = (i.td.str = true ∧ K (.raw (.int .i64 (s.data.toList.length : Int)))) := (rfl)
theorem rlen_sl (i : TI) (k : Nat) (es : List AV) : rlen (.sl k es) i σ K = (i.td.elem.isSome = true ∧ K (.raw (.int .i64 (es.length : Int)))) := (rfl)
theorem rlen_own (i : TI) (e k : Nat) (es : List AV) : rlen (.own e k es) i σ K = (i.td.elem.isSome = true ∧ K (.raw (.int .i64 (es.length : Int)))) := (rfl)
theorem rlen_row (i : TI) (e k : Nat) (es : List AV) : rlen (.row e k es) i σ K = (i.td.elem.isSome = true ∧ K (.raw (.int .i64 (es.length : Int)))) := (rfl)
theorem rlen_nil (i : TI) : rlen .nil i σ K = (i.td.elem.isSome = true ∧ K (.raw (.int .i64 0))) := (rfl)
def rlen2 (x : AV) (i : TI) (K : AV → Prop) : Prop := match x with
  | .row _ _ es => i.td.elem.isSome = true ∧ K (.raw (.int .i64 (es.length : Int)))
  | _ => False
theorem rlen_alias (s : Nat) (i : TI) : rlen (.alias s) i σ K = rlen2 (σ.getD s .any) i K := (rfl)
theorem rlen2_row (i : TI) (e k : Nat) (es : List AV) : rlen2 (.row e k es) i K = (i.td.elem.isSome = true ∧ K (.raw (.int .i64 (es.length : Int)))) := (rfl)
theorem alen_str (i : TI) (s : ByteArray) : alen i (.raw (.string s)) K = (i.td.str = true ∧ K (.raw (.int .i64 (s.data.toList.length : Int)))) := (rfl)
theorem alen_sl (i : TI) (k : Nat) (es : List AV) : alen i (.sl k es) K = (i.td.elem.isSome = true ∧ K (.raw (.int .i64 (es.length : Int)))) := (rfl)
theorem alen_own (i : TI) (e k : Nat) (es : List AV) : alen i (.own e k es) K = (i.td.elem.isSome = true ∧ K (.raw (.int .i64 (es.length : Int)))) := (rfl)
theorem alen_nil (i : TI) : alen i .nil K = (i.td.elem.isSome = true ∧ K (.raw (.int .i64 0))) := (rfl)
theorem fin2_eq (sh bm : List Nat) (d : Option Nat) (σ' : List AV) (A : Prop) : fin2 sh bm d σ σ' A = fxp d σ σ' (nrp σ' A bm) sh := (rfl)
theorem fxp_nil (d : Option Nat) (σ' : List AV) (A : Prop) : fxp d σ σ' A [] = A := (rfl)
theorem fxp_cons (d : Option Nat) (σ' : List AV) (A : Prop) (s : Nat) (sh : List Nat) : fxp d σ σ' A (s :: sh) = ((d ≠ some s → σ'.getD s .any = σ.getD s .any) ∧ fxp d σ σ' A sh) := (rfl)
theorem nrp_nil (A : Prop) : nrp σ A [] = A := (rfl)
def nrp1 (b : Bool) (d : Nat) (σ : List AV) (A : Prop) : Prop := (bif b then isbxv (σ.getD (d - 100000) .any) else σ.all (nrf d)) = true ∧ A
theorem nrp_cons (A : Prop) (d : Nat) (bm : List Nat) : nrp σ A (d :: bm) = nrp1 (decide (100000 ≤ d)) d σ (nrp σ A bm) := (rfl)
theorem nrp1_f (d : Nat) (A : Prop) : nrp1 false d σ A = (σ.all (nrf d) = true ∧ A) := (rfl)
theorem nrp1_t (d : Nat) (A : Prop) : nrp1 true d σ A = (isbxv (σ.getD (d - 100000) .any) = true ∧ A) := (rfl)
theorem isbxv_box (U : Nat) (cs : List AV) : isbxv (.box U cs) = true := (rfl)
theorem cwp_lend {Q : Exit → List AV → Prop} (t s d g : Nat) (rest : List Operand) (dst : Option Nat) : cwp P T (.lend t s d g rest dst) Q σ = lendP P T t s d g rest dst (Q .normal) σ := (rfl)
def ldp1 (o : Option TI) (P : Program) (s d g : Nat) (rest : List Operand) (dst : Option Nat) (L : List AV → Prop) (σ : List AV) : Prop := match o with
  | some i => i.td.agg = false ∧ dst ≠ some s ∧ σ.length.ble d = false ∧ ldp2 P (σ.getD s .any) s d g rest dst L σ
  | none => False
theorem lendP_eq (t s d g : Nat) (rest : List Operand) (dst : Option Nat) (L : List AV → Prop) : lendP P T t s d g rest dst L σ = ldp1 (T t) P s d g rest dst L σ := (rfl)
theorem ldp1_some (i : TI) (s d g : Nat) (rest : List Operand) (dst : Option Nat) (L : List AV → Prop) : ldp1 (some i) P s d g rest dst L σ = (i.td.agg = false ∧ dst ≠ some s ∧ σ.length.ble d = false ∧ ldp2 P (σ.getD s .any) s d g rest dst L σ) := (rfl)
theorem ldp2_mine (Te e k : Nat) (es : List AV) (s d g : Nat) (rest : List Operand) (dst : Option Nat) (L : List AV → Prop) : ldp2 P (.box Te [.mine e k es]) s d g rest dst L σ = RCalls P g (.row e k es) (agrab ((σ.set s .any).set d .any) rest).1 (klend e k s Te dst (agrab ((σ.set s .any).set d .any) rest).2 L) := (rfl)
theorem klend_row (e k s Te : Nat) (dst : Option Nat) (τ : List AV) (L : List AV → Prop) (r : AV) (e' k' : Nat) (es' : List AV) : klend e k s Te dst τ L r (.row e' k' es') = (e' = e ∧ k' = k ∧ L (aset (τ.set s (.box Te [.mine e k es'])) dst r)) := (rfl)
theorem ares_nil (L : List AV → Prop) : ares T [] σ L = L [] := (rfl)
theorem ares_tmp (t : Nat) (rs : List ResultVar) (L : List AV → Prop) : ares T (.tmp t :: rs) σ L = ares T rs (amv σ (.tmp t)) fun vs => L (aev σ (.tmp t) :: vs) := (rfl)
def arcell (o : Option TI) (x : AV) (T : Tab) (rs : List ResultVar) (s : Nat) (σ : List AV) (L : List AV → Prop) : Prop := match o with
  | some i => (match x with
    | .box Te cs => lsz i ≤ cs.length ∧ ares T rs (σ.set s (.box Te (pleft cs 0 (lsz i) ((pcells cs 0 (lsz i)).map v1)))) fun vs => L (pl (pval i.td.agg (pcells cs 0 (lsz i))) :: vs)
    | _ => False)
  | none => False
theorem ares_cell (s t : Nat) (rs : List ResultVar) (L : List AV → Prop) : ares T (.cell s t :: rs) σ L = arcell (T t) (σ.getD s .any) T rs s σ L := (rfl)
theorem arcell_box (i : TI) (Te : Nat) (cs : List AV) (rs : List ResultVar) (s : Nat) (L : List AV → Prop) : arcell (some i) (.box Te cs) T rs s σ L = (lsz i ≤ cs.length ∧ ares T rs (σ.set s (.box Te (pleft cs 0 (lsz i) ((pcells cs 0 (lsz i)).map v1)))) fun vs => L (pl (pval i.td.agg (pcells cs 0 (lsz i))) :: vs)) := (rfl)
end
/-! ## loops by slots -/
/-- The frame with the marked slots forgotten. -/
def hvm : List Bool → List AV → List AV
  | true :: m, _ :: xs => .any :: hvm m xs
  | false :: m, x :: xs => x :: hvm m xs
  | _, xs => xs
theorem hvm_t (m : List Bool) (x : AV) (xs : List AV) : hvm (true :: m) (x :: xs) = .any :: hvm m xs := (rfl)
theorem hvm_f (m : List Bool) (x : AV) (xs : List AV) : hvm (false :: m) (x :: xs) = x :: hvm m xs := (rfl)
theorem hvm_nil (xs : List AV) : hvm [] xs = xs := by cases xs <;> rfl
/-- Values put into slots. -/
def puts : List Nat → List AV → List AV → List AV
  | s :: ss, x :: xs, σ => puts ss xs (σ.set s x)
  | _, _, σ => σ
theorem puts_cons (s : Nat) (ss : List Nat) (x : AV) (xs σ : List AV) : puts (s :: ss) (x :: xs) σ = puts ss xs (σ.set s x) := (rfl)
theorem puts_nil (xs σ : List AV) : puts [] xs σ = σ := (rfl)
/-- What a round's end owes: what R says of the slots ss, with a lower number. -/
def lend (m : List Bool) (ss : List Nat) (R : Nat → List AV → Prop) (σ : List AV) (n : Nat) (σ2 : List AV) : Prop := ∃ k σ3, k < n ∧ Wk σ2 σ3 ∧ ∃ xs, R k xs ∧ σ3 = puts ss xs (hvm m σ)
/-- A loop: of the marked slots nothing is kept but what R says of the slots ss at the head of every round, with a number that each round lowers. -/
theorem cwp_loop {P : Program} {T : Tab} {c : CC} {Q : Exit → List AV → Prop} {σ : List AV} (m : List Bool) (ss : List Nat) (R : Nat → List AV → Prop)
    (start : ∃ n xs, R n xs ∧ Wk σ (puts ss xs (hvm m σ)))
    (round : ∀ n xs, R n xs → cwp P T c (xseq (lend m ss R σ n) Q) (puts ss xs (hvm m σ))) : cwp P T (.loop c) Q σ := by
  obtain ⟨n0, f0, h0, hw0⟩ := start
  refine ⟨fun n σ' => ∃ xs, R n xs ∧ σ' = puts ss xs (hvm m σ), ⟨n0, _, hw0, f0, h0, rfl⟩, ?_⟩
  rintro n σ1 ⟨f, hR, rfl⟩
  exact round n f hR
/-- A cut: behind it, of the marked slots nothing is kept but what R says of the slots ss. -/
def cutK (m : List Bool) (ss : List Nat) (R : List AV → Prop) (σ σ2 : List AV) : Prop := ∃ σ3, Wk σ2 σ3 ∧ ∃ xs, R xs ∧ σ3 = puts ss xs (hvm m σ)
theorem cwp_cut {P : Program} {T : Tab} {x y : CC} {Q : Exit → List AV → Prop} {σ : List AV} (m : List Bool) (ss : List Nat) (R : List AV → Prop)
    (before : cwp P T x (xseq (cutK m ss R σ) Q) σ) (behind : ∀ xs, R xs → cwp P T y Q (puts ss xs (hvm m σ))) : cwp P T (.cut x y) Q σ :=
  ⟨fun σ' => ∃ xs, R xs ∧ σ' = puts ss xs (hvm m σ), fun σ1 ⟨xs, hR, he⟩ => he ▸ behind xs hR, before⟩
theorem cut_mk {m : List Bool} {ss : List Nat} {R : List AV → Prop} {σ σ2 : List AV} (xs : List AV) (hR : R xs) (hw : Wk σ2 (puts ss xs (hvm m σ))) : cutK m ss R σ σ2 :=
  ⟨_, hw, xs, hR, rfl⟩
theorem lend_mk {m : List Bool} {ss : List Nat} {R : Nat → List AV → Prop} {σ : List AV} {n : Nat} {σ2 : List AV} (k : Nat) (xs : List AV) (hm : k < n) (hR : R k xs) (hw : Wk σ2 (puts ss xs (hvm m σ))) : lend m ss R σ n σ2 :=
  ⟨k, _, hm, hw, xs, hR, rfl⟩
theorem wk_any {x : AV} {xs ys : List AV} (h : Wk xs ys) : Wk (x :: xs) (.any :: ys) := .cons (W1.any x) rfl h
theorem wk_nilown {e k : Nat} {xs ys : List AV} (h : Wk xs ys) : Wk (.nil :: xs) (.own e k [] :: ys) := .cons (W1.nilown e k) rfl h
theorem wk_nilmine {e k : Nat} {xs ys : List AV} (h : Wk xs ys) : Wk (.nil :: xs) (.mine e k [] :: ys) := .cons (W1.nilmine e k) rfl h
theorem wk_ownsl {e k : Nat} {es xs ys : List AV} (h : Wk xs ys) : Wk (.own e k es :: xs) (.sl k es :: ys) := .cons (W1.ownsl e k es) rfl h
theorem wk_slx {k : Nat} {es zs xs ys : List AV} (h : Wk xs ys) : Wk (.slx k es zs :: xs) (.sl k es :: ys) := .cons (W1.slx k es zs) rfl h
theorem wk_nilsl {k : Nat} {xs ys : List AV} (h : Wk xs ys) : Wk (.nil :: xs) (.sl k [] :: ys) := .cons (W1.nilsl k) rfl h
attribute [go_sem] cwp_skip tw1_pref tw1_tup tch1_pref tch2_alias tch2_row tch2_sl tch2_own tch2_mine tch2_box tch2_ref tch2_elt tch2_raw rixq_row rixq_alias rixq2_row rixq_sl rixq_own rixq_box rixq_ref rixq_elt rixa_eq rixa1_some rixb1_some rixb_int rldq_pref rldq_box rldq_ref rldq_elt rpld_row rstq_pref rstq_box rstq_ref rpst_row rfdq_pref rfdq_box rfdq_ref rfdq_elt rfad_row mkel cwp_lend lendP_eq ldp1_some ldp2_mine klend_row cwp_ops0 cwp_ops cwp_dops crun_eq drun_eq twp_nil twp_cons tw1_own tw1_row tw1_rowm tw1_minef tw1_minet tw1_alias tw1_any tw1_raw mvs_mine rmv_mine ras_mine rcl_mine Nat.reduceMod decide_false decide_true Nat.reduceLeDiff rgn_nil rgn_cons krst_eq cwp_seq ccq_bool cwp_cond asq_t asq_f asp_t asp_f cwp_block cwp_exit cwp_ret cwp_scope xsco_ret xsco_normal xsco_exit tch1_ref tch1_box tch1_elt xseq_normal xseq_exit xseq_ret xblk_normal xblk_ret xblk_exit afin_ret afin_normal
  kset_eq ksetO_some ksetO_none kfin_eq kskip_some kskipd_some kpk_eq kagg_eq cgq_t cgq_f cgq_skip tchq_eq
  mvs_raw mvs_sl mvs_nil mvs_elt mvs_own mvs_agg mvs_tup mvs_any copl_nil copl_cons copl_guard dopl_nil dopl_cons dopl_guard cpick_bool abinT_int abinT_str
  co_assignc co_movec co_bin co_un co_pick co_index co_indexAddr co_slice co_alloc co_box co_build co_buildSlice co_buildSlice0 rbs0_eq rbin_raw rbin_agg rbin_nil_eql rbin_nil_neq rnil1_nil rnil1_sl rnil1_own rnil1_mine rnl_eq co_load co_store co_conv co_makeFunc co_makeSlice co_fieldAddr co_field co_extract co_min co_max
  do_move do_assign do_assignc do_movec do_bin do_un do_pick do_index do_indexAddr do_slice do_alloc do_box do_build do_buildSlice do_load do_store do_conv do_makeFunc do_makeSlice do_fieldAddr do_field do_extract do_len do_append do_min do_max do_call
  co_move rmv_raw rmv_sl rmv_nil rmv_elt rmv_own rmv_agg rmv_tup rmv_any rmv_row rmv_alias co_assign ras_raw ras_sl ras_nil ras_elt ras_own ras_agg ras_tup ras_any ras_row co_len co_append co_call co_call0 co_callc co_callf co_callt rcl_raw rcl_sl rcl_nil rcl_own rcl_agg rcl_row
  tchp_move tchp_assign tchp_pick tchp_bin tchp_un tchp_call tchp_build tchp_buildSlice tchp_index tchp_indexAddr tchp_slice tchp_alloc tchp_box tchp_conv tchp_makeFunc tchp_makeSlice tchp_field tchp_extract tchp_load tchp_store tchp_fieldAddr
  aload_eq ald_box ald_ref ald_elt ald2_box astore_eq astq_box astq_ref astq2_box afieldAddr_eq fad_box fad_ref fad2_box fad_elt aindexAddrB_eq iad_box iad2_some iad3_some iad_sl iad_own iae_some iae2_some aalloc_eq abox_eq abuildSlice_eq abs2_eq acall_eq acq_fn afill_nil afill_cons afi_some List.zip_cons_cons List.zip_nil_left
  acq_clo mvs_clo rmv_clo ras_clo rcl_clo rcl_elt tw1_box co_makeFuncC do_makeFuncC zc1 fld0_agg fld1_some bok bflds arrF Bool.or_self
  aev pl aconst ac1 amv amv1 agrab nv rv aset v1 v2 view pcells pleft pval cellsOf lsz okc nrf
  abin_i_add abin_i_sub abin_i_mul abin_i_quo abin_i_rem abin_i_and abin_i_or abin_i_andNot abin_i_xor abin_i_eql abin_i_neq abin_i_lss abin_i_leq abin_i_gtr abin_i_geq abin_i_shl abin_i_shr abin_s_add abin_s_eql abin_s_neq abin_s_lss abin_s_leq abin_s_gtr abin_s_geq abinT_b_eql abinT_b_neq aun_not aun_neg rlen_raw rlen_sl rlen_own rlen_row rlen_nil rlen_alias rlen2_row alen_str alen_sl alen_own alen_nil fin2_eq fxp_nil fxp_cons nrp_nil nrp_cons nrp1_f nrp1_t isbxv_box Nat.reduceSub ares_nil ares_tmp ares_cell arcell_box
  List.getD_cons_zero List.getD_cons_succ List.set_cons_zero List.set_cons_succ asplit_true asplit_false List.length_map List.take_zero List.drop List.map_cons List.map_nil List.append_nil List.nil_append List.getElem?_cons_zero List.getElem?_cons_succ List.length_cons List.length_nil List.take_succ_cons List.headD_cons List.drop_succ_cons List.drop_zero List.all_cons List.all_nil List.cons_append allOne Value.oneCell' Int.toNat_natCast Option.isSome_some if_true if_false Bool.false_eq_true true_and implies_true Option.some.injEq not_true_eq_false false_implies List.contains_cons List.contains_nil beq_self_eq_true Bool.or_true Bool.true_or Nat.reduceBEq Bool.false_or Bool.or_false
end Go.Proofs.Ytohelofjlkoboaa
