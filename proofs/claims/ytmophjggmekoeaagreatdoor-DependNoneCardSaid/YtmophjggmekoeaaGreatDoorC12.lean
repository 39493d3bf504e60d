/- Rules of the reckoning. -/
import Derived.Test.YtmophjggmekoeaaGreatDoorC11
set_option linter.all false
namespace Go.Proofs.YtmophjggmekoeaaGreatDoor
open Go.RowKit
variable [Env]
def Mp (d:Nat) (σ:List AV) (K:List AV→Prop) (z:AV):Prop:=K (σ.set d z)
def dE (d:Option Nat) (σ:List AV) (K:List AV→Prop) (z:AV):Prop:=K (aset σ d z)
def At4 (sh bm:List Nat) (d:Option Nat) (σ:List AV) (A:List AV→Prop) (σ':List AV):Prop:=fin2 sh bm d σ σ' (A σ')
def AnW (d:Option Nat) (A:List AV→Prop) (σ:List AV):Prop:=A (aset σ d (.tup []))
def kpk (d:Nat) (x:Operand) (K:List AV→Prop) (σ:List AV):Prop:=K ((amv σ x).set d (aev σ x))
def At6 (s:Nat) (x:AV) (K:List AV→Prop) (σ':List AV):Prop:=K (σ'.set s (rv x (σ'.getD s .any)))
def AoS (d:Nat) (σ:List AV) (K:List AV→Prop) (cs:List AV):Prop:=K (σ.set d (.agg cs))
def rM (e:Bool) (A B:List AV→Prop) (σ:List AV):Prop:=C1 e (A σ) (B σ)
def jD (e:Bool) (σ:List AV) (t:Nat) (A B:List AV→Prop):Prop:=C1 e (A (σ.set t (.raw (.bool true)))) (B (σ.set t (.raw (.bool false))))
theorem kM {e:Bool} {A B:List AV→Prop} {σ:List AV} (h1:e=true→A σ) (h2:e=false→B σ):rM e A B σ:=⟨h1,h2⟩
theorem kN {e:Bool} {σ:List AV} {t:Nat} {A B:List AV→Prop} (h1:e=true→A (σ.set t (.raw (.bool true)))) (h2:e=false→B (σ.set t (.raw (.bool false)))):jD e σ t A B:=⟨h1,h2⟩
theorem At7 (A B:List AV→Prop) (σ:List AV):rM true A B σ=A σ:=by simp [rM,C1]
theorem At8 (A B:List AV→Prop) (σ:List AV):rM false A B σ=B σ:=by simp [rM,C1]
theorem At9 (σ:List AV) (t:Nat) (A B:List AV→Prop):jD true σ t A B=A (σ.set t (.raw (.bool true))):=by simp [jD,C1]
theorem AtA (σ:List AV) (t:Nat) (A B:List AV→Prop):jD false σ t A B=B (σ.set t (.raw (.bool false))):=by simp [jD,C1]
def AtB (P:Program) (T:Bd) (l:List CO) (K:List AV→Prop) (σ:List AV):Prop:=El P T K l σ
def AtC (P:Program) (T:Bd) (rb bm:List Nat) (l:List (CO×List Nat)) (K:List AV→Prop) (σ:List AV):Prop:=rH σ (I0 P T rb bm K l σ) bm
def ccq (x:AV) (A B:List AV→Prop) (σ:List AV):Prop:=match x with
 |.raw (.bool e)=>rM e A B σ
 |_=>False
def cgq (x:AV) (t:Nat) (want:Bool) (σ:List AV) (A B:List AV→Prop):Prop:=match x with
 |.raw (.bool e)=>if want then jD e σ t A B else jD e σ t B A
 |.tup []=>B σ
 |_=>False
def AtF (rb:List Nat) (op:Op) (σ:List AV) (F:List AV→(List AV→Prop)→Prop) (K:List AV→Prop):Prop:=Et rb op σ (F σ K)
section
variable {P : Program} {T : Bd} {Q : Exit → List AV → Prop} {K : List AV → Prop} {σ : List AV} {l : List CO}
theorem Ab5:Hj P T .skip Q σ=Q .normal σ:=(rfl)
theorem Ai1 (ts vs:List Nat):Hj P T (.ops ts vs l) Q σ=kK ts (rgn (AtB P T l) vs (Q .normal)) σ:=(rfl)
theorem Ab6 (ts vs rb bm:List Nat) (l:List (CO×List Nat)):Hj P T (.dops ts vs rb bm l) Q σ=kK ts (rgn (AtC P T rb bm l) vs (Q .normal)) σ:=(rfl)
theorem Ai2:AtB P T l K σ=El P T K l σ:=(rfl)
theorem Ai3 (rb bm:List Nat) (l:List (CO×List Nat)):AtC P T rb bm l K σ=rH σ (I0 P T rb bm K l σ) bm:=(rfl)
theorem Ai4:kK [] K σ=K σ:=(rfl)
theorem Ab7 (s:Nat) (ts:List Nat):kK (s::ts) K σ=tw1 (σ.getD (s % 100000) .any) (decide (100000≤s)) (s % 100000) (kK ts K) σ:=(rfl)
theorem Ai5 (e k:Nat) (es:List AV) (s:Nat):tw1 (.row e k es) false s K σ=K (σ.set s (.own e k es)):=(rfl)
theorem Ab8 (e k:Nat) (es:List AV) (s:Nat):tw1 (.row e k es) true s K σ=K (σ.set s (.mine e k es)):=(rfl)
theorem uH (e k:Nat) (es:List AV) (s:Nat):tw1 (.mine e k es) true s K σ=(σ.all (Km s)=true∧K (σ.set s (.row e k es))):=(rfl)
theorem uI (t:Nat) (m:Bool) (s:Nat):tw1 (.alias t) m s K σ=K (σ.set s .any):=(rfl)
theorem Ai6 (run:(List AV→Prop)→List AV→Prop):rgn run [] K σ=run K σ:=(rfl)
theorem Ab9 (run:(List AV→Prop)→List AV→Prop) (s:Nat) (vs:List Nat):rgn run (s::vs) K σ=rgn run vs (At6 s (σ.getD s .any) K) (σ.set s (nv (σ.getD s .any))):=(rfl)
theorem Ai7 (x y:CC):Hj P T (.seq x y) Q σ=Hj P T x (Xz (Hj P T y Q) Q) σ:=(rfl)
theorem AbA (e:Bool) (A B:List AV→Prop):ccq (.raw (.bool e)) A B σ=rM e A B σ:=(rfl)
theorem AbB (c:Operand) (x y:CC):Hj P T (.cond c x y) Q σ=ccq (aev σ c) (Hj P T x Q) (Hj P T y Q) σ:=by show Ny _ _ _=_;cases aev σ c<;>rfl
theorem Ai8 (d:Nat) (z:AV):Mp d σ K z=K (σ.set d z):=(rfl)
theorem kO (d:Nat) (z:AV):dE (some d) σ K z=K (σ.set d z):=(rfl)
theorem Ai9 (sh bm:List Nat) (d:Option Nat) (σ':List AV):At4 sh bm d σ K σ'=fin2 sh bm d σ σ' (K σ'):=(rfl)
theorem kP (d:Nat):AnW (some d) K σ=K (σ.set d (.tup [])):=(rfl)
theorem AoU (d:Nat) (x:Operand):kpk d x K σ=K ((amv σ x).set d (aev σ x)):=(rfl)
theorem AiA (s:Nat) (x:AV):At6 s x K σ=K (σ.set s (rv x (σ.getD s .any))):=(rfl)
theorem AiB (d:Nat) (cs:List AV):AoS d σ K cs=K (σ.set d (.agg cs)):=(rfl)
theorem AtG (e:Bool) (t:Nat) (A B:List AV→Prop):cgq (.raw (.bool e)) t true σ A B=jD e σ t A B:=(rfl)
theorem AtH (e:Bool) (t:Nat) (A B:List AV→Prop):cgq (.raw (.bool e)) t false σ A B=jD e σ t B A:=(rfl)
theorem AbC (t:Nat) (want:Bool) (A B:List AV→Prop):cgq (.tup []) t want σ A B=B σ:=(rfl)
theorem AiC (rb:List Nat) (op:Op) (F:List AV→(List AV→Prop)→Prop):AtF rb op σ F K=Et rb op σ (F σ K):=(rfl)
theorem uJ (id:Nat) (c:CC):Hj P T (.block id c) Q σ=Hj P T c (uE id Q) σ:=(rfl)
theorem AbD (id:Nat):Hj P T (.exit id) Q σ=Q (.exit id) σ:=(rfl)
theorem AiD:Hj P T .ret Q σ=Q .ret σ:=(rfl)
theorem dF {K:List AV→Prop}:Xz K Q .normal σ=K σ:=(rfl)
theorem uK {K:List AV→Prop} (id:Nat):Xz K Q (.exit id) σ=Q (.exit id) σ:=(rfl)
theorem AbE {K:List AV→Prop}:Xz K Q .ret σ=Q .ret σ:=(rfl)
theorem dG (id:Nat):uE id Q .normal σ=Q .normal σ:=(rfl)
theorem AbF (id:Nat):uE id Q .ret σ=Q .ret σ:=(rfl)
theorem uL (id id':Nat):uE id Q (.exit id') σ=if id'=id then Q .normal σ else Q (.exit id') σ:=(rfl)
theorem AbG (rs:List ResultVar) (R:AV→Prop):kL T rs R .ret σ=Hu T rs σ fun vs=>R (match vs with
 |[v]=>v
 |vs=>.tup vs):=(rfl)
def mvs (x:AV) (t d:Nat) (σ:List AV):List AV:=(Mn σ t x).set d (pl x)
theorem AiF (v:Value) (t d:Nat):mvs (.raw v) t d σ=σ.set d (.raw v):=(rfl)
theorem AoV (k:Nat) (es:List AV) (t d:Nat):mvs (.sl k es) t d σ=σ.set d (.sl k es):=(rfl)
theorem AiG (e k:Nat) (es:List AV) (t d:Nat):mvs (.own e k es) t d σ=(σ.set t (.sl k es)).set d (.own e k es):=(rfl)
theorem AbH:El P T K [] σ=K σ:=(rfl)
theorem uM (d:Option Nat) (op:Op):El P T K (⟨d,op,none⟩::l) σ=Ct P T d op σ (El P T K l):=(rfl)
theorem kQ (d:Option Nat) (op:Op) (t:Nat) (want:Bool):El P T K (⟨d,op,some (t,want)⟩::l) σ=cgq (σ.getD t .any) t want σ (El P T K (⟨d,op,none⟩::l)) (AnW d (El P T K l)):=by simp only[El,cgq];exact AmR
theorem AbI (rb bm:List Nat):I0 P T rb bm K [] σ=K σ:=(rfl)
theorem uN (sh rb bm:List Nat) (d:Option Nat) (op:Op) (l:List (CO×List Nat)):I0 P T rb bm K ((⟨d,op,none⟩,sh)::l) σ=AtF rb op σ (dcop P T d op) (At4 sh bm d σ (I0 P T rb bm K l)):=(rfl)
def AbJ (sh bm:List Nat) (d:Option Nat) (A:List AV→Prop) (σ:List AV):Prop:=fin2 sh bm d σ (aset σ d (.tup [])) (A (aset σ d (.tup [])))
theorem dH (sh bm:List Nat) (d:Nat):AbJ sh bm (some d) K σ=fin2 sh bm (some d) σ (σ.set d (.tup [])) (K (σ.set d (.tup []))):=(rfl)
theorem kR (sh rb bm:List Nat) (d:Option Nat) (op:Op) (t:Nat) (want:Bool) (l:List (CO×List Nat)):I0 P T rb bm K ((⟨d,op,some (t,want)⟩,sh)::l) σ=cgq (σ.getD t .any) t want σ (I0 P T rb bm K ((⟨d,op,none⟩,sh)::l)) (AbJ sh bm d (I0 P T rb bm K l)):=by simp only[I0,cgq];exact AmR
def AnX (x:AV) (A B:Prop):Prop:=match x with
 |.raw (.bool e)=>C1 e A B
 |_=>False
theorem uO (op:BinOp) (t:Nat) (k:IntKind) (a:Int) (y:AV) (K:AV→Prop):I7 T op t (.raw (.int k a)) y K=F3 op (.raw (.int k a)) y K:=(rfl)
theorem uP (op:BinOp) (t:Nat) (s:ByteArray) (y:AV) (K:AV→Prop):I7 T op t (.raw (.string s)) y K=F3 op (.raw (.string s)) y K:=(rfl)
theorem uQ (d t:Nat):dcop P T (some d) (.assign (.tmp t)) σ K=K (mvs (σ.getD t .any) t d σ):=(rfl)
theorem kS (d:Nat) (v:Value):Ct P T (some d) (.assign (.const v)) σ K=K (σ.set d (aconst v)):=(rfl)
theorem kT (d:Nat) (v:Value):dcop P T (some d) (.assign (.const v)) σ K=K (σ.set d (aconst v)):=(rfl)
theorem AbK (d:Nat) (v:Value):Ct P T (some d) (.move (.const v)) σ K=K (σ.set d (aconst v)):=(rfl)
theorem AoW (d:Nat) (op:BinOp) (t t':Nat) (x y:Operand):Ct P T (some d) (.binOp op t x y t') σ K=jR T op t (aev σ x) (aev σ y) (Mp d σ K):=(rfl)
theorem AoX (d:Nat) (op:BinOp) (t t':Nat) (x y:Operand):dcop P T (some d) (.binOp op t x y t') σ K=I7 T op t (aev σ x) (aev σ y) (Mp d σ K):=(rfl)
theorem AtI (d:Nat) (op:UnOp) (t:Nat) (x:Operand):Ct P T (some d) (.unOp op t x) σ K=aun op (aev σ x) (Mp d σ K):=(rfl)
theorem AtJ (d:Nat) (op:UnOp) (t:Nat) (x:Operand):dcop P T (some d) (.unOp op t x) σ K=aun op (aev σ x) (Mp d σ K):=(rfl)
theorem dI (d:Nat) (x:Operand):Ct P T (some d) (.nilCheck x) σ K=anc (aev σ x) (Mp d σ K):=(rfl)
theorem dJ (d:Nat) (x:Operand):dcop P T (some d) (.nilCheck x) σ K=anc (aev σ x) (Mp d σ K):=(rfl)
theorem AiH (y:AV) (K:AV→Prop):anc (.elt y) K=K (.elt y):=(rfl)
theorem AiI (d:Nat) (c x y:Operand):Ct P T (some d) (.pick c x y) σ K=ccq (aev σ c) (kpk d x K) (kpk d y K) σ:=by show AnX _ _ _=_;cases aev σ c<;>try rfl
theorem AiJ (d:Nat) (c x y:Operand):dcop P T (some d) (.pick c x y) σ K=ccq (aev σ c) (kpk d x K) (kpk d y K) σ:=by show AnX _ _ _=_;cases aev σ c<;>try rfl
theorem AbL (d t:Nat) (x y:Operand):Ct P T (some d) (.index t x y) σ K=(match T t with
 |some i=>Kr T i (aev σ x) (aev σ y) (Mp d σ K)
 |none=>False):=(rfl)
def dK (x:AV) (t q d:Nat) (y:Operand) (T:Bd) (σ:List AV) (K:List AV→Prop):Prop:=match x with
 |.row _ k es=>M3 T t q k es.length (aev σ y) (some d) σ K
 |.alias s=>(match σ.getD s .any with
  |.row _ k es=>M3 T t s k es.length (aev σ y) (some d) σ K
  |_=>(match T t with
   |some i=>Bt T σ i (.tmp q) y (some d) K
   |none=>False))
 |_=>(match T t with
  |some i=>Bt T σ i (.tmp q) y (some d) K
  |none=>False)
theorem X1 (d t q:Nat) (y:Operand):Ct P T (some d) (.indexAddr t (.tmp q) y) σ K=dK (σ.getD q .any) t q d y T σ K:=by
 unfold Ct Rc dK;simp only[Ft];cases σ.getD q .any<;>try rfl
 rename_i s;simp only[];cases σ.getD s .any<;>rfl
def AnY (x:AV) (t q s d:Nat) (y:Operand) (T:Bd) (σ:List AV) (K:List AV→Prop):Prop:=match x with
 |.row _ k es=>M3 T t s k es.length (aev σ y) (some d) σ K
 |_=>(match T t with
   |some i=>Bt T σ i (.tmp q) y (some d) K
   |none=>False)
theorem kU (s t q d:Nat) (y:Operand):dK (.alias s) t q d y T σ K=AnY (σ.getD s .any) t q s d y T σ K:=(rfl)
theorem uR (e k:Nat) (es:List AV) (t q s d:Nat) (y:Operand):AnY (.row e k es) t q s d y T σ K=M3 T t s k es.length (aev σ y) (some d) σ K:=(rfl)
theorem AiK (k:Nat) (es:List AV) (t q d:Nat) (y:Operand):dK (.sl k es) t q d y T σ K=(match T t with
 |some i=>Bt T σ i (.tmp q) y (some d) K
 |none=>False):=(rfl)
theorem AbM (e k:Nat) (es:List AV) (t q d:Nat) (y:Operand):dK (.own e k es) t q d y T σ K=(match T t with
 |some i=>Bt T σ i (.tmp q) y (some d) K
 |none=>False):=(rfl)
theorem AbN (U:Nat) (cs:List AV) (t q d:Nat) (y:Operand):dK (.box U cs) t q d y T σ K=(match T t with
 |some i=>Bt T σ i (.tmp q) y (some d) K
 |none=>False):=(rfl)
def AbO (o:Option TI) (s k n:Nat) (y:AV) (d:Option Nat) (σ:List AV) (K:List AV→Prop):Prop:=match o with
 |some j=>cG j s k n y d σ K
 |none=>False
def AnZ (o:Option TI) (T:Bd) (s k n:Nat) (y:AV) (d:Option Nat) (σ:List AV) (K:List AV→Prop):Prop:=match o with
 |some i=>match i.td.elem with
  |some e=>AbO (T e) s k n y d σ K
  |none=>False
 |none=>False
theorem AiL (t s k n:Nat) (y:AV) (d:Option Nat):M3 T t s k n y d σ K=AnZ (T t) T s k n y d σ K:=(rfl)
theorem kV (i:TI) (s k n:Nat) (y:AV) (d:Option Nat):AnZ (some i) T s k n y d σ K=(match i.td.elem with
 |some e=>AbO (T e) s k n y d σ K
 |none=>False):=(rfl)
theorem kW (j:TI) (s k n:Nat) (y:AV) (d:Option Nat):AbO (some j) s k n y d σ K=cG j s k n y d σ K:=(rfl)
theorem AbP (j:TI) (s k n:Nat) (kk:IntKind) (m:Int) (d:Nat):cG j s k n (.raw (.int kk m)) (some d) σ K=(k=j.size∧0≤m∧m.toNat<n∧s≠d∧K (σ.set d (.pref s k m.toNat 0))):=(rfl)
theorem X2 (d t q:Nat) (y:Operand):dcop P T (some d) (.indexAddr t (.tmp q) y) σ K=dK (σ.getD q .any) t q d y T σ K:=by unfold dcop Ku dK;exact Rw
theorem AbQ (d t:Nat) (x:Operand) (lo hi:Option Operand):Ct P T (some d) (.slice t x lo hi none) σ K=(match T t with
 |some i=>Hp T i (aev σ x) (lo.map (aev σ)) (hi.map (aev σ)) (Mp d σ K)
 |none=>False):=(rfl)
theorem AbR (d t:Nat):Ct P T (some d) (.alloc t) σ K=(match T t with
 |some i=>Pj σ t i (some d) K
 |none=>False):=(rfl)
theorem AbS (d t:Nat):dcop P T (some d) (.alloc t) σ K=(match T t with
 |some i=>Gv i.zero=true∧K (σ.set d (.box t (i.zero.map ac1)))
 |none=>False):=(rfl)
theorem AoY (d t:Nat) (x:Operand):Ct P T (some d) (.box t x) σ K=tP σ t x (some d) K:=(rfl)
theorem AbT (d t:Nat) (ps:Array (Nat×Operand)):Ct P T (some d) (.build t ps) σ K=(match T t with
 |some i=>bok T i=true∧((Il T i).all fun f=>f.2.1.isSome)=true∧Gv i.zero=true∧
  Fp (Il T i) ((ps.toList.map (·.1)).zip (agrab σ (ps.toList.map (·.2))).1) (i.zero.map ac1) (AoS d (agrab σ (ps.toList.map (·.2))).2 K)
 |none=>False):=(rfl)
theorem AbU (d t:Nat) (ps:Array (Nat×Operand)):dcop P T (some d) (.build t ps) σ K=(match T t with
 |some i=>bok T i=true∧((Il T i).all fun f=>f.2.1.isSome)=true∧Gv i.zero=true∧
  Fp (Il T i) ((ps.toList.map (·.1)).zip (agrab σ (ps.toList.map (·.2))).1) (i.zero.map ac1) (AoS d (agrab σ (ps.toList.map (·.2))).2 K)
 |none=>False):=(rfl)
theorem Uy (d t n:Nat) (p:Nat×Operand) (l:List (Nat×Operand)):Ct P T (some d) (.buildSlice t n (List.toArray (p::l))) σ K=(match T t with
 |some i=>match i.td.elem with
  |some e=>match T e with
   |some j=>Co σ e j n (p::l) (some d) K
   |none=>False
  |none=>False
 |none=>False):=(rfl)
theorem Sk (d t n:Nat):Ct P T (some d) (.buildSlice t n #[]) σ K=Aba T t n (Mp d σ K):=(rfl)
theorem AiM (t n:Nat) (K:AV→Prop):Aba T t n K=(match T t with
 |some i=>match i.td.elem with
  |some e=>match T e with
   |some j=>n=0∧K (.mine e j.size [])
   |none=>False
  |none=>False
 |none=>False):=(rfl)
theorem AbV (op:BinOp) (t:Nat) (x:AV) (v:Value) (K:AV→Prop):jR T op t x (.raw v) K=I7 T op t x (.raw v) K:=(rfl)
theorem AbW (op:BinOp) (t:Nat) (x:AV) (cs:List AV) (K:AV→Prop):jR T op t x (.agg cs) K=I7 T op t x (.agg cs) K:=(rfl)
theorem X3 (t:Nat) (x:AV) (K:AV→Prop):jR T .eql t x .nil K=(tT (T t)=true∧Vs true K x):=(rfl)
theorem AbX (pos:Bool) (K:AV→Prop) (k:Nat) (es:List AV):Vs pos K (.sl k es)=rnl es.length pos K:=(rfl)
theorem AoZ (n:Nat) (pos:Bool) (K:AV→Prop):rnl n pos K=((n=0→K (.raw (.bool pos)))∧K (.raw (.bool (!pos)))):=(rfl)
theorem Uz (d t n:Nat) (ps:Array (Nat×Operand)):dcop P T (some d) (.buildSlice t n ps) σ K=(match T t with
 |some i=>match i.td.elem with
  |some e=>match T e with
   |some j=>Co σ e j n ps.toList (some d) K
   |none=>False
  |none=>False
 |none=>False):=(rfl)
def dL (x:AV) (t q d:Nat) (T:Bd) (σ:List AV) (K:List AV→Prop):Prop:=match x with
 |.pref s k j off=>(match T t with
  |some i=>Qw i (σ.getD s .any) k j off (some d) σ K
  |none=>False)
 |_=>(match T t with
  |some i=>G6 σ i (.tmp q) (some d) K
  |none=>False)
theorem AiN (d t q:Nat):Ct P T (some d) (.load t (.tmp q)) σ K=dL (σ.getD q .any) t q d T σ K:=by unfold Ct Rc dL;exact Rw
theorem uS (s k j off t q d:Nat):dL (.pref s k j off) t q d T σ K=(match T t with
 |some i=>Qw i (σ.getD s .any) k j off (some d) σ K
 |none=>False):=(rfl)
theorem AbY (U:Nat) (cs:List AV) (t q d:Nat):dL (.box U cs) t q d T σ K=(match T t with
 |some i=>G6 σ i (.tmp q) (some d) K
 |none=>False):=(rfl)
theorem AbZ (s off:Nat) (t q d:Nat):dL (.ref s off) t q d T σ K=(match T t with
 |some i=>G6 σ i (.tmp q) (some d) K
 |none=>False):=(rfl)
theorem Aca (x:AV) (t q d:Nat):dL (.elt x) t q d T σ K=(match T t with
 |some i=>G6 σ i (.tmp q) (some d) K
 |none=>False):=(rfl)
theorem Acb (i:TI) (e k':Nat) (es:List AV) (k j off d:Nat):Qw i (.row e k' es) k j off (some d) σ K=(k'=k∧j<es.length∧off+lsz i≤k∧K (σ.set d (pl (pval i.td.agg (pcells (cellsOf (es.getD j .any)) off (lsz i)))))):=(rfl)
theorem AiO (d t q:Nat):dcop P T (some d) (.load t (.tmp q)) σ K=dL (σ.getD q .any) t q d T σ K:=by unfold dcop Ku dL;exact Rw
def kX (x:AV) (t q:Nat) (y:Operand) (T:Bd) (σ:List AV) (K:List AV→Prop):Prop:=match x with
 |.pref s k j off=>(match T t with
  |some i=>Qx i ((amv σ y).getD s .any) s k j off (view (aev σ y)) none (amv σ y) K
  |none=>False)
 |_=>(match T t with
  |some i=>Gx σ i (.tmp q) y none K
  |none=>False)
theorem Acc (t q:Nat) (y:Operand):Ct P T none (.store t (.tmp q) y) σ K=kX (σ.getD q .any) t q y T σ K:=by unfold Ct Rc kX;exact Rw
theorem uT (s k j off t q:Nat) (y:Operand):kX (.pref s k j off) t q y T σ K=(match T t with
 |some i=>Qx i ((amv σ y).getD s .any) s k j off (view (aev σ y)) none (amv σ y) K
 |none=>False):=(rfl)
theorem Acd (U:Nat) (cs:List AV) (t q:Nat) (y:Operand):kX (.box U cs) t q y T σ K=(match T t with
 |some i=>Gx σ i (.tmp q) y none K
 |none=>False):=(rfl)
theorem Ace (s off:Nat) (t q:Nat) (y:Operand):kX (.ref s off) t q y T σ K=(match T t with
 |some i=>Gx σ i (.tmp q) y none K
 |none=>False):=(rfl)
theorem Acf (i:TI) (e k':Nat) (es:List AV) (s k j off:Nat) (z:AV):Qx i (.row e k' es) s k j off z none σ K=(k'=k∧j<es.length∧off+i.size≤k∧Iy z=true∧(cellsOf z).length=i.size∧K (σ.set s (.row e k (es.set j (mkel (es.getD j .any) (pleft (cellsOf (es.getD j .any)) off i.size (cellsOf z))))))):=(rfl)
theorem Acg (t q:Nat) (y:Operand):dcop P T none (.store t (.tmp q) y) σ K=kX (σ.getD q .any) t q y T σ K:=by unfold dcop Ku kX;exact Rw
theorem AiP (d s t:Nat) (x:Operand):Ct P T (some d) (.convert s t x) σ K=(match T s,T t with
 |some i,some j=>Iz T i j (aev σ x) (Mp d σ K)
 |_,_=>False):=(rfl)
def dM (x:AV) (t f q d:Nat) (T:Bd) (σ:List AV) (K:List AV→Prop):Prop:=match x with
 |.pref s k j off=>(match T t with
  |some i=>Pm i.td.flds[f]? (σ.getD s .any) s k j off (some d) σ K
  |none=>False)
 |_=>(match T t with
  |some i=>Bl σ i (.tmp q) f (some d) K
  |none=>False)
theorem X4 (d t f q:Nat):Ct P T (some d) (.fieldAddr t (.tmp q) f) σ K=dM (σ.getD q .any) t f q d T σ K:=by unfold Ct Rc dM;exact Rw
theorem uU (s k j off t f q d:Nat):dM (.pref s k j off) t f q d T σ K=(match T t with
 |some i=>Pm i.td.flds[f]? (σ.getD s .any) s k j off (some d) σ K
 |none=>False):=(rfl)
theorem Ach (U:Nat) (cs:List AV) (t f q d:Nat):dM (.box U cs) t f q d T σ K=(match T t with
 |some i=>Bl σ i (.tmp q) f (some d) K
 |none=>False):=(rfl)
theorem Aci (s off:Nat) (t f q d:Nat):dM (.ref s off) t f q d T σ K=(match T t with
 |some i=>Bl σ i (.tmp q) f (some d) K
 |none=>False):=(rfl)
theorem Acj (x:AV) (t f q d:Nat):dM (.elt x) t f q d T σ K=(match T t with
 |some i=>Bl σ i (.tmp q) f (some d) K
 |none=>False):=(rfl)
theorem Ack (f n:Nat) (ag:Bool) (e k':Nat) (es:List AV) (s k j off d:Nat):Pm (some (f,some n,some ag)) (.row e k' es) s k j off (some d) σ K=(n≠0∧s≠d∧K (σ.set d (.pref s k j (off+f)))):=(rfl)
theorem X6 (d t f q:Nat):dcop P T (some d) (.fieldAddr t (.tmp q) f) σ K=dM (σ.getD q .any) t f q d T σ K:=by unfold dcop Ku dM;exact Rw
def AtL (o:Option TI) (x:AV) (σ:List AV) (s f d:Nat) (K:List AV→Prop):Prop:=match o with
 |some i=>(match x with
  |.agg cs=>(match i.td.flds[f]? with
   |some (off,some n,some agg)=>(agg=false→n=1)∧off+n≤cs.length∧K ((σ.set s (.agg (pleft cs off n ((pcells cs off n).map v1)))).set d (pl (pval agg (pcells cs off n))))
   |_=>False)
  |_=>False)
 |none=>False
def AtM (p:Option (Nat×Option Nat×Option Bool)) (cs σ:List AV) (s d:Nat) (K:List AV→Prop):Prop:=match p with
 |some (off,some n,some agg)=>(agg=false→n=1)∧off+n≤cs.length∧K ((σ.set s (.agg (pleft cs off n ((pcells cs off n).map v1)))).set d (pl (pval agg (pcells cs off n))))
 |_=>False
theorem Acl (d t f s:Nat):Ct P T (some d) (.field t (.tmp s) f) σ K=AtL (T t) (σ.getD s .any) σ s f d K:=(rfl)
theorem Acm (i:TI) (cs:List AV) (s f d:Nat):AtL (some i) (.agg cs) σ s f d K=AtM i.td.flds[f]? cs σ s d K:=(rfl)
theorem uV (off n:Nat) (agg:Bool) (cs:List AV) (s d:Nat):AtM (some (off,some n,some agg)) cs σ s d K=((agg=false→n=1)∧off+n≤cs.length∧K ((σ.set s (.agg (pleft cs off n ((pcells cs off n).map v1)))).set d (pl (pval agg (pcells cs off n))))):=(rfl)
theorem kY (d n:Nat) (x:Operand):Ct P T (some d) (.extract x n) σ K=Ej σ x n (some d) K:=(rfl)
theorem kZ (d n:Nat) (x:Operand):dcop P T (some d) (.extract x n) σ K=Ej σ x n (some d) K:=(rfl)
theorem Apa (d t:Nat) (x:Operand):dcop P T (some d) (.call ⟨.builtin .len,#[x],#[t]⟩) σ K=(match T t with
 |some i=>Xi i (aev σ x) (Mp d σ K)
 |none=>False):=(rfl)
theorem AiQ (d:Option Nat) (f:Operand) (xs:Array Operand) (ts:Array TypeId):dcop P T d (.call ⟨.value f,xs,ts⟩) σ K=Dr P σ f xs.toList d K:=(rfl)
def uW (x:AV) (t d:Nat) (σ:List AV) (K:List AV→Prop):Prop:=match x with
 |.row _ _ _=>t≠d∧K (σ.set d (.alias t))
 |.alias s=>s≠d∧K (σ.set d (.alias s))
 |x=>K (mvs x t d σ)
theorem AiR (d t:Nat):Ct P T (some d) (.move (.tmp t)) σ K=uW (σ.getD t .any) t d σ K:=by unfold Ct Rc;simp only[Fg,aset,amv,aev,uW,mvs];cases σ.getD t .any<;>rfl
theorem AiS (d t:Nat):dcop P T (some d) (.move (.tmp t)) σ K=uW (σ.getD t .any) t d σ K:=by unfold dcop Ku;dsimp only;simp only[Ca,Fg,aset,amv,aev,uW,mvs];cases σ.getD t .any<;>rfl
theorem AiT (v:Value) (t d:Nat):uW (.raw v) t d σ K=K (σ.set d (.raw v)):=(rfl)
theorem Apb (k:Nat) (es:List AV) (t d:Nat):uW (.sl k es) t d σ K=K (σ.set d (.sl k es)):=(rfl)
theorem AiU (t d:Nat):uW .nil t d σ K=K (σ.set d .nil):=(rfl)
theorem AiV (x:AV) (t d:Nat):uW (.elt x) t d σ K=K (σ.set d (.elt x)):=(rfl)
theorem AiW (e k:Nat) (es:List AV) (t d:Nat):uW (.own e k es) t d σ K=K ((σ.set t (.sl k es)).set d (.own e k es)):=(rfl)
theorem AiX (cs:List AV) (t d:Nat):uW (.tup cs) t d σ K=K ((σ.set t (.tup (cs.map v2))).set d (.tup cs)):=(rfl)
theorem Acn (e k:Nat) (es:List AV) (t d:Nat):uW (.mine e k es) t d σ K=K ((σ.set t .any).set d (.mine e k es)):=(rfl)
theorem AiY (e k:Nat) (es:List AV) (t d:Nat):uW (.row e k es) t d σ K=(t≠d∧K (σ.set d (.alias t))):=(rfl)
def ras (x:AV) (t d:Nat) (σ:List AV) (K:List AV→Prop):Prop:=match x with
 |.row e k es=>t≠d∧(σ.set t .any).all (Km d)=true∧K ((σ.set t .any).set d (.row e k es))
 |x=>K (mvs x t d σ)
theorem uX (d t:Nat):Ct P T (some d) (.assign (.tmp t)) σ K=ras (σ.getD t .any) t d σ K:=by unfold Ct Rc;simp only[Fg,aset,amv,aev,ras,mvs];cases σ.getD t .any<;>rfl
theorem AiZ (v:Value) (t d:Nat):ras (.raw v) t d σ K=K (σ.set d (.raw v)):=(rfl)
theorem Apc (k:Nat) (es:List AV) (t d:Nat):ras (.sl k es) t d σ K=K (σ.set d (.sl k es)):=(rfl)
theorem Aja (t d:Nat):ras .nil t d σ K=K (σ.set d .nil):=(rfl)
theorem Ajb (x:AV) (t d:Nat):ras (.elt x) t d σ K=K (σ.set d (.elt x)):=(rfl)
theorem Ajc (e k:Nat) (es:List AV) (t d:Nat):ras (.own e k es) t d σ K=K ((σ.set t (.sl k es)).set d (.own e k es)):=(rfl)
theorem Aco (e k:Nat) (es:List AV) (t d:Nat):ras (.mine e k es) t d σ K=K ((σ.set t .any).set d (.mine e k es)):=(rfl)
theorem Ajd (t d:Nat):ras .any t d σ K=K (σ.set d .any):=(rfl)
def uY (x:AV) (i:TI) (σ:List AV) (K:AV→Prop):Prop:=match x with
 |.row _ _ es=>i.td.elem.isSome=true∧K (.raw (.int .i64 (es.length:Int)))
 |.alias s=>(match σ.getD s .any with
  |.row _ _ es=>i.td.elem.isSome=true∧K (.raw (.int .i64 (es.length:Int)))
  |_=>False)
 |x=>Xi i (pl x) K
theorem Apd (d t ty:Nat):Ct P T (some d) (.call ⟨.builtin .len,#[.tmp t],#[ty]⟩) σ K=(match T ty with
 |some i=>uY (σ.getD t .any) i σ (Mp d σ K)
 |none=>False):=by
 unfold Ct Rc;simp only[Fg,aset,aev,uY,Ft]
 cases σ.getD t .any<;>simp only[pl,Xi]<;>first
  |rfl
  |(rename_i s
    cases σ.getD s .any<;>simp only[]<;>first
     |rfl
     |(cases T ty<;>rfl))
  |(cases T ty<;>rfl)
def Acp (σ:List AV) (e:Nat) (j:TI) (x:AV) (t:Nat) (y:Operand) (d:Option Nat) (K:List AV→Prop):Prop:=match x with
 |.row e' k xs=>Lz σ e j t t e' k xs y d K
 |.alias s=>(match σ.getD s .any with
  |.row e' k xs=>Lz σ e j t s e' k xs y d K
  |_=>False)
 |_=>D4 σ e j (.tmp t) y d K
theorem uZ (d t ty ty':Nat) (y:Operand):Ct P T (some d) (.call ⟨.builtin .append,#[.tmp t,y],#[ty,ty']⟩) σ K=(ty=ty'∧match T ty with
 |some i=>match i.td.elem with
  |some e=>match T e with
   |some j=>Acp σ e j (σ.getD t .any) t y (some d) K
   |none=>False
  |none=>False
 |none=>False):=by
 unfold Ct Rc;simp only[Fg,Ft]
 cases hx:σ.getD t .any<;>simp only[]<;>first
  |rfl
  |(rename_i s
    cases hs:σ.getD s .any<;>simp only[Acp,hs]<;>first
     |rfl
     |(cases T ty with
       |none=>rfl
       |some i=>
        simp only[]
        cases i.td.elem with
        |none=>rfl
        |some e=>
         simp only[]
         cases T e with
         |none=>rfl
         |some j=>simp only[D4,aev,hx,pl,I9]))
def rcl (P:Program) (σ:List AV) (x:AV) (g t:Nat) (rest:List Operand) (d:Option Nat) (K:List AV→Prop):Prop:=match x with
 |.row e k es=>R5 P σ g t e k es rest d K
 |.alias s=>(match σ.getD s .any with
  |.row e k es=>R5 P σ g s e k es rest d K
  |_=>Dr P σ (.func g) (.tmp t::rest) d K)
 |_=>Dr P σ (.func g) (.tmp t::rest) d K
theorem Aje (d:Option Nat) (g t:Nat) (rest:List Operand) (ts:Array TypeId):Ct P T d (.call ⟨.value (.func g),⟨.tmp t::rest⟩,ts⟩) σ K=rcl P σ (σ.getD t .any) g t rest d K:=by
 unfold Ct Rc;simp only[Fg,Ft,rcl]
 cases σ.getD t .any<;>simp only[]<;>first
  |rfl
  |(rename_i s
    cases σ.getD s .any<;>rfl)
theorem Acr (d:Option Nat) (f:Operand) (ts:Array TypeId):Ct P T d (.call ⟨.value f,#[],ts⟩) σ K=Dr P σ f [] d K:=by cases f<;>rfl
theorem Acs (d:Option Nat) (f:Operand) (v:Value) (rest:List Operand) (ts:Array TypeId):Ct P T d (.call ⟨.value f,⟨.const v::rest⟩,ts⟩) σ K=Dr P σ f (.const v::rest) d K:=by cases f<;>rfl
theorem Acu (d:Option Nat) (t:Nat) (xs:Array Operand) (ts:Array TypeId):Ct P T d (.call ⟨.value (.tmp t),xs,ts⟩) σ K=Dr P σ (.tmp t) xs.toList d K:=(rfl)
theorem Ajf (v:Value) (g t:Nat) (rest:List Operand) (d:Option Nat):rcl P σ (.raw v) g t rest d K=Dr P σ (.func g) (.tmp t::rest) d K:=(rfl)
theorem Ape (k:Nat) (es:List AV) (g t:Nat) (rest:List Operand) (d:Option Nat):rcl P σ (.sl k es) g t rest d K=Dr P σ (.func g) (.tmp t::rest) d K:=(rfl)
theorem Acv (e k:Nat) (es:List AV) (g t:Nat) (rest:List Operand) (d:Option Nat):rcl P σ (.mine e k es) g t rest d K=Dr P σ (.func g) (.tmp t::rest) d K:=(rfl)
theorem Ajg (e k:Nat) (es:List AV) (g t:Nat) (rest:List Operand) (d:Option Nat):rcl P σ (.own e k es) g t rest d K=Dr P σ (.func g) (.tmp t::rest) d K:=(rfl)
theorem Ajh (cs:List AV) (g t:Nat) (rest:List Operand) (d:Option Nat):rcl P σ (.agg cs) g t rest d K=Dr P σ (.func g) (.tmp t::rest) d K:=(rfl)
theorem vA (rb:List Nat) (x:Operand) (A:Prop):Et rb (.move x) σ A=A:=by cases x<;>rfl
theorem dN (rb:List Nat) (x:Operand) (A:Prop):Et rb (.assign x) σ A=A:=(rfl)
theorem vB (rb:List Nat) (c x y:Operand) (A:Prop):Et rb (.pick c x y) σ A=A:=(rfl)
theorem Acw (rb:List Nat) (op:BinOp) (t t':Nat) (x y:Operand) (A:Prop):Et rb (.binOp op t x y t') σ A=A:=(rfl)
theorem Aji (rb:List Nat) (op:UnOp) (t:Nat) (x:Operand) (A:Prop):Et rb (.unOp op t x) σ A=A:=(rfl)
theorem Ajj (rb:List Nat) (x:Operand) (A:Prop):Et rb (.nilCheck x) σ A=A:=(rfl)
theorem vC (rb:List Nat) (c:Call) (A:Prop):Et rb (.call c) σ A=A:=(rfl)
theorem lA (rb:List Nat) (t:Nat) (ps:Array (Nat×Operand)) (A:Prop):Et rb (.build t ps) σ A=A:=(rfl)
theorem Q3 (rb:List Nat) (t n:Nat) (ps:Array (Nat×Operand)) (A:Prop):Et rb (.buildSlice t n ps) σ A=A:=(rfl)
theorem lB (rb:List Nat) (t:Nat) (A:Prop):Et rb (.alloc t) σ A=A:=(rfl)
theorem U0 (rb:List Nat) (f:Fn) (xs ys:Array Operand) (A:Prop):Et rb (.makeFunc f xs ys) σ A=A:=(rfl)
theorem X7 (rb:List Nat) (n:Nat) (x:Operand) (A:Prop):Et rb (.extract x n) σ A=A:=(rfl)
def vD (x:AV) (s:Nat) (rb:List Nat) (A:Prop):Prop:=match x with
 |.ref s' _=>rb.contains (s*100000+s')=true∧s'<100000∧A
 |.pref s' _ _ _=>rb.contains (s*100000+s')=true∧s'<100000∧A
 |_=>A
def Ajk (x:AV) (s:Nat) (rb:List Nat) (A:Prop):Prop:=match x with
 |.alias s'=>rb.contains (s*100000+s')=true∧s'<100000∧A
 |_=>A
theorem Ajl (k:Nat) (es:List AV) (s:Nat) (rb:List Nat) (A:Prop):Ajk (.sl k es) s rb A=A:=(rfl)
theorem Acx (e k:Nat) (es:List AV) (s:Nat) (rb:List Nat) (A:Prop):Ajk (.own e k es) s rb A=A:=(rfl)
theorem Acy (U:Nat) (cs:List AV) (s:Nat) (rb:List Nat) (A:Prop):Ajk (.box U cs) s rb A=A:=(rfl)
theorem Acz (s' off s:Nat) (rb:List Nat) (A:Prop):vD (.ref s' off) s rb A=(rb.contains (s*100000+s')=true∧s'<100000∧A):=(rfl)
theorem Ac0 (U:Nat) (cs:List AV) (s:Nat) (rb:List Nat) (A:Prop):vD (.box U cs) s rb A=A:=(rfl)
theorem Ac1 (x:AV) (s:Nat) (rb:List Nat) (A:Prop):vD (.elt x) s rb A=A:=(rfl)
theorem Sl (rb:List Nat) (t s:Nat) (y:Operand) (A:Prop):Et rb (.indexAddr t (.tmp s) y) σ A=Ajk (σ.getD s .any) s rb A:=(rfl)
theorem vE (rb:List Nat) (t s:Nat) (A:Prop):Et rb (.load t (.tmp s)) σ A=vD (σ.getD s .any) s rb A:=(rfl)
theorem lC (rb:List Nat) (t s:Nat) (y:Operand) (A:Prop):Et rb (.store t (.tmp s) y) σ A=vD (σ.getD s .any) s rb A:=(rfl)
theorem Sm (rb:List Nat) (t s f:Nat) (A:Prop):Et rb (.fieldAddr t (.tmp s) f) σ A=vD (σ.getD s .any) s rb A:=(rfl)
def ald (x:AV) (s:Nat) (i:TI) (σ:List AV) (d:Nat) (K:List AV→Prop):Prop:=match x with
 |.box U cs=>lsz i≤cs.length∧K ((σ.set s (.box U (pleft cs 0 (lsz i) ((pcells cs 0 (lsz i)).map v1)))).set d (pl (pval i.td.agg (pcells cs 0 (lsz i)))))
 |.ref s' off=>(match σ.getD s' .any with
  |.box U cs=>off+lsz i≤cs.length∧K ((σ.set s' (.box U (pleft cs off (lsz i) ((pcells cs off (lsz i)).map v1)))).set d (pl (pval i.td.agg (pcells cs off (lsz i)))))
  |_=>False)
 |.elt y=>Iy y=true∧(cellsOf y).length=lsz i∧K (σ.set d (pl (pval i.td.agg (cellsOf y))))
 |_=>False
def AtN (x:AV) (s' off:Nat) (i:TI) (σ:List AV) (d:Nat) (K:List AV→Prop):Prop:=match x with
 |.box U cs=>off+lsz i≤cs.length∧K ((σ.set s' (.box U (pleft cs off (lsz i) ((pcells cs off (lsz i)).map v1)))).set d (pl (pval i.td.agg (pcells cs off (lsz i)))))
 |_=>False
theorem Ac2 (i:TI) (s d:Nat):G6 σ i (.tmp s) (some d) K=ald (σ.getD s .any) s i σ d K:=(rfl)
theorem Ajm (U:Nat) (cs:List AV) (s:Nat) (i:TI) (d:Nat):ald (.box U cs) s i σ d K=(lsz i≤cs.length∧K ((σ.set s (.box U (pleft cs 0 (lsz i) ((pcells cs 0 (lsz i)).map v1)))).set d (pl (pval i.td.agg (pcells cs 0 (lsz i)))))):=(rfl)
theorem Ajn (s' off s:Nat) (i:TI) (d:Nat):ald (.ref s' off) s i σ d K=AtN (σ.getD s' .any) s' off i σ d K:=(rfl)
theorem Ajo (y:AV) (s:Nat) (i:TI) (d:Nat):ald (.elt y) s i σ d K=(Iy y=true∧(cellsOf y).length=lsz i∧K (σ.set d (pl (pval i.td.agg (cellsOf y))))):=(rfl)
theorem Ac3 (U:Nat) (cs:List AV) (s' off:Nat) (i:TI) (d:Nat):AtN (.box U cs) s' off i σ d K=(off+lsz i≤cs.length∧K ((σ.set s' (.box U (pleft cs off (lsz i) ((pcells cs off (lsz i)).map v1)))).set d (pl (pval i.td.agg (pcells cs off (lsz i)))))):=(rfl)
def Apf (x:AV) (s:Nat) (i:TI) (σ:List AV) (z:AV) (K:List AV→Prop):Prop:=match x with
 |.box U cs=>Iy z=true∧(cellsOf z).length=i.size∧i.size≤cs.length∧K (σ.set s (.box U (pleft cs 0 i.size (cellsOf z))))
 |.ref s' off=>(match σ.getD s' .any with
  |.box U cs=>Iy z=true∧(cellsOf z).length=i.size∧off+i.size≤cs.length∧K (σ.set s' (.box U (pleft cs off i.size (cellsOf z))))
  |_=>False)
 |_=>False
def Aoa (x:AV) (s' off:Nat) (i:TI) (σ:List AV) (z:AV) (K:List AV→Prop):Prop:=match x with
 |.box U cs=>Iy z=true∧(cellsOf z).length=i.size∧off+i.size≤cs.length∧K (σ.set s' (.box U (pleft cs off i.size (cellsOf z))))
 |_=>False
theorem vF (i:TI) (s:Nat) (y:Operand):Gx σ i (.tmp s) y none K=Apf ((amv σ y).getD s .any) s i (amv σ y) (aev σ y) K:=(rfl)
theorem Ac4 (U:Nat) (cs:List AV) (s:Nat) (i:TI) (z:AV):Apf (.box U cs) s i σ z K=(Iy z=true∧(cellsOf z).length=i.size∧i.size≤cs.length∧K (σ.set s (.box U (pleft cs 0 i.size (cellsOf z))))):=(rfl)
theorem Ac5 (s' off s:Nat) (i:TI) (z:AV):Apf (.ref s' off) s i σ z K=Aoa (σ.getD s' .any) s' off i σ z K:=(rfl)
theorem vG (U:Nat) (cs:List AV) (s' off:Nat) (i:TI) (z:AV):Aoa (.box U cs) s' off i σ z K=(Iy z=true∧(cellsOf z).length=i.size∧off+i.size≤cs.length∧K (σ.set s' (.box U (pleft cs off i.size (cellsOf z))))):=(rfl)
def fad (p:Option (Nat×Option Nat×Option Bool)) (x:AV) (s d:Nat) (σ:List AV) (K:List AV→Prop):Prop:=match p with
 |some (off,some n,some agg)=>(match x with
  |.box _ _=>n≠0∧s≠d∧K (σ.set d (.ref s off))
  |.ref s' o=>(match σ.getD s' .any with
   |.box _ _=>n≠0∧s'≠d∧K (σ.set d (.ref s' (o+off)))
   |_=>False)
  |.elt y=>n≠0∧Iy y=true∧(agg=false→n=1)∧off+n≤(cellsOf y).length∧K (σ.set d (.elt (pval agg (pcells (cellsOf y) off n))))
  |_=>False)
 |_=>False
def AtP (x:AV) (s' o n d:Nat) (σ:List AV) (K:List AV→Prop):Prop:=match x with
 |.box _ _=>n≠0∧s'≠d∧K (σ.set d (.ref s' o))
 |_=>False
theorem U1 (i:TI) (s f d:Nat):Bl σ i (.tmp s) f (some d) K=fad i.td.flds[f]? (σ.getD s .any) s d σ K:=by
 unfold Bl fad;generalize i.td.flds[f]? =p
 cases p with
 |none=>rfl
 |some p=>obtain⟨off,n,g⟩:=p;cases n<;>cases g<;>rfl
theorem Ajp (off n:Nat) (agg:Bool) (U:Nat) (cs:List AV) (s d:Nat):fad (some (off,some n,some agg)) (.box U cs) s d σ K=(n≠0∧s≠d∧K (σ.set d (.ref s off))):=(rfl)
theorem Ajq (off n:Nat) (agg:Bool) (s' o s d:Nat):fad (some (off,some n,some agg)) (.ref s' o) s d σ K=AtP (σ.getD s' .any) s' (o+off) n d σ K:=(rfl)
theorem Ac6 (U:Nat) (cs:List AV) (s' o n d:Nat):AtP (.box U cs) s' o n d σ K=(n≠0∧s'≠d∧K (σ.set d (.ref s' o))):=(rfl)
theorem Ajr (off n:Nat) (agg:Bool) (y:AV) (s d:Nat):fad (some (off,some n,some agg)) (.elt y) s d σ K=(n≠0∧Iy y=true∧(agg=false→n=1)∧off+n≤(cellsOf y).length∧K (σ.set d (.elt (pval agg (pcells (cellsOf y) off n))))):=(rfl)
def iad (T:Bd) (i:TI) (x y:AV) (s d:Nat) (σ:List AV) (K:List AV→Prop):Prop:=match x with
 |.box _ _=>(match i.td.arr,y with
  |some (len,e),.raw (.int _ n)=>(match T e with
   |some j=>0≤n∧n<len∧s≠d∧K (σ.set d (.ref s (n.toNat *j.size)))
   |none=>False)
  |_,_=>False)
 |x=>Ek T i (pl x) y (Mp d σ K)
def Apg (a:Option (Nat×Nat)) (T:Bd) (n:Int) (s d:Nat) (σ:List AV) (K:List AV→Prop):Prop:=match a with
 |some (len,e)=>(match T e with
  |some j=>0≤n∧n<len∧s≠d∧K (σ.set d (.ref s (n.toNat *j.size)))
  |none=>False)
 |none=>False
def AtQ (o:Option TI) (len:Nat) (n:Int) (s d:Nat) (σ:List AV) (K:List AV→Prop):Prop:=match o with
 |some j=>0≤n∧n<len∧s≠d∧K (σ.set d (.ref s (n.toNat *j.size)))
 |none=>False
theorem Sn (i:TI) (s d:Nat) (y:Operand):Bt T σ i (.tmp s) y (some d) K=iad T i (σ.getD s .any) (aev σ y) s d σ K:=by
 have hx:aev σ (.tmp s)=pl (σ.getD s .any):=(rfl);unfold Bt iad;simp only[hx];generalize aev σ y=u;cases σ.getD s .any<;>try rfl
 cases i.td.arr<;>cases u<;>try rfl
 rename_i v;cases v<;>rfl
theorem Ajs (i:TI) (U:Nat) (cs:List AV) (k:IntKind) (n:Int) (s d:Nat):iad T i (.box U cs) (.raw (.int k n)) s d σ K=Apg i.td.arr T n s d σ K:=by unfold iad Apg;cases i.td.arr<;>rfl
theorem vH (len e:Nat) (n:Int) (s d:Nat):Apg (some (len,e)) T n s d σ K=AtQ (T e) len n s d σ K:=(rfl)
theorem vI (j:TI) (len:Nat) (n:Int) (s d:Nat):AtQ (some j) len n s d σ K=(0≤n∧n<len∧s≠d∧K (σ.set d (.ref s (n.toNat *j.size)))):=(rfl)
def iae (o:Option Nat) (T:Bd) (k:Nat) (es:List AV) (n:Int) (K:AV→Prop):Prop:=match o with
 |some e=>(match T e with
  |some j=>k=j.size∧0≤n∧n.toNat<es.length∧K (.elt (es.getD n.toNat .any))
  |none=>False)
 |none=>False
def AtR (o:Option TI) (k:Nat) (es:List AV) (n:Int) (K:AV→Prop):Prop:=match o with
 |some j=>k=j.size∧0≤n∧n.toNat<es.length∧K (.elt (es.getD n.toNat .any))
 |none=>False
theorem Aph (i:TI) (k:Nat) (es:List AV) (kk:IntKind) (n:Int) (s d:Nat):iad T i (.sl k es) (.raw (.int kk n)) s d σ K=iae i.td.elem T k es n (Mp d σ K):=(rfl)
theorem Ajt (i:TI) (e k:Nat) (es:List AV) (kk:IntKind) (n:Int) (s d:Nat):iad T i (.own e k es) (.raw (.int kk n)) s d σ K=iae i.td.elem T k es n (Mp d σ K):=(rfl)
theorem Ac7 (e k:Nat) (es:List AV) (n:Int) (K:AV→Prop):iae (some e) T k es n K=AtR (T e) k es n K:=(rfl)
theorem vJ (j:TI) (k:Nat) (es:List AV) (n:Int) (K:AV→Prop):AtR (some j) k es n K=(k=j.size∧0≤n∧n.toNat<es.length∧K (.elt (es.getD n.toNat .any))):=(rfl)
theorem vK (t:Nat) (i:TI) (d:Nat):Pj σ t i (some d) K=(Gv i.zero=true∧σ.all (Km d)=true∧K (σ.set d (.box t (i.zero.map ac1)))):=(rfl)
theorem Aju (t:Nat) (x:Operand) (d:Nat):tP σ t x (some d) K=(Iy (aev σ x)=true∧(amv σ x).all (Km d)=true∧K ((amv σ x).set d (.box t (cellsOf (aev σ x))))):=(rfl)
def afi (p:Option (Nat×Option Nat×Option Bool)) (flds:List (Nat×Option Nat×Option Bool)) (x:AV) (r:List (Nat×AV)) (cs:List AV) (K:List AV→Prop):Prop:=match p with
 |some (off,some size,_)=>Iy x=true∧(cellsOf x).length=size∧off+size≤cs.length∧Fp flds r (pleft cs off size (cellsOf x)) K
 |_=>False
theorem vL (flds:List (Nat×Option Nat×Option Bool)) (cs:List AV):Fp flds [] cs K=K cs:=(rfl)
theorem lD (flds:List (Nat×Option Nat×Option Bool)) (i:Nat) (x:AV) (r:List (Nat×AV)) (cs:List AV):Fp flds ((i,x)::r) cs K=afi flds[i]? flds x r cs K:=by
 unfold afi;simp only[Fp];generalize flds[i]? =p
 cases p with
 |none=>rfl
 |some p=>obtain⟨off,n,g⟩:=p;cases n<;>rfl
theorem Ac8 (off size:Nat) (g:Option Bool) (flds:List (Nat×Option Nat×Option Bool)) (x:AV) (r:List (Nat×AV)) (cs:List AV):afi (some (off,some size,g)) flds x r cs K=(Iy x=true∧(cellsOf x).length=size∧off+size≤cs.length∧Fp flds r (pleft cs off size (cellsOf x)) K):=(rfl)
def AtS (is:List Nat) (p:List AV×List AV) (e:Nat) (j:TI) (n d:Nat) (K:List AV→Prop):Prop:=
 is=List.range n∧n*j.size≤16777216∧n≤16777216∧0<n*j.size∧rowOk j.size (p.1.map view)=true∧K (p.2.set d (.own e j.size (p.1.map view)))
theorem Sp (e:Nat) (j:TI) (n:Nat) (ps:List (Nat×Operand)) (d:Nat):Co σ e j n ps (some d) K=AtS (ps.map (·.1)) (agrab σ (ps.map (·.2))) e j n d K:=(rfl)
theorem Ajv (is:List Nat) (xs σ':List AV) (e:Nat) (j:TI) (n d:Nat):AtS is (xs,σ') e j n d K=(is=List.range n∧n*j.size≤16777216∧n≤16777216∧0<n*j.size∧rowOk j.size (xs.map view)=true∧K (σ'.set d (.own e j.size (xs.map view)))):=(rfl)
def acq (P:Program) (f:AV) (p:List AV×List AV) (d:Option Nat) (K:List AV→Prop):Prop:=match f with
 |.raw (.func (.func g) first caps)=>first.toList=[]∧Ab P g (p.1++caps.toList.map ac1) (dE d p.2 K)
 |.clo g cs=>Ab P g (p.1++cs) (dE d p.2 K)
 |_=>False
theorem Ac9 (f:Operand) (xs:List Operand) (d:Option Nat):Dr P σ f xs d K=acq P (aev σ f) (agrab σ xs) d K:=(rfl)
theorem Api (g:Nat) (xs σ':List AV) (d:Option Nat):acq P (.raw (.func (.func g) #[] #[])) (xs,σ') d K=Ab P g xs (dE d σ' K):=by simp [acq]
theorem Ajw (g:Nat) (cs xs σ':List AV) (d:Option Nat):acq P (.clo g cs) (xs,σ') d K=Ab P g (xs++cs) (dE d σ' K):=(rfl)
theorem Ajx (g:Nat) (cs:List AV) (t d:Nat):uW (.clo g cs) t d σ K=K (σ.set d (.clo g cs)):=(rfl)
theorem Ajy (g:Nat) (cs:List AV) (t d:Nat):ras (.clo g cs) t d σ K=K (σ.set d (.clo g cs)):=(rfl)
theorem Ajz (g':Nat) (cs:List AV) (g t:Nat) (rest:List Operand) (d:Option Nat):rcl P σ (.clo g' cs) g t rest d K=Dr P σ (.func g) (.tmp t::rest) d K:=(rfl)
theorem Aj0 (x:AV) (g t:Nat) (rest:List Operand) (d:Option Nat):rcl P σ (.elt x) g t rest d K=Dr P σ (.func g) (.tmp t::rest) d K:=(rfl)
theorem Aj1 (U:Nat) (cs:List AV) (m:Bool) (s:Nat):tw1 (.box U cs) m s K σ=(cs.all zc1=true∧K (σ.set s (.elt (.agg cs)))):=(rfl)
theorem X8 (d f:Nat) (x:Operand) (xs:List Operand):Ct P T (some d) (.makeFunc (.func f) #[] (List.toArray (x::xs))) σ K=(((x::xs).map (aev σ)).all zc1=true∧K (σ.set d (.clo f ((x::xs).map (aev σ))))):=(rfl)
theorem X9 (d f:Nat) (x:Operand) (xs:List Operand):dcop P T (some d) (.makeFunc (.func f) #[] (List.toArray (x::xs))) σ K=(((x::xs).map (aev σ)).all zc1=true∧K (σ.set d (.clo f ((x::xs).map (aev σ))))):=(rfl)
end
def ixor (k:IntKind) (a b:Int):Int:=k.wrap (BitVec.ofInt k.bits a ^^^ BitVec.ofInt k.bits b).toNat
def Aj2 (k:IntKind) (a b:Int):Int:=k.wrap (a*2 ^ (min b.toNat k.bits))
def Apj (k:IntKind) (a b:Int):Int:=a.fdiv (2 ^ (min b.toNat k.bits))
section
variable {P : Program} {T : Bd} {K : AV → Prop} {σ : List AV}
theorem lE (k k':IntKind) (a b:Int):F3 .add (.raw (.int k a)) (.raw (.int k' b)) K=(k=k'∧K (.raw (.int k (k.wrap (a+b))))):=(rfl)
theorem lF (k k':IntKind) (a b:Int):F3 .sub (.raw (.int k a)) (.raw (.int k' b)) K=(k=k'∧K (.raw (.int k (k.wrap (a-b))))):=(rfl)
theorem lG (k k':IntKind) (a b:Int):F3 .mul (.raw (.int k a)) (.raw (.int k' b)) K=(k=k'∧K (.raw (.int k (k.wrap (a*b))))):=(rfl)
theorem lH (k k':IntKind) (a b:Int):F3 .quo (.raw (.int k a)) (.raw (.int k' b)) K=(k=k'∧b≠0∧K (.raw (.int k (k.wrap (a.tdiv b))))):=(rfl)
theorem lI (k k':IntKind) (a b:Int):F3 .rem (.raw (.int k a)) (.raw (.int k' b)) K=(k=k'∧b≠0∧K (.raw (.int k (a.tmod b)))):=(rfl)
theorem lJ (k k':IntKind) (a b:Int):F3 .xor (.raw (.int k a)) (.raw (.int k' b)) K=(k=k'∧K (.raw (.int k (ixor k a b)))):=(rfl)
theorem lK (k k':IntKind) (a b:Int):F3 .eql (.raw (.int k a)) (.raw (.int k' b)) K=(k=k'∧K (.raw (.bool (a==b)))):=(rfl)
theorem lL (k k':IntKind) (a b:Int):F3 .neq (.raw (.int k a)) (.raw (.int k' b)) K=(k=k'∧K (.raw (.bool (a != b)))):=(rfl)
theorem lM (k k':IntKind) (a b:Int):F3 .lss (.raw (.int k a)) (.raw (.int k' b)) K=(k=k'∧K (.raw (.bool (decide (a<b))))):=(rfl)
theorem lN (k k':IntKind) (a b:Int):F3 .leq (.raw (.int k a)) (.raw (.int k' b)) K=(k=k'∧K (.raw (.bool (decide (a≤b))))):=(rfl)
theorem lO (k k':IntKind) (a b:Int):F3 .gtr (.raw (.int k a)) (.raw (.int k' b)) K=(k=k'∧K (.raw (.bool (decide (b<a))))):=(rfl)
theorem lP (k k':IntKind) (a b:Int):F3 .geq (.raw (.int k a)) (.raw (.int k' b)) K=(k=k'∧K (.raw (.bool (decide (b≤a))))):=(rfl)
theorem lQ (k k':IntKind) (a b:Int):F3 .shl (.raw (.int k a)) (.raw (.int k' b)) K=(0≤b∧K (.raw (.int k (Aj2 k a b)))):=(rfl)
theorem lR (k k':IntKind) (a b:Int):F3 .shr (.raw (.int k a)) (.raw (.int k' b)) K=(0≤b∧K (.raw (.int k (Apj k a b)))):=(rfl)
theorem lS (s t:ByteArray):F3 .add (.raw (.string s)) (.raw (.string t)) K=(s.data.toList.length+t.data.toList.length≤9223372036854775807∧K (.raw (.string ⟨(s.data.toList++t.data.toList).toArray⟩))):=(rfl)
theorem lT (s t:ByteArray):F3 .eql (.raw (.string s)) (.raw (.string t)) K=(K (.raw (.bool (s.data.toList==t.data.toList)))):=(rfl)
theorem lU (s t:ByteArray):F3 .neq (.raw (.string s)) (.raw (.string t)) K=(K (.raw (.bool (!(s.data.toList==t.data.toList))))):=(rfl)
theorem lV (s t:ByteArray):F3 .lss (.raw (.string s)) (.raw (.string t)) K=(K (.raw (.bool (Op.bytesLess s.data.toList t.data.toList)))):=(rfl)
theorem lW (s t:ByteArray):F3 .leq (.raw (.string s)) (.raw (.string t)) K=(K (.raw (.bool (Op.bytesLess s.data.toList t.data.toList||s.data.toList==t.data.toList)))):=(rfl)
theorem lX (s t:ByteArray):F3 .gtr (.raw (.string s)) (.raw (.string t)) K=(K (.raw (.bool (!(Op.bytesLess s.data.toList t.data.toList||s.data.toList==t.data.toList))))):=(rfl)
theorem lY (s t:ByteArray):F3 .geq (.raw (.string s)) (.raw (.string t)) K=(K (.raw (.bool (!(Op.bytesLess s.data.toList t.data.toList))))):=(rfl)
theorem dO (t:Nat) (xs ys:List AV):I7 T .eql t (.agg xs) (.agg ys) K=jL (T t) xs ys K false:=(rfl)
theorem vM (i:TI) (xs ys:List AV) (neg:Bool) (K:AV→Prop):jL (some i) xs ys K neg=tO i.eqs xs ys K neg:=(rfl)
theorem vN (q:List (Nat×Nat)) (xs ys:List AV) (neg:Bool) (K:AV→Prop):tO (some q) xs ys K neg=jK (Pd xs ys q) K neg:=(rfl)
theorem Apk (b:Bool) (K:AV→Prop):jK (some b) K false=K (.raw (.bool b)):=by simp [jK]
theorem AcA (xs ys:List AV):Pd xs ys []=some true:=(rfl)
theorem vO (xs ys:List AV) (o k:Nat) (r:List (Nat×Nat)):Pd xs ys ((o,k)::r)=Aii (bO (xs.getD o .any) (ys.getD o .any) k) (Pd xs ys r):=(rfl)
theorem vP (a b:Bool):Aii (some a) (some b)=some (a&&b):=(rfl)
theorem Apl (k:IntKind) (a b:Int):bO (.raw (.int k a)) (.raw (.int k b)) 0=some (a==b):=by simp [bO]
theorem Apm (a b:List UInt8):bO (.raw (.string ⟨a.toArray⟩)) (.raw (.string ⟨b.toArray⟩)) 1=some (a==b):=by simp [bO]
attribute [go_sem] dO vM vN Apk AcA vO vP Apl Apm
theorem Aj3 (b:Bool):aun .not (.raw (.bool b)) K=K (.raw (.bool (!b))):=(rfl)
theorem Aj4 (k:IntKind) (n:Int):aun .neg (.raw (.int k n)) K=K (.raw (.int k (k.wrap (0-n)))):=(rfl)
theorem AcB (i:TI) (s:ByteArray):uY (.raw (.string s)) i σ K=(i.td.str=true∧K (.raw (.int .i64 (s.data.toList.length:Int)))):=(rfl)
theorem Aj5 (i:TI) (k:Nat) (es:List AV):uY (.sl k es) i σ K=(i.td.elem.isSome=true∧K (.raw (.int .i64 (es.length:Int)))):=(rfl)
theorem AcC (i:TI) (e k:Nat) (es:List AV):uY (.own e k es) i σ K=(i.td.elem.isSome=true∧K (.raw (.int .i64 (es.length:Int)))):=(rfl)
def Aob (x:AV) (i:TI) (K:AV→Prop):Prop:=match x with
 |.row _ _ es=>i.td.elem.isSome=true∧K (.raw (.int .i64 (es.length:Int)))
 |_=>False
theorem lZ (s:Nat) (i:TI):uY (.alias s) i σ K=Aob (σ.getD s .any) i K:=(rfl)
theorem vQ (i:TI) (e k:Nat) (es:List AV):Aob (.row e k es) i K=(i.td.elem.isSome=true∧K (.raw (.int .i64 (es.length:Int)))):=(rfl)
theorem Aj6 (i:TI) (k:Nat) (es:List AV):Xi i (.sl k es) K=(i.td.elem.isSome=true∧K (.raw (.int .i64 (es.length:Int)))):=(rfl)
theorem Aj7 (sh bm:List Nat) (d:Option Nat) (σ':List AV) (A:Prop):fin2 sh bm d σ σ' A=fxp d σ σ' (rH σ' A bm) sh:=(rfl)
theorem Aj8 (d:Option Nat) (σ':List AV) (A:Prop):fxp d σ σ' A []=A:=(rfl)
theorem AcD (d:Option Nat) (σ':List AV) (A:Prop) (s:Nat) (sh:List Nat):fxp d σ σ' A (s::sh)=((d≠some s→σ'.getD s .any=σ.getD s .any)∧fxp d σ σ' A sh):=(rfl)
theorem Aj9 (A:Prop):rH σ A []=A:=(rfl)
def AtT (b:Bool) (d:Nat) (σ:List AV) (A:Prop):Prop:=(bif b then Abr (σ.getD (d-100000) .any)else σ.all (Km d))=true∧A
theorem AcE (A:Prop) (d:Nat) (bm:List Nat):rH σ A (d::bm)=AtT (decide (100000≤d)) d σ (rH σ A bm):=(rfl)
theorem Apn (d:Nat) (A:Prop):AtT false d σ A=(σ.all (Km d)=true∧A):=(rfl)
theorem AcF {Q:Exit→List AV→Prop} (t s d g:Nat) (rest:List Operand) (dst:Option Nat):Hj P T (.lend t s d g rest dst) Q σ=dA P T t s d g rest dst (Q .normal) σ:=(rfl)
def AtU (o:Option TI) (P:Program) (s d g:Nat) (rest:List Operand) (dst:Option Nat) (L:List AV→Prop) (σ:List AV):Prop:=match o with
 |some i=>i.td.agg=false∧dst≠some s∧σ.length.ble d=false∧Ab0 P (σ.getD s .any) s d g rest dst L σ
 |none=>False
theorem AcG (t s d g:Nat) (rest:List Operand) (dst:Option Nat) (L:List AV→Prop):dA P T t s d g rest dst L σ=AtU (T t) P s d g rest dst L σ:=(rfl)
theorem vR (i:TI) (s d g:Nat) (rest:List Operand) (dst:Option Nat) (L:List AV→Prop):AtU (some i) P s d g rest dst L σ=(i.td.agg=false∧dst≠some s∧σ.length.ble d=false∧Ab0 P (σ.getD s .any) s d g rest dst L σ):=(rfl)
theorem vS (Te e k:Nat) (es:List AV) (s d g:Nat) (rest:List Operand) (dst:Option Nat) (L:List AV→Prop):Ab0 P (.box Te [.mine e k es]) s d g rest dst L σ=B9 P g (.row e k es) (agrab ((σ.set s .any).set d .any) rest).1 (klend e k s Te dst (agrab ((σ.set s .any).set d .any) rest).2 L):=(rfl)
theorem vT (e k s Te:Nat) (dst:Option Nat) (τ:List AV) (L:List AV→Prop) (r:AV) (e' k':Nat) (es':List AV):klend e k s Te dst τ L r (.row e' k' es')=(e'=e∧k'=k∧L (aset (τ.set s (.box Te [.mine e k es'])) dst r)):=(rfl)
theorem AcH (L:List AV→Prop):Hu T [] σ L=L []:=(rfl)
theorem AcI (t:Nat) (rs:List ResultVar) (L:List AV→Prop):Hu T (.tmp t::rs) σ L=Hu T rs (amv σ (.tmp t)) fun vs=>L (aev σ (.tmp t)::vs):=(rfl)
def AcJ (o:Option TI) (x:AV) (T:Bd) (rs:List ResultVar) (s:Nat) (σ:List AV) (L:List AV→Prop):Prop:=match o with
 |some i=>(match x with
  |.box Te cs=>lsz i≤cs.length∧Hu T rs (σ.set s (.box Te (pleft cs 0 (lsz i) ((pcells cs 0 (lsz i)).map v1)))) fun vs=>L (pl (pval i.td.agg (pcells cs 0 (lsz i)))::vs)
  |_=>False)
 |none=>False
theorem vU (s t:Nat) (rs:List ResultVar) (L:List AV→Prop):Hu T (.cell s t::rs) σ L=AcJ (T t) (σ.getD s .any) T rs s σ L:=(rfl)
theorem mA (i:TI) (Te:Nat) (cs:List AV) (rs:List ResultVar) (s:Nat) (L:List AV→Prop):AcJ (some i) (.box Te cs) T rs s σ L=(lsz i≤cs.length∧Hu T rs (σ.set s (.box Te (pleft cs 0 (lsz i) ((pcells cs 0 (lsz i)).map v1)))) fun vs=>L (pl (pval i.td.agg (pcells cs 0 (lsz i)))::vs)):=(rfl)
end
def I2:List Bool→List AV→List AV
 |true::m,_::xs=>.any::I2 m xs
 |false::m,x::xs=>x::I2 m xs
 |_,xs=>xs
theorem Io (m:List Bool) (x:AV) (xs:List AV):I2 (true::m) (x::xs)=.any::I2 m xs:=(rfl)
theorem Ip (m:List Bool) (x:AV) (xs:List AV):I2 (false::m) (x::xs)=x::I2 m xs:=(rfl)
theorem Eh (xs:List AV):I2 [] xs=xs:=by cases xs<;>rfl
def D5:List Nat→List AV→List AV→List AV
 |s::ss,x::xs,σ=>D5 ss xs (σ.set s x)
 |_,_,σ=>σ
theorem Ci (s:Nat) (ss:List Nat) (x:AV) (xs σ:List AV):D5 (s::ss) (x::xs) σ=D5 ss xs (σ.set s x):=(rfl)
theorem Db (xs σ:List AV):D5 [] xs σ=σ:=(rfl)
def lend (m:List Bool) (ss:List Nat) (R:Nat→List AV→Prop) (σ:List AV) (n:Nat) (σ2:List AV):Prop:=∃k σ3,k<n∧Wk σ2 σ3∧∃xs,R k xs∧σ3=D5 ss xs (I2 m σ)
theorem Ap {P:Program} {T:Bd} {c:CC} {Q:Exit→List AV→Prop} {σ:List AV} (m:List Bool) (ss:List Nat) (R:Nat→List AV→Prop)
 (start:∃n xs,R n xs∧Wk σ (D5 ss xs (I2 m σ)))
 (round:∀n xs,R n xs→Hj P T c (Xz (lend m ss R σ n) Q) (D5 ss xs (I2 m σ))):Hj P T (.loop c) Q σ:=by
 obtain⟨n0,f0,h0,hw0⟩:=start;refine⟨fun n σ'=>∃xs,R n xs∧σ'=D5 ss xs (I2 m σ),⟨n0,_,hw0,f0,h0,rfl⟩,?_⟩;rintro n σ1 ⟨f,hR,rfl⟩;exact round n f hR
def AtV (m:List Bool) (ss:List Nat) (R:List AV→Prop) (σ σ2:List AV):Prop:=∃σ3,Wk σ2 σ3∧∃xs,R xs∧σ3=D5 ss xs (I2 m σ)
theorem Ya {P:Program} {T:Bd} {x y:CC} {Q:Exit→List AV→Prop} {σ:List AV} (m:List Bool) (ss:List Nat) (R:List AV→Prop)
 (before:Hj P T x (Xz (AtV m ss R σ) Q) σ) (behind:∀xs,R xs→Hj P T y Q (D5 ss xs (I2 m σ))):Hj P T (.cut x y) Q σ:=
 ⟨fun σ'=>∃xs,R xs∧σ'=D5 ss xs (I2 m σ),fun σ1 ⟨xs,hR,he⟩=>he▸behind xs hR,before⟩
theorem K0 {m:List Bool} {ss:List Nat} {R:List AV→Prop} {σ σ2:List AV} (xs:List AV) (hR:R xs) (hw:Wk σ2 (D5 ss xs (I2 m σ))):AtV m ss R σ σ2:=
 ⟨_,hw,xs,hR,rfl⟩
theorem Az {m:List Bool} {ss:List Nat} {R:Nat→List AV→Prop} {σ:List AV} {n:Nat} {σ2:List AV} (k:Nat) (xs:List AV) (hm:k<n) (hR:R k xs) (hw:Wk σ2 (D5 ss xs (I2 m σ))):lend m ss R σ n σ2:=
 ⟨k,_,hm,hw,xs,hR,rfl⟩
theorem B7 {x:AV} {xs ys:List AV} (h:Wk xs ys):Wk (x::xs) (.any::ys):=.cons (W1.any x) rfl h
theorem A6 {e k:Nat} {xs ys:List AV} (h:Wk xs ys):Wk (.nil::xs) (.own e k []::ys):=.cons (W1.nilown e k) rfl h
theorem M6 {e k:Nat} {xs ys:List AV} (h:Wk xs ys):Wk (.nil::xs) (.mine e k []::ys):=.cons (W1.nilmine e k) rfl h
theorem Ba {e k:Nat} {es xs ys:List AV} (h:Wk xs ys):Wk (.own e k es::xs) (.sl k es::ys):=.cons (W1.ownsl e k es) rfl h
theorem A1 {k:Nat} {xs ys:List AV} (h:Wk xs ys):Wk (.nil::xs) (.sl k []::ys):=.cons (W1.nilsl k) rfl h
attribute [go_sem] Ab5 Ajl Acx Acy kU uR AiK AbM AbN AiL kV kW AbP uS AbY AbZ Aca Acb uT Acd Ace Acf uU Ach Aci Acj Ack mkel AcF AcG vR vS vT Ai1 Ab6 Ai2 Ai3 Ai4 Ab7 Ai5 Ab8 uH uI Acn Aco Acv Nat.reduceMod decide_false decide_true Nat.reduceLeDiff Ai6 Ab9 AiA Ai7 AbA AbB At7 At8 At9 AtA uJ AbD AiD Acz Ac0 Ac1 dF uK AbE dG AbF uL AbG Ai8 kO Ai9 kP dH AoU AiB AtG AtH AbC AiC AiF AoV AiG AbH uM kQ AbI uN kR uO uP kS AbK AoW AtI dI dJ AiH Ajj AiI AbL X1 AbQ AbR AoY AbT Uy Sk AiM AbV AbW X3 AbX AoZ AiN Acc AiP X4 Acl kY AiS uQ kT AoX AtJ AiJ X2 AbS AbU Uz AiO Acg X6 kZ Apa AiQ AiR AiT Apb AiU AiV AiW AiX AiY uX AiZ Apc Aja Ajb Ajc Ajd Apd uZ Aje Acr Acs Acu Ajf Ape Ajg Ajh vA dN vB Acw Aji vC lA Q3 Sl lB U0 X7 vE lC Sm Ac2 Ajm Ajn Ajo Ac3 vF Ac4 Ac5 vG U1 Ajp Ajq Ac6 Ajr Sn Ajs vH vI Aph Ajt Ac7 vJ vK Aju Sp Ajv Ac9 Api vL lD Ac8 AxE AxX Ajw Ajx Ajy Ajz Aj0 Aj1 X8 X9 zc1 Acm uV bok Il bP Ayi aev pl aconst ac1 amv Mn agrab nv rv aset v1 v2 view pcells pleft pval cellsOf lsz Iy Km lE lF lG lH lI lJ lK lL lM lN lO lP lQ lR lS lT lU lV lW lX lY Aj3 Aj4 AcB Aj5 AcC lZ vQ Aj6 Aj7 Aj8 AcD Aj9 AcE Apn Nat.reduceSub AcH AcI vU mA List.getD_cons_zero List.getD_cons_succ Aye Ayf Qe Nn Axp AxI List.drop Axx Axv AxF Ax8 List.getElem?_cons_zero List.getElem?_cons_succ Axr Axq AyX List.headD_cons List.drop_succ_cons List.drop_zero Azb List.all_nil Ax4 Gv Value.oneCell' AyI Option.isSome_some if_true if_false Ax0 true_and implies_true Option.some.injEq not_true_eq_false false_implies List.contains_cons List.contains_nil beq_self_eq_true Bool.or_true Bool.true_or Nat.reduceBEq Aza Bool.or_false
end Go.Proofs.YtmophjggmekoeaaGreatDoor
