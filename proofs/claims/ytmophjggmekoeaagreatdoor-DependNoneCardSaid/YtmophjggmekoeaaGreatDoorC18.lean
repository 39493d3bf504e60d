/- Rewriting rules for code beside blocks. -/
import Derived.Test.YtmophjggmekoeaaGreatDoorC17
set_option linter.all false
namespace Go.Proofs.YtmophjggmekoeaaGreatDoor
open Go.RowKit
variable [Env]
def ksH (d:Option Nat) (γ σ:List AV) (K:List AV→List AV→Prop) (z:AV):Prop:=K γ (aset σ d z)
def kcH (d:Option Nat) (σ:List AV) (K:List AV→List AV→Prop) (r:AV) (γ:List AV):Prop:=K γ (aset σ d r)
def keH (σ:List AV) (E:Value→List AV→List AV→Prop) (v:Value) (γ:List AV):Prop:=E v γ σ
def kpH (γ σ:List AV) (E:Value→List AV→List AV→Prop) (v:Value):Prop:=E v γ σ
def ApI (T:Bd) (t f:Nat) (A:Prop) (K:AV→Prop):Option (Nat×Nat)→Prop
 |some (b,off)=>hfa (T t) f b off K
 |none=>A
def ApJ (b off:Nat) (K:AV→Prop):Option (Nat×Option Nat×Option Bool)→Prop
 |some (fo,some n,_)=>n≠0∧K (.raw (.pointer (some ⟨b,off+fo,none⟩)))
 |_=>False
def ApK (T:Bd) (t:Nat) (d:Option Nat) (γ σ:List AV) (K:List AV→List AV→Prop) (A:Prop):Option (Nat×Nat)→Prop
 |some (b,off)=>hld (T t) (Jz b γ) off d γ σ K
 |none=>A
def ApL (i:TI) (gi off:Nat) (d:Option Nat) (γ σ:List AV) (K:List AV→List AV→Prop):AV→Prop
 |.nbox b Te cs=>off+lsz i≤cs.length∧K (γ.set gi (.nbox b Te (pleft cs off (lsz i) ((pcells cs off (lsz i)).map v1)))) (aset σ d (pl (pval i.td.agg (pcells cs off (lsz i)))))
 |_=>False
def ApM (T:Bd) (t:Nat) (y:Operand) (d:Option Nat) (γ σ:List AV) (K:List AV→List AV→Prop) (A:Prop):Option (Nat×Nat)→Prop
 |some (b,off)=>mT (T t) (Jz b γ) off y d γ σ K
 |none=>A
def hst1 (i:TI) (gi off:Nat) (z:AV) (γ σ:List AV) (K:List AV→List AV→Prop):AV→Prop
 |.nbox b Te cs=>off+i.size≤cs.length∧Iy z=true∧(cellsOf z).length=i.size∧K (γ.set gi (.nbox b Te (pleft cs off i.size (cellsOf z)))) σ
 |_=>False
def hmk (γ σ:List AV) (d:Option Nat) (K:List AV→List AV→Prop):Prop:=∀b,(∀x∈γ,M8 x≠some b)→K (.nmap b [] []::γ) (aset σ d (.raw (.map (some b))))
def Aun (H:Gy) (t:Nat) (y:AV) (ok:Bool) (γ:List AV) (A:Prop) (K:AV→Prop):Option Nat→Prop
 |some b=>hlk H (H.mp t) (Jz b γ) y ok γ K
 |none=>A
def ApN (H:Gy) (t:Nat) (x y:Operand) (d:Option Nat) (γ σ:List AV) (K:List AV→List AV→Prop) (A:Prop):Option Nat→Prop
 |some b=>hup H (H.mp t) (Jz b γ) x y d γ σ K
 |none=>A
def Auo (gi:Nat) (d:Option Nat) (γ σ:List AV) (K:List AV→List AV→Prop) (z:AV):Prop:=K (γ.set gi z) (aset σ d .any)
def Akg:AV→Bool
 |.row _ _ _=>true
 |_=>false
def hrw (σ:List AV):AV→Bool
 |.row _ _ _=>true
 |.alias s=>Akg (σ.getD s .any)
 |_=>false
def Adt (P:Program) (r:AV) (xs σ':List AV) (d:Option Nat) (γ:List AV) (K:List AV→List AV→Prop) (E:Value→List AV→List AV→Prop):Option Nat→Prop
 |some g=>HC P g (r::xs) γ (kcH d σ' K) (keH σ' E)
 |none=>False
def ApO (d:Option Nat) (K:List AV→List AV→Prop) (γ σ:List AV):Prop:=K γ (aset σ d (.tup []))
section
variable {P : Program} {T : Bd} {H : Gy} {γ σ : List AV} {K L : List AV → List AV → Prop} {E : Value → List AV → List AV → Prop} {Q : Exit → List AV → List AV → Prop} {KA : AV → Prop} {A : Prop} {d : Option Nat}
theorem Adu (d:Nat) (z:AV):ksH (some d) γ σ K z=K γ (σ.set d z):=(rfl)
theorem Adv (d:Nat) (z:AV):kcH (some d) σ K z γ=K γ (σ.set d z):=(rfl)
theorem ApP (v:Value):keH σ E v γ=E v γ σ:=(rfl)
theorem ApQ (v:Value):kpH γ σ E v=E v γ σ:=(rfl)
theorem wJ (d:Nat):ApO (some d) K γ σ=K γ (σ.set d (.tup [])):=(rfl)
theorem Adw (b off:Nat):Hb (.raw (.pointer (some ⟨b,off,none⟩)))=some (b,off):=(rfl)
theorem Adx (U:Nat) (cs:List AV):Hb (.box U cs)=none:=(rfl)
theorem Ady (s off:Nat):Hb (.ref s off)=none:=(rfl)
theorem Adz (x:AV):Hb (.elt x)=none:=(rfl)
theorem wK (s k j o:Nat):Hb (.pref s k j o)=none:=(rfl)
theorem wL (b:Nat):E4 (.raw (.map (some b)))=some b:=(rfl)
theorem wM (s:ByteArray):E4 (.raw (.string s))=none:=(rfl)
theorem Ad0 (k:Nat) (es:List AV):E4 (.sl k es)=none:=(rfl)
theorem wN (e k:Nat) (es:List AV):E4 (.own e k es)=none:=(rfl)
theorem eI (s:Nat):E4 (.alias s)=none:=(rfl)
theorem Akh (b:Nat):Jz b []=none:=(rfl)
theorem Aki (b b' U:Nat) (cs r:List AV):Jz b (.nbox b' U cs::r)=if b'=b then some 0 else(Jz b r).map (·+1):=(rfl)
theorem Akj (b b':Nat) (ks:List Value) (vs r:List AV):Jz b (.nmap b' ks vs::r)=if b'=b then some 0 else(Jz b r).map (·+1):=(rfl)
theorem Akk (b:Nat) (ad:Addr) (x:AV) (r:List AV):Jz b (.nelt ad x::r)=(Jz b r).map (·+1):=(rfl)
theorem Yj (t q f:Nat):hop P T H d (.fieldAddr t (.tmp q) f) γ σ K E=ApI T t f (Ct P T d (.fieldAddr t (.tmp q) f) σ (K γ)) (ksH d γ σ K) (Hb (σ.getD q .any)):=by
 show(match Hb (σ.getD q .any)with
  |some (b,off)=>hfa (T t) f b off fun y=>K γ (aset σ d y)
  |none=>Ct P T d (.fieldAddr t (.tmp q) f) σ (K γ))=_
 cases Hb (σ.getD q .any)<;>rfl
theorem wO (t f b off:Nat):ApI T t f A KA (some (b,off))=hfa (T t) f b off KA:=(rfl)
theorem wP (t f:Nat):ApI T t f A KA none=A:=(rfl)
theorem Ad1 (i:TI) (f b off:Nat):hfa (some i) f b off KA=ApJ b off KA i.td.flds[f]? :=by unfold hfa ApJ;rfl
theorem wQ (b off fo n:Nat) (ag:Option Bool):ApJ b off KA (some (fo,some n,ag))=(n≠0∧KA (.raw (.pointer (some ⟨b,off+fo,none⟩)))):=(rfl)
theorem Akl (t q:Nat):hop P T H d (.load t (.tmp q)) γ σ K E=ApK T t d γ σ K (Ct P T d (.load t (.tmp q)) σ (K γ)) (Hb (σ.getD q .any)):=by
 show(match Hb (σ.getD q .any)with
  |some (b,off)=>hld (T t) (Jz b γ) off d γ σ K
  |none=>Ct P T d (.load t (.tmp q)) σ (K γ))=_
 cases Hb (σ.getD q .any)<;>rfl
theorem wR (t b off:Nat):ApK T t d γ σ K A (some (b,off))=hld (T t) (Jz b γ) off d γ σ K:=(rfl)
theorem wT (t:Nat):ApK T t d γ σ K A none=A:=(rfl)
theorem Ad2 (i:TI) (gi off:Nat):hld (some i) (some gi) off d γ σ K=ApL i gi off d γ σ K (γ.getD gi .any):=by unfold hld ApL;rfl
theorem Ad3 (i:TI) (gi off b Te:Nat) (cs:List AV):ApL i gi off d γ σ K (.nbox b Te cs)=(off+lsz i≤cs.length∧K (γ.set gi (.nbox b Te (pleft cs off (lsz i) ((pcells cs off (lsz i)).map v1)))) (aset σ d (pl (pval i.td.agg (pcells cs off (lsz i)))))):=(rfl)
theorem Ad4 (t q:Nat) (y:Operand):hop P T H d (.store t (.tmp q) y) γ σ K E=ApM T t y d γ σ K (Ct P T d (.store t (.tmp q) y) σ (K γ)) (Hb (σ.getD q .any)):=by
 show(match Hb (σ.getD q .any)with
  |some (b,off)=>mT (T t) (Jz b γ) off y d γ σ K
  |none=>Ct P T d (.store t (.tmp q) y) σ (K γ))=_
 cases Hb (σ.getD q .any)<;>rfl
theorem wU (t b off:Nat) (y:Operand):ApM T t y d γ σ K A (some (b,off))=mT (T t) (Jz b γ) off y d γ σ K:=(rfl)
theorem wV (t:Nat) (y:Operand):ApM T t y d γ σ K A none=A:=(rfl)
theorem wW (i:TI) (gi off:Nat) (y:Operand):mT (some i) (some gi) off y d γ σ K=hst1 i gi off (aev σ y) γ (aset (amv σ y) d .any) K (γ.getD gi .any):=by unfold mT hst1;rfl
theorem Ad5 (i:TI) (gi off b Te:Nat) (z:AV) (cs:List AV):hst1 i gi off z γ σ K (.nbox b Te cs)=(off+i.size≤cs.length∧Iy z=true∧(cellsOf z).length=i.size∧K (γ.set gi (.nbox b Te (pleft cs off i.size (cellsOf z)))) σ):=(rfl)
theorem eJ (x:Operand):hop P T H d (.nilCheck x) γ σ K E=hnc (aev σ x) (Ct P T d (.nilCheck x) σ (K γ)) (ksH d γ σ K):=(rfl)
theorem Akm (ad:Addr):hnc (.raw (.pointer (some ad))) A KA=KA (.raw (.pointer (some ad))):=(rfl)
theorem Pt (t:Nat) (x:Operand):hop P T H d (.makeInterface t x) γ σ K E=hmx H t d γ σ K (aev σ x):=(rfl)
theorem Akn (t:Nat) (v:Value):hmx H t d γ σ K (.raw v)=(H.cn t=true∧K γ (aset σ d (.raw (.iface t v)))):=(rfl)
theorem Ako (t:Nat) (y:AV):hmx H t d γ σ K (.elt y)=(H.cn t=true∧∀ad,K (.nelt ad y::γ) (aset σ d (.raw (.iface t (.pointer (some ad)))))):=(rfl)
theorem U5 (x:Operand) (t' t:Nat) (ok:Bool):hop P T H d (.typeAssert x t' t ok) γ σ K E=hta H t ok (aev σ x) (ksH d γ σ K):=(rfl)
theorem wX (t t':Nat) (ok:Bool) (v:Value):hta H t ok (.raw (.iface t' v)) KA=AjW (H.cn t) t' v t ok (H.zr t) KA:=(rfl)
theorem wY (t t':Nat) (ok:Bool) (v:Value) (z:Option Value):AjW true t' v t ok z KA=if t'=t then KA (if ok then .tup [aconst v,.raw (.bool true)]else aconst v)else mU z ok KA:=by simp [AjW]
theorem wZ (z:Value):mU (some z) true KA=KA (.tup [aconst z,.raw (.bool false)]):=by simp [mU]
theorem Ad6 (x:Operand):hop P T H d (.panic x) γ σ K E=hpn (aev σ x) (kpH γ σ E):=(rfl)
theorem xC (t:Nat) (v:Value) (F:Value→Prop):hpn (.raw (.iface t v)) F=F (.iface t v):=(rfl)
theorem nB (t:Nat):hop P T H d (.makeMap t none) γ σ K E=hmk γ σ d K:=(rfl)
theorem xD (t q:Nat) (x:Operand) (ok:Bool):hop P T H d (.lookup t (.tmp q) x ok) γ σ K E=Aun H t (aev σ x) ok γ (Ct P T d (.lookup t (.tmp q) x ok) σ (K γ)) (ksH d γ σ K) (E4 (σ.getD q .any)):=by
 show(match E4 (σ.getD q .any)with
  |some b=>hlk H (H.mp t) (Jz b γ) (aev σ x) ok γ fun y=>K γ (aset σ d y)
  |none=>Ct P T d (.lookup t (.tmp q) x ok) σ (K γ))=_
 cases E4 (σ.getD q .any)<;>rfl
theorem xE (t b:Nat) (y:AV) (ok:Bool):Aun H t y ok γ A KA (some b)=hlk H (H.mp t) (Jz b γ) y ok γ KA:=(rfl)
theorem Ad7 (kt et gi:Nat) (y:AV) (ok:Bool):hlk H (some (kt,et)) (some gi) y ok γ KA=Adh H kt et (γ.getD gi .any) y ok KA:=(rfl)
def ApR (kd:Option TypeDesc) (ks:List Value) (vs:List AV) (k:Value) (ok:Bool) (KA:AV→Prop):Option Value→Prop
 |some z=>N2 kd k ks∧KA (U4 ok z vs (B5 k ks))
 |none=>False
theorem Ad8 (kt et b:Nat) (ks:List Value) (vs:List AV) (k:Value) (ok:Bool):Adh H kt et (.nmap b ks vs) (.raw k) ok KA=ApR (H.kd kt) ks vs k ok KA (H.zr et):=by unfold Adh ApR;cases H.zr et<;>rfl
theorem xF (kd:Option TypeDesc) (ks:List Value) (vs:List AV) (k z:Value) (ok:Bool):ApR kd ks vs k ok KA (some z)=(N2 kd k ks∧KA (U4 ok z vs (B5 k ks))):=(rfl)
theorem xG (t q:Nat) (x y:Operand):hop P T H d (.mapUpdate t (.tmp q) x y) γ σ K E=ApN H t x y d γ σ K (Ct P T d (.mapUpdate t (.tmp q) x y) σ (K γ)) (E4 (σ.getD q .any)):=by
 show(match E4 (σ.getD q .any)with
  |some b=>hup H (H.mp t) (Jz b γ) x y d γ σ K
  |none=>Ct P T d (.mapUpdate t (.tmp q) x y) σ (K γ))=_
 cases E4 (σ.getD q .any)<;>rfl
theorem xH (t q:Nat) (x y:Operand):hop P T H d (.insert t (.tmp q) x y) γ σ K E=ApN H t x y d γ σ K (Ct P T d (.insert t (.tmp q) x y) σ (K γ)) (E4 (σ.getD q .any)):=by
 show(match E4 (σ.getD q .any)with
  |some b=>hup H (H.mp t) (Jz b γ) x y d γ σ K
  |none=>Ct P T d (.insert t (.tmp q) x y) σ (K γ))=_
 cases E4 (σ.getD q .any)<;>rfl
theorem xI (t b:Nat) (x y:Operand):ApN H t x y d γ σ K A (some b)=hup H (H.mp t) (Jz b γ) x y d γ σ K:=(rfl)
theorem Ad9 (kt et gi:Nat) (x y:Operand):hup H (some (kt,et)) (some gi) x y d γ σ K=Adi (H.kd kt) (γ.getD gi .any) (aev σ x) (aev σ y) (Auo gi d γ (amv σ y) K):=(rfl)
theorem AdA (kd:Option TypeDesc) (b:Nat) (ks:List Value) (vs:List AV) (k:Value) (y:AV):Adi kd (.nmap b ks vs) (.raw k) y KA=(N2 kd k ks∧KA (wA b ks vs k y (B5 k ks))):=(rfl)
theorem Akp (gi:Nat) (z:AV):Auo gi d γ σ K z=K (γ.set gi z) (aset σ d .any):=(rfl)
theorem ApS (t ty:Nat):hop P T H d (.call ⟨.builtin .len,#[.tmp t],#[ty]⟩) γ σ K E=rY H (E4 (σ.getD t .any)) [ty] γ (Ct P T d (.call ⟨.builtin .len,#[.tmp t],#[ty]⟩) σ (K γ)) (ksH d γ σ K):=(rfl)
theorem nC (ty:Nat):rY H none [ty] γ A KA=A:=(rfl)
theorem AdB (f:Operand) (xs:Array Operand) (ts:Array TypeId):hop P T H d (.call ⟨.value f,xs,ts⟩) γ σ K E=(bif hrow σ xs.toList then Ct P T d (.call ⟨.value f,xs,ts⟩) σ (K γ)else hcv P (aev σ f) (agrab σ xs.toList) d γ K E):=(rfl)
theorem AdC:hrow σ []=false:=(rfl)
theorem nD (v:Value) (r:List Operand):hrow σ (.const v::r)=false:=(rfl)
theorem AdD (t:Nat) (r:List Operand):hrow σ (.tmp t::r)=hrw σ (σ.getD t .any):=by
 show(Ft σ t).isSome=_;unfold Ft hrw;cases σ.getD t .any<;>try rfl
 rename_i s;simp only[];unfold Akg;cases σ.getD s .any<;>rfl
theorem Akq (v:Value):hrw σ (.raw v)=false:=(rfl)
theorem ApT (k:Nat) (es:List AV):hrw σ (.sl k es)=false:=(rfl)
theorem Akr (e k:Nat) (es:List AV):hrw σ (.own e k es)=false:=(rfl)
theorem AdE (e k:Nat) (es:List AV):hrw σ (.mine e k es)=false:=(rfl)
theorem Aks (cs:List AV):hrw σ (.agg cs)=false:=(rfl)
theorem Akt (x:AV):hrw σ (.elt x)=false:=(rfl)
theorem xJ (s:Nat):hrw σ (.alias s)=Akg (σ.getD s .any):=(rfl)
theorem AdF (e k:Nat) (es:List AV):Akg (.row e k es)=true:=(rfl)
theorem ApU (g:Nat) (xs σ':List AV):hcv P (.raw (.func (.func g) #[] #[])) (xs,σ') d γ K E=HC P g xs γ (kcH d σ' K) (keH σ' E):=by simp only[hcv,hcg,Axv,Ax8,AxF,true_and];rfl
theorem Aku (g:Nat) (cs xs σ':List AV):hcv P (.clo g cs) (xs,σ') d γ K E=HC P g (xs++cs) γ (kcH d σ' K) (keH σ' E):=(rfl)
theorem xK (r:Operand) (n:String) (xs:Array Operand) (ts:Array TypeId):hop P T H d (.call ⟨.invoke r n,xs,ts⟩) γ σ K E=Adj P H (aev σ r) n (agrab σ xs.toList) d γ K E:=(rfl)
theorem AdG (t:Nat) (ad:Addr) (n:String) (xs σ':List AV):Adj P H (.raw (.iface t (.pointer (some ad)))) n (xs,σ') d γ K E=Adt P (.raw (.pointer (some ad))) xs σ' d γ K E (H.me t n):=by
 show(match H.me t n with
  |some g=>hcg P [_] g [] (xs,σ') d γ K E
  |none=>False)=_
 unfold Adt
 cases H.me t n with
 |none=>rfl
 |some g=>simp only[hcg,AxF];rfl
theorem nE (r:AV) (g:Nat) (xs σ':List AV):Adt P r xs σ' d γ K E (some g)=HC P g (r::xs) γ (kcH d σ' K) (keH σ' E):=(rfl)
theorem Akv (x:Operand):hop P T H d (.move x) γ σ K E=Ct P T d (.move x) σ (K γ):=(rfl)
theorem xL (x:Operand):hop P T H d (.assign x) γ σ K E=Ct P T d (.assign x) σ (K γ):=(rfl)
theorem Akw (c x y:Operand):hop P T H d (.pick c x y) γ σ K E=Ct P T d (.pick c x y) σ (K γ):=(rfl)
theorem Akx (b:BinOp) (t t' y:Nat) (x:Operand):hop P T H d (.binOp b t x (.tmp y) t') γ σ K E=Ct P T d (.binOp b t x (.tmp y) t') σ (K γ):=(rfl)
theorem Aky (b:BinOp) (t t':Nat) (x:Operand) (v:Value):hop P T H d (.binOp b t x (.const v) t') γ σ K E=hbn H b t (Ct P T d (.binOp b t x (.const v) t') σ (K γ)) (ksH d γ σ K) (niq v (aev σ x)):=(rfl)
theorem AdH (b:BinOp) (t:Nat):hbn H b t A KA none=A:=(rfl)
theorem Akz (t k:Nat) (e:Bool):hbn H .eql t A KA (some (k,e))=(H.ek t=some k∧KA (.raw (.bool e))):=(rfl)
theorem Ak0 (t k:Nat) (e:Bool):hbn H .neq t A KA (some (k,e))=(H.ek t=some k∧KA (.raw (.bool (!e)))):=(rfl)
theorem Ak1 (k:IntKind) (m:Int) (x:AV):niq (.int k m) x=none:=(rfl)
theorem Ak2 (s:ByteArray) (x:AV):niq (.string s) x=none:=(rfl)
theorem xM (t:Nat) (v:Value):niq .nilIface (.raw (.iface t v))=some (0,false):=(rfl)
theorem Ak3:niq .nilIface (.raw .nilIface)=some (0,true):=(rfl)
theorem Aup (b:UnOp) (t:Nat) (x:Operand):hop P T H d (.unOp b t x) γ σ K E=Ct P T d (.unOp b t x) σ (K γ):=(rfl)
theorem Ak4 (s t:Nat) (x:Operand):hop P T H d (.convert s t x) γ σ K E=Ct P T d (.convert s t x) σ (K γ):=(rfl)
theorem AdI (t:Nat) (x y:Operand):hop P T H d (.index t x y) γ σ K E=Ct P T d (.index t x y) σ (K γ):=(rfl)
theorem Yk (t:Nat) (x y:Operand):hop P T H d (.indexAddr t x y) γ σ K E=Ct P T d (.indexAddr t x y) σ (K γ):=(rfl)
theorem AdJ (t:Nat) (x:Operand) (lo hi mx:Option Operand):hop P T H d (.slice t x lo hi mx) γ σ K E=Ct P T d (.slice t x lo hi mx) σ (K γ):=(rfl)
theorem AdK (t:Nat):hop P T H d (.alloc t) γ σ K E=Ct P T d (.alloc t) σ (K γ):=(rfl)
theorem ApV (t:Nat) (x:Operand):hop P T H d (.box t x) γ σ K E=Ct P T d (.box t x) σ (K γ):=(rfl)
theorem AdL (t:Nat) (ps:Array (Nat×Operand)):hop P T H d (.build t ps) γ σ K E=Ct P T d (.build t ps) σ (K γ):=(rfl)
theorem U6 (t n:Nat) (ps:Array (Nat×Operand)):hop P T H d (.buildSlice t n ps) γ σ K E=Ct P T d (.buildSlice t n ps) σ (K γ):=(rfl)
theorem eK (f:Fn) (xs ys:Array Operand):hop P T H d (.makeFunc f xs ys) γ σ K E=Ct P T d (.makeFunc f xs ys) σ (K γ):=(rfl)
theorem AdM (t f:Nat) (x:Operand):hop P T H d (.field t x f) γ σ K E=Ct P T d (.field t x f) σ (K γ):=(rfl)
theorem nF (x:Operand) (i:Nat):hop P T H d (.extract x i) γ σ K E=Ct P T d (.extract x i) σ (K γ):=(rfl)
theorem xN (x y:Operand) (t t':TypeId):hop P T H d (.call ⟨.builtin .append,#[x,y],#[t,t']⟩) γ σ K E=(bif t==t' then Ct P T d (.call ⟨.builtin .append,#[x,y],#[t,t']⟩) σ (K γ)else AjY T σ x y d (K γ) (T t) (T t')):=(rfl)
def hsN (σ:List AV) (e:Nat) (j:TI) (d:Option Nat) (L:List AV→Prop):AV→Prop
 |.raw (.string s)=>j.size=1∧j.bytes=1∧j.zero.length=1∧s.data.toList.length≤140737488355328∧L (aset σ d (.own e 1 (A5 s.data.toList)))
 |_=>False
def hsY (σ:List AV) (e:Nat) (j:TI) (d:Option Nat) (L:List AV→Prop) (e' k:Nat) (es:List AV):AV→Prop
 |.raw (.string s)=>(e'=e∧k=1)∧j.size=1∧j.bytes=1∧j.zero.length=1∧es.length+s.data.toList.length≤140737488355328∧L (aset σ d (.own e 1 (es++A5 s.data.toList)))
 |_=>False
def hsX (σ:List AV) (e:Nat) (j:TI) (q:Nat) (y:Operand) (d:Option Nat) (L:List AV→Prop):AV→Prop
 |.own e' k es=>hsY (σ.set q (view (.own e' k es))) e j d L e' k es (aev (σ.set q (view (.own e' k es))) y)
 |.nil=>hsN σ e j d L (aev σ y)
 |_=>False
theorem AdN {e:Nat} {j:TI} {q:Nat} {y:Operand} {L:List AV→Prop}:mP σ e j (.tmp q) y d L=hsX σ e j q y d L (σ.getD q .any):=by
 unfold mP hsX;have ha:aev σ (.tmp q)=pl (σ.getD q .any):=rfl;have hm:amv σ (.tmp q)=Mn σ q (σ.getD q .any):=rfl;rw[ha,hm]
 cases hx:σ.getD q .any with
 |nil=>simp only[pl,I9,Mn];generalize aev σ y=v;unfold hsN;exact qL
 |own e' k es=>
  simp only[pl,I9,Mn];generalize aev (σ.set q (view (.own e' k es))) y=v;unfold hsY;by_cases h:e'=e∧k=1
  ·simp only[h,and_self,if_true];exact qL
  ·simp only[h,if_false];exact qL
 |mine e' k es=>
  simp only[pl,I9,Mn];generalize aev (σ.set q (view (.mine e' k es))) y=v;by_cases h:e'=e∧k=1
  ·simp only[h,and_self,if_true];exact qL
  ·simp only[h,if_false]
 |_=>simp only[pl,I9]
def hsJ (σ:List AV) (e:Nat) (q:Nat) (y:Operand) (d:Option Nat) (L:List AV→Prop):Option TI→Prop
 |some j=>hsX σ e j q y d L (σ.getD q .any)
 |none=>False
def hsE (T:Bd) (σ:List AV) (q:Nat) (y:Operand) (d:Option Nat) (L:List AV→Prop):Option Nat→Prop
 |some e=>hsJ σ e q y d L (T e)
 |none=>False
theorem ApW (q:Nat) (y:Operand) {i u:TI} (L:List AV→Prop):AjY T σ (.tmp q) y d L (some i) (some u)=(u.td.str=true∧hsE T σ q y d L i.td.elem):=by
 have k1:∀(e:Nat) (oj:Option TI),(match oj with
  |some j=>mP σ e j (.tmp q) y d L
  |none=>False)=hsJ σ e q y d L oj:=fun e oj=>by
  cases oj with
  |none=>rfl
  |some j=>exact AdN
 have k2:∀oe:Option Nat,(match oe with
  |some e=>(match T e with
   |some j=>mP σ e j (.tmp q) y d L
   |none=>False)
  |none=>False)=hsE T σ q y d L oe:=fun oe=>by
  cases oe with
  |none=>rfl
  |some e=>exact k1 e (T e)
 exact congrArg (fun p=>(u.td.str=true∧p)) (k2 i.td.elem)
theorem Aus (q e:Nat) (y:Operand) (L:List AV→Prop):hsE T σ q y d L (some e)=hsJ σ e q y d L (T e):=(rfl)
theorem Aut (q e:Nat) (j:TI) (y:Operand) (L:List AV→Prop):hsJ σ e q y d L (some j)=hsX σ e j q y d L (σ.getD q .any):=(rfl)
theorem Ak5 (q e e' k:Nat) (es:List AV) (j:TI) (y:Operand) (L:List AV→Prop):hsX σ e j q y d L (.own e' k es)=hsY (σ.set q (view (.own e' k es))) e j d L e' k es (aev (σ.set q (view (.own e' k es))) y):=(rfl)
theorem Auu (e e' k:Nat) (es:List AV) (j:TI) (L:List AV→Prop) (l:List UInt8):hsY σ e j d L e' k es (.raw (.string ⟨l.toArray⟩))=((e'=e∧k=1)∧j.size=1∧j.bytes=1∧j.zero.length=1∧es.length+l.length≤140737488355328∧L (aset σ d (.own e 1 (es++A5 l)))):=by simp only[hsY]
def sA (e:Bool) (A B:List AV→List AV→Prop) (γ σ:List AV):Prop:=C1 e (A γ σ) (B γ σ)
theorem Auv (A B:List AV→List AV→Prop):sA true A B γ σ=A γ σ:=by simp [sA,C1]
theorem Auw (A B:List AV→List AV→Prop):sA false A B γ σ=B γ σ:=by simp [sA,C1]
def st1 (t:Nat) (v:AV) (A:List AV→List AV→Prop) (γ σ:List AV):Prop:=A γ (σ.set t v)
theorem ApX (t:Nat) (v:AV) (A:List AV→List AV→Prop):st1 t v A γ σ=A γ (σ.set t v):=(rfl)
instance {e:Bool} {A B:List AV→List AV→Prop} {γ σ:List AV}:Aj (sA e A B γ σ) (e=true→A γ σ) (e=false→B γ σ):=⟨fun h1 h2=>⟨h1,h2⟩⟩
instance {e:Bool} {A B:List AV→List AV→Prop} {γ σ:List AV}:Aj (sA (!e) A B γ σ) (e=false→A γ σ) (e=true→B γ σ):=⟨fun h1 h2=>⟨fun h=>h1 (by simpa using h),fun h=>h2 (by simpa using h)⟩⟩
instance {p:Prop} {hp:Decidable p} {A B:List AV→List AV→Prop} {γ σ:List AV}:Aj (sA (decide p) A B γ σ) (p→A γ σ) (¬p→B γ σ):=⟨fun h1 h2=>⟨fun h=>h1 (of_decide_eq_true h),fun h=>h2 (of_decide_eq_false h)⟩⟩
instance {p:Prop} {hp:Decidable p} {A B:List AV→List AV→Prop} {γ σ:List AV}:Aj (sA (!decide p) A B γ σ) (¬p→A γ σ) (p→B γ σ):=⟨fun h1 h2=>⟨fun h=>h1 (of_decide_eq_false (by simpa using h)),fun h=>h2 (of_decide_eq_true (by simpa using h))⟩⟩
def cgN (x:AV) (t:Nat) (want:Bool) (γ σ:List AV) (A B:List AV→List AV→Prop):Prop:=match x with
 |.raw (.bool e)=>bif want then sA e (st1 t (.raw (.bool true)) A) (st1 t (.raw (.bool false)) B) γ σ else sA e (st1 t (.raw (.bool true)) B) (st1 t (.raw (.bool false)) A) γ σ
 |.tup []=>B γ σ
 |_=>False
theorem AdO:J1 P T H K E [] γ σ=K γ σ:=(rfl)
theorem xO (d:Option Nat) (op:Op) (l:List CO):J1 P T H K E (⟨d,op,none⟩::l) γ σ=hop P T H d op γ σ (J1 P T H K E l) E:=(rfl)
theorem nG (d:Option Nat) (op:Op) (t:Nat) (want:Bool) (l:List CO):J1 P T H K E (⟨d,op,some (t,want)⟩::l) γ σ=cgN (σ.getD t .any) t want γ σ (J1 P T H K E (⟨d,op,none⟩::l)) (ApO d (J1 P T H K E l)):=by simp only[J1,cgN];exact Ani
theorem Aux (e:Bool) (t:Nat) (A B:List AV→List AV→Prop):cgN (.raw (.bool e)) t true γ σ A B=sA e (st1 t (.raw (.bool true)) A) (st1 t (.raw (.bool false)) B) γ σ:=(rfl)
theorem Auy (e:Bool) (t:Nat) (A B:List AV→List AV→Prop):cgN (.raw (.bool e)) t false γ σ A B=sA e (st1 t (.raw (.bool true)) B) (st1 t (.raw (.bool false)) A) γ σ:=(rfl)
theorem AdP (t:Nat) (want:Bool) (A B:List AV→List AV→Prop):cgN (.tup []) t want γ σ A B=B γ σ:=(rfl)
theorem AdQ (X:List Nat):Cc P T H X K E [] γ σ=K γ σ:=(rfl)
theorem ApZ (X:List Nat) (d:Option Nat) (op:Op) (l:List (CO×Nat)):Cc P T H X K E ((⟨d,op,none⟩,0)::l) γ σ=(qb op σ∧hop P T H d op γ σ (Cc P T H X K E l) E):=(rfl)
theorem Aqa (X:List Nat) (d:Option Nat) (op:Op) (l:List (CO×Nat)):Cc P T H X K E ((⟨d,op,none⟩,1)::l) γ σ=(ldq X op σ=true∧hop P T H d op γ σ (Cc P T H X K E l) E):=(rfl)
theorem Aqb (X:List Nat) (d:Option Nat) (op:Op) (l:List (CO×Nat)):Cc P T H X K E ((⟨d,op,none⟩,2)::l) γ σ=hop P T H d op γ σ (Cc P T H X K E l) E:=(rfl)
theorem Aqc (X:List Nat) (d:Option Nat) (op:Op) (l:List (CO×Nat)):Cc P T H X K E ((⟨d,op,none⟩,3)::l) γ σ=hop P T H d op γ σ (Cc P T H X K E l) E:=(rfl)
theorem nH (X:List Nat) (d:Option Nat) (op:Op) (t f:Nat) (want:Bool) (l:List (CO×Nat)):Cc P T H X K E ((⟨d,op,some (t,want)⟩,f)::l) γ σ=cgN (σ.getD t .any) t want γ σ (Cc P T H X K E ((⟨d,op,none⟩,f)::l)) (ApO d (Cc P T H X K E l)):=by simp only[Cc,cgN];exact Ani
theorem Aqd (b:BinOp) (t t':Nat) (x y:Operand):qb (.binOp b t x y t') σ=qbb y (aev σ x) (aev σ y):=(rfl)
theorem Ak6 (y:Operand) (k k':IntKind) (u v:Int):qbb y (.raw (.int k u)) (.raw (.int k' v))=True:=(rfl)
theorem Ak7 (y:Operand) (u v:ByteArray):qbb y (.raw (.string u)) (.raw (.string v))=True:=(rfl)
theorem Aqe (xs:Array Operand) (ts:Array TypeId):qb (.call ⟨.builtin .len,xs,ts⟩) σ=True:=(rfl)
theorem Ak8 (x:Operand):qb (.move x) σ=True:=(rfl)
theorem xP (x:Operand):qb (.assign x) σ=True:=(rfl)
theorem Ak9 (x y z:Operand):qb (.pick x y z) σ=True:=(rfl)
theorem AdR (t f:Nat) (x:Operand):qb (.field t x f) σ=True:=(rfl)
theorem nI (x:Operand) (n:Nat):qb (.extract x n) σ=True:=(rfl)
theorem Yl (t f:Nat) (x:Operand):qb (.fieldAddr t x f) σ=True:=(rfl)
theorem Ym (t:Nat) (x y:Operand):qb (.indexAddr t x y) σ=True:=(rfl)
theorem AdS (t:Nat) (x:Operand) (l h m:Option Operand):qb (.slice t x l h m) σ=True:=(rfl)
theorem Auz (u:UnOp) (t:Nat) (x:Operand):qb (.unOp u t x) σ=True:=(rfl)
theorem Au0 (x:Operand):qb (.nilCheck x) σ=True:=(rfl)
theorem AdT (X:List Nat) (t q:Nat):ldq X (.load t (.tmp q)) σ=ldk X q (σ.getD q .any):=(rfl)
theorem AkA (X:List Nat) (q:Nat) (x:AV):ldk X q (.elt x)=true:=(rfl)
theorem AkB (X:List Nat) (q s o:Nat):ldk X q (.ref s o)=X.contains s:=(rfl)
theorem AkC (X:List Nat) (q U:Nat) (cs:List AV):ldk X q (.box U cs)=X.contains q:=(rfl)
theorem AdU (l1 l3:List (CO×Nat)):Cd P T H (.dr1 l1 l3) Q γ σ=Cc P T H [] (Cc P T H [] (Q .normal) (pnE Q) l3) (pnE Q) l1 γ σ:=(rfl)
theorem AdV (l1 l2 l3:List (CO×Nat)):Cd P T H (.dr3 l1 l2 l3) Q γ σ=Cc P T H [] (Cc P T H [] (Cc P T H [] (Q .normal) (pnE Q) l3) (pnE Q) l2) (pnE Q) l1 γ σ:=(rfl)
theorem Aqf (X:List Nat) (d:Option Nat) (op:Op) (l:List (CO×Nat)):Cc P T H X K E ((⟨d,op,none⟩,5)::l) γ σ=(ld3 op σ=true∧hop P T H d op γ σ (Cc P T H X K E l) E):=(rfl)
theorem AdW (t q:Nat):ld3 (.load t (.tmp q)) σ=Yi (σ.getD q .any):=(rfl)
theorem AdX (x:AV):Yi (.elt x)=true:=(rfl)
theorem AdY (b o:Nat):Yi (.raw (.pointer (some ⟨b,o,none⟩)))=true:=(rfl)
theorem AdZ (X Y:List Nat) (l1 l2 l3:List (CO×Nat)):Cd P T H (.dr2 X Y l1 l2 l3) Q γ σ=Cc P T H X (hd2 P T H (Q .normal) (pnE Q) Y l2 l3) (pnE Q) l1 γ σ:=(rfl)
theorem Aqg (X:List Nat) (l2 l3:List (CO×Nat)):hd2 P T H K E X l2 l3 γ σ=(Aui X σ=true∧eB (rn2 P T H E l2) X (Cc P T H [] K E l3) γ σ):=(rfl)
theorem Aqh (l2:List (CO×Nat)):rn2 P T H E l2 K γ σ=Cc P T H [] K E l2 γ σ:=(rfl)
theorem Aea (run:(List AV→List AV→Prop)→List AV→List AV→Prop):eB run [] K γ σ=run K γ σ:=(rfl)
theorem xQ (run:(List AV→List AV→Prop)→List AV→List AV→Prop) (s:Nat) (X:List Nat):eB run (s::X) K γ σ=(hcd X (σ.getD s .any) σ∧eB run X (rs2 s (σ.getD s .any) K) γ (σ.set s .any)):=(rfl)
theorem AkD (X:List Nat) (U:Nat) (cs:List AV):hcd X (.box U cs) σ=True:=(rfl)
theorem AkE (X:List Nat) (t o:Nat):hcd X (.ref t o) σ=(X.contains t=true∧Jd (σ.getD t .any)=true):=(rfl)
theorem AkF (s U:Nat) (cs:List AV):rs2 s (.box U cs) K γ σ=(σ.all (Km s)=true∧K γ (σ.set s (.box U cs))):=(rfl)
theorem AkG (s t o:Nat):rs2 s (.ref t o) K γ σ=(Jd (σ.getD t .any)=true∧t≠s∧K γ (σ.set s (.ref t o))):=(rfl)
theorem xR (U:Nat) (cs:List AV):Jd (.box U cs)=true:=(rfl)
theorem AkH (ts:List Nat) (c:CH):Cd P T H (.tw ts c) Q γ σ=kK ts (Cd P T H c Q γ) σ:=(rfl)
def q1 (Q:Exit→List AV→List AV→Prop) (γ:List AV) (e:Exit) (σ:List AV):Prop:=Q e γ σ
theorem Au1 (e:Exit):q1 Q γ e σ=Q e γ σ:=(rfl)
theorem xS (c:CC):Cd P T H (.base c) Q γ σ=Hj P T c (q1 Q γ) σ:=(rfl)
theorem xT (l:List CO):Cd P T H (.hops l) Q γ σ=J1 P T H (Q .normal) (wI Q) l γ σ:=(rfl)
theorem AkI (v:Value):wI (Jg K Q) v γ σ=wI Q v γ σ:=(rfl)
theorem AkJ (id:Nat) (v:Value):wI (Qi id Q) v γ σ=wI Q v γ σ:=(rfl)
theorem AkK (rs:List ResultVar) (R:AV→List AV→Prop) (F:Value→List AV→Prop) (v:Value):wI (hfin T rs R F) v γ σ=F v γ:=(rfl)
theorem Aqi (v:Value):pnE Q v γ σ=pnH Q v γ:=(rfl)
theorem Aeb (x y:CH):Cd P T H (.seq x y) Q γ σ=Cd P T H x (Jg (Cd P T H y Q) Q) γ σ:=(rfl)
def cqN (A B:List AV→List AV→Prop) (γ σ:List AV):AV→Prop
 |.raw (.bool e)=>sA e A B γ σ
 |_=>False
theorem xU (c:Operand) (x y:CH):Cd P T H (.cond c x y) Q γ σ=cqN (Cd P T H x Q) (Cd P T H y Q) γ σ (aev σ c):=(rfl)
theorem Aec (e:Bool) (A B:List AV→List AV→Prop):cqN A B γ σ (.raw (.bool e))=sA e A B γ σ:=(rfl)
theorem nJ (id:Nat) (c:CH):Cd P T H (.block id c) Q γ σ=Cd P T H c (Qi id Q) γ σ:=(rfl)
theorem Yn:Jg K Q .normal γ σ=K γ σ:=(rfl)
theorem nK (id:Nat):Jg K Q (.exit id) γ σ=Q (.exit id) γ σ:=(rfl)
theorem xV:Jg K Q .ret γ σ=Q .ret γ σ:=(rfl)
theorem Yo (id:Nat):Qi id Q .normal γ σ=Q .normal γ σ:=(rfl)
theorem xW (id:Nat):Qi id Q .ret γ σ=Q .ret γ σ:=(rfl)
theorem nL (id id':Nat):Qi id Q (.exit id') γ σ=if id'=id then Q .normal γ σ else Q (.exit id') γ σ:=(rfl)
theorem AkL (v:Value):pnH (Jg K Q) v γ=pnH Q v γ:=(rfl)
theorem AkM (id:Nat) (v:Value):pnH (Qi id Q) v γ=pnH Q v γ:=(rfl)
theorem AkN (rs:List ResultVar) (R:AV→List AV→Prop) (F:Value→List AV→Prop) (v:Value):pnH (hfin T rs R F) v γ=F v γ:=by unfold pnH hfin;exact propext ⟨fun h=>h [],fun h _=>h⟩
def Aed (m:List Bool) (ss:List Nat) (R:Nat→List AV→List AV→Prop) (σ:List AV) (n:Nat) (γ2 σ2:List AV):Prop:=∃k γ3 σ3,k<n∧J2 γ2 σ2 γ3 σ3∧∃xs,R k xs γ3∧σ3=D5 ss xs (I2 m σ)
theorem Ax {c:CH} (m:List Bool) (ss:List Nat) (R:Nat→List AV→List AV→Prop) (start:∃n xs γ1,R n xs γ1∧J2 γ σ γ1 (D5 ss xs (I2 m σ)))
 (round:∀n xs γ1,R n xs γ1→Cd P T H c (Jg (Aed m ss R σ n) Q) γ1 (D5 ss xs (I2 m σ))):Cd P T H (.loop c) Q γ σ:=by
 obtain⟨n,xs,γ1,h1,h2⟩:=start;refine⟨fun n γ1 σ1=>∃xs,R n xs γ1∧σ1=D5 ss xs (I2 m σ),⟨n,γ1,_,h2,xs,h1,rfl⟩,?_⟩;rintro n γ1 σ1 ⟨xs,hR,rfl⟩;exact round n xs γ1 hR
theorem Au {m:List Bool} {ss:List Nat} {R:Nat→List AV→List AV→Prop} {n:Nat} {σ2 γ2:List AV} (k:Nat) (xs γ3:List AV) (hm:k<n) (hR:R k xs γ3) (hw:J2 γ2 σ2 γ3 (D5 ss xs (I2 m σ))):Aed m ss R σ n γ2 σ2:=⟨k,γ3,_,hm,hw,xs,hR,rfl⟩
theorem hent {γ' σ':List AV} (h1:Gw γ γ') (h2:Wk σ σ'):J2 γ σ γ' σ':=(J2.gw h1).trans (J2.wk h2)
def Au2 (m:List Bool) (ss:List Nat) (R:List AV→List AV→Prop) (σ γ2 σ2:List AV):Prop:=∃γ3 σ3,J2 γ2 σ2 γ3 σ3∧∃xs,R xs γ3∧σ3=D5 ss xs (I2 m σ)
theorem Jh {x y:CH} (m:List Bool) (ss:List Nat) (R:List AV→List AV→Prop) (h1:Cd P T H x (Jg (Au2 m ss R σ) Q) γ σ) (h2:∀xs γ1,R xs γ1→Cd P T H y Q γ1 (D5 ss xs (I2 m σ))):Cd P T H (.cut x y) Q γ σ:=
 ⟨fun γ1 σ1=>∃xs,R xs γ1∧σ1=D5 ss xs (I2 m σ),fun γ1 σ1 ⟨xs,hR,he⟩=>by rw[he];exact h2 xs γ1 hR,h1⟩
theorem Ev {m:List Bool} {ss:List Nat} {R:List AV→List AV→Prop} {σ2 γ2:List AV} (xs γ3:List AV) (hR:R xs γ3) (hw:J2 γ2 σ2 γ3 (D5 ss xs (I2 m σ))):Au2 m ss R σ γ2 σ2:=⟨γ3,_,hw,xs,hR,rfl⟩
def eL (R:AV→List AV→Prop) (γ:List AV) (vs:List AV):Prop:=R (Sy vs) γ
theorem Aee (rs:List ResultVar) (R:AV→List AV→Prop) (F:Value→List AV→Prop):hfin T rs R F .ret γ σ=Hu T rs σ (eL R γ):=(rfl)
theorem eM (rs:List ResultVar) (R:AV→List AV→Prop) (F:Value→List AV→Prop):hfin T rs R F .normal γ σ=Hu T rs σ (eL R γ):=(rfl)
theorem xX (R:AV→List AV→Prop) (v:AV):eL R γ [v]=R v γ:=(rfl)
theorem xZ (R:AV→List AV→Prop):eL R γ []=R (.tup []) γ:=(rfl)
theorem yA (R:AV→List AV→Prop) (v u:AV) (vs:List AV):eL R γ (v::u::vs)=R (.tup (v::u::vs)) γ:=(rfl)
end
attribute [go_sem] Adu Adv ApP ApQ wJ Adw Adx Ady Adz wK wL wM Ad0 wN eI Akh Aki Akj Akk Yj wO wP Ad1 wQ Akl wR wT Ad2 Ad3 Ad4 wU wV wW Ad5 eJ Akm Pt Akn Ako U5 wX wY wZ Ad6 xC nB xD xE Ad7 Ad8 xF xG xH xI Ad9 AdA Akp ApS nC AdB AdC nD AdD Akq ApT Akr AdE Aks Akt xJ AdF ApU Aku xK AdG nE Akv xL Akw Akx Aky AdH Akz Ak0 Ak1 Ak2 xM Ak3 Aup Ak4 AdI Yk AdJ AdK ApV AdL U6 eK AdM nF xN ApW Aus Aut Ak5 Auu AdO xO nG Aux Auy AdP Auv Auw ApX AdQ ApZ Aqa Aqb Aqc nH Aqd Ak6 Ak7 Aqe Ak8 xP Ak9 AdR nI Yl Ym AdS Auz Au0 AdT AkA AkB AkC AdU AdZ AdV Aqf AdW AdX AdY Aqg Aqh Aea xQ AkD AkE AkF AkG xR AkH Au1 xS xT AkI AkJ AkK Aqi Aeb xU Aec nJ Yn nK xV Yo xW nL AkL AkM AkN Aee eM xX xZ yA cond_true cond_false true_and
attribute [go_sem] Bm Ri Ed Ia Hy H7 H8 H9 Hw xB xY Hz Ge Gz Hc I3 Cm Ko AxV AxO Ayi AxW Ayg AxH cond_false cond_true
end Go.Proofs.YtmophjggmekoeaaGreatDoor
