/- Rewriting rules for code beside blocks. -/
import Derived.RangeFuncLeaves
import Derived.RangeFuncCalls
import Derived.TacticsIn
import Derived.Test.YtobhohikfmlccaaGreatDoorC6
set_option linter.all false
open Go.RowKit Go.Region
namespace Go.Proofs.YtobhohikfmlccaaGreatDoor
section
variable[Env]
def Sj(d:Γ)(a b:Φ)(K:Ω)(z:AV):Prop:=K a (am b d z)
def pH(d:Γ)(a:Φ)(K:Ω)(r:AV)(b:Φ):Prop:=K b (am a d r)
def pI(a:Φ)(E:Value->Ω)(v:Value)(b:Φ):Prop:=E v b a
def SY(a b:Φ)(E:Value->Ω)(v:Value):Prop:=E v a b
def d_(T:Br)(t f:Nat)(A:Prop)(K:AV->Prop):Option (Nat×Nat)->Prop
 |some (b,off)=>Yt (T t) f b off K
 |none=>A
def c_(b o:Nat)(K:AV->Prop):Option (Nat×Option Nat×Option Bool)->Prop
 |some (fo,some n,_)=>n≠0/\K (.raw (.pointer (some ⟨b,o+fo,none⟩)))
 |_=>False
def Pa(T:Br)(t:Nat)(d:Γ)(a c:Φ)(K:Ω)(A:Prop):Option (Nat×Nat)->Prop
 |some (b,off)=>hld (T t) (Lu b a) off d a c K
 |none=>A
def OF(i:TI)(g o:Nat)(d:Γ)(a c:Φ)(K:Ω):AV->Prop
 |.bp b Te cs=>o+dh i<=cs.length/\K (a.set g (.bp b Te (bv cs o (dh i) ((aq cs o (dh i)).map v1)))) (am c d (pl (em i.td.agg (aq cs o (dh i)))))
 |_=>False
def Of(T:Br)(t:Nat)(y:Operand)(d:Γ)(a c:Φ)(K:Ω)(A:Prop):Option (Nat×Nat)->Prop
 |some (b,off)=>xH (T t) (Lu b a) off y d a c K
 |none=>A
def dp(i:TI)(g o:Nat)(z:AV)(a c:Φ)(K:Ω):AV->Prop
 |.bp b Te cs=>o+i.size<=cs.length/\Lb z=true/\(cellsOf z).length=i.size/\K (a.set g (.bp b Te (bv cs o i.size (cellsOf z)))) c
 |_=>False
def hmk(a σ:Φ)(d:Γ)(K:Ω):Prop:=∀b,(∀x∈a,Qm x≠some b)->K (.bw b [] []::a) (am σ d (.raw (.map (some b))))
def Ϗ(H:Hw)(t:Nat)(y:AV)(o:Bool)(a:Φ)(A:Prop)(K:AV->Prop):Γ->Prop
 |some b=>hlk H (H.mp t) (Lu b a) y o a K
 |none=>A
def MT(H:Hw)(t:Nat)(x y:Operand)(d:Γ)(a c:Φ)(K:Ω)(A:Prop):Γ->Prop
 |some b=>Ob H (H.mp t) (Lu b a) x y d a c K
 |none=>A
def ώ(g:Nat)(d:Γ)(a b:Φ)(K:Ω)(z:AV):Prop:=K (a.set g z) (am b d .any)
def xo:AV->Bool
 |.row _ _ _=>true
 |_=>false
def hrw(a:Φ):AV->Bool
 |.row _ _ _=>true
 |.alias s=>xo (a.getD s .any)
 |_=>false
def VO(P:Program)(r:AV)(x a:Φ)(d:Γ)(b:Φ)(K:Ω)(E:Value->Ω):Γ->Prop
 |some g=>HC P g (r::x) b (pH d a K) (pI a E)
 |none=>False
section
variable{P:Program}{T:Br}{H:Hw}{a σ:Φ}{K L:Φ->Φ->Prop}{E:Value->Φ->Φ->Prop}{Q:Exit->Φ->Φ->Prop}{w:AV->Prop}{A:Prop}{d:Γ}
def VP:(∀d z,Sj (some d) a σ K z=K a (σ.set d z))/\(∀d z,pH (some d) σ K z a=K a (σ.set d z)):=by and_intros<;>intros<;>rfl
def Atr:(∀v,pI σ E v a=E v a σ)/\(∀v,SY a σ E v=E v a σ):=by and_intros<;>intros<;>rfl
def AiW:(∀b c,Jf (.raw (.pointer (some ⟨b,c,none⟩)))=some (b,c))/\(∀U e,Jf (.box U e)=none)/\(∀s c,Jf (.ref s c)=none)/\(∀x,Jf (.elt x)=none)/\(∀s k j o,Jf (.pref s k j o)=none)/\(∀b,Gi (.raw (.map (some b)))=some b)/\(∀s,Gi (.raw (.string s))=none)/\(∀k f,Gi (.sl k f)=none):=by and_intros<;>intros<;>rfl
def Dw:(∀e k f,Gi (.own e k f)=none)/\(∀s,Gi (.alias s)=none)/\(∀b,Lu b []=none)/\(∀b c U g r,Lu b (.bp c U g::r)=if c=b then some 0 else(Lu b r).map (·+1))/\(∀b c h v r,Lu b (.bw c h v::r)=if c=b then some 0 else(Lu b r).map (·+1))/\(∀b i x r,Lu b (.fu i x::r)=(Lu b r).map (·+1)):=by and_intros<;>intros<;>rfl
def lB(t q f):hop P T H d (.fieldAddr t (.tmp q) f) a σ K E=d_ T t f (On P T d (.fieldAddr t (.tmp q) f) σ (K a)) (Sj d a σ K) (Jf (σ.getD q .any)):=by
 show(match Jf (σ.getD q .any)with
  |some (b,off)=>Yt (T t) f b off λy=>K a (am σ d y)
  |none=>On P T d (.fieldAddr t (.tmp q) f) σ (K a))=_
 cases Jf (σ.getD q .any)<;>rfl
def JE:(∀t f b o,d_ T t f A w (some (b,o))=Yt (T t) f b o w)/\(∀t f,d_ T t f A w none=A):=by and_intros<;>intros<;>rfl
def VR(i f b o):Yt (some i) f b o w=c_ b o w i.td.ig[f]? :=by unfold Yt c_;rfl
theorem JF(b o f n c):c_ b o w (some (f,some n,c))=(n≠0/\w (.raw (.pointer (some ⟨b,o+f,none⟩)))):=(rfl)
def Aec(t q):hop P T H d (.load t (.tmp q)) a σ K E=Pa T t d a σ K (On P T d (.load t (.tmp q)) σ (K a)) (Jf (σ.getD q .any)):=by
 show(match Jf (σ.getD q .any)with
  |some (b,off)=>hld (T t) (Lu b a) off d a σ K
  |none=>On P T d (.load t (.tmp q)) σ (K a))=_
 cases Jf (σ.getD q .any)<;>rfl
def JG:(∀t b o,Pa T t d a σ K A (some (b,o))=hld (T t) (Lu b a) o d a σ K)/\(∀t,Pa T t d a σ K A none=A):=by and_intros<;>intros<;>rfl
def VS(i g o):hld (some i) (some g) o d a σ K=OF i g o d a σ K (a.getD g .any):=by unfold hld OF;rfl
theorem VT(i g o b t c):OF i g o d a σ K (.bp b t c)=(o+dh i<=c.length/\K (a.set g (.bp b t (bv c o (dh i) ((aq c o (dh i)).map v1)))) (am σ d (pl (em i.td.agg (aq c o (dh i)))))):=(rfl)
def VU(t q y):hop P T H d (.store t (.tmp q) y) a σ K E=Of T t y d a σ K (On P T d (.store t (.tmp q) y) σ (K a)) (Jf (σ.getD q .any)):=by
 show(match Jf (σ.getD q .any)with
  |some (b,off)=>xH (T t) (Lu b a) off y d a σ K
  |none=>On P T d (.store t (.tmp q) y) σ (K a))=_
 cases Jf (σ.getD q .any)<;>rfl
def JH:(∀t b o y,Of T t y d a σ K A (some (b,o))=xH (T t) (Lu b a) o y d a σ K)/\(∀t y,Of T t y d a σ K A none=A):=by and_intros<;>intros<;>rfl
def JI(i g o y):xH (some i) (some g) o y d a σ K=dp i g o (bj σ y) a (am (d7 σ y) d .any) K (a.getD g .any):=by unfold xH dp;rfl
theorem VV(i g o b t z c):dp i g o z a σ K (.bp b t c)=(o+i.size<=c.length/\Lb z=true/\(cellsOf z).length=i.size/\K (a.set g (.bp b t (bv c o i.size (cellsOf z)))) σ):=(rfl)
def Aei:(∀x,hop P T H d (.nilCheck x) a σ K E=hnc (bj σ x) (On P T d (.nilCheck x) σ (K a)) (Sj d a σ K))/\(∀t x,hop P T H d (.makeInterface t x) a σ K E=fK H t d a σ K (bj σ x))/\(∀x b t o,hop P T H d (.typeAssert x b t o) a σ K E=mr H t o (bj σ x) (Sj d a σ K)):=by and_intros<;>intros<;>rfl
theorem Aq3(b):hnc (.raw (.pointer (some b))) A w=w (.raw (.pointer (some b))):=(rfl)
def Aq5:(∀t v,fK H t d a σ K (.raw v)=(H.cn t=true/\K a (am σ d (.raw (.iface t v)))))/\(∀t c,fK H t d a σ K (.agg c)=DG H t ((c.mapM kX).map λe=>.agg e.toArray) (Sj d a σ K))/\(∀t y,fK H t d a σ K (.elt y)=(H.cn t=true/\∀b,K (.fu b y::a) (am σ d (.raw (.iface t (.pointer (some b))))))):=by and_intros<;>intros<;>rfl
def AoX:(∀t v,DG H t (some v) w=(H.cn t=true/\w (.raw (.iface t v))))/\(∀t b o v,mr H t o (.raw (.iface b v)) w=x1 (H.cn t) b v t o (H.zr t) w):=by and_intros<;>intros<;>rfl
def JJ(t b o v z):x1 true b v t o z w=if b=t then w (if o then .a6 [B8 v,.raw (.bool true)]else B8 v)else xI z o w:=by simp[x1]
def JK(z):xI (some z) true w=w (.a6 [B8 z,.raw (.bool false)]):=by simp[xI]
def VW:(∀x,hop P T H d (.panic x) a σ K E=hpn (bj σ x) (SY a σ E))/\(∀t,hop P T H d (.makeMap t none) a σ K E=hmk a σ d K):=by and_intros<;>intros<;>rfl
theorem Aml(t v)(F:Value->Prop):hpn (.raw (.iface t v)) F=F (.iface t v):=(rfl)
def JL(t q x o):hop P T H d (.lookup t (.tmp q) x o) a σ K E=Ϗ H t (bj σ x) o a (On P T d (.lookup t (.tmp q) x o) σ (K a)) (Sj d a σ K) (Gi (σ.getD q .any)):=by
 show(match Gi (σ.getD q .any)with
  |some b=>hlk H (H.mp t) (Lu b a) (bj σ x) o a λy=>K a (am σ d y)
  |none=>On P T d (.lookup t (.tmp q) x o) σ (K a))=_
 cases Gi (σ.getD q .any)<;>rfl
theorem JM(t b y o):Ϗ H t y o a A w (some b)=hlk H (H.mp t) (Lu b a) y o a w:=(rfl)
theorem AoY(k e g y o):hlk H (some (k,e)) (some g) y o a w=VD H k e (a.getD g .any) y o w:=(rfl)
def LT(kd:Option TypeDesc)(b:ϴ)(v:Φ)(k:Value)(o:Bool)(w:AV->Prop):Option Value->Prop
 |some z=>Rj kd k b/\w (M5 o z v (Bu k b))
 |none=>False
def VX(c e b f v k o):VD H c e (.bw b f v) (.raw k) o w=LT (H.kd c) f v k o w (H.zr e):=by unfold VD LT;cases H.zr e<;>rfl
theorem JN(kd b v k z o):LT kd b v k o w (some z)=(Rj kd k b/\w (M5 o z v (Bu k b))):=(rfl)
def JO(t q x y):hop P T H d (.mapUpdate t (.tmp q) x y) a σ K E=MT H t x y d a σ K (On P T d (.mapUpdate t (.tmp q) x y) σ (K a)) (Gi (σ.getD q .any)):=by
 show(match Gi (σ.getD q .any)with
  |some b=>Ob H (H.mp t) (Lu b a) x y d a σ K
  |none=>On P T d (.mapUpdate t (.tmp q) x y) σ (K a))=_
 cases Gi (σ.getD q .any)<;>rfl
def JP(t q x y):hop P T H d (.insert t (.tmp q) x y) a σ K E=MT H t x y d a σ K (On P T d (.insert t (.tmp q) x y) σ (K a)) (Gi (σ.getD q .any)):=by
 show(match Gi (σ.getD q .any)with
  |some b=>Ob H (H.mp t) (Lu b a) x y d a σ K
  |none=>On P T d (.insert t (.tmp q) x y) σ (K a))=_
 cases Gi (σ.getD q .any)<;>rfl
theorem JQ(t b x y):MT H t x y d a σ K A (some b)=Ob H (H.mp t) (Lu b a) x y d a σ K:=(rfl)
theorem AoZ(k e g x y):Ob H (some (k,e)) (some g) x y d a σ K=VE (H.kd k) (a.getD g .any) (bj σ x) (bj σ y) (ώ g d a (d7 σ y) K):=(rfl)
theorem Apa(kd b c v k y):VE kd (.bw b c v) (.raw k) y w=(Rj kd k c/\w (IR b c v k y (Bu k c))):=(rfl)
theorem Aq7(g z):ώ g d a σ K z=K (a.set g z) (am σ d .any):=(rfl)
def Ats:(∀t b,hop P T H d (.call ⟨.builtin .len,#[.tmp t],#[b]⟩) a σ K E=EI H (Gi (σ.getD t .any)) [b] a (On P T d (.call ⟨.builtin .len,#[.tmp t],#[b]⟩) σ (K a)) (Sj d a σ K))/\(∀f x c,hop P T H d (.call ⟨.value f,x,c⟩) a σ K E=(bif hrow σ x.toList then On P T d (.call ⟨.value f,x,c⟩) σ (K a)else hcv P (bj σ f) (bi σ x.toList) d a K E)):=by and_intros<;>intros<;>rfl
theorem AiP(t):EI H none [t] a A w=A:=(rfl)
def Ape:(hrow σ []=false)/\(∀v r,hrow σ (.const v::r)=false):=by and_intros<;>intros<;>rfl
def VY(t r):hrow σ (.tmp t::r)=hrw σ (σ.getD t .any):=by
 show(Gz σ t).isSome=_;unfold Gz hrw;cases σ.getD t .any<;>try rfl
 rename_i s;simp only[];unfold xo;cases σ.getD s .any<;>rfl
def Aed:(∀v,hrw σ (.raw v)=false)/\(∀k b,hrw σ (.sl k b)=false)/\(∀e k b,hrw σ (.own e k b)=false)/\(∀e k b,hrw σ (.mine e k b)=false)/\(∀c,hrw σ (.agg c)=false)/\(∀x,hrw σ (.elt x)=false)/\(∀s,hrw σ (.alias s)=xo (σ.getD s .any)):=by and_intros<;>intros<;>rfl
theorem Apf(e k b):xo (.row e k b)=true:=(rfl)
def Akg(g x b):hcv P (.raw (.func (.func g) #[] #[])) (x,b) d a K E=HC P g x a (pH d b K) (pI b E):=by simp only[hcv,hcg,db,fm,gy,true_and];rfl
theorem Aee(g c x b):hcv P (.ee g c) (x,b) d a K E=HC P g (x++c) a (pH d b K) (pI b E):=(rfl)
theorem Amm(r n x t):hop P T H d (.call ⟨.invoke r n,x,t⟩) a σ K E=hinv P H (bj σ r) n (bi σ x.toList) d a K E:=(rfl)
def VZ(t c n x b):hinv P H (.raw (.iface t (.pointer (some c)))) n (x,b) d a K E=VO P (.raw (.pointer (some c))) x b d a K E (H.me t n):=by
 show(match H.me t n with
  |some g=>hcg P [_] g [] (x,b) d a K E
  |none=>False)=_
 unfold VO
 cases H.me t n with
 |none=>rfl
 |some g=>simp only[hcg,gy];rfl
theorem xV(r g x b):VO P r x b d a K E (some g)=HC P g (r::x) a (pH d b K) (pI b E):=(rfl)
def Aq8:(∀x,hop P T H d (.move x) a σ K E=On P T d (.move x) σ (K a))/\(∀x,hop P T H d (.assign x) a σ K E=On P T d (.assign x) σ (K a))/\(∀c x y,hop P T H d (.pick c x y) a σ K E=On P T d (.pick c x y) σ (K a))/\(∀b t e y x,hop P T H d (.binOp b t x (.tmp y) e) a σ K E=On P T d (.binOp b t x (.tmp y) e) σ (K a))/\(∀b t e x v,hop P T H d (.binOp b t x (.const v) e) a σ K E=hbn H b t (On P T d (.binOp b t x (.const v) e) σ (K a)) (Sj d a σ K) (wI v (bj σ x)))/\(∀b t x,hop P T H d (.unOp b t x) a σ K E=On P T d (.unOp b t x) σ (K a))/\(∀s t x,hop P T H d (.convert s t x) a σ K E=On P T d (.convert s t x) σ (K a))/\(∀t x y,hop P T H d (.index t x y) a σ K E=On P T d (.index t x y) σ (K a)):=by and_intros<;>intros<;>rfl
def Ad0:(∀t x y,hop P T H d (.indexAddr t x y) a σ K E=On P T d (.indexAddr t x y) σ (K a))/\(∀t x l h m,hop P T H d (.slice t x l h m) a σ K E=On P T d (.slice t x l h m) σ (K a))/\(∀t,hop P T H d (.alloc t) a σ K E=On P T d (.alloc t) σ (K a))/\(∀t x,hop P T H d (.box t x) a σ K E=On P T d (.box t x) σ (K a))/\(∀t p,hop P T H d (.build t p) a σ K E=On P T d (.build t p) σ (K a))/\(∀t n p,hop P T H d (.buildSlice t n p) a σ K E=On P T d (.buildSlice t n p) σ (K a))/\(∀f b c,hop P T H d (.makeFunc f b c) a σ K E=On P T d (.makeFunc f b c) σ (K a))/\(∀t f x,hop P T H d (.field t x f) a σ K E=On P T d (.field t x f) σ (K a)):=by and_intros<;>intros<;>rfl
def C4:(∀x i,hop P T H d (.extract x i) a σ K E=On P T d (.extract x i) σ (K a))/\(∀x y t b,hop P T H d (.call ⟨.builtin .append,#[x,y],#[t,b]⟩) a σ K E=(bif t==b then On P T d (.call ⟨.builtin .append,#[x,y],#[t,b]⟩) σ (K a)else xz T σ x y d (K a) (T t) (T b))):=by and_intros<;>intros<;>rfl
def Aph:(∀b t,hbn H b t A w none=A)/\(∀t k e,hbn H .eql t A w (some (k,e))=(H.ek t=some k/\w (.raw (.bool e))))/\(∀t k e,hbn H .neq t A w (some (k,e))=(H.ek t=some k/\w (.raw (.bool (!e))))):=by and_intros<;>intros<;>rfl
def Aq9:(∀k m x,wI (.int k m) x=none)/\(∀s x,wI (.string s) x=none)/\(∀t v,wI .nilIface (.raw (.iface t v))=some (0,false))/\(wI .nilIface (.raw .nilIface)=some (0,true)):=by and_intros<;>intros<;>rfl
def pJ(σ:Φ)(e:Nat)(j:TI)(d:Γ)(L:Ψ):AV->Prop
 |.raw (.string s)=>j.size=1/\j.bytes=1/\j.zero.length=1/\s.data.toList.length<=140737488355328/\L (am σ d (.own e 1 (Aj s.data.toList)))
 |_=>False
def pK(σ:Φ)(e:Nat)(j:TI)(d:Γ)(L:Ψ)(c k:Nat)(b:Φ):AV->Prop
 |.raw (.string s)=>(c=e/\k=1)/\j.size=1/\j.bytes=1/\j.zero.length=1/\b.length+s.data.toList.length<=140737488355328/\L (am σ d (.own e 1 (b++Aj s.data.toList)))
 |_=>False
def fM(σ:Φ)(e:Nat)(j:TI)(q:Nat)(y:Operand)(d:Γ)(L:Ψ):AV->Prop
 |.own e' k es=>pK (σ.set q (view (.own e' k es))) e j d L e' k es (bj (σ.set q (view (.own e' k es))) y)
 |.nil=>pJ σ e j d L (bj σ y)
 |_=>False
def WB{e j q y L}:xE σ e j (.tmp q) y d L=fM σ e j q y d L (σ.getD q .any):=by
 unfold xE fM;have b:bj σ (.tmp q)=pl (σ.getD q .any):=rfl;have c:d7 σ (.tmp q)=Qj σ q (σ.getD q .any):=rfl;rw[b,c]
 cases f:σ.getD q .any with
 |nil=>simp only[pl,Mx,Qj];generalize bj σ y=v;unfold pJ;exact CN
 |own e' k es=> simp only[pl,Mx,Qj];generalize bj (σ.set q (view (.own e' k es))) y=v;unfold pK;by_cases h:e'=e/\k=1;simp only[h,and_self,if_true];exact CN;simp only[h,if_false];exact CN
 |mine e' k es=> simp only[pl,Mx,Qj];generalize bj (σ.set q (view (.mine e' k es))) y=v;by_cases h:e'=e/\k=1;simp only[h,and_self,if_true];exact CN;simp only[h,if_false]
 |_=>simp only[pl,Mx]
def DI(σ:Φ)(e:Nat)(q:Nat)(y:Operand)(d:Γ)(L:Ψ):Option TI->Prop
 |some j=>fM σ e j q y d L (σ.getD q .any)
 |none=>False
def QV(T:Br)(σ:Φ)(q:Nat)(y:Operand)(d:Γ)(L:Ψ):Γ->Prop
 |some e=>DI σ e q y d L (T e)
 |none=>False
def Akh(q y){i u}(L):xz T σ (.tmp q) y d L (some i) (some u)=(u.td.str=true/\QV T σ q y d L i.td.elem):=by
 have k1:∀(e:Nat) (o:Option TI),(match o with
  |some j=>xE σ e j (.tmp q) y d L
  |none=>False)=DI σ e q y d L o:=λe o=>by
  cases o with
  |none=>rfl
  |some j=>exact WB
 have k2:∀b:Γ,(match b with
  |some e=>(match T e with
   |some j=>xE σ e j (.tmp q) y d L
   |none=>False)
  |none=>False)=QV T σ q y d L b:=λb=>by
  cases b with
  |none=>rfl
  |some e=>exact k1 e (T e)
 exact fq (λp=>(u.td.str=true/\p)) (k2 i.td.elem)
theorem AnE(q e y L):QV T σ q y d L (some e)=DI σ e q y d L (T e):=(rfl)
def AtZ:(∀q e j y L,DI σ e q y d L (some j)=fM σ e j q y d L (σ.getD q .any))/\(∀q e b k c j y L,fM σ e j q y d L (.own b k c)=pK (σ.set q (view (.own b k c))) e j d L b k c (bj (σ.set q (view (.own b k c))) y))/\(∀q e j y L,fM σ e j q y d L .nil=pJ σ e j d L (bj σ y)):=by and_intros<;>intros<;>rfl
def AnF(e c k b j L l):pK σ e j d L c k b (.raw (.string ⟨l.toArray⟩))=((c=e/\k=1)/\j.size=1/\j.bytes=1/\j.zero.length=1/\b.length+l.length<=140737488355328/\L (am σ d (.own e 1 (b++Aj l)))):=by simp only[pK]
def AnG(e j L l):pJ σ e j d L (.raw (.string ⟨l.toArray⟩))=(j.size=1/\j.bytes=1/\j.zero.length=1/\l.length<=140737488355328/\L (am σ d (.own e 1 (Aj l)))):=by simp only[pJ]
theorem Yu(x t):hop P T H d (.call ⟨.builtin .min,x,t⟩) a σ K E=On P T d (.call ⟨.builtin .min,x,t⟩) σ (K a):=(rfl)
def WC:(M6 P T H K E [] a σ=K a σ)/\(∀d o l,M6 P T H K E (⟨d,o,none⟩::l) a σ=hop P T H d o a σ (M6 P T H K E l) E):=by and_intros<;>intros<;>rfl
def xW(d o t want l):M6 P T H K E (⟨d,o,some (t,want)⟩::l) a σ=Yr (σ.getD t .any) t want a σ (M6 P T H K E (⟨d,o,none⟩::l)) (L7 d (M6 P T H K E l)):=by simp only[M6,Yr];exact Ah9
def AqK:(∀x,Cp P T H (.dr x) Q a σ=Qu (hop P T H) (Q .normal) (VN Q) x a σ)/\(∀t c,Cp P T H (.tw t c) Q a σ=vY t (Cp P T H c Q a) σ):=by and_intros<;>intros<;>rfl
def q1(Q:Exit->Ω)(a:Φ)(e:Exit)(σ:Φ):Prop:=Q e a σ
def AnK:(∀e,q1 Q a e σ=Q e a σ)/\(∀i v,ly (We i Q) v a σ=ly Q v a σ)/\(∀v,VN Q v a σ=xU Q v a):=by and_intros<;>intros<;>rfl
def Amo:(∀c,Cp P T H (.base c) Q a σ=Jt P T c (q1 Q a) σ)/\(∀l,Cp P T H (.hops l) Q a σ=M6 P T H (Q .normal) (ly Q) l a σ)/\(∀x y,Cp P T H (.seq x y) Q a σ=Cp P T H x (Lw (Cp P T H y Q) Q) a σ):=by and_intros<;>intros<;>rfl
theorem AqD(v):ly (Lw K Q) v a σ=ly Q v a σ:=(rfl)
theorem AqE(r)(R:AV->Ψ)(F:Value->Ψ)(v):ly (hfin T r R F) v a σ=F v a:=(rfl)
def TN(A B:Ω)(a σ:Φ):AV->Prop
 |.raw (.bool e)=>EK e A B a σ
 |_=>False
def JS:(∀c x y,Cp P T H (.cond c x y) Q a σ=TN (Cp P T H x Q) (Cp P T H y Q) a σ (bj σ c))/\(∀i c,Cp P T H (.block i c) Q a σ=Cp P T H c (We i Q) a σ):=by and_intros<;>intros<;>rfl
theorem Apr(e A B):TN A B a σ (.raw (.bool e))=EK e A B a σ:=(rfl)
def Aeb:(Lw K Q .normal a σ=K a σ)/\(∀i,Lw K Q (.exit i) a σ=Q (.exit i) a σ)/\(Lw K Q .ret a σ=Q .ret a σ):=by and_intros<;>intros<;>rfl
def Aef:(∀b,We b Q .normal a σ=Q .normal a σ)/\(∀b,We b Q .ret a σ=Q .ret a σ)/\(∀b i,We b Q (.exit i) a σ=if i=b then Q .normal a σ else Q (.exit i) a σ):=by and_intros<;>intros<;>rfl
theorem AqF(v):xU (Lw K Q) v a=xU Q v a:=(rfl)
theorem AqG(i v):xU (We i Q) v a=xU Q v a:=(rfl)
def Aej(r)(R:AV->Ψ)(F:Value->Ψ)(v):xU (hfin T r R F) v a=F v a:=by unfold xU hfin;exact propext ⟨λh=>h [],λh _=>h⟩
def WF(m:List Bool)(s:Θ)(R:Nat->Ω)(σ:Φ)(n:Nat)(e f:Φ):Prop:=∃k b c,k<n/\M7 e f b c/\∃x,R k x b/\c=Ey s x (Ld m σ)
def Ad{c}(m e)(R:Nat->Ω)(s:∃n x jr,R n x jr/\M7 a σ jr (Ey e x (Ld m σ)))(round:∀n x jr,R n x jr->Cp P T H c (Lw (WF m e R σ n) Q) jr (Ey e x (Ld m σ))):Cp P T H (.loop c) Q a σ:=by obtain⟨n,x,jr,h1,h⟩:=s;refine⟨λn jr b=>∃x,R n x jr/\b=Ey e x (Ld m σ),⟨n,jr,_,h,x,h1,rfl⟩,?_⟩;rintro n jr b ⟨x,f,rfl⟩;exact round n x jr f
def Am{m s}{R:Nat->Ω}{n c j2}(k x b)(h:k<n)(e:R k x b)(f:M7 j2 c b (Ey s x (Ld m σ))):WF m s R σ n j2 c:=⟨k,b,_,h,f,x,e,rfl⟩
def hent{γ' b:Φ}(h1:Gw a γ')(h:Wk σ b):M7 a σ γ' b:=(M7.gw h1).trans (M7.wk h)
def ύ(m:List Bool)(s:Θ)(R:Ω)(σ e f:Φ):Prop:=∃b c,M7 e f b c/\∃x,R x b/\c=Ey s x (Ld m σ)
def Bv{x y}(m s R)(h1:Cp P T H x (Lw (ύ m s R σ) Q) a σ)(h:∀c b,R c b->Cp P T H y Q b (Ey s c (Ld m σ))):Cp P T H (.cut x y) Q a σ:=
 ⟨λb e=>∃c,R c b/\e=Ey s c (Ld m σ),λb e ⟨c,f,g⟩=>by rw[g];exact h c b f,h1⟩
def Bw{m s R c e}(x b)(h:R x b)(f:M7 e c b (Ey s x (Ld m σ))):ύ m s R σ e c:=⟨b,_,f,x,h,rfl⟩
def qS(R:AV->Ψ)(a:Φ)(v:Φ):Prop:=R (Xa v) a
def WG:(∀r R F,hfin T r R F .ret a σ=Jc T r σ (qS R a))/\(∀r R F,hfin T r R F .normal a σ=Jc T r σ (qS R a)):=by and_intros<;>intros<;>rfl
def AmN:(∀R v,qS R a [v]=R v a)/\(∀R,qS R a []=R (.a6 []) a)/\(∀R v u b,qS R a (v::u::b)=R (.a6 (v::u::b)) a):=by and_intros<;>intros<;>rfl
end
attribute [go_sem] VP Atr AiW Dw lB JE VR JF Aec JG VS VT VU JH JI VV Aei Aq3 Aq5 AoX JJ JK VW Aml JL JM AoY VX JN JO JP JQ AoZ Apa Aq7 Ats AiP Ape VY Aed Apf Akg Aee Amm VZ xV Aq8 Aph Aq9 Ad0 C4 Akh AnE AtZ AnF AnG Yu WC xW AqK AnK Amo AqD AqE JS Apr Aeb Aef AqF AqG Aej WG AmN cond_true cond_false true_and
attribute [go_sem] Di Si Sw JD wx xT Zg lA qR VM mf cond_false cond_true
end
section
variable[Env]
def fN(D:Nat->Bool):List (Nat×Nat×AV)->Φ->Φ
 |[],σ=>σ
 |(i,d,v)::l,σ=>fN D l (σ.set d (bif D i then v else σ.getD d .any))
def s6(D:Nat->Bool)(i j:Nat):Bool:=bif j==i then true else D j
def s5(D:Nat->Bool)(b:Bool):Θ->Prop->Prop
 |[],A=>A
 |i::l,A=>D i=b->s5 D b l A
def pL{X:Type}(C:X->Prop)(S:(Nat->Bool)->X->Φ)(a:Φ)(D:Nat->Bool)(i:Nat)(b c:Φ):Prop:=b=a/\∃x,C x/\c=S (s6 D i) x
def kC{X:Type}(h:Bt)(C:X->Prop)(S:(Nat->Bool)->X->Φ)(a:Φ)(i:Nat)(t f:Θ):Option Oper->Prop
 |none=>True
 |some o=>∀D x,C x->D i=false->s5 D true t (s5 D false f (h o.dst o.op a (S D x) (pL C S a D i) λ_ _ _=>False))
def Sk{X:Type}(h:Bt)(C:X->Prop)(S:(Nat->Bool)->X->Φ)(a:Φ)(o:Ϡ):List (Nat×List Nat×List Nat)->Prop
 |[]=>True
 |(i,t,f)::l=>kC h C S a i t f o[i]?/\Sk h C S a o l
def wz(o:Oper):Θ:=(o.after.toList.filter λe=>binds .any e).map (·.on)
def Oc(o:Ϡ)(i:Nat):Θ:=((o[i]?).map wz).getD []
def QW(a:Ϡ)(W:List (Nat×List Nat×List Nat)):Bool:=
 (List.range a.size).all (λi=>(Oc a i).all (λj=>Nat.blt j i)&&W.any (λq=>Nat.beq q.1 i))&&(W.all (λq=>q.2.1.all (Oc a q.1).contains&&q.2.2.all λk=>(Oc a k).contains q.1)&&a.toList.all (λo=>o.guard.isNone))
section
variable{m:Ϙ}{P:Program}{T:Br}{H:Hw}{n u:Φ}{Q:Exit->Φ->Φ->Prop}{g:Ϡ}{X:Type}{C:X->Prop}{L:X->List (Nat × Nat × AV)}{S:(Nat->Bool)->X->Φ}
def Nr{D:Nat->Bool}{b}{A:Prop}:∀{l:Θ},(∀i∈l,D i=b)->s5 D b l A->A
 |[],_,h=>h
 |i::l,hl,h=>Nr (λj a=>hl j (nh _ a)) (h (hl i vq))
def Alc{a:Bt}:∀{l:List (Nat×List Nat×List Nat)},Sk a C S n g l->∀q∈l,kC a C S n q.1 q.2.1 q.2.2 g[q.1]?
 |[],_,q,hq=>by cases hq
 |p::l,h,q,hq=>by
  rcases e9.1 hq with rfl|hq;exact h.1;exact Alc h.2 q hq
def Aji{D D':Nat->Bool}:∀{l:List (Nat×Nat×AV)} {u:Φ},(∀p∈l,D p.1=D' p.1)->fN D l u=fN D' l u
 |[],_,_=>rfl
 |(i,d,v)::l,u,h=>by simp only[fN];rw[h _ vq];exact Aji λp a=>h p (nh _ a)
def Apu{o e}(h:e∈o.after)(a:binds .any e=true):e.on∈wz o:=
 dm.2 ⟨e,jq.2 ⟨by simpa using h,a⟩,rfl⟩
def eF(hT:Ax P T)(hH:C1 P H)(hm:P.follows .mixedOrders=true){id}(C:X->Prop)(L:X->List (Nat×Nat×AV))(W)(x0:X)(hC:C x0)(c:QW g W=true)(hL:∀x,((L x).all λp=>Nat.blt p.1 g.size)=true)(hS:∀D x,fN D (L x) u=S D x)(h0:S (λ_=>false) x0=u)(h:Sk (hop P T H) C S n g W)(fin:∀x,C x->Q .normal n (S (λ_=>true) x)):Cp P T H (.ext (.region id g true)) Q n u:=by
 intro m Y Z c0 a w hst;apply wp_region_any hm;have congr:∀{D D':Nat->Bool} {x:X},(∀i,i<g.size->D i=D' i)->S D x=S D' x:=λ{D D' x} h=>by rw[<-hS,<-hS];exact Aji λp hp=>h _ (by simpa using ib.1 (hL x) p hp)
 have N:∀{i o},g[i]? =some o->(∀j∈wz o,j<i)/\o.guard=none:=λ{i o} y=>by simp only[QW,gk]at c;have h1:=ib.1 c.1 i (th.2 (ah.1 y).1);simp only[Oc,y,pj,jy,gk,ib,Nat.blt_eq]at h1;exact⟨h1.1,by simpa using ib.1 c.2.2 o (cu (by simpa using y))⟩
 have wit:∀{i},i<g.size->∃t f,(i,t,f)∈W/\(∀j∈t,j∈Oc g i)/\∀k∈f,i∈Oc g k:=λ{i} s=>by simp only[QW,gk]at c;have h1:=ib.1 c.1 i (th.2 s);simp only[gk,List.any_eq_true]at h1;obtain⟨⟨i',t,f⟩,hq,J⟩:=h1.2;have J:=Nat.eq_of_beq_eq_true J;simp only at J;subst J;have h2:=ib.1 c.2.1 _ hq;simp only[gk,ib,List.contains_eq_mem,i6]at h2;exact⟨t,f,hq,h2.1,h2.2⟩
 have O:∀(d:Nat) (l:Θ) (b:Array Bool) (x:X) (a:Act) (w:World),b.size=g.size->l.length<=d->(∀i,i<g.size->b.getD i false=false->i∈l)->C x->Ah m Y Z c0 n (S (λi=>b.getD i false) x) a w->
  (∀k o,g[k]? =some o->b.getD k false=true->∀i∈wz o,b.getD i false=true)->wpAny P .any g (Zi m Y Z c0 Q) d b a w:=by
  intro d;have done:∀(b:Array Bool) (x:X) (a:Act) (w:World),C x->Ah m Y Z c0 n (S (λi=>b.getD i false) x) a w->(∀i,i<g.size->b.getD i false=true)->Zi m Y Z c0 Q .normal a w:=λb x a w K R hd=>by refine⟨n,_,fin x K,?_⟩;rwa [congr (D':=λi=>b.getD i false) λi s=>(hd i s).symm]
  induction d with
  |zero=>
   intro l b x a w B hl hu K R E
   have hd:∀i,i<g.size->b.getD i false=true:=λi s=>by
    cases h:b.getD i false with
    |true=>rfl
    |false=>have:=hu i s h;rw[kq (Nat.le_zero.1 hl)]at this;cases this
   refine⟨tb.2 λj r=> ?_,done b x a w K R hd⟩;obtain⟨h1,o,y,_⟩:=mem_ready.1 r;have hjl:=(ah.1 y).1;have:=hd j hjl
   grind
  |succ d ih=>
   intro l b x a w B hl hu K R E;refine⟨λhr=>done b x a w K R λi=> ?_,λi s=> ?_⟩
   .induction i using Nat.strongRecOn with
    |_ i ihi=>
     intro s
     cases h:b.getD i false with
     |true=>rfl
     |false=>
      exfalso;have:i∈ready .any g b:=by rw[mem_ready];refine⟨by grind,_,bz s,λe U J=> ?_⟩;have r:=(N (bz s)).1 _ (Apu U J);exact ihi _ r om
      rw[hr]at this;cases this
   .obtain⟨h1,o,y,z⟩:=mem_ready.1 s;have F:=(ah.1 y).1;have M:b.getD i false=false:=by grind
    obtain⟨t,f,hW,ht,wt⟩:=wit F;have hop:=Alc h _ hW;simp only[y,kC]at hop;have hop:=hop (λi=>b.getD i false) x K M;have hop:=Nr (λj r=>by have r:=ht j r;simp only[Oc,y,pj,jy]at r;obtain⟨e,U,rfl⟩:=dm.1 r;obtain⟨g1,g2⟩:=jq.1 U;exact z e (by simpa using g1) g2) hop
    have hop:=Nr (λk c=>by
     have c:=wt k c
     cases G:g[k]? with
     |none=>simp[Oc,G]at c
     |some q=>
      simp only[Oc,G,pj,jy]at c
      cases hkk:b.getD k false with
      |false=>rfl
      |true=>have:=E k q G hkk i c;rw[M]at this;cases this) hop
    unfold wpOp;simp only[y];rw[bn (by simp[wanted,(N y).2])];left;refine Ba (λa' w' ⟨γ',σ',⟨hg,x',hx',hσ⟩,hs'⟩=> ?_) (F4 hT hH R hop λ_ _ _ _ h _=>h.elim);subst hg hσ
    have A:∀j,(b.setIfInBounds i true).getD j false=s6 (λi=>b.getD i false) i j:=λj=>by
     unfold s6;by_cases r:i=j;subst r;simp[Array.getD,B,F];rw[getD_set_ne false r,beq_false_of_ne λh=>r h.symm];rfl
    refine ih (l.erase i) _ x' a' w' (by simpa using B) ?_ (λj r v=> ?_) hx' ?_ λk q hq c j r=> ?_;rw[List.length_erase_of_mem (hu i F M)];omega
    .rw[A]at v;unfold s6 at v;by_cases I:j=i
     .rw[beq_iff_eq.2 I]at v;cases v
     rw[beq_false_of_ne I]at v;exact(List.mem_erase_of_ne I).2 (hu j r v)
    rw[show(λj=>(b.setIfInBounds i true).getD j false)=s6 (λi=>b.getD i false) i from funext A];exact hs';by_cases V:i=k;subst V;rw[y]at hq;injection hq with hq;subst hq;obtain⟨e,U,rfl⟩:=dm.1 r;obtain⟨g1,g2⟩:=jq.1 U;exact getD_set_true (z e (by simpa using g1) g2);rw[getD_set_ne false V]at c;exact getD_set_true (E k q hq c j r)
 have M:∀i,(Array.replicate g.size false).getD i false=false:=λi=>by by_cases s:i<g.size<;>simp[s]
 refine O g.size (List.range g.size) _ x0 a _ oS oS (λi s _=>th.2 s) hC ?_ λk o _ c=> ?_;rw[show(λi=>(Array.replicate g.size false).getD i false)=λ_=>false from funext M,h0];exact hst.drew
 .rw[M]at c;cases c
def DH{b:Nat->Bool}{i a}(x:X)(c:C x)(h:a=S (s6 b i) x):pL C S n b i n a:=⟨rfl,x,c,h⟩
def Ε(s b x y):Lj s (bif b then x else y)=bif b then Lj s x else Lj s y:=by cases b<;>rfl
theorem KK(D:Nat->Bool)(i j):s6 D i j=bif j==i then true else D j:=(rfl)
def Dt {G:Prop} (e:G:=by
 simp only[kC,List.getElem?_toArray,aw,ba,s5];intro D x hx h0
 intros
 generalize hK:pL _ _ _ _ _=K;repeat' first|apply Aq.on<;>intro _|refine gD ?_|simp only[↓Ε,go_sem,DT,Int.reduceEq,Int.reduceNeg,Int.cast_ofNat_Int,Bool.cond_self, *]
 rw[<-hK];exact DH x hx (by simp only[KK,Nat.reduceBEq,cond_true,cond_false,Bool.cond_self, *])):G:=e
def Sl {Y G:Prop} (c:Y) (e:Y->G:=by
 intro c;simp only[kC,List.getElem?_toArray,aw,ba,s5];intro D x hx h0
 intros
 generalize hK:pL _ _ _ _ _=K;repeat' first|apply Aq.on<;>intro _|refine gD ?_|simp only[↓Ε,go_sem,DT,Int.reduceEq,Int.reduceNeg,Int.cast_ofNat_Int,Bool.cond_self, *]
 refine ae c ?_;rintro r rfl;simp only[go_sem,num,str, *];rw[<-hK];exact DH x hx (by simp only[KK,Nat.reduceBEq,cond_true,cond_false,Bool.cond_self, *])):G:=e c
def pM{G:Prop}(e:G:=by intro D x;simp only[fN,num,str,Af,go_sem];exact rfl):G:=e
end
end
section
variable[Env]
variable{bg:Ϙ}
abbrev Fr(ro:Γ):Fence:={fn:=λ_=>True,depth:=none,alive:=false,round:=ro}
section
variable{P:Program}{o:Oper}{a:Act}{w:World}{ro:Γ}{n:Nat}{next:Act->World->Prop}{Q:Exit->Act->World->Prop}
def P1{f b}{R:Ending->World->Prop}:CallsIn (Fr ro) n P f b w R↔Calls P f b w R:=by have:CallsIn (Fr ro) n P f b w R↔CallsIn Fence.wide n P f b w R:=Iff.rfl;exact this.trans callsIn_wide
def Akm{r b}{R:Value->World->Prop}(h:Rows P r b w R):RowsIn (Fr ro) n P r b w R:=by intro c d _;obtain⟨v,e,f,g⟩:=h c d;refine⟨v,e,f,?_⟩;have:StepsIn (Machine.fenced P (Fr ro)) P=StepsIn (Machine.fenced P Fence.wide) P:=rfl;rw[this];exact stepsIn_wide.2 g
def Aek{r:Result Next}(h:o.upon P a next Q r):o.uponIn (Fr ro) n P a next Q r:=by
 cases r with
 |ok x w'=>
  cases x with
  |value v=>exact h
  |skip=>exact h
  |defer d=>exact h
  |enter f args=>rw[Oper.upon_enter]at h;rw[Oper.uponIn_enter];exact⟨λb=>by simp at b,P1.2 h⟩
  |row r args=>rw[Oper.upon_row]at h;rw[Oper.uponIn_row];exact⟨λb=>by simp at b,Akm h⟩
  |_=>exact h.elim
 |halt h' w'=>cases h'<;>exact h
def AnM(b:∀c,o.op≠ .defer c)(h:o.wp P a w next Q):o.wpIn (Fr ro) n P a w next Q:=
 ⟨λ_ _=>trivial,by rw[Oper.semAt_eq ro _ _ b];exact Aek h⟩
def Ly{d}(f:∀o∈d.toList,∀c,o.op≠ .defer c)(j:∀a w,¬Q .outgrown a w):∀(l:Θ) (a:Act) (w:World),wpOps P d Q l a w->wpOpsIn (Fr ro) n P d Q l a w
 |[],a,w,h=>h
 |i::l,a,w,h=>by
  simp only[wpOps]at h;simp only[wpOpsIn];split at h;rename_i g;simp only[g];exact Ly f j l a w h;rename_i o g;simp only[g];have e:o∈d.toList:=cu (by simpa using g);split at h;rename_i k;rw[bn k];rcases h with h|⟨_,b,w1,h⟩;exact AnM (f o e) (Ba (λa w h=>Ly f j l a w h) h)
  grind
  rename_i k;rw[ar k];exact⟨λ_ _=>trivial,Ly f j l _ w h⟩
end
def WH(o:Op):Bool:=match o with
 |.defer _=>false
 |_=>true
def Kp(fr:Θ):Code->Bool
 |.region _ ops _=>ops.toList.all (λo=>WH o.op)&&Yy fr ops.toList
 |.seq a b=>Kp fr a&&Kp fr b
 |.cond _ a b=>Kp fr a&&Kp fr b
 |.block _ c=>Kp fr c
 |.loop c=>Kp fr c
 |.skip|.exit _|.label _|.ret=>true
 |_=>false
def Lz{l:List Oper}(h:(l.all λo=>WH o.op)=true):∀o∈l,∀c,o.op≠ .defer c:=by intro o a c b;have:=ib.1 h o a;rw[b]at this;cases this
section
variable{P:Program}{T:Br}{w0:World}{S0 c0:Nat->Nat}
def Qw(fr:Θ)(t0:Array Value)(a:Act):Prop:=∀s∈fr,a.tmps[s]? =t0[s]?
def AnN(fr:Θ)(t0:Array Value)(bg:Ϙ)(w0:World)(S0 c0:Δ)(Q:Exit->Ψ):Exit->Ϣ:=λe a w=>∃b,Q e b/\Bc bg w0 S0 c0 b a w/\Qw fr t0 a
def WI{fr d}{r:Ψ->Ψ}{l}(k:fL (XO P d l) fr r){vs}(f:∀s∈vs,s∈fr)(m:∀o∈d.toList,∀c,o.op≠ .defer c){ro n t0 b a w K}(g:Bc bg w0 S0 c0 b a w)(p:Qw fr t0 a)(h:RS r vs K b):
 wpOpsIn (Fr ro) n P d (λe a w=>e=.normal/\∃b,K b/\Bc bg w0 S0 c0 b a w/\Qw fr t0 a) l a w:=by
 have h1:=Pv k vs f bg w0 S0 c0 b a w K (λa w=>∃b,K b/\Bc bg w0 S0 c0 b a w/\Qw fr t0 a) g h (λi t u g1 g2 g3=>⟨i,g2,g1,λs j=>(g3 s j).trans (p s j)⟩);have q:=h1 (λe a w=>e=.normal/\∃b,K b/\Bc bg w0 S0 c0 b a w/\Qw fr t0 a) (λa w h=>⟨rfl,h⟩);exact Ly m (λa w h=>by cases h.1) l a w q
def qT{vs fr l}(h1:Yy vs l=true)(h:Yy fr l=true):Yy (vs++fr) l=true:=by
 unfold Yy at *
 grind
def Dj(o:Ax P T)(hm:P.follows .mixedOrders=true){A}(fr t0 ro n):∀(c:Code) (d:CC),Cn A c=some d->N6 T A c=true->Kp fr c=true->∀(Q:Exit->Ψ) (i:Φ) (a:Act) (w:World),Bc bg w0 S0 c0 i a w->Qw fr t0 a->Jt P T d Q i->c.wpIn (Fr ro) n P (AnN fr t0 bg w0 S0 c0 Q) a w
 |.skip,d,b,hk,hn,Q,i,a,w,f,jo,h=>by simp only[Cn]at b;injection b with b;subst b;exact wpIn_skip ⟨i,h,f,jo⟩
 |.region id ops false,d,b,hk,hn,Q,i,a,w,f,jo,h=>by
  simp only[Cn]at b;simp only[N6]at hk;simp only[Kp,gk]at hn;split at b
  .rename_i sl hsl;simp only[f0,if_false]at b;obtain⟨X,Y,t,d',g,Z,c,G,g1,g2,g3,g4,g5,g6,g7,g8,rfl⟩:=Y2 b;have M:=Yz o G g1 g2 g3 g4 g5 g6 g7 g8 f h;have C:=M (λe a' w'=>e=.normal/\∃σ',Q .normal σ'/\Bc bg w0 S0 c0 σ' a' w'/\∀H,X.dst≠some H->Y.dst≠some H->a'.tmps[H]? =a.tmps[H]?) (λa w h=>⟨rfl,h⟩);refine wpIn_mono (wpIn_region (Ly (Lz hn.1) (λa w h=>by cases h.1) _ a w C)) λe a' w' hq=> ?_;obtain⟨rfl,σ',h1,h2,h3⟩:=hq;have N:=U0 hn.2;rw[G]at N;exact⟨σ',h1,h2,λs hs=>(h3 s (N s hs X oS) (N s hs Y oS)).trans (jo s hs)⟩
  .simp only[f0,if_false]at b;split at b
   rename_i l G;simp only[px,rc,ph]at hk;injection b with b;subst b;obtain⟨z,h,f⟩:=C9 _ f h;have D:=run_text (vs:=Hv A id++fr) o G (qT hk hn.2);exact wpIn_mono (wpIn_region (WI (P:=P) (fr:=Hv A id++fr) (t0:=a.tmps) D (λs hs=>qr _ hs) (Lz hn.1) f (λs _=>rfl) h)) λe a' w' hq=> Aho
   .cases b
 |.region id ops true,d,b,hk,hn,Q,i,a,w,f,jo,h=>by
  simp only[Cn]at b;simp only[N6]at hk;simp only[Kp,gk]at hn;split at b;simp at b
  .simp only[if_true,oi,qm,gk]at b hk;unfold wy at b;split at b
   rename_i d' O;injection b with b;subst b;obtain⟨z,h,f⟩:=C9 _ f h;refine wpIn_mono (wpIn_region_draw (Q:=λe a' w=>e=.normal/\∃i,Q .normal i/\Bc bg w0 S0 c0 i a' w/\Qw (Hv A id++fr) a.tmps a') λt=> ?_) λe a' w' hq=> ?_;simp only[schedule,hm,rc,if_true];have D:=Ζ (vs:=Hv A id++fr) o O hk.1 (qT hk.2 hn.2) t;exact WI (P:=P) (ro:=ro) (n:=n) (fr:=Hv A id++fr) (t0:=a.tmps) D (λs hs=>qr fr hs) (Lz hn.1) f.drew (λs _=>rfl) h;exact Aho
   .cases b
 |.seq x y,d,b,hk,hn,Q,i,a,w,f,jo,h=>by
  simp only[Cn]at b;simp only[N6,gk]at hk;simp only[Kp,gk]at hn;split at b
  .rename_i r K u L;injection b with b;subst b
   cases hc:U2 A y with
   |false=>
    rw[hc]at h;refine wpIn_seq (wpIn_mono (Dj o hm fr t0 ro n x r u hk.1 hn.1 _ i a w f jo h) λe a w hq=> ?_);obtain⟨σ',hq,hs',j⟩:=hq
    cases e with
    |normal=>exact Dj o hm fr t0 ro n y K L hk.2 hn.2 Q σ' a w hs' j hq
    |_=>exact⟨σ',hq,hs',j⟩
   |true=>
    rw[hc]at h;obtain⟨I,R,h⟩:=h;refine wpIn_seq (wpIn_mono (Dj o hm fr t0 ro n x r u hk.1 hn.1 _ i a w f jo h) λe a w hq=> ?_);obtain⟨σ',hq,hs',j⟩:=hq
    cases e with
    |normal=>obtain⟨p,B,h3⟩:=hq;exact Dj o hm fr t0 ro n y K L hk.2 hn.2 Q p a w (B.stt hs') j (R p h3)
    |_=>exact⟨σ',hq,hs',j⟩
  .cases b
 |.cond c x y,d,b,hk,hn,Q,i,a,w,f,jo,h=>by
  simp only[Cn]at b;simp only[N6,gk]at hk;simp only[Kp,gk]at hn;split at b;rename_i r K u L;injection b with b;subst b;simp only[Jt,Sm]at h;split at h;rename_i e he;have k:=f;obtain⟨_,S,cc,D,_⟩:=f;obtain⟨cx,E⟩:=Ay D c;rw[he]at E;have e1:=(Az E).1;exact wpIn_cond_split e1 (λht=>Dj o hm fr t0 ro n x r u hk.1 hn.1 Q i a w k jo (h.1 ht)) (λhf=>Dj o hm fr t0 ro n y K L hk.2 hn.2 Q i a w k jo (h.2 hf))
  grind
  .cases b
 |.block id c,d,b,hk,hn,Q,i,a,w,f,jo,h=>by
  simp only[Cn]at b;simp only[N6]at hk;simp only[Kp]at hn;split at b;rename_i r u;injection b with b;subst b;exact wpIn_block (wpIn_mono (Dj o hm fr t0 ro n c r u hk hn _ i a w f jo h) λe a w hq=> Agm)
  .cases b
 |.loop c,d,b,hk,hn,Q,i,a,w,f,jo,h=>by
  simp only[Cn]at b;simp only[N6]at hk;simp only[Kp]at hn;split at b
  .rename_i r u;injection b with b;subst b;obtain⟨I,⟨n0,z,hw,R⟩,q⟩:=h
   classical
   let J:Act->World->Nat->Prop:=λa w n=>∃i,I n i/\Bc bg w0 S0 c0 i a w/\Qw fr t0 a;refine wpIn_loop (λa w=>∃n,J a w n) (λa w=>if h:∃n,J a w n then Classical.choose (least h)else 0) ⟨n0,z,R,hw.stt f,jo⟩ λa w hJ=> ?_;obtain⟨σ',U,k,j⟩:=(Classical.choose_spec (least hJ)).1;refine wpIn_mono (Dj o hm fr t0 ro n c r u hk hn _ σ' a w k j (q _ σ' U)) λe a' w' hq=> ?_;obtain⟨V,hq,F,v⟩:=hq
   cases e with
   |normal=>obtain⟨m,p,hm,B,W⟩:=hq;have hJ':J a' w' m:=⟨p,W,B.stt F,v⟩;exact yd
   |_=>exact⟨V,hq,F,v⟩
  .cases b
 |.exit id,d,b,hk,hn,Q,i,a,w,f,jo,h=>by simp only[Cn]at b;injection b with b;subst b;exact wpIn_exit ⟨i,h,f,jo⟩
 |.label l,d,b,hk,hn,Q,i,a,w,f,jo,h=>by simp only[Cn]at b;injection b with b;subst b;exact wpIn_label ⟨i,h,f,jo⟩
 |.ret,d,b,hk,hn,Q,i,a,w,f,jo,h=>by simp only[Cn]at b;injection b with b;subst b;exact wpIn_ret ⟨i,h,f,jo⟩
 |.rangeFunc ..,d,b,hk,hn,Q,i,a,w,f,jo,h=>by simp[Cn]at b
 |.scope c,d,b,hk,hn,Q,i,a,w,f,jo,h=>by simp[Kp]at hn
 |.goto ..,d,b,hk,hn,Q,i,a,w,f,jo,h=>by simp[Cn]at b
 |.refuse ..,d,b,hk,hn,Q,i,a,w,f,jo,h=>by simp[Cn]at b
end
variable[Env]
abbrev Gh:=Γ->World->Δ->Δ->Prop
structure qU (G:Gh):Prop where
 lt:∀st w S cg,G st w S cg->∀b,0<cg b->b<w.heap.size
 keep:∀st w S cg w' S' c c',G st w S cg->Stp w S c w' S' c'->(∀b,c b+cg b<=1)->Sz w S->G st w' S' cg
def QX:Gh:=λ_ _ _ c=>Zc c
def WJ:qU QX:=⟨λst w S a h b d=>by have:=h b;omega,λst w S a e s c f h _ _ _=>h⟩
def yk(D:Nat):Deferred:={target:=.collected D,args:= #[]}
def Od(ms:Θ)(w:World)(c:Δ):Prop:=ms.Nodup/\(∀D∈ms,0<c D/\w.heap[D]? =some (.deferred (some [])))/\∀b,0<c b->b<w.heap.size
def Jh(G:Gh)(w0:World)(S0 c0:Δ)(st:Γ)(f:Φ)(a:Act)(w:World):Prop:=
 bm f a.tmps.toList/\∃(ms:Θ) (S c d e:Δ),Ac w S f a.tmps.toList c/\G st w S d/\Od ms w e/\(∀b,c b+d b+e b<=1)/\a.defers=ms.map yk/\Sz w S/\Stp w0 S0 c0 w S (λb=>c b+d b+e b)
def Stp.i5{w w':World}{S S' c a c1 c2:Δ}(h:Stp w S c1 w' S' a)(e:∀b,c b=c1 b+c2 b):Stp w S c w' S' (λb=>a b+c2 b):=
 ⟨h.os,h.tape,h.output,h.size,λb d f=>h.keep b d (by grind),h.cell,h.le,λb d=>by have:=e b;have:=h.own b d;show a b+c2 b<=c b;omega⟩
def Od.keep{ms w d S s c f a}(h:Od ms w a)(k:Stp w S c d s f)(h1:∀b,c b+a b<=1):Od ms d a:=by refine⟨h.1,λD e=>⟨(h.2.1 D e).1,?_⟩,λb g=>og (h.2.2 b g) k.size⟩;obtain⟨g1,g2⟩:=h.2.1 D e;rw[(k.keep D (h.2.2 D g1) (by grind)).1,g2]
section
variable{G:Gh}{w0:World}{S0 c0:Nat->Nat}{st:Γ}{d:Φ}{a:Act}{w:World}
theorem Jh.open(hG:qU G)(h:Jh G w0 S0 c0 st d a w):∃S c,Bc a.defers w S c d a w/\∀(f:Φ) (j:Act) (i:World),Bc a.defers w S c f j i->Jh G w0 S0 c0 st f j i:=by
 obtain⟨k,ms,S,c,cg,cm,t,hg,hm,h1,u,p,v⟩:=h;refine⟨S,c,⟨k,S,c,t,λb=>by grind,rfl,p,bt w S c⟩,λf j i l=> ?_⟩;obtain⟨g,s,q,m,x,n,o,e⟩:=l;refine⟨g,ms,s,q,cg,cm,m,hG.keep st w S cg i s c q hg e (λb=>by grind) p,hm.keep e (λb=>by grind),λb=> ?_,by rw[n,u],o,?_⟩
 .rcases cq b w.heap.size with r|r
  .have:=e.own b r;grind
  .have e1:cg b=0:=by
    exact AhK
   exact Ahv
 .have:=v.trans (e.i5 (c:=λb=>c b+cg b+cm b) (c2:=λb=>cg b+cm b) (λb=>om))
  grind
def Wk.rp{b:Φ}(f:qU G)(h:Wk d b)(e:Jh G w0 S0 c0 st d a w):Jh G w0 S0 c0 st b a w:=by obtain⟨S,c,h1,g⟩:=e.open f;exact g _ _ _ (h.stt h1)
def Jh.rb{c v}(b:Jh G w0 S0 c0 st d a w)(e:bj d c=.raw v):a.eval c=v:=by obtain⟨f,ms,S,c,i,j,g,_⟩:=b;obtain⟨k,h⟩:=Ay g _;rw[e]at h;exact(Az h).1
end
inductive CG where
 |base (c:CC)
 |seq (x y:CG)
 |cut (x y:CG)
 |cond (c:Operand) (x y:CG)
 |block (id:Nat) (c:CG)
 |loop (c:CG)
 |scope (c:CG)
 |rn (l1:List CO) (d:Γ) (f:Operand) (args:List Operand) (l2:List CO)
 |range (x:Operand) (ps:Θ) (ql qj:CC)
 |ov (l1:List CO) (d:Γ) (f:Operand) (args:List Operand) (l2:List CO) (t:Nat) (want:Bool) (d':Γ) (f':Operand) (args':List Operand) (l3:List CO)
def Yv(P:Program)(l:Nat)(Y:Nat->Ψ)(G:Gh):Prop:=
 ∀(k:Nat) (args:Φ) (w:World) (S:Δ) (v:ϴ) (c f:Δ),Y k args->Ac w S args v c->G (some k) w S f->(∀b,c b+f b<=1)->Sz w S->
  ∃i t assign a,(Instr.yield l v.toArray).run P w=.ok (.round l i t assign a) w/\∀m,RoundIn (Fr none) m P l i t assign a w λe g=>
   ∃h d s,((e=.returned (.bool true)/\s=some (k+1))\/(e=.returned (.bool false)/\s=none))/\G s g h d/\(∀b,d b<=1)/\Sz g h/\Stp w S (λb=>c b+f b) g h d
def Oo(P:Program)(g:Nat)(i:Φ)(n:Nat)(Y:Nat->Ψ):Prop:=
 Hr P g/\∀(G:Gh),qU G->∀l,Yv P l Y G->∀(w:World) (S:Δ) (h:ϴ) (c d:Δ),Sz w S->Ac w S i h c->G (some 0) w S d->(∀b,c b+d b<=1)->
  Calls P g (.func (.yield l) #[] #[]::h).toArray w λe f=>∃v st s a,e=.returned v/\(st=some n\/st=none)/\G st f s a/\(∀b,a b<=1)/\Sz f s/\Stp w S (λb=>c b+d b) f s a
def Yw(Q:Exit->Γ->Ψ)(s:Γ):Exit->Ψ:=λe a=>Q e s a
def Wg(K:Γ->Ψ)(Q:Exit->Γ->Ψ):Exit->Γ->Ψ
 |.normal,st,σ=>K st σ
 |e,st,σ=>Q e st σ
def Sy(i:Nat)(Q:Exit->Γ->Ψ):Exit->Γ->Ψ
 |.exit id',st,σ=>if id'=i then Q .normal st σ else Q (.exit id') st σ
 |e,st,σ=>Q e st σ
def EL(Q:Exit->Γ->Ψ):Exit->Γ->Ψ
 |.goto _,_,_=>False
 |e,st,σ=>Q e st σ
def Zj(Y:Nat->Ψ)(l:Nat)(x:AV)(a b:Φ)(d:Γ)(K:Γ->Ψ)(s:Γ):Prop:=
 x=.raw (.func (.yield l) #[] #[])/\∃k,s=some k/\Y k a/\K (some (k+1)) (am b d (.raw (.bool true)))/\K none (am b d (.raw (.bool false)))
def gB:Θ->Φ->Φ
 |[],σ=>σ
 |s::ss,σ=>gB ss (σ.set s .any)
def NY:Θ->Φ->Φ->Φ
 |p::ps,x::xs,σ=>NY ps xs (σ.set p x)
 |_,_,σ=>σ
def WK(x:AV)(g:Nat)(c:Φ):Prop:=x=.ee g c\/(x=.raw (.func (.func g) #[] #[])/\c=[])
def JU(di:Θ)(L:Nat)(K:Ψ)(Q:Exit->Ψ):Exit->Ψ
 |.normal,σ=>σ.length=L/\K (gB di σ)
 |.ret,σ=>σ.length=L/\Q .ret (gB di σ)
 |.exit id,σ=>σ.length=L/\Q (.exit id) (gB di σ)
 |_,_=>False
def xn(K:Ψ):Exit->Ψ
 |.normal,σ=>K σ
 |_,_=>False
def pN(x:AV)(w:Bool)(A B:Ψ)(a:Φ):Prop:=match x with
 |.raw (.bool e)=>bif e==w then A a else B a
 |_=>False
def QY(Y:Nat->Ψ)(l:Nat)(P:Program)(T:Br)(d:Γ)(f:Operand)(a:List Operand)(e:List CO)(Q:Exit->Γ->Ψ)(g:Γ)(b:Φ):Prop:=
 Zj Y l (bj b f) (bi b a).1 (bi b a).2 d (λs c=>Fq P T (Q .normal s) e c) g
def QZ(P:Program)(T:Br)(d:Γ)(l:List CO)(Q:Exit->Γ->Ψ)(s:Γ)(a:Φ):Prop:=Fq P T (Q .normal s) l (am a d (.a6 []))
def pR(Y:Nat->Ψ)(l:Nat)(P:Program)(T:Br)(t:Nat)(w:Bool)(d:Γ)(f:Operand)(a:List Operand)(b:List CO)(Q:Exit->Γ->Ψ)(s:Γ)(c:Φ):Prop:=
 pN (c.getD t .any) w (QY Y l P T d f a b Q s) (QZ P T d b Q s) c
def F6(P:Program)(T:Br)(Y:Nat->Ψ)(l:Nat)(i:Nat)(di:Θ):CG->(Exit->Γ->Ψ)->Γ->Ψ
 |.base c,Q,st,σ=>Jt P T c (Yw Q st) σ
 |.seq x y,Q,st,σ=>F6 P T Y l i di x (Wg (F6 P T Y l i di y Q) Q) st σ
 |.cut x y,Q,st,σ=>∃I:Γ->Ψ,(∀st1 a,I st1 a->F6 P T Y l i di y Q st1 a)/\F6 P T Y l i di x (Wg (λs e=>∃h,Wk e h/\I s h) Q) st σ
 |.cond c x y,Q,st,σ=>Sm (bj σ c) (F6 P T Y l i di x Q st σ) (F6 P T Y l i di y Q st σ)
 |.block id c,Q,st,σ=>F6 P T Y l i di c (Sy id Q) st σ
 |.scope c,Q,st,σ=>F6 P T Y l i di c (EL Q) st σ
 |.loop c,Q,st,σ=>∃I:Nat->Γ->Ψ,(∃n a,Wk σ a/\I n st a)/\∀n st a,I n st a->F6 P T Y l i di c (Wg (λs e=>∃m h,m<n/\Wk e h/\I m s h) Q) st a
 |.rn l1 d f b l2,Q,st,σ=>Fq P T (λa=>Zj Y l (bj a f) (bi a b).1 (bi a b).2 d (λj e=>Fq P T (Q .normal j) l2 e) st) l1 σ
 |.ov l1 d f b l2 t want d' f' args' l3,Q,st,σ=>Fq P T (λa=>Zj Y l (bj a f) (bi a b).1 (bi a b).2 d (λj e=>Fq P T (pR Y l P T t want d' f' args' l3 Q j) l2 e) st) l1 σ
 |.range x ps ql qj,Q,st,σ=>∃g p n q,σ.length<=i/\WK (bj σ x) g p/\Oo P g p n q/\∃I:Nat->Ψ,(∃a,Wk σ a/\I 0 a)/\
  (∀k b a,q k b->I k a->b.length=ps.length/\b.all pb=true/\Jt P T ql (xn (Jt P T qj (JU di σ.length (λh=>∃o,Wk h o/\I (k+1) o) (Yw Q st)))) (NY ps b a))/\∀a,I n a->Q .normal st a
def EM:Ϥ->Nat->Γ
 |[],_=>none
 |(k,p)::r,id=>if k=id then some p else EM r id
def EN(ops:Ϡ)(p:Nat):Option CG:=
 match ops.toList[p]? with
 |some o=>match o.op,o.guard with
  |.call c,none=>match c.callee,Dz ops (ops.toList.take p),Dz ops (ops.toList.drop (p+1))with
   |.value f,some l1,some l2=>some (.rn l1 o.dst f c.args.toList l2)
   |_,_,_=>none
  |_,_=>none
 |none=>none
def lC(ops:Ϡ)(p q:Nat):Option CG:=
 match ops.toList[p]?,ops.toList[q]? with
 |some o,some o'=>match o.op,o.guard,o'.op,o'.guard with
  |.call c,none,.call c',some (j,want)=>match c.callee,c'.callee,Oa ops j,Dz ops (ops.toList.take p),Dz ops ((ops.toList.drop (p+1)).take (q-(p+1))),Dz ops (ops.toList.drop (q+1))with
   |.value f,.value f',some t,some l1,some l2,some l3=>if p<q then some (.ov l1 o.dst f c.args.toList l2 t want o'.dst f' c'.args.toList l3)else none
   |_,_,_,_,_,_=>none
  |_,_,_,_=>none
 |_,_=>none
def WL:Bool->CG->CG->CG
 |true,x,y=>.cut x y
 |false,x,y=>.seq x y
def Ec(A:Pw)(d:Ϥ):Code->Option CG
 |.region id ops dr=>match EM d id with
  |some p=>if dr then none else if p<1000 then EN ops p else lC ops (p % 1000) (p / 1000)
  |none=>(Cn A (.region id ops dr)).map .base
 |.seq a b=>match Ec A d a,Ec A d b with
  |some x,some y=>some (WL (U2 A b) x y)
  |_,_=>none
 |.cond c a b=>match Ec A d a,Ec A d b with
  |some x,some y=>some (.cond c x y)
  |_,_=>none
 |.block id c=>(Ec A d c).map (.block id)
 |.loop c=>(Ec A d c).map .loop
 |.scope c=>(Ec A d c).map .scope
 |.rangeFunc g ps ql qj=>match Cn A ql,Cn A qj with
  |some x,some y=>some (.range g ps.toList x y)
  |_,_=>none
 |.skip=>some (.base .skip)
 |.label _=>some (.base .skip)
 |.exit id=>some (.base (.exit id))
 |.ret=>some (.base .ret)
 |_=>none
def WM(n:Nat)(di:Θ):Θ:=(List.range n).filter λs=> !di.contains s
def lD(T:Br)(A:Pw)(y:Ϥ)(n:Nat)(di:Θ):Code->Bool
 |.region id ops dr=>match EM y id with
  |some p=>ops.toList.all λo=>WH o.op
  |none=>N6 T A (.region id ops dr)&&Kp [] (.region id ops dr)
 |.seq a b=>lD T A y n di a&&lD T A y n di b
 |.cond _ a b=>lD T A y n di a&&lD T A y n di b
 |.block _ c=>lD T A y n di c
 |.loop c=>lD T A y n di c
 |.scope c=>lD T A y n di c
 |.rangeFunc g ps ql qj=>ps.toList.all (λp=>di.contains p)&&(N6 T A ql&&Kp (WM n di) ql)&&(N6 T A qj&&Kp (WM n di) qj)
 |_=>true
section
variable{P:Program}{n:Nat}{ro:Γ}
def qV{o:Oper}{a:Act}{c g:Ϣ}{q Q:Exit->Ϣ}(hn:∀a w,c a w->g a w)(hQ:∀e a w,e≠Exit.normal->q e a w->Q e a w){r:Result Next}(h:o.uponIn (Fr ro) n P a c q r):o.uponIn (Fr ro) n P a g Q r:=by
 cases r with
 |ok x w'=>
  cases x with
  |value v=>exact hn _ _ h
  |skip=>exact hn _ _ h
  |defer d=>exact hn _ _ h
  |enter f args=>rw[Oper.uponIn_enter]at h⊢;exact⟨h.1,P1.2 ((P1.1 h.2).mono λe b he=> AgY)⟩
  |row r args=>rw[Oper.uponIn_row]at h⊢;exact⟨h.1,h.2.mono λv b i=>hn _ _ i⟩
  |round l f tmps ql qj=>rw[Oper.uponIn_round]at h⊢;exact⟨h.1,h.2.mono λe b he=> AgY⟩
  |_=>exact h.elim
 |halt h' w'=>
  cases h' with
  |panic v=>exact hQ _ _ _ oS h
  |_=>exact h.elim
def Ex{ops:Ϡ}{Q:Exit->Ϣ}(b:Θ):∀(l:Θ) (a:Act) (w:World),wpOpsIn (Fr ro) n P ops (λe a w=>e=.normal/\wpOpsIn (Fr ro) n P ops Q b a w) l a w->wpOpsIn (Fr ro) n P ops Q (l++b) a w
 |[],a,w,h=>h.2
 |i::l,a,w,h=>by
  simp only[wpOpsIn,fj]at h⊢
  cases f:ops[i]? with
  |none=>simp only[f]at h;exact Ex b l a w h
  |some o=> simp only[f]at h;simp only[];split;rename_i c;rw[bn c]at h;exact⟨h.1,qV (λa w h=>Ex b l a w h) (λe a w d h=>cw h.1 d) h.2⟩;rename_i c;rw[ar c]at h;exact⟨h.1,Ex b l _ w h.2⟩
end
variable[Env]
def yB{P n c}{Q:Exit->Ϣ}{a w}(h:c.wpIn (Fr none) n P (Exit.noGoto Q) a w):(Code.scope c).wpIn (Fr none) n P Q a w:=by
 intro b k m j o p;have i:b.roundOf=none:=j;obtain⟨e,d,f,hq,g⟩:=h b (.inScope c::k) m j o p;have q:(lone (b.atR a (.code (.scope c)::k)) m w).fenced P (Fr none):=fenced_calm o p rfl;have s:StepsIn (Machine.fenced P (Fr none)) P (lone (b.atR a (.code (.scope c)::k)) m w) (lone (b.atR a (.code c:: .inScope c::k)) m w):=by refine .one q ?_;rw[Frame.atR_of_none i,Frame.atR_of_none i];exact step_scope
 cases e with
 |normal=>refine⟨.normal,d,f,hq,s.trans (StepsIn.trans g ?_)⟩;refine .one (fenced_calm o p rfl) ?_;rw[Frame.atR_of_none i,Frame.atR_of_none i];exact step_inScope
 |exit id=>exact⟨.exit id,d,f,hq,λr t=>s.trans (g.1 r (by simp[exitTo,t])),λu=>by grind⟩
 |goto l=>exact hq.elim
 |ret=>exact⟨_,d,f,hq,.of_steps s g⟩
 |panic ch=>exact⟨_,d,f,hq,.of_steps s g⟩
 |outgrown=>exact⟨_,d,f,hq,.of_steps s g⟩
section
variable{P:Program}{T:Br}{w0:World}{S0 c0:Nat->Nat}{G:Gh}{Y:Nat->Φ->Prop}{l:Nat}{A:Pw}{i:List (Nat × Nat)}{g:Nat}{di:Θ}{n:Nat}{ro:Γ}
def Qx(G:Gh)(w0:World)(S0 c0:Δ)(Q:Exit->Γ->Ψ):Exit->Ϣ:=λe a w=>∃st b,Q e st b/\Jh G w0 S0 c0 st b a w
def yC(k:Ax P T)(m:P.follows .mixedOrders=true)(o:qU G){c d}(p:Cn A c=some d)(q:N6 T A c=true)(r:Kp [] c=true){Q:Exit->Γ->Ψ}{s b a w}(f:Jh G w0 S0 c0 s b a w)(h:Jt P T d (Yw Q s) b):c.wpIn (Fr ro) n P (Qx G w0 S0 c0 Q) a w:=by obtain⟨S,t,h1,u⟩:=f.open o;refine wpIn_mono (Dj (bg:=a.defers) (w0:=w) (S0:=S) (c0:=t) k m [] a.tmps ro n c d p q r _ b a w h1 (by simp[Qw]) h) λe x y hq=> ?_;obtain⟨j,hq,v,_⟩:=hq;exact⟨s,j,hq,u _ _ _ v⟩
def L0(u:Ax P T)(v:qU G){ops:Ϡ}(k:∀o∈ops.toList,∀c,o.op≠ .defer c){d:Θ}{m:List Oper}{s:List CO}(x:d.map (ops[·]?)=m.map some)(p:Dz ops m=some s){K:Ψ}{t:Γ}{q:Φ}{a:Act}{w}(r:Jh G w0 S0 c0 t q a w)(h:Fq P T K s q){R:Ϣ}(y:∀b f j,Jh G w0 S0 c0 t b f j->K b->R f j):wpOpsIn (Fr ro) n P ops (λe a w=>e=.normal/\R a w) d a w:=by obtain⟨S,B,h1,z⟩:=r.open v;rw[<-kI K _ _ p]at h;apply Ly k (λa w h=>by cases h.1) d a w;exact H0 (fr:=[]) u d m q a w x oS h1 h λb f j g1 g2 g3=>⟨rfl,y b f j (z _ _ _ g1) g2⟩
def Jh.put{st j a w}(h:Jh G w0 S0 c0 st j a w)(d){v}(k:v.oneCell'=true):Jh G w0 S0 c0 st (am j d (.raw v)) (a.put d v) w:=by
 obtain⟨e,ms,S,c,m,o,p,q,r,h1,s,t,u⟩:=h;obtain⟨x,f,y⟩:=p.am (C2 (w:=w) (S:=S) k Al) d;refine⟨e.am d v rfl,ms,S,x,m,o,f,q,r,λb=> ?_,by rw[G5];exact s,t,u.drop λb=> ?_⟩
 grind
 grind
def Oq(hG:qU G)(hY:Yv P l Y G){o:Oper}{c:Call}{f}(ho:o.op=.call c)(hc:c.callee=.value f){R:Γ}{u:Φ}{a:Act}{w:World}{K:Γ->Ψ}(v:Jh G w0 S0 c0 R u a w)(h:Zj Y l (bj u f) (bi u c.args.toList).1 (bi u c.args.toList).2 o.dst K R){next:Ϣ}{Q:Exit->Ϣ}(U:∀s x V y,K s x->Jh G w0 S0 c0 s x V y->next V y):o.wpIn (Fr none) n P a w next Q:=by
 obtain⟨hf,k,rfl,C,D,E⟩:=h;have F:=v.rb hf;obtain⟨H,W,S,cc,X,cm,hr,hg,hm,h1,I,hz,hs⟩:=v;obtain⟨c1,c2,hv,hr2,hcc⟩:=R8 c.args.toList hr;obtain⟨fn,z,assign,B,m,j⟩:=hY k _ w S _ c1 X C hv hg (λb=>by grind) hz;refine⟨λ_ _=>trivial,?_⟩;rw[Oper.semAt_none];have q:(c.args.toList.map a.eval).toArray=c.args.map a.eval:=by grind
 rw[q]at m;have r:(execOp a.eval o).run P w=.ok (.round l fn z assign B) w:=by unfold execOp;simp[ho,resolve,hc,F,Deferred.ofValue,invoke,m]
 rw[r,Oper.uponIn_round];refine⟨λI=>by simp at I,(j _).mono λe y he=> ?_⟩;obtain⟨S',J,s,t,L,hg1,M,d⟩:=he;have N:=hr2.step d (λb=>by grind);have O:Od W y cm:=hm.keep d (λb=>by grind)
 have p:Jh G w0 S0 c0 s (bi u c.args.toList).2 a y:=by
  refine⟨H.bi _,W,S',c2,J,cm,N,L,O,λb=> ?_,I,M,?_⟩;rcases cq b w.heap.size with Z|Z;have:=d.own b Z;grind
  have e1:c2 b=0:=by
   exact OZ
  exact Ahv;have:=hs.trans (d.i5 (c:=λb=>cc b+X b+cm b) (c2:=λb=>c2 b+cm b) (λb=>by grind))
  grind
 rcases t with⟨rfl,rfl⟩|⟨rfl,rfl⟩;exact U _ _ _ _ D (p.put o.dst rfl);exact U _ _ _ _ E (p.put o.dst rfl)
def S4{ops:Ϡ}{p}(h:p<ops.size):(List.range p).map (ops[·]?)=(ops.toList.take p).map some:=by exact Yb
def S5{ops:Ϡ}{p}(h:p<ops.size):(List.range' (p+1) (ops.size-(p+1))).map (ops[·]?)=(ops.toList.drop (p+1)).map some:=by exact Yb
def gC{m p}(h:p<m):List.range m=List.range p++(p::List.range' (p+1) (m-(p+1))):=by
 have h1:List.range m=List.range' 0 p++List.range' (0+p) (m-p):=by rw[List.range_eq_range',List.range'_append_1];congr 1;omega
 rw[h1,<-List.range_eq_range'];congr 1;have:m-p=(m-(p+1))+1:=om;rw[this,List.range'_succ,jp]
theorem yD(x:Ax P T)(e:qU G)(D:Yv P l Y G){E ops p y}(hcg:EN ops p=some y)(j:(ops.toList.all λo=>WH o.op)=true){Q:Exit->Γ->Ψ}{z B a w}(k:Jh G w0 S0 c0 z B a w)(h:F6 P T Y l g di y Q z B):(Code.region E ops false).wpIn (Fr none) n P (Qx G w0 S0 c0 Q) a w:=by
 unfold EN at hcg;split at hcg
 ·rename_i o F;split at hcg
  ·rename_i c hop m;split at hcg
   ·rename_i f U V b h1 H;injection hcg with hcg;subst hcg;simp only[F6]at h;have d:ops[p]? =some o:=by simpa using F
    have q:p<ops.size:=(ah.1 d).1;have C:=Lz j;refine wpIn_region ?_;rw[gC q];refine Ex _ _ _ _ ?_;refine L0 x e C (S4 q) h1 k h λI J W r K=> ?_;have L:wanted o (yielded ops J.tmps)=true:=by simp [wanted,m]
    simp only[wpOpsIn,d,L,if_true];refine Oq e D hop b r K λs M N O S t=> ?_;have:=L0 (ro:=none) (n:=n) x e C (S5 q) H t S (R:=Qx G w0 S0 c0 Q .normal) λu X Z v hq=>⟨s,u,hq,v⟩;have h3:=Ex (ro:=none) (n:=n) (P:=P) (ops:=ops) (Q:=Qx G w0 S0 c0 Q) [] _ N O this
    grind
   ·cases hcg
  ·cases hcg
 ·cases hcg
def qW{ops:Ϡ}{p q:Nat}(h:p<q)(hq:q<ops.size):(List.range' (p+1) (q-(p+1))).map (ops[·]?)=((ops.toList.drop (p+1)).take (q-(p+1))).map some:=by exact Yb
def yE{m p q}(h:p<q)(hq:q<m):List.range m=List.range p++(p::(List.range' (p+1) (q-(p+1))++(q::List.range' (q+1) (m-(q+1))))):=by
 rw[gC (show p<m by omega)];have h1:List.range' (p+1) (m-(p+1))=List.range' (p+1) (q-(p+1))++List.range' (p+1+(q-(p+1))) (m-q):=by rw[List.range'_append_1];congr 1;omega
 have a:p+1+(q-(p+1))=q:=om;have b:m-q=(m-(q+1))+1:=om;rw[h1,a,b,List.range'_succ]
def qX(M:Ax P T)(u:qU G)(hY:Yv P l Y G){id:Nat}{ops:Ϡ}{p q:Nat}{cg:CG}(hcg:lC ops p q=some cg)(N:(ops.toList.all λo=>WH o.op)=true){Q:Exit->Γ->Ψ}{st:Γ}{σ:Φ}{a:Act}{w}(O:Jh G w0 S0 c0 st σ a w)(h:F6 P T Y l g di cg Q st σ):(Code.region id ops false).wpIn (Fr none) n P (Qx G w0 S0 c0 Q) a w:=by
 unfold lC at hcg;split at hcg
 .rename_i o U ho ho2;split at hcg
  .rename_i c c' j k hop V H I;split at hcg
   .rename_i f f' t l1 l2 l3 J x W h1 h2 h3;by_cases d:p<q
    case neg=>rw[ar d]at hcg;cases hcg
    rw[bn d]at hcg;injection hcg with hcg;subst hcg;simp only[F6]at h;have X:ops[p]? =some o:=by simpa using ho
    have m:ops[q]? =some U:=by grind
    have hq:q<ops.size:=(ah.1 m).1;have hp:p<ops.size:=om;have Z:=Lz N;apply wpIn_region;rw[yE d hq];apply Ex _ _ _ _;refine L0 M u Z (S4 hp) h1 O h λσ1 a1 w1 hs1 hy=> ?_;have hw:wanted o (yielded ops a1.tmps)=true:=by simp[wanted,V]
    simp only[wpOpsIn,X,hw,if_true];refine Oq u hY hop J hs1 hy λst' σ' a' w' hK hs'=> ?_;apply Ex _ _ _ _;refine L0 M u Z (qW d hq) h2 hs' hK λσ2 a2 w2 y r=> ?_
    have K:∀s b E F,Fq P T (Q .normal s) l3 b->Jh G w0 S0 c0 s b E F->wpOpsIn (Fr none) n P ops (Qx G w0 S0 c0 Q) (List.range' (q+1) (ops.size-(q+1))) E F:=λs b E F hc3 z=>by
     have:=L0 (ro:=none) (n:=n) M u Z (S5 hq) h3 z hc3 (R:=Qx G w0 S0 c0 Q .normal) λC_ a4 w4 hs4 hq4=>⟨s,C_,hq4,hs4⟩;have h4:=Ex (ro:=none) (n:=n) (P:=P) (ops:=ops) (Q:=Qx G w0 S0 c0 Q) [] _ E F this
     grind
    unfold pR pN at r;split at r
    .rename_i e he
     have hyl:yielded ops a2.tmps j=some e:=by
      obtain⟨S,cc,B,_⟩:=y.open u;obtain⟨_,S,c4,hr,_⟩:=B;obtain⟨v,c1,c2,hv,hy,h5,hc⟩:=hr.take t (A8 hr he oS);have e1:v=.bool e:=by cases hy with|raw h1 h=>rfl
      unfold yielded;unfold Oa at W
      grind
     have C:wanted U (yielded ops a2.tmps)=(e==k):=by simp[wanted,I,hyl]
     simp only[wpOpsIn,m,C]
     cases L:(e==k)with
     |true=>rw[L]at r;simp only[cond_true]at r;simp only[if_true];exact Oq u hY H x y r λs b E F hK3 z=>K s b E F hK3 z
     |false=>rw[L]at r;simp only[cond_false]at r;simp only[f0,if_false];refine⟨λ_ _=>trivial,?_⟩;obtain⟨S,cc,B,D⟩:=y.open u;exact K _ _ _ _ r (D _ _ _ (Lp B U.dst))
    grind
   .cases hcg
  .cases hcg
 .cases hcg
end
end
end Go.Proofs.YtobhohikfmlccaaGreatDoor
