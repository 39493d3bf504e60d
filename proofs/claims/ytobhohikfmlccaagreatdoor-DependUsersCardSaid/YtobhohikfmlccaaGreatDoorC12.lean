/- Filters stay within bounds. -/
import Derived.Maps.RangeRun
import Derived.Test.YtobhohikfmlccaaGreatDoorC11
set_option linter.all false
set_option maxRecDepth 100000
set_option maxHeartbeats 4000000
open Go.RowKit Go.Proofs Tryz Go.Lib Go.IntKind
open Go.ChangeMaps (setBlock)
namespace Go.Proofs.YtobhohikfmlccaaGreatDoor
def od(c:UInt8):Bool:=decide (((c.toNat:Nat):Int)=38)||decide (((c.toNat:Nat):Int)=60)||decide (((c.toNat:Nat):Int)=62)||decide (((c.toNat:Nat):Int)=34)
def Tt(s:Ab):Nat:=s.countP od
def AaC(s):Tt s<=s.length:=List.countP_le_length
def FF{a b}(h:a.Sublist b):Tt a<=Tt b:=h.countP_le
def AeT(a b):Tt (a++b)=Tt a+Tt b:=List.countP_append
def AeU(c):(N1 c).length<=1+5*(if od c=true then 1 else 0)/\Tt (N1 c)<=(if od c=true then 1 else 0):=by unfold N1;split;exact BX;split;exact BX;split;exact BX;split;exact BX;refine⟨oS,?_⟩;unfold Tt;rw[List.countP_singleton];exact Ev
def FG:∀s:Ab,(N2 s).length<=s.length+5*Tt s/\Tt (N2 s)<=Tt s
 |[]=>by simp[N2,Tt]
 |c::s=>by
  obtain⟨h1,h⟩:=FG s;obtain⟨a,b⟩:=AeU c;have e:N2 (c::s)=N1 c++N2 s:=by simp[N2]
  have e2:Tt (c::s)=Tt s+(if od c=true then 1 else 0):=by unfold Tt;rw[List.countP_cons]
  rw[e,AeT,dc,dg,e2];omega
def gU(s c):(trimRightB s c).Sublist s:=by unfold trimRightB;have:=(List.dropWhile_sublist (l:=s.reverse) (·==c)).reverse;exact Qs
def O9(s c):(trimB s c).Sublist s:=by unfold trimB trimLeftB;exact(List.dropWhile_sublist _).trans (gU s c)
def gV:∀(s b:Ab),b.length<=20->b.length<20\/s=[]->(Q5 s b).length<=20
 |[],b,h,_=>by unfold Q5;exact h
 |c::s,b,h,h2=>by
  have a:=gT b c;have d:b.length<20:=h2.resolve_right oS;unfold Q5;split;omega;exact gV s _ om (.inl om)
structure D1 (vo:Int->Int->Ab->Ab) (wj:Ab->Ξ):Prop where
 ln:∀a b s,(vo a b s).length=s.length
 sp:∀a b s,(a=97/\b=122\/a=65/\b=90)->Tt (vo a b s)<=Tt s
 sl:∀s,((wj s).getD 0 []).length<=s.length/\Tt ((wj s).getD 0 [])<=Tt s
def LE{c:Int->Int->Ab->Ab}{d:Ab->Ξ}(X:D1 c d){n s y M k}(g:40<=M)(e:M<=1000000)(f:k<=100000)(h1:Tt s<=M)(i:s.length<=M+5*(M*k))(h:Fh c d n s=some y):Tt y<=M/\y.length<=M+5*(M*k)+5*M:=by
 have a:∀z:Ab,z.length<=40->Tt z<=M/\z.length<=M+5*(M*k)+5*M:=λz j=>by have:=AaC z;exact⟨om,om⟩
 have b:∀z:Ab,z.length<=s.length->Tt z<=Tt s->Tt z<=M/\z.length<=M+5*(M*k)+5*M:=λz g1 g2=>⟨om,om⟩;unfold Fh at h;repeat' split at h
 injection h with h;subst h;exact b _ (by rw[X.ln];exact bx _) (X.sp _ _ _ (.inl ⟨rfl,rfl⟩));injection h with h;subst h;exact b _ (by rw[X.ln];exact bx _) (X.sp _ _ _ (.inr ⟨rfl,rfl⟩));injection h with h;subst h;exact b _ (O9 s 32).length_le (FF (O9 s 32));injection h with h;subst h;exact b _ (X.sl s).1 (X.sl s).2;injection h with h;subst h;unfold Lg;split;exact b _ (bx _) (bx _);apply a _;have:=Aa1 s 37 (bx _);simp only[dc,fw,dg,eh];omega;injection h with h;subst h;refine a _ (cp (gU _ 45).length_le ?_);have:=gV (c 65 90 s) [] oS (.inl oS);omega;injection h with h;subst h;obtain⟨e1,e2⟩:=FG s;exact⟨om,om⟩;injection h with h;subst h;apply a _;have l:M*k<=1000000*100000:=Nat.mul_le_mul e f;have:=itoa_length_le ((s.length:Nat):Int) om om;omega
 .cases h
def sW{c:Int->Int->Ab->Ab}{s:Ab->Ξ}(X:D1 c s){M}(e:40<=M)(b:M<=1000000):∀(a:Ξ) (k:Nat) (x y:Ab),k+a.length<=100000->Tt x<=M->x.length<=M+5*(M*k)->En (Fh c s) a x=some y->y.length<=M+5*(M*(k+a.length))
 |[],k,x,y,hk,h1,h2,h=>by unfold En at h;injection h with h;subst h;simpa using h2
 |f::a,k,x,y,hk,h1,h2,h=>by
  simp only[dg]at hk;unfold En at h
  cases d:Fh c s f x with
  |none=>rw[d]at h;cases h
  |some z=>rw[d]at h;obtain⟨g1,g2⟩:=LE X e b om h1 h2 d;have g:M*(k+1)=M*k+M:=Nat.mul_succ M k;have:=sW X e b a (k+1) z y om g1 (by rw[g];omega) h;rw[dg,show k+(a.length+1)=k+1+a.length by omega];exact this
theorem AeV{c:Int->Int->Ab->Ab}{a:Ab->Ξ}(X:AiI c a)(Y:D1 c a):Rq (Fh c a) where
 call:=λn s _ b=>LD X n s b
 chain:=λf x h1 d y h=>by have:=sW Y (M:=1000000) om om f 0 x y om (cp (AaC x) d) om h;omega
section
variable{b:Ϙ}
def HB(fz:Θ):Γ->Θ
 |some d=>bif fz.contains d then[d]else[]
 |none=>[]
def wh(fz:Θ)(d:Γ)(K:Ω)(a c:Φ):Prop:=vY (HB fz d) (K a) c
def fa(P:Program)(T:Br)(H:Hw)(o:Op->Φ->Option Value)(fz:Θ)(K:Ω)(E:Value->Ω):List CO->Ω
 |[],γ,σ=>K γ σ
 |⟨d,op,none⟩::l,γ,σ=>(match o op σ with
  |some v=>fa P T H o fz K E l γ (am σ d (.raw v))
  |none=>hop P T H d op γ σ (wh fz d (fa P T H o fz K E l)) E)
 |_::_,_,_=>False
def wg(P:Program)(d:Op->Φ->Option Value):Prop:=
 ∀{b:Ϙ} {e w:World} {s f:Δ} {g c:Φ} {a:Act} {o:Oper} {v:Value},Ah b e s f g c a w->d o.op c=some v->v.oneCell'=true/\(execOp a.eval o).run P w=.ok (.value v) w
def Iu{P T H}{f:Op->Φ->Option Value}{fz d s e}{Q:Exit->Ϣ}(hT:Ax P T)(hH:C1 P H)(hO:wg P f){ops K}{E:Value->Ω}:
 ∀(l:Θ) (os:List Oper) (c:List CO) (γ σ:Φ) (a:Act) (w:World),l.map (ops[·]?)=os.map some->Dz ops os=some c->Ah b d s e γ σ a w->fa P T H f fz K E c γ σ->
  (∀γ σ a' w',Ah b d s e γ σ a' w'->K γ σ->Q .normal a' w')->(∀v γ σ a' w',E v γ σ->Ah b d s e γ σ a' w'->Q (.panic [{v:=v,recovered:=false}]) a' w')->wpOps P ops Q l a w
 |[],os,c,γ,σ,a,w,hl,hcs,hst,h,hQ,hE=>by exact yb
 |i::l,[],c,γ,σ,a,w,hl,hcs,hst,h,hQ,hE=>by simp at hl
 |i::l,o::os,c,γ,σ,a,w,hl,hcs,hst,h,hQ,hE=>by
  simp only[ev,b5]at hl;obtain⟨j,hl⟩:=hl;simp only[Dz]at hcs;split at hcs;rename_i g r hg hr;injection hcs with hcs;subst hcs;have rest:∀γ σ a w,Ah b d s e γ σ a w->fa P T H f fz K E r γ σ->wpOps P ops Q l a w:=λγ σ a w hst h=>Iu hT hH hO l os r γ σ a w hl hr hst h hQ hE;simp only[wpOps,j];exact Ϝ
  .cases hcs
def Tu{P T H}{i:Op->Φ->Option Value}{d e}(j:Ax P T)(k:C1 P H)(l:wg P i)(fz){m o f}{Q:Exit->Ω}(g:Dz o o.toList=some f)(h:fa P T H i fz (Q .normal) (ly Q) f d e):Cp P T H (.ext (.region m o false)) Q d e:=λb s S t a w c=>by exact wp_region (Iu j k l (List.range o.size) o.toList f d e a w CJ g c h (λd e n p c q=>⟨d,e,q,c⟩) (λv d e n p r c=>⟨d,e,r,c⟩))
end
section
variable{P:Program}{T:Br}{H:Hw}{b:Op->Φ->Option Value}{fz:Θ}{K:Φ->Φ->Prop}{E:Value->Φ->Φ->Prop}{c a:Φ}{d:Γ}
def B_(o:Op)(l:List CO)(P:Program)(T:Br)(H:Hw)(b:Op->Φ->Option Value)(fz:Θ)(K:Ω)(E:Value->Ω)(d:Γ)(c a:Φ):Option Value->Prop
 |some v=>fa P T H b fz K E l c (am a d (.raw v))
 |none=>hop P T H d o c a (wh fz d (fa P T H b fz K E l)) E
theorem LF:fa P T H b fz K E [] c a=K c a:=rfl
def zW(o l):fa P T H b fz K E (⟨d,o,none⟩::l) c a=B_ o l P T H b fz K E d c a (b o a):=by
 show(match b o a with
  |some v=>fa P T H b fz K E l c (am a d (.raw v))
  |none=>hop P T H d o c a (wh fz d (fa P T H b fz K E l)) E)=_
 cases b o a<;>rfl
theorem zX(o l v):B_ o l P T H b fz K E d c a (some v)=fa P T H b fz K E l c (am a d (.raw v)):=rfl
theorem zY(o l):B_ o l P T H b fz K E d c a none=hop P T H d o c a (wh fz d (fa P T H b fz K E l)) E:=rfl
theorem AeW(k):wh fz d k c a=vY (HB fz d) (k c) a:=rfl
theorem AaG(d):HB fz (some d)=bif fz.contains d then[d]else[]:=rfl
theorem AaH:HB fz none=[]:=rfl
theorem AaI(k):vY [] k a=k a:=rfl
attribute [go_sem] AeW AaG AaH AaI LF zW zX zY
end
def p6:Op->Φ->Option Value:=λ_ _=>none
def Rr(P):wg P p6:=λ_ h=>by cases h
theorem Alk(o a):p6 o a=none:=rfl
attribute [go_sem] Alk /-! ## the table -/
def pY:AV->Option Value
 |.raw (.int k i)=>if 0<=i/\i<16 then some (.pointer (some ⟨0,i.toNat,none⟩))else none
 |_=>none
def uY:AV->Option Value
 |.raw (.pointer (some ⟨0,j,none⟩))=>if j<16 then some (.int .u32 (yN.getD j 0))else none
 |_=>none
def HE:AV->Option Value
 |.raw (.int .u32 r)=>some (.int .u32 (gp .u32 4294967295 r))
 |_=>none
def Oe:Op->Φ->Option Value
 |.indexAddr 128 (.global 0) (.tmp q),σ=>pY (σ.getD q .any)
 |.load 126 (.tmp q),σ=>uY (σ.getD q .any)
 |.unOp .xor 126 (.tmp q),σ=>HE (σ.getD q .any)
 |_,_=>none
def zZ:wg prog Oe:=λ{n A w B C D E a o v} b h=>by
 unfold Oe at h;split at h
 .rename_i q d;unfold pY at h;split at h
  .rename_i k i e;split at h
   rename_i p;injection h with h;subst h;have e1:=b.raw e;refine⟨rfl,?_⟩;have f:prog.underlying 128=some (.array (prog.arrayLen 128) (prog.elem 128)):=by kernel_rfl
   have s:prog.arrayLen 128=16:=by kernel_rfl
   have l:(sizeOf (prog.elem 128)).run prog w=.ok 1 w:=by
    have m:prog.elem 128=126:=by kernel_rfl
    rw[m];exact Tryz.sizeOf126 w
   have t:a.eval (.global 0)=.pointer (some ⟨0,0,none⟩):=rfl;unfold execOp;simp only[d,e1,t,ft,run_indexAt_array (h:=f),s,l,gq,ia];rw[bn (by simpa using p)];simp[Addr.add,l];intro h;omega
   .cases h
  .cases h
 .rename_i q d;unfold uY at h;split at h
  .rename_i j e;split at h
   rename_i u;injection h with h;subst h;have e1:=b.raw e;refine⟨rfl,?_⟩;obtain⟨S,c,c1,F,x,G,H,h1,I,y,l⟩:=b;have z:w.cell? ⟨0,j,none⟩=some (.int .u32 (yN.getD j 0)):=by have:=(y.g _ (AnW _ (qr _ (dm.2 ⟨(yN.getD j 0,j),by rw[su];show yN[j]? =some (yN.getD j 0);rw[fk,ac (show j<yN.length from u)];rfl,rfl⟩)))).2;exact this
   have f:prog.underlying 126=some (.int .u32):=by kernel_rfl
   unfold execOp;simp only[d,e1,Instr.loadAt,Instr.sureAddr,ft,ia,gq];simp[loadVar,fp f,z]
   .cases h
  .cases h
 .rename_i q d;unfold HE at h;split at h
  .rename_i r e;injection h with h;subst h;have e1:=b.raw e;refine⟨rfl,?_⟩;unfold execOp;simp only[d,e1];simp[Op.unary,Op.intBits,gp];try rfl
  .cases h
 .cases h
theorem AeY(q a):Oe (.indexAddr 128 (.global 0) (.tmp q)) a=pY (a.getD q .any):=rfl
theorem AaJ(q a):Oe (.load 126 (.tmp q)) a=uY (a.getD q .any):=rfl
theorem AeZ(q a):Oe (.unOp .xor 126 (.tmp q)) a=HE (a.getD q .any):=rfl
theorem Afa(r):HE (.raw (.int .u32 r))=some (.int .u32 (gp .u32 4294967295 r)):=rfl
theorem AaK(a b x c):Oe (.convert a b x) c=none:=rfl
theorem AaL(x a):Oe (.move x) a=none:=rfl
theorem AA(x a):Oe (.assign x) a=none:=rfl
theorem Afb(b t a x y c):Oe (.binOp b t x y a) c=none:=rfl
def Afc(k i)(h:0<=i)(h1:i<16):pY (.raw (.int k i))=some (.pointer (some ⟨0,i.toNat,none⟩)):=by show(if 0<=i/\i<16 then _ else _)=_;rw[bn ⟨h,h1⟩]
def Afd(j)(h:j<16):uY (.raw (.pointer (some ⟨0,j,none⟩)))=some (.int .u32 (yN.getD j 0)):=by show(if j<16 then _ else _)=_;rw[bn h]
def sX(a b):0<=gp .u32 a b/\gp .u32 a b<4294967296:=by unfold gp;rw[IntKind.wrap_u32];omega
def FH(R:Int)(h:0<=R):pY (.raw (.int .u32 (R.tmod 16)))=some (.pointer (some ⟨0,(R.tmod 16).toNat,none⟩)):=
 Afc _ _ (by rw[oa h];omega) (by rw[oa h];omega)
def FI(R:Int)(h:0<=R):uY (.raw (.pointer (some ⟨0,(R.tmod 16).toNat,none⟩)))=some (.int .u32 (yN.getD (R.tmod 16).toNat 0)):=
 Afd _ (by rw[oa h];omega)
attribute [go_sem] AeZ Afa AaK AeY AaJ AaL AA Afb
def fG(r:Int):Int:=gp .u32 (qz .u32 r 4) (yN.getD (r.tmod 16).toNat 0)
def oc(r:Int)(c:UInt8):Int:=fG (fG (gp .u32 r (u32.wrap ((c.toNat:Nat):Int))))
def AB(s:Ab):Int:=s.foldl oc 4294967295
def Qq(s:Ab):Int:=i64.wrap (gp .u32 4294967295 (AB s))
def AiJ(s:Ab)(g:s.length<=1000000):QA 26 [str s] (λr=>r=num (Qq s)):=by
 refine ai (Zt [] [6,7,8] [] func26 ?_) ⟨_,rfl⟩;refine Ad (rl [5,29]) [3,4] (λm x d=>d=[]/\∃i:Nat,i+m=s.length/\x=[.raw (.int .u32 (AB (s.take i))),num i]) ⟨s.length,_,_,⟨rfl,0,om,rfl⟩,hent (aa _) ?_⟩ ?_;simp only[PU,gx,AB,oq];exact Zw
 .rintro m x d ⟨rfl,i,j,rfl⟩;simp only[PU];by_cases h:i<s.length;rotate_left
  have f:=bd (show¬((i:Int)<(s.length:Int)) by omega);rw[Are om];refine Zu ?_;refine Tu b3 Dc zZ [] sL ?_;exact Ze;have f:=bc (show((i:Int)<(s.length:Int)) by omega);have k:=wS i
  have a:AB (s.take (i+1))=oc (AB (s.take i)) (s.getD i 0):=by
   have b:s.getD i 0=s[i]:=by simp[fk,h]
   unfold AB;rw[nk h,mw,b];rfl
  generalize AB (s.take i)=r at *;refine Zu ?_;refine Tu b3 Dc zZ [] sL ?_;obtain⟨e,l⟩:=sX r (u32.wrap ((s.getD i 0).toNat:Int));unfold oc at a;generalize gp u32 r (u32.wrap ((s.getD i 0).toNat:Int))=r1 at *;have f1:=FH r1 e;have f2:=FI r1 e;refine Zu ?_;refine Tu b3 Dc zZ [] sL ?_;obtain⟨y,n⟩:0<=fG r1/\fG r1<4294967296:=sX _ _;have c:gp .u32 (qz .u32 r1 4) (yN.getD (r1.tmod 16).toNat 0)=fG r1:=rfl;rw[c];generalize fG r1=r2 at *;have f3:=FH r2 y;have f4:=FI r2 y;refine Zu ?_;refine Am (m-1) _ _ om ⟨rfl,i+1,om,rfl⟩ (hent (aa _) ?_);rw[a];unfold fG;exact Zw
section
variable{P:Program}{T:Br}{H:Hw}
def Alo(hT:Ax P T)(hH:C1 P H)(W:P.follows .mixedOrders=true){f y p g X}{K:AV->List AV->Prop}{F:Value->List AV->Prop}(Y:P.funcs[f]? =some y)(Z:y.body=some p)(hn:(y.name== "runtime.NumGoroutine")=false)(O:g.all pb=true){N}(Q:y.ntmps=N){D}(R:y.results.toList=D)(h:Cp P T H (.ext p) (hfin T D K F) X (g++List.replicate (N-g.length) .any)):HC P f g X K F:=by
 refine⟨⟨y,p,Y,Z,hn⟩,λw S vs gv c c1 hz hr hg hc=> ?_⟩;have hl:=hr.length;refine calls_of_wp Y Z (wp_mono (h [] w S (λb=>c b+c1 b) _ w ?_) λe a q hq=> ?_);refine ⟨S,c,c1,gv,?_,?_,hg,hc,rfl,hz,bt w S _⟩
 have z:∀{i:Nat} {x:AV},(g++List.replicate (N-g.length) .any)[i]? =some x->pb x=true:=by
  intro i x A;rcases ff.1 (cu A)with h|h;exact ib.1 O _ h;rw [vu h];rfl
 exact⟨λi s off T cs A E=>by have:=z A;simp [pb]at this,λi s e k es A E=>by have:=z A;simp [pb]at this,λi s k j o e k' es A E=>by have:=z A;simp [pb]at this⟩
 have U:∀n,Ac w S (List.replicate n .any) (List.replicate n undef) (λ_=>0):=by
  exact Ail
 have:=du hr (U (N-g.length)) (c:=c) (λb=>oS);simpa[Q,hl]using this
 ·obtain ⟨l,σ,hq,t,B,d,m,mt,V,G,h1,hd,I,E⟩:=hq
  have J:Jc T D σ (λvs=>K (Xa vs) l)->a.defers=[]/\∃v,(results y a.tmps).run P q=.ok v q/\
   ((∃v' r l t B d m,Ending.returned v=.returned v'/\K r l/\pb r=true/\Ac q t [r] [v'] B/\Ac q t l m d/\(∀b,B b+d b<=1)/\Sz q t/\Stp w S (λb=>c b+c1 b) q t (λb=>B b+d b))\/
   (∃v' l t d m,Ending.returned v=.panicked [{v:=v',recovered:=false}]/\F v' l/\Ac q t l m d/\(∀b,d b<=1)/\Sz q t/\Stp w S (λb=>c b+c1 b) q t d)):=by
   intro hq;obtain⟨mi,us,cv,L,hK,hv,M,yy,C⟩:=Gr hT D σ B _ V hq
   have W:(y.results.mapM (J5 a.tmps)).run P q=.ok us.toArray q:=by
    have he:y.results=D.toArray:=by apply Array.ext';simp [R]
    rw[he,List.mapM_toArray];simp [L]
   refine⟨hd,(if h:us.toArray.size=1 then us.toArray[0]else .tuple us.toArray),?_,.inl ⟨_,_,l,t,cv,d,m,rfl,hK,?_,?_,G,λb=>by have:=h1 b;have:=M b;omega,I,E.drop λb=>by have:=M b;show cv b+d b<=B b+d b;omega⟩⟩;rw [H1];simp only[ft,W,gq,ia]
   match mi,C with
   |[],_=>rfl
   |[v],C=>exact C v oS
   |v::v'::mi,_=>rfl
   exact OD
  cases e with
  |normal=>exact J hq
  |ret=>exact J hq
  |panic chain=>
   unfold hfin at hq;split at hq
   ·rename_i h;cases h
   ·rename_i h;cases h
   rename_i v h;injection h with h;subst h;exact⟨hd,.inr ⟨v,_,t,d,m,rfl,hq,G,λb=>by have:=h1 b;omega,I,E.drop λb=>by show d b<=B b+d b;omega⟩⟩;exact hq.elim
  |_=>exact hq.elim
def lZ{x y}{Q:Exit->Ω}{i j}(h:Cp P T H (.ext x) (Lw (Cp P T H (.ext y) Q) Q) i j):Cp P T H (.ext (.seq x y)) Q i j:=λd k s l a w c=>by
 refine wp_seq (wp_mono (h d k s l a w c) λe a w hq=> ?_);obtain⟨f,g,hq,b⟩:=hq
 cases e with
 |normal=>exact hq _ _ _ _ _ _ b
 |_=>exact⟨f,g,hq,b⟩
def mA(g:Ax P T)(i:C1 P H)(j:P.follows .mixedOrders=true)(A E O){c d}{Q:Exit->Ω}{b e}(k:Di A E O c=some d)(l:Jg T A E O c=true)(h:Cp P T H d Q b e):Cp P T H (.ext c) Q b e:=
 λm n s o a w f=>Ce g i j c d k l Q b e a w f h
end
section
variable{d:Ϙ}{P:Program}{T:Br}{H:Hw}
def HI(d:Ϙ)(f:World)(h i:Δ)(m r:Nat)(j:Array MapEntry)(e:Nat)(s:Array Nat)(g:Φ)(a:Act)(w:World):Prop:=
 ∃S c,bm g a.tmps.toList/\Ac w S g a.tmps.toList c/\(∀b,c b<=1)/\a.defers=d/\Sz w S/\Stp f h i w S c/\(c m=0/\S m=0)/\(c r=0/\S r=0)/\m<w.heap.size/\r<w.heap.size/\f.heap.size<=r/\m≠r/\
  w.heap[m]? =some (.map j e)/\w.heap[r]? =some (.mapIter (some m) e s e)
def HI.run{p w q t m r i u s j a c}{Q:Exit->Ω}(h:HI d p q t m r u i s j a w)(x:Cp P T H (.ext c) Q [] j):
 c.wp P (λe v w'=>∃f g,Q e f g/\(f=[]->HI d p q t m r u i s g v w')) a w:=by
 obtain⟨S,k,l,y,h1,z,A,hs,⟨hm1,hm2⟩,⟨hr1,hr2⟩,hml,hrl,hrw,hne,hhm,P_⟩:=h;have n:Ah d w S k [] j a w:=⟨S,k,λ_=>0,[],l,y,.nil Al,λb=>by simpa using h1 b,z,A,by simpa using bt w S k⟩;refine wp_mono (x d w S k a w n) λe v w' ⟨f,g,hq,S',c',c1',B,mt,hr',hg',h1',hd',hz',hs'⟩=>⟨f,g,hq,λo=> ?_⟩;subst o;exact ϲ
def HI.stop{j w u i m r f g s v a y z}(h:HI d j u i m r g f s v a w)(l:m<j.heap.size->1<=i m)(n:g.toList.map (·.key)=y)(hbn:(g.toList.map (·.born)).Pairwise (·< ·)/\∀e∈g.toList,e.born<f)(o:∀(w:World) (S:Δ),Ac w S z (g.toList.map (·.val)) (λ_=>0)):Ah d j u i [.bw m y z] v a w:=by obtain⟨S,k,p,B,h1,C,D,c,⟨E,q⟩,⟨F,G⟩,I,J,hrw,K,t,L⟩:=h;refine⟨S,k,λb=>if b=m then 1 else 0,[undef],p,B,.bw t q n hbn (o w S) (.nil Al) (λx=>oS),λb=> ?_,C,D,⟨c.os,c.tape,c.output,c.size,c.keep,c.cell,c.le,λb A=> ?_⟩⟩;have:=h1 b;show k b+(if b=m then 1 else 0)<=1;split;rename_i e;subst e;omega;omega;show k b+(if b=m then 1 else 0)<=i b;split;rename_i e;subst e;have:=l A;omega;have:=c.own b A;omega
end
section
variable{c:Ϙ}{P:Program}
def mB{w a S r k ub}(i:a=w\/a=w.drew)(p:w.heap[r]? =some k)(l:S r=0):Stp w S (λb=>if b=r then 1 else 0) (setBlock a r ub) S (λb=>if b=r then 1 else 0):=by
 have j:a.heap=w.heap:=by rcases i with rfl|rfl<;>rfl
 have d:a.os=w.os/\a.tape=w.tape/\a.output=w.output/\w.drawn<=a.drawn:=by
  rcases i with rfl|rfl;exact⟨rfl,rfl,rfl,bx _⟩;exact⟨rfl,rfl,rfl,Nat.le_succ _⟩
 have f:∀b,b≠r->(setBlock a r ub).heap[b]? =w.heap[b]? :=λb f=>by show(a.heap.setIfInBounds r ub)[b]? =_;rw[j,Array.getElem?_setIfInBounds_ne om]
 refine⟨d.1,d.2.1,⟨d.2.2.1,λ_=>d.2.2.2⟩,by show _<=(a.heap.setIfInBounds r ub).size;rw[j];simp,λb m n=> ?_,λb o h=> ?_,λ_=>bx _,λ_ _=>bx _⟩;refine⟨f b λe=> ?_,rfl⟩;simp only[e,if_true]at n;omega;have g:b≠r:=λe=>by rw[e,l]at h;omega
 unfold World.cell?;simp only[f b g]
def HI.next{F w:World}{G H:Δ}{m r d K:Nat}{l:Array MapEntry}{s:Array Nat}{C:Φ}{a:Act}{o:Oper}{Q:Exit->Ϣ}(ho:o.op=.next (.tmp K) false)(L:C.getD K .any=.raw (.pointer (some ⟨r,0,none⟩)))(h:HI c F G H m r l d s C a w)(D:∀e∈l.toList,e.born<d):
 o.wp P a w (λX w'=>((leftOf l s).size=0/\HI c F G H m r l d s (am C o.dst (.a6 [.raw (.bool false)])) X w')\/∃e∈(leftOf l s).toList,HI c F G H m r l d (s.push e.born) (am C o.dst (.a6 [.raw (.bool true),.any,.any])) X w') Q:=by
 obtain⟨S,k,n,M,h1,N,I,f,⟨Z,E⟩,⟨hr1,p⟩,q,t,hrw,x,z,A⟩:=h;have he:a.eval (.tmp K)=.pointer (some ⟨r,0,none⟩):=by have O:Ah c w S k [] C a w:=⟨S,k,λ_=>0,[],n,M,.nil Al,λb=>by simpa using h1 b,N,I,by simpa using bt w S k⟩;exact O.raw L
 rcases run_next_at (P:=P) w o.type r m d d s l d A z D (bx _)with⟨R,hrun⟩|⟨e,hel,w1,hal,hrun⟩;obtain⟨J,T,g⟩:=M.am (y:=.a6 [.raw (.bool false)]) (u:=.tuple #[.bool false]) (fh (c1:=λ_=>0) (.raw rfl (.nil Al)) (.nil Al) (λb=>rfl)) o.dst;refine Au (w':=w) (v:=.tuple #[.bool false]) ?_ (.inl ⟨R,S,J,n.am _ _ rfl,T,λb=>by have:=h1 b;have:=g b;omega,by rw[G5];exact N,I,f.drop λb=>by have:=g b;omega,⟨by have:=g m;omega,E⟩,⟨by have:=g r;omega,p⟩,q,t,hrw,x,z,A⟩);exact Aif;have i:=mB (w:=w) (S:=S) (ub:=.mapIter (some m) d (s.push e.born) d) hal A p;have U:=M.step i (λb=>by have:=h1 b;show k b+(if b=r then 1 else 0)<=1;split<;>first|(rename_i e;subst e;omega)|omega);obtain⟨J,T,g⟩:=U.am (y:=.a6 [.raw (.bool true),.any,.any]) (u:=.tuple #[.bool true,e.key,e.val]) (fh (c1:=λ_=>0) (.raw rfl (.any (.any (.nil Al)))) (.nil Al) (λb=>rfl)) o.dst;have Y:w1.heap=w.heap:=by rcases hal with rfl|rfl<;>rfl
 have j:(setBlock w1 r (.mapIter (some m) d (s.push e.born) d)).heap.size=w.heap.size:=by show(w1.heap.setIfInBounds _ _).size=_;rw[Y];simp
 have V:Sz (setBlock w1 r (.mapIter (some m) d (s.push e.born) d)) S:=I.nn i λb B=>I b (by rw[j]at B;exact B)
 have W:Stp F G H (setBlock w1 r (.mapIter (some m) d (s.push e.born) d)) S J:=by
  refine⟨i.os.trans f.os,i.tape.trans f.tape,⟨i.output.1.trans f.output.1,λe=>cp (f.output.2 e) (i.output.2 e)⟩,by rw[j];exact f.size,λb B R=> ?_,λb o h=> ?_,f.le,λb B=> ?_⟩;obtain⟨g1,g2⟩:=f.keep b B R;obtain⟨g3,_⟩:=i.keep b (og B f.size) (by rw[ar];omega);exact⟨g3.trans g1,g2⟩;rw[i.cell b o (og h (f.le b)),f.cell b o h];have:=g b;have:=f.own b B;omega
 refine Au (w':=setBlock w1 r (.mapIter (some m) d (s.push e.born) d)) (v:=.tuple #[.bool true,e.key,e.val]) ?_ (.inr ⟨e,hel,S,J,n.am _ _ rfl,T,λb=>by have:=h1 b;have:=g b;omega,by rw[G5];exact N,V,W,⟨by have:=g m;omega,E⟩,⟨by have:=g r;omega,p⟩,by rw[j];exact q,by rw[j];exact t,hrw,x,?_,?_⟩);exact Aif;rw[(i.keep m q (by rw[ar x])).1];exact z;show(w1.heap.setIfInBounds r _)[r]? =_;rw[Y];simp[t]
end
section
variable{f:Ϙ}{P:Program}
def HI.entry {D w:World} {E F:Δ} {m r c p:Nat} {d:Array MapEntry} {s:Array Nat} {e:MapEntry} {n:Φ} {a:Act} {o:Oper} {Q:Exit->Ϣ} (ho:o.op=.entry (.tmp p)) (q:n.getD p .any=.raw (.pointer (some ⟨r,0,none⟩))) (h:HI f D E F m r d c (s.push e.born) n a w)
 (J:e∈d.toList) (K:(d.toList.map (·.born)).Nodup) (h1:e.key.oneCell'=true) (L:e.val.oneCell'=true):
 o.wp P a w (λM w'=>HI f D E F m r d c (s.push e.born) (am n o.dst (.a6 [.raw e.key,.raw e.val])) M w') Q:=by
 obtain⟨S,k,g,G,i,H,I,N,⟨O,t⟩,⟨R,x⟩,z,A,hrw,B,j,l⟩:=h;have hev:a.eval (.tmp p)=.pointer (some ⟨r,0,none⟩):=by have C:Ah f w S k [] n a w:=⟨S,k,λ_=>0,[],g,G,.nil Al,λb=>by simpa using i b,H,I,by simpa using bt w S k⟩;exact C.raw q
 have hrun:=run_entry_at (P:=P) w r m c s d c e l j J K;obtain⟨T,g2,g3⟩:=G.am (y:=.a6 [.raw e.key,.raw e.val]) (u:=.tuple #[e.key,e.val]) (fh (c1:=λ_=>0) (.raw h1 (.raw L (.nil Al))) (.nil Al) (λb=>rfl)) o.dst;refine Au (w':=w) (v:=.tuple #[e.key,e.val]) ?_ ⟨S,T,g.am _ _ rfl,g2,λb=>by have:=i b;have:=g3 b;omega,by rw[G5];exact H,I,N.drop λb=>by have:=g3 b;omega,⟨by have:=g3 m;omega,t⟩,⟨by have:=g3 r;omega,x⟩,z,A,hrw,B,j,l⟩;exact Aid
def HI.start{B w:World}{U C:Δ}{m V q kt et:Nat}{W:ϴ}{X:Φ}{D:Φ}{a:Act}{o:Oper}{Q:Exit->Ϣ}(Z:o.op=.range V (.tmp q))(E:P.underlying V=some (.map kt et))(hq:D.getD q .any=.raw (.map (some m)))(n:Ah f B U C [.bw m W X] D a w):
 o.wp P a w (λa' w'=>∃r i g,HI f B U C m r i g #[] (am D o.dst (.raw (.pointer (some ⟨r,0,none⟩)))) a' w'/\i.toList.map (·.key)=W/\((i.toList.map (·.born)).Pairwise (·< ·)/\∀e∈i.toList,e.born<g)/\(∃S d,Ac w S X (i.toList.map (·.val)) d)/\(m<B.heap.size->1<=C m)) Q:=by
 have F:=n.raw hq;obtain⟨S,c,c1,gv,G,hr,hg,h1,H,p,I⟩:=n;obtain⟨i,g,d1,c2,A,J,j,k,K,L,s,_⟩:=Ah.jt hg (gi:=0) rfl
 have M:m<w.heap.size:=by
  rcases cq m w.heap.size with h|h;exact h
  .rw[cj h]at A;cases A
 have l:upd S w.heap.size 0=S:=by funext x;unfold upd;split<;>simp_all [p.z]
 have N:=b6 (w:=w) (S:=S) (c:=λ_=>0) p (.mapIter (some m) g #[] g) 0;rw[l]at N;have t:=p.alloc (.mapIter (some m) g #[] g) 0;rw[l]at t;have hn:c w.heap.size=0:=by exact Ah0
 have O:=hr.step N (λb=>by have:=h1 b;show c b+0<=1;omega);have hm1:c m=0:=by have:=h1 m;have:=s m;simp at this;omega
 obtain⟨Y,g2,g3⟩:=O.am (.raw (v:=.pointer (some ⟨w.heap.size,0,none⟩)) rfl (.nil Al)) o.dst;have u:(w.alloc (.mapIter (some m) g #[] g)).heap.size=w.heap.size+1:=oS;have y:(execOp a.eval o).run P w=.ok (.value (.pointer (some ⟨w.heap.size,0,none⟩))) (w.alloc (.mapIter (some m) g #[] g)):=by unfold execOp;simp[Z,F,Instr.range,getObj,newObj,Sem.run,ft,fp E,A]
 refine Au y ⟨w.heap.size,i,g,⟨S,Y,G.am _ _ rfl,g2,λb=>by have:=h1 b;have:=g3 b;omega,by rw[G5];exact H,t,?_,⟨by have:=g3 m;omega,J⟩,⟨by have:=g3 w.heap.size;omega,p.z _ (bx _)⟩,by rw[u];omega,by rw[u];omega,I.size,om,?_,heap_alloc_new w _⟩,j,k,⟨S,d1,K⟩,λR=> ?_⟩
 have T:Stp w S (λb=>c b+c1 b) (w.alloc (.mapIter (some m) g #[] g)) S (λx=>(if x=w.heap.size then 1 else 0)+(c x+c1 x)):=by
  have:=b6 (w:=w) (S:=S) (c:=λb=>c b+c1 b) p (.mapIter (some m) g #[] g) 0;rw[l]at this;exact this
 refine(I.trans T).drop λb=> ?_;have:=g3 b;show Y b<=(if b=w.heap.size then 1 else 0)+(c b+c1 b);omega;have:=(N.keep m M rfl).1;exact this.trans A;have e1:=I.own m R;have e2:=s m;simp at e2;omega
end
section
variable{c:Ϙ}{P:Program}{T:Br}{H:Hw}
def HI.open{i w j l m r e n s o a}(h:HI c i j l m r n e s o a w):
 ∃S k,Ah c w S k [] o a w/\∀d f w',Ah c w S k [] d f w'->HI c i j l m r n e s d f w':=by
 obtain⟨S,k,g,p,h1,q,t,hs,⟨hm1,hm2⟩,⟨hr1,hr2⟩,hml,hrl,hrw,hne,hhm,P_⟩:=h;refine⟨S,k,⟨S,k,λ_=>0,[],g,p,.nil Al,λb=>by simpa using h1 b,q,t,by simpa using bt w S k⟩,λd f w' ⟨S',c',c1',u,mt,hr',hg',h1',hd',hz',hs'⟩=> ?_⟩;exact ϲ
def HI.wk{e w:World}{f g:Δ}{m r b:Nat}{i:Array MapEntry}{s:Array Nat}{j d:Φ}{a:Act}(h:HI c e f g m r i b s j a w)(l:Wk j d):HI c e f g m r i b s d a w:=by obtain⟨S,k,h1,n⟩:=h.open;exact n _ _ _ (h1.wk l)
def HI.ops{q w:World}{t u:Δ}{m r d:Nat}{x:Array MapEntry}{s:Array Nat}{e:Φ}{a:Act}{o:Ϡ}{Q:Exit->Ϣ}{K:Ψ}(y:Ax P T)(z:C1 P H)(l:Θ)(g:List Oper)(i)(A:l.map (o[·]?)=g.map some)(j:Dz o g=some i)(h:HI c q t u m r x d s e a w)(B:fa P T H p6 [] (λn e=>n=[]/\K e) (λ_ _ _=>False) i [] e)(C:∀b f w',K b->HI c q t u m r x d s b f w'->Q .normal f w'):wpOps P o Q l a w:=by obtain⟨S,k,h1,D⟩:=h.open;exact Iu y z (Rr P) l g i [] e a w A j h1 B (λn b f w' E p=>by obtain⟨rfl,p⟩:=p;exact C b f w' p (D _ _ _ E)) (λv n b f w' F _=>F.elim)
end
section
variable{b:Ϙ}
def Nj{P T H}{j:Op->Φ->Option Value}{fz d s e}{Q:Exit->Ϣ}(hT:Ax P T)(hH:C1 P H)(hO:wg P j)(f){ops K}{E:Value->Ω}:
 ∀(l:Θ) (os:List Oper) (c:List CO) (γ σ:Φ) (a:Act) (w:World),l.map (ops[·]?)=os.map some->Dz ops os=some c->Ah b d s e γ σ a w->fa P T H j fz K E c γ σ->
  (∀γ σ a' w',Ah b d s e γ σ a' w'->K γ σ->wpOps P ops Q f a' w')->(∀v γ σ a' w',E v γ σ->Ah b d s e γ σ a' w'->Q (.panic [{v:=v,recovered:=false}]) a' w')->wpOps P ops Q (l++f) a w
 |[],os,c,γ,σ,a,w,hl,hcs,hst,h,hQ,hE=>by exact yb
 |i::l,[],c,γ,σ,a,w,hl,hcs,hst,h,hQ,hE=>by simp at hl
 |i::l,o::os,c,γ,σ,a,w,hl,hcs,hst,h,hQ,hE=>by
  simp only[ev,b5]at hl;obtain⟨k,hl⟩:=hl;simp only[Dz]at hcs;split at hcs;rename_i g r hg hr;injection hcs with hcs;subst hcs;have rest:∀γ σ a w,Ah b d s e γ σ a w->fa P T H j fz K E r γ σ->wpOps P ops Q (l++f) a w:=λγ σ a w hst h=>Nj hT hH hO f l os r γ σ a w hl hr hst h hQ hE;simp only[fj,wpOps,k];exact Ϝ
  .cases hcs
end
section
variable{a:Ϙ}{P:Program}{T:Br}{H:Hw}
end
def W1.ud(e k):W1 (.mine e k []) (.own e k []):=λw S v c h=>by
 cases h with
 |dt h=>exact⟨c,.g9 h,λ_=>bx _⟩
 |mine hn hcap hk hb hs hS h1 h0 ho h hc=>exact⟨c,.own hn hcap hk hb hs (by rw[hS];simp) h1 h0 ho h hc,λ_=>bx _⟩
def sY{e k:Nat}{x y:Φ}(h:Wk x y):Wk (.mine e k []::x) (.own e k []::y):=.cons (W1.ud e k) rfl h
instance (priority:=20) {U:Nat} {x y c d:Φ} [Wi x y] [Wi c d]:Wi (.box U c::x) (.box U d::y):=⟨EZ Wi.h Wi.h⟩
section
variable{P:Program}{T:Br}{H:Hw}
def ε(P:Program)(T:Br)(H:Hw)(Q:Exit->Ω)(c:List CO)(b d:Φ):Prop:=∃a,Wk d a/\fa P T H p6 [] (Q .normal) (ly Q) c b a
def Qb{Q:Exit->Ω}{c:List CO}{b d a:Φ}(e:Wk d a)(h:fa P T H p6 [] (Q .normal) (ly Q) c b a):ε P T H Q c b d:=⟨a,e,h⟩
def Kh(s:Ax P T)(t:C1 P H)(n){z o cs1 cs2}{Q:Exit->Ω}{f g}(h1:Dz o (o.toList.take n)=some cs1)(h2:Dz o (o.toList.drop n)=some cs2)(i:fa P T H p6 [] (λd e=>ε P T H Q cs2 d e) (ly Q) cs1 f g):Cp P T H (.ext (.region z o false)) Q f g:=λA E S F a w j=>by
 apply wp_region;have u:(List.range o.size).map (o[·]?)=o.toList.map some:=by exact CJ
 rw[<-ki n (List.range o.size)];refine Nj s t (Rr P) _ _ (o.toList.take n) cs1 f g a w ?_ h1 j i (λd e x y k B=> ?_) (λv d e x y l k=>⟨d,e,l,k⟩);rw[ol,ol,u];obtain⟨m,C,p⟩:=B;refine Iu s t (Rr P) _ (o.toList.drop n) cs2 _ m x y ?_ h2 (k.wk C) p (λb c q r h D=>⟨b,c,D,h⟩) (λv b c q r l h=>⟨b,c,l,h⟩);rw[pm,pm,u]
end
def lens(l:Ξ):Nat:=(l.map List.length).sum+l.length
def aT(u):(trimB u 32).length<=u.length:=(O9 u 32).length_le
def FJ(u)(a:0<u.length)(h:(((u.getD 0 0).toNat:Nat):Int)=32):(trimB u 32).length+1<=u.length:=by
 cases u with
 |nil=>simp at a
 |cons c v=>
  have b:c=32:=(rQ c).1 h;subst b;have e:trimB (32::v) 32=trimB v 32:=by rw[<-L9,<-L9];congr 1
  rw[e];have:=aT v;exact V6
def lens_cons(x l):lens (x::l)=x.length+1+lens l:=by simp[lens];omega
def Vo(t):∀(m s i:Nat),i+m=t.length->s<=i->(s=0\/s=t.length\/(((t.getD s 0).toNat:Nat):Int)=32)->lens (L3 t m s i)<=t.length-s+(if s=0 then 1 else 0)
 |0,s,i,him,hsi,hs=>by
  unfold L3 ER;split;simp[lens];rename_i a
  have f:0<(t.drop s).length:=by
   rcases jz (t.drop s).length with h|h;rw[List.length_eq_zero_iff.1 h]at a;exact cw rfl a;exact h
  have c:=f;rw[jb]at c;rw[lens_cons];have d:=aT (t.drop s);rw[jb]at d;have g:lens []=0:=rfl;split;omega
  have:=FJ (t.drop s) f (by
   rcases hs with h|h|h;omega;omega;rw[<-h];simp[fk])
  rw[jb]at this;omega
 |m+1,s,i,him,hsi,hs=>by
  rw[L4];split;rename_i e
  have j:=Vo t m (i+1) (i+1) om om (by
   unfold Xb at e;rw[gk]at e;have b:=e.2;rw[n8,i6,i6]at b;rcases b with h|h;exact .inr (.inl om);exact .inr (.inr h))
  rw[ar om]at j;rw[lens_cons];have d:=aT ((t.drop s).take (i+1-s));rw[fw,jb]at d;split;omega
  have:=FJ ((t.drop s).take (i+1-s)) (by rw[fw,jb];omega) (by
   rcases hs with h|h|h;omega;omega;rw[<-h];simp[fk,b9,show 0<i+1-s by omega])
  rw[fw,jb]at this;omega;exact Vo t m s (i+1) om om hs
def Qc(t):lens (Hh t)<=t.length+1:=by have:=Vo t t.length 0 0 om om (.inl rfl);show lens (L3 t t.length 0 0)<=_;exact Qs
def AaM(t)(a:t.length<=1000000000000):QA 187 [str t] (λr=>r=.sl 1 ((Hh t).map str)):=
 (Aah t a).lf λr h=>⟨_,by rw[h];exact dy _ _ _,rfl,rfl⟩
def LG(l:List Bk)(q:l.length<=1000000)(n:∀b∈l,Ht b):QA 126 [.sl 9 (l.map b8)] (λr=>r=.mine 77 9 (l.map b8)):=by
 refine ai (G7 [] [6] [] func126 ?_) ⟨_,rfl⟩;simp only[go_sem];refine Ad (rl [5,23]) [3,4] (λm g i=>i=[]/\∃j:Nat,j+m=l.length/\g=[.mine 77 9 ((l.take j).map b8),num j]) ⟨l.length,_,_,⟨rfl,0,om,rfl⟩,hent (aa _) ?_⟩ ?_;exact Zw
 .rintro m g i ⟨rfl,j,s,rfl⟩;simp only[PU];rcases cq j l.length with d|hge
  .have e:=eT j l.length;obtain⟨x,f,t⟩:=Bj d;have h:=Iq f;have k:=wS j;have o:=(n x (cu f)).af;have a:(Ar x.af).length=x.af.length:=Ao _;have c:(l.take j).length=j:=by simp;omega
   have p:(l.take j).map b8++[.agg [.raw (.int .i64 x.id),.raw (.int .i64 x.kd),.raw (.string ⟨x.tx.toArray⟩),.raw (.int .i64 x.so),.raw (.int .i64 x.rf),.raw (.int .i64 x.un),.sl 1 (Ar x.af),.raw (.int .i64 x.ap),.raw (.int .i64 x.de)]]=(l.take (j+1)).map b8:=by rw[fc,f];simp[b8,num,str]
   simp only[go_sem,e,h,k,c,a,Ao];refine Zu ?_;refine Kh (cs1:= ?c1) (cs2:= ?c2) b3 Dc 1 ?e1 ?e2 ?h1
   case e1=>rfl
   case e2=>rfl
   simp only[py,qx,qw];simp only[go_sem];refine Zu ?_;apply Qb;exact CK;simp only[go_sem,e,h,k,c,a,Ao];refine Zu ?_;exact nV
  have e:=eU j l.length;rw[Are hge];simp only[go_sem,e,Ao];exact Zx
structure mC where
 lg:Ab
 bk:Int
 se:Int
 tx:Ab
 n:Int
def gW(c:mC):AV:=.agg [str c.lg,num c.bk,num c.se,str c.tx,num c.n]
def bT(b:Bk)(t:Ab):Bk:={b with tx:=t}
def mD(l:List Bk)(c:mC)(M)(Z:M<=1000000000)(hl:l.length<=1000000)(R:∀b∈l,b.tx.length<=M)(hc:c.tx.length<=1000000000):QA 127 [.mine 77 9 (l.map b8),gW c] (λr=>∃H:List Bk,r=.mine 77 9 (H.map b8)/\(H=l\/∃j x t,l[j]? =some x/\t.length<=M+c.tx.length+1/\H=l.set j (bT x t))):=by
 simp only[gW];refine ai (G7 [(0,[100000],[]),(7,[100000],[]),(18,[100000],[]),(19,[100000],[]),(1000008,[],[])] [] [(4,[],[0,1,2,3,5,2004,2006,7],[],[])] func127 ?_) ⟨_,l,rfl,.inl rfl⟩;simp only[go_sem];refine Ad (rl [6,89]) [5] (λm v w=>w=[]/\∃j:Nat,j+m=l.length/\v=[num j]) ⟨l.length,_,_,⟨rfl,0,om,rfl⟩,hent (aa _) ?_⟩ ?_;exact Zw
 .rintro m v w ⟨rfl,j,hn,rfl⟩;simp only[PU];rcases cq j l.length with I|hge
  .have i:=eT j l.length;obtain⟨x,F,hd⟩:=Bj I;have h:=Iq F;have o:=wS j;have S:=R x (cu F);by_cases D:x.id=c.bk;rotate_left
   have G:=bd D;simp only[go_sem,i,h,o,G,Ao];refine Zu ?_;exact nV;have G:=bc D;simp only[go_sem,i,h,o,G,Ao];refine Zu ?_;refine ae (AaM x.tx om) ?_;rintro r rfl;have T:=Qc x.tx;generalize Hh x.tx=sl at *;simp only[go_sem,i,h,o,G,Ao];refine Bv (rl [7,88]) [] (λv w=>w=[]/\0<=c.se/\c.se<sl.length/\v=[]) ?_ ?_
   .by_cases z:x.kd=1\/x.kd=2\/x.kd=4;rotate_left
    have f1:=eN x.kd 1;have f2:=eN x.kd 2;have f4:=eN x.kd 4;simp only[go_sem,i,h,o,f1,f2,f4,Ao];exact nP;rcases z with z|z|z;have g:=bc z;by_cases a:c.se<0;have n:=bc a;simp only[go_sem,i,h,o,g,n,Ao];exact nP;have n:=bd a;by_cases d:(sl.length:Int)<=c.se;have p:=bc d;simp only[go_sem,i,h,o,g,n,p,Ao];exact nP;have p:=bd d;simp only[go_sem,i,h,o,g,n,p,Ao];exact OM;have g:=bc z;have f1:=eN x.kd 1;by_cases a:c.se<0;have n:=bc a;simp only[go_sem,i,h,o,g,f1,n,Ao];exact nP;have n:=bd a;by_cases d:(sl.length:Int)<=c.se;have p:=bc d;simp only[go_sem,i,h,o,g,f1,n,p,Ao];exact nP;have p:=bd d;simp only[go_sem,i,h,o,g,f1,n,p,Ao];exact OM;have g:=bc z;have f1:=eN x.kd 1;have f2:=eN x.kd 2;by_cases a:c.se<0;have n:=bc a;simp only[go_sem,i,h,o,g,f1,f2,n,Ao];exact nP;have n:=bd a;by_cases d:(sl.length:Int)<=c.se;have p:=bc d;simp only[go_sem,i,h,o,g,f1,f2,n,p,Ao];exact nP;have p:=bd d;simp only[go_sem,i,h,o,g,f1,f2,n,p,Ao];exact OM
   rintro v w ⟨rfl,a,d,rfl⟩;simp only[PU];simp only[go_sem];refine Ad (rl [9,86]) [7,8] (λC v w=>w=[]/\∃(k:Nat) (t:Ab),k+C=sl.length/\t.length<=((sl.take k).map List.length).sum+k+(if(k:Int)<=c.se then 0 else c.tx.length)/\v=[str t,num k]) ⟨sl.length,_,_,⟨rfl,0,[],om,oS,rfl⟩,hent (aa _) ?_⟩ ?_;exact Zw
   .rintro C v w ⟨rfl,k,t,U,A,rfl⟩;simp only[PU,str]
    have O:((sl.take k).map List.length).sum<=(sl.map List.length).sum:=by
     conv=>rhs;rw[<-ki k sl,ip,List.sum_append]
     omega
    have J:lens sl=(sl.map List.length).sum+sl.length:=rfl;have V:(if(k:Int)<=c.se then 0 else c.tx.length)<=c.tx.length:=by split<;>omega
    rcases cq k sl.length with E|mu
    .have ek:=eT k sl.length;obtain⟨y,P,W⟩:=Bj E;have e:=Cd P;have f:=wS k;have X:((sl.take (k+1)).map List.length).sum=((sl.take k).map List.length).sum+y.length:=by rw[fc,P];simp
     have K:((sl.take (k+1)).map List.length).sum<=(sl.map List.length).sum:=by
      conv=>rhs;rw[<-ki (k+1) sl,ip,List.sum_append]
      omega
     have s:∀L:Ab,L.length<=t.length+1+(if(k:Int)=c.se then c.tx.length else y.length)->L.length<=((sl.take (k+1)).map List.length).sum+(k+1)+(if((k+1:Nat):Int)<=c.se then 0 else c.tx.length):=λL Y=>by
      rw[X];split at Y;rw[ar om];rw[bn om]at A;omega;split at A;rw[bn om];omega;rw[ar om];omega
     by_cases u:(k:Int)=c.se
     .have e1:=bc u;rw[bn u]at s;rcases jz k with B|B
      .have q:=bd (show¬(0:Int)<(k:Int) by omega);simp only[go_sem,ek,e,f,e1,q,Ao];repeat (refine gO ?_)
       refine Z5 ek e f e1 q ?_;refine Am (C-1) _ _ om ⟨rfl,k+1,t++c.tx,om,s _ (by first|(simp;done)|(simp;omega)),rfl⟩ (hent (aa _) ?_);exact AhV
      have q:=bc (show(0:Int)<(k:Int) by omega);simp only[go_sem,ek,e,f,e1,q,Ao];repeat (refine gO ?_)
      refine Z5 ek e f e1 q ?_;exact Zm (C-1) ⟨rfl,k+1,t++[32]++c.tx,om,s _ (by first|(simp;done)|(simp;omega)),rfl⟩;done
     have e1:=bd u;rw[ar u]at s;rcases jz k with B|B
     .have q:=bd (show¬(0:Int)<(k:Int) by omega);simp only[go_sem,ek,e,f,e1,q,Ao];repeat (refine gO ?_)
      refine Z5 ek e f e1 q ?_;exact Zm (C-1) ⟨rfl,k+1,t++y,om,s _ (by first|(simp;done)|(simp;omega)),rfl⟩;done
     have q:=bc (show(0:Int)<(k:Int) by omega);simp only[go_sem,ek,e,f,e1,q,Ao];repeat (refine gO ?_)
     refine Z5 ek e f e1 q ?_;exact Zm (C-1) ⟨rfl,k+1,t++[32]++y,om,s _ (by first|(simp;done)|(simp;omega)),rfl⟩;done
    have ek:=eU k sl.length;have Q:=ab.1 F;simp only[go_sem,ek,h,Ao];refine Z3 ek h i ?_;have N:sl.take k=sl:=Are mu;rw[N]at A;exact⟨_,_,bh _,rfl,aa _,rfl,l.set j (bT x t),by rw[List.map_set];rfl,.inr ⟨j,x,t,F,om,rfl⟩⟩
  have i:=eU j l.length;simp only[go_sem,i,Ao];exact nP
structure Fc where
 n:Int
 tm:Int
 kd:Int
 st:Int
 lg:Ab
 rv:Int
 bs:Int
 ti:Ab
 au:Ab
 tp:Ξ
 bl:List Bk
 un:Int
 af:List Int
 ap:Int
 de:Int
 ed:Int
 bk:Int
 se:Int
 tx:Ab
 nm:Ab
 pa:Int
 cl:Int
 ul:Int
def Qd(f:Fc):AV:=.agg [num f.n,num f.tm,num f.kd,num f.st,str f.lg,num f.rv,num f.bs,str f.ti,str f.au,.sl 1 (f.tp.map str),.sl 9 (f.bl.map b8),num f.un,.sl 1 (Ar f.af),num f.ap,num f.de,num f.ed,num f.bk,num f.se,str f.tx,str f.nm,num f.pa,num f.cl,num f.ul]
def gX{l:List Fc}{j:Nat}{x:Fc}(h:l[j]? =some x):(l.map Qd).getD j .any=.agg [.raw (.int .i64 x.n),.raw (.int .i64 x.tm),.raw (.int .i64 x.kd),.raw (.int .i64 x.st),.raw (.string ⟨x.lg.toArray⟩),.raw (.int .i64 x.rv),.raw (.int .i64 x.bs),.raw (.string ⟨x.ti.toArray⟩),.raw (.string ⟨x.au.toArray⟩),.sl 1 (x.tp.map str),.sl 9 (x.bl.map b8),.raw (.int .i64 x.un),.sl 1 (Ar x.af),.raw (.int .i64 x.ap),.raw (.int .i64 x.de),.raw (.int .i64 x.ed),.raw (.int .i64 x.bk),.raw (.int .i64 x.se),.raw (.string ⟨x.tx.toArray⟩),.raw (.string ⟨x.nm.toArray⟩),.raw (.int .i64 x.pa),.raw (.int .i64 x.cl),.raw (.int .i64 x.ul)]:=by simp[h,Qd,num,str]
structure N3 (f:Fc):Prop where
 bl:f.bl.length<=4
 bk:∀b∈f.bl,b.tx.length<=20/\b.af.length<=1000
 tp:f.tp.length<=10
 tn:∀t∈f.tp,t.length<=20
 lg:f.lg.length<=20
 ti:f.ti.length<=20
 au:f.au.length<=20
 tx:f.tx.length<=100
def AaN{f}(h:N3 f):∀b∈f.bl,Ht b:=λb a=>⟨by have:=(h.bk b a).1;omega,by have:=(h.bk b a).2;omega⟩
def rvR(n:List Bk)(f:Fc)(r:AV):Prop:=∃l:List Bk,(r=.sl 9 (l.map b8)\/r=.own 77 9 (l.map b8))/\l.length<=n.length+f.bl.length/\∀x∈l,x∈n\/x∈f.bl
def AC(l:List Fc)(n:List Bk)(f)(K:l.length<=100000)(G:∀x∈l,N3 x)(A:N3 f)(L:n.length<=100000)(p:∀b∈n,Ht b):QA 125 [.sl 23 (l.map Qd),.sl 9 (n.map b8),Qd f] (rvR n f):=by
 simp only[Qd];refine ai (G7 [] [] [(1,[],[0,1,2,3,4,5,6,7,8,9,11,2010,2012,13,14],[],[]),(7,[],[0,1,2,3,5,2004,2006,7],[],[])] func125 ?_) ⟨_,f.bl,.inl rfl,om,λx hx=>.inr hx⟩;rcases jz l.length with q|q;have o:=bc (show(l.length:Int)=0 by omega);simp only[go_sem,o,Ao];exact OL;have o:=bd (show¬(l.length:Int)=0 by omega);obtain⟨x,hx,M⟩:=Bj (show l.length-1<l.length by omega);have h:=gX hx;have c:i64.wrap ((l.length:Int)-1)=((l.length-1:Nat):Int):=by rw[Aw om om];omega
 have e1:=bc (show((l.length-1:Nat):Int)<(l.length:Int) by omega);by_cases B:x.rv=f.bs;have e2:=bc B;simp only[go_sem,o,e1,e2,h,c,Ao];exact OL;have e2:=bd B;simp only[go_sem,o,e1,e2,h,c,Ao];refine Zu ?_;refine Ad (rl [9,53]) [7,8] (λm C D=>D=[]/\∃(j:Nat) (a:List Bk),j+m=l.length/\a.length<=100/\(∀b∈a,Ht b)/\C=[.sl 9 (a.map b8),num j]) ⟨l.length,_,_,⟨rfl,0,[],om,oS,oS,rfl⟩,hent (aa _) ?_⟩ ?_;exact Zw
 .rintro m C D ⟨rfl,j,a,N,s,d,rfl⟩;simp only[PU];rcases cq j l.length with t|hge
  .have e:=eT j l.length;obtain⟨y,E,H⟩:=Bj t;have g:=gX E;have F:=wS j;have i:=G y (cu E);by_cases k:y.rv=f.bs
   .have u:=bc k;simp only[go_sem,e,u,g,F,Ao];refine Zu ?_;exact Zm (m-1) ⟨rfl,j+1,y.bl,om,cp i.bl oD,AaN i,rfl⟩;done
   have u:=bd k;simp only[go_sem,e,u,g,F,Ao];refine Zu ?_;exact Zm (m-1) ⟨rfl,j+1,a,om,s,d,rfl⟩;done
  have e:=eU j l.length;simp only[go_sem,e,Ao];refine Zu ?_;have I:=A.bl;refine ae (Aak a n f.bl om om om d p (AaN A)) ?_;rintro r (rfl|⟨J,O,rfl,v,w⟩);simp only[num];have z:((40:Int)=0)=False:=bd oD;simp only[go_sem,e,z,Ao];exact OL;simp only[num];simp only[go_sem,e,Ao];refine Zu ?_;exact⟨_,_,bh _,rfl,aa _,rfl,J,.inr rfl,v,w⟩
def mE{l:List Ap}{j:Nat}{x:Ap}(h:l[j]? =some x):(l.map ci).getD j .any=.agg [.raw (.int .i64 x.id),.raw (.string ⟨x.au.toArray⟩),.sl 1 (x.tp.map str),.sl 5 x.ed,.raw (.int .i64 x.pu),.sl 5 x.co,.raw (.bool x.re),.raw (.bool x.tk)]:=by simp[h,ci,Qn,num,str,Af]
def ApS(L:List Ap)(t)(n:L.length<=1000000)(i):QA 28 [.agg [.sl 8 (L.map ci),.sl 2 t],num i] (λr=>∃b,r=.a6 [.any,Af b]):=by refine ai (G7 [] [] [] func28 ?_) ⟨_,true,rfl⟩;simp only[go_sem];refine Ad (rl [7,21]) [6] (λm d f=>f=[]/\∃j:Nat,j+m=L.length/\d=[num j]) ⟨L.length,_,_,⟨rfl,0,om,rfl⟩,hent (aa _) ?_⟩ ?_;exact Zw;rintro m d f ⟨rfl,j,o,rfl⟩;simp only[PU];rcases cq j L.length with a|hge;have e:=eT j L.length;obtain⟨x,l,p⟩:=Bj a;have h:=mE l;have g:=wS j;by_cases k:x.id=i;have c:=bc k;simp only[go_sem,e,c,h,g,Ao];refine Zu ?_;exact⟨_,_,eu (U3 (br _)),rfl,aa _,rfl,true,rfl⟩;have c:=bd k;simp only[go_sem,e,c,h,g,Ao];refine Zu ?_;exact nV;have e:=eU j L.length;simp only[go_sem,e,Ao];refine Zu ?_;exact⟨_,_,eu (U3 (br _)),rfl,aa _,rfl,false,rfl⟩
def Alp{l:List (Ab×Ab)}{j:Nat}{x:Ab×Ab}(h:l[j]? =some x):(l.map A4).getD j .any=.agg [.raw (.string ⟨x.1.toArray⟩),.raw (.string ⟨x.2.toArray⟩)]:=by simp[h,A4,str]
def LH{T O:List (Ab×Ab)}{t x:Ab×Ab}{j:Nat}(a:T[j]? =some x)(b:∀y∈O,y∈T\/y=t):∀y,y∈O\/y=t\/y=x->y∈T\/y=t:=λy c=>by
 rcases c with h|h|h;exact b y h;exact .inr h;rw[h];exact .inl (cu a)
def Alq(T:List (Ab×Ab))(t)(n:T.length<=100000):QA 30 [.sl 2 (T.map A4),A4 t] (λr=>∃b:List (Ab×Ab),r=.own 60 2 (b.map A4)/\b.length<=T.length+1/\∀x∈b,x∈T\/x=t):=by
 obtain⟨tn,a⟩:=t;simp only[A4];refine ai (G7 [] [] [(6,[],[0,1,2,3,4,5,6,8,2007,2009,10,11],[],[]),(9,[],[0,1,2,3,5,2004,2006,7],[],[])] func30 ?_) ⟨_,[],rfl,oS,oS⟩;simp only[go_sem];refine Ad (rl [8,44]) [5,6,7] (λm e f=>f=[]/\∃(j:Nat) (p:Bool) (O:List (Ab×Ab)),j+m=T.length/\O.length<=j+(if p then 1 else 0)/\(∀x∈O,x∈T\/x=(tn,a))/\e=[.own 60 2 (O.map A4),Af p,num j]) ⟨T.length,_,_,⟨rfl,0,false,[],om,oS,oS,rfl⟩,hent (aa _) ?_⟩ ?_;simp only[PU];simp only[Af];exact Zw
 .rintro m e f ⟨rfl,j,p,O,o,hO,ra,rfl⟩;simp only[PU];simp only[Af];rcases cq j T.length with c|hge
  .have ej:=eT j T.length;obtain⟨x,hx,q⟩:=Bj c;have hgx:=Alp hx;have hw:=wS j;have g:O.map A4++[.agg [.raw (.string ⟨tn.toArray⟩),.raw (.string ⟨a.toArray⟩)]]=(O++[(tn,a)]).map A4:=by simp[A4,str]
   have i:O.map A4++[.agg [.raw (.string ⟨x.1.toArray⟩),.raw (.string ⟨x.2.toArray⟩)]]=(O++[x]).map A4:=by simp[A4,str]
   have k:(O++[(tn,a)]).map A4++[.agg [.raw (.string ⟨x.1.toArray⟩),.raw (.string ⟨x.2.toArray⟩)]]=(O++[(tn,a)]++[x]).map A4:=by simp[A4,str]
   have d:O.length<=T.length+1:=by split at hO<;>omega
   cases p
   .cases hB:Op.bytesLess x.1 tn
    .cases hE:(x.1==tn)
     .have hN:(x.1 != tn)=true:=by simp[bne,hE]
      simp only[go_sem,ej,hgx,hw,hB,hE,hN,Ao];refine Zu ?_;exact Zm (m-1) ⟨rfl,j+1,true,O++[(tn,a)]++[x],om,by simp at hO⊢;omega,λy hy=>LH hx ra y (by(try simp at hy);first|exact hy|exact .inl hy|(rcases hy with h|h;exact .inl h;exact .inr (.inl h))|(rcases hy with h|h;exact .inl h;exact .inr (.inr h))),rfl⟩;done
     .have hN:(x.1 != tn)=false:=by simp[bne,hE]
      simp only[go_sem,ej,hgx,hw,hB,hE,hN,Ao];refine Zu ?_;exact Zm (m-1) ⟨rfl,j+1,true,O++[(tn,a)],om,by simp at hO⊢;omega,λy hy=>LH hx ra y (by(try simp at hy);first|exact hy|exact .inl hy|(rcases hy with h|h;exact .inl h;exact .inr (.inl h))|(rcases hy with h|h;exact .inl h;exact .inr (.inr h))),rfl⟩;done
    .cases hE:(x.1==tn)
     .have hN:(x.1 != tn)=true:=by simp[bne,hE]
      simp only[go_sem,ej,hgx,hw,hB,hE,hN,Ao];refine Zu ?_;exact Zm (m-1) ⟨rfl,j+1,false,O++[x],om,by simp at hO⊢;omega,λy hy=>LH hx ra y (by(try simp at hy);first|exact hy|exact .inl hy|(rcases hy with h|h;exact .inl h;exact .inr (.inl h))|(rcases hy with h|h;exact .inl h;exact .inr (.inr h))),rfl⟩;done
     .have hN:(x.1 != tn)=false:=by simp[bne,hE]
      simp only[go_sem,ej,hgx,hw,hB,hE,hN,Ao];refine Zu ?_;exact Zm (m-1) ⟨rfl,j+1,false,O,om,by simp at hO⊢;omega,λy hy=>LH hx ra y (by(try simp at hy);first|exact hy|exact .inl hy|(rcases hy with h|h;exact .inl h;exact .inr (.inl h))|(rcases hy with h|h;exact .inl h;exact .inr (.inr h))),rfl⟩;done
   .cases hB:Op.bytesLess x.1 tn
    exact ϙ;exact ϙ
  have ej:=eU j T.length;have d:O.length<=T.length+1:=by split at hO<;>omega
  have l:O.map A4++[.agg [.raw (.string ⟨tn.toArray⟩),.raw (.string ⟨a.toArray⟩)]]=(O++[(tn,a)]).map A4:=by simp[A4,str]
  cases p;simp only[go_sem,ej,Ao];refine Zu ?_
  exact⟨_,_,bh _,rfl,aa _,rfl,O++[(tn,a)],rfl,by simp at hO⊢;omega,λx hx=>by
   rcases ff.1 hx with hx|hx;exact ra x hx;exact .inr (ga.1 hx)⟩
  simp only[go_sem,ej,Ao];refine Zu ?_;exact⟨_,_,bh _,rfl,aa _,rfl,O,rfl,om,ra⟩
def soR(l:Ξ)(s:Ab)(r:AV):Prop:=∃a:Ξ,(r=.sl 1 (a.map str)\/r=.own 9 1 (a.map str))/\a.length<=l.length+1/\∀x∈a,x∈l\/x=s
def AaO(l:Ξ)(s)(p:l.length<=100000):QA 69 [.sl 1 (l.map str),str s] (soR l s):=by
 refine ai (G7 [] [7] [] func69 ?_) ⟨_,[],.inl rfl,oS,oS⟩;simp only[go_sem];refine Ad (rl [6,41]) [5] (λm k n=>n=[]/\∃j:Nat,j+m=l.length/\k=[num j]) ⟨l.length,_,_,⟨rfl,0,om,rfl⟩,hent (aa _) ?_⟩ ?_;exact Zw
 .rintro m k n ⟨rfl,j,q,rfl⟩;simp only[PU];rcases cq j l.length with f|hge
  .have e:=eT j l.length;obtain⟨x,g,r⟩:=Bj f;have h:=Cd g;have b:=wS j;have o:(l.map str).length=l.length:=dB _;cases c:Op.bytesLess x s;rotate_left
   simp only[go_sem,e,h,b,c,Ao];refine Z4 e h b c ?_;exact nV;cases d:(x==s);rotate_left;simp only[go_sem,e,h,b,c,d,Ao];refine Z5 e h b c d ?_;exact⟨_,_,bh _,rfl,aa _,rfl,l,.inl rfl,om,λx g=>.inl g⟩;simp only[go_sem,e,h,b,c,d,Ao];refine Z5 e h b c d ?_;have i:j<=l.length:=om;have a:(List.take (l.length-j) (List.drop j (l.map str)))=(l.drop j).map str:=by rw[<-pm];exact Are oS
   have htk:List.take j (l.map str)=(l.take j).map str:=by rw[ol]
   have htl:(l.take j).length=j:=by simp;omega
   have qh:((l.drop j).map str).length=l.length-j:=oS;have u0:((l.take j).map str).length=j:=by simp;omega
   have gj:=bc (show(j:Int)<=(l.length:Int) by omega);rw[a];refine Z2 gj qh ?_;refine Kh (cs1:= ?c1a) (cs2:= ?c2a) b3 Dc 1 ?z7 ?z6 ?h1a
   case z7=>rfl
   case z6=>rfl
   exact ϕ
  have e:=eU j l.length;simp only[go_sem,e,Ao];refine Zu ?_;have i:j<=l.length:=om;have a:(List.take (l.length-j) (List.drop j (l.map str)))=(l.drop j).map str:=by rw[<-pm];exact Are oS
  have htk:List.take j (l.map str)=(l.take j).map str:=by rw[ol]
  have htl:(l.take j).length=j:=by simp;omega
  have qh:((l.drop j).map str).length=l.length-j:=oS;have u0:((l.take j).map str).length=j:=by simp;omega
  have gj:=bc (show(j:Int)<=(l.length:Int) by omega);rw[a];refine Z2 gj qh ?_;refine Kh (cs1:= ?c1) (cs2:= ?c2) b3 Dc 1 ?e1 ?e2 ?h1
  case e1=>rfl
  case e2=>rfl
  exact ϕ
def Alr{l:List mC}{j:Nat}{x:mC}(h:l[j]? =some x):(l.map gW).getD j .any=.agg [.raw (.string ⟨x.lg.toArray⟩),.raw (.int .i64 x.bk),.raw (.int .i64 x.se),.raw (.string ⟨x.tx.toArray⟩),.raw (.int .i64 x.n)]:=by simp[h,gW,num,str]
def ApT(l:List Fc)(n:List Bk)(f:Fc)(c:l.length<=100000)(d:∀x∈l,N3 x)(e:N3 f)(g:n.length<=100000)(a:∀b∈n,Ht b):QA 125 [.sl 23 (l.map Qd),.sl 9 (n.map b8),Qd f] (λr=>∃l':List Bk,r=.sl 9 (l'.map b8)/\l'.length<=n.length+f.bl.length/\∀x∈l',x∈n\/x∈f.bl):=
 (AC l n f c d e g a).lf λr ⟨l',h,h1,h2⟩=>by exact AgZ
def RL(M:Nat)(l:List Bk):Prop:=∀b∈l,b.tx.length<=M/\b.af.length<=1000
def bE(l:Ab)(rv:Int)(t:Ab)(x:AV)(c:Int):AV:=.box 101 [str l,num rv,str t,x,num c]
def Aa.ny{P f j e k J}{es ps ys:J->Φ}{B:J->Prop}(h:Aa P f j (λr=>∃i,r=.agg (ps i++ .mine e k (es i)::ys i)/\B i)):Aa P f j (λr=>∃i,r=.agg (ps i++ .own e k (es i)::ys i)/\B i):=by
 obtain⟨M,⟨_,N,_,O⟩,Q⟩:=h;refine⟨M,⟨_,N,rfl,O⟩,λw S A c R T U=>(Q w S A c R T U).mono λe' C ⟨v,r,s,D,K,V,hp,E,F,G,h6⟩=> ?_⟩;obtain⟨i,rfl,hq⟩:=V;revert E;generalize n:es i=ez;intro E
 cases E with
 |agg h1 ho hn hcc=>
  rename_i W c1 c2;obtain⟨H,X,p1,p2,rfl,o,h1,l⟩:=h1.ku;obtain⟨u,Y,e1,e2,rfl,Z,p,m⟩:=h1.bu
  cases Z with
  |dt hn1=>exact⟨_,_,s,D,K,⟨i,by rw[n],hq⟩,rfl,.agg (du o (b4 (.g9 hn1) p m) l) ho hn hcc,F,G,h6⟩
  |mine hn1 hcap hk hb hs' hS hx1 h0 hoc hnil vk=>
   rename_i b q cur c0 c3 _;obtain⟨_,I⟩:=hnil.zero;have hcb:0<e1 b:=by rw[vk];simp;omega
   have L:=F b;have d:D b=1/\e1 b=1/\e2 b=0/\c2 b=0/\p1 b=0:=by have:=hcc b;have:=m b;have:=l b;omega
   have t:∀x,s x<=upd s b (ez.length*k) x:=by
    intro x;unfold upd;split;exact QG;exact Ev
   have a:∀{xs A c1},Ac C s xs A c1->c1 b=0->Ac C (upd s b (ez.length*k)) xs A c1:=λh hb0=>
    h.keep (λ_ _ _=>rfl) t (λx hx=>⟨rfl,by unfold upd;rw[ar];intro hxb;subst hxb;omega⟩)
   have y:Ac C (upd s b (ez.length*k)) [.own e k ez] [.slice (some ⟨b,0,none⟩) ez.length q] e1:=
    .own hn1 hcap hk hb hs' (by simp[upd]) (a hx1 (h0 b)) h0 hoc (.nil I) vk
   have z:Ac C (upd s b (ez.length*k)) [.agg ((ps i)++ .own e k ez::(ys i))] [.agg (H++ .slice (some ⟨b,0,none⟩) ez.length q::Y).toArray] D:=
    .agg (du (a o d.2.2.2.2) (b4 y (a p d.2.2.1) m) l) ho (a hn d.2.2.2.1) hcc
   refine⟨_,_,_,D,K,⟨i,by rw[n],hq⟩,rfl,z,F,⟨λx hx=> ?_,G.g.p5 hS _⟩,⟨h6.os,h6.tape,h6.output,h6.size,λx hx hx0=>⟨(h6.keep x hx hx0).1,?_⟩,h6.cell,λx=>cp (h6.le x) (t x),h6.own⟩⟩;unfold upd;rw[ar];exact G x hx;exact PN;exact Ah1
structure dV where
 rv:Int
 ti:Ab
 bs:List Bk
 ch:Int
def fH(i:dV):Prop:=i.ti.length<=20/\i.bs.length<=64/\∀b∈i.bs,b.tx.length<=2000/\b.af.length<=1000
def LI(l:List Fc)(F:Ab)(s:List mC)(hl:l.length<=16)(hk:∀x∈l,N3 x)(hla:F.length<=20)(hc:s.length<=16)(T:∀x∈s,x.tx.length<=100):QA 70 [.sl 23 (l.map Qd),str F,.sl 5 (s.map gW)] (λr=>∃i:dV,r=.agg ([str F,num i.rv,str i.ti]++ .mine 77 9 (i.bs.map b8)::[num i.ch])/\fH i):=by
 refine ai (G7 [(11,[],[8]),(13,[],[8])] [] [(20,[],[0,2,3,4,2001,2005],[],[3006,7,3008])] func70 ?_) ⟨_,⟨0,[],[],0⟩,rfl,oS,oS,oS⟩;simp only[go_sem];refine Ad (rl [10,86]) [7,8,9] (λm H I=>I=[]/\∃(j:Nat) (rv:Int) (v:Ab) (f:List Bk) (J:Int) (g:List Fc),j+m=l.length/\v.length<=20/\f.length<=4*j/\RL 20 f/\g.length<=j/\(∀x∈g,N3 x)/\H=[bE F rv v (.sl 9 (f.map b8)) J,.own 67 23 (g.map Qd),num j]) ⟨l.length,_,_,⟨rfl,0,0,[],[],0,[],om,oS,oS,by simp[RL],oS,oS,rfl⟩,hent (aa _) ?_⟩ ?_;simp only[PU];simp only[bE,num,str];exact Ahk
 .rintro m H I ⟨rfl,j,rv,v,f,J,g,hm,w,hbs,e,hre,o,rfl⟩;simp only[PU];simp only[bE,num,str];rcases cq j l.length with U|hge
  .have G:=eT j l.length;obtain⟨x,hx,hd⟩:=Bj U;have z:=gX hx;have V:=wS j;have k:=hk x (cu hx);have A:∀b∈f,Ht b:=λb a=>⟨by have:=(e b a).1;omega,by have:=(e b a).2;omega⟩;have hR:=ApT g f x om o k om A;simp only[Qd,num,str]at hR;have W:g.map Qd++[.agg [.raw (.int .i64 x.n),.raw (.int .i64 x.tm),.raw (.int .i64 x.kd),.raw (.int .i64 x.st),.raw (.string ⟨x.lg.toArray⟩),.raw (.int .i64 x.rv),.raw (.int .i64 x.bs),.raw (.string ⟨x.ti.toArray⟩),.raw (.string ⟨x.au.toArray⟩),.sl 1 (x.tp.map str),.sl 9 (x.bl.map b8),.raw (.int .i64 x.un),.sl 1 (Ar x.af),.raw (.int .i64 x.ap),.raw (.int .i64 x.de),.raw (.int .i64 x.ed),.raw (.int .i64 x.bk),.raw (.int .i64 x.se),.raw (.string ⟨x.tx.toArray⟩),.raw (.string ⟨x.nm.toArray⟩),.raw (.int .i64 x.pa),.raw (.int .i64 x.cl),.raw (.int .i64 x.ul)]]=(g++[x]).map Qd:=by simp[Qd,num,str]
   have K:∀y∈g++[x],N3 y:=λy L=>by
    rcases ff.1 L with L|L;exact o y L;rw[ga.1 L];exact k
   have M:∀u:List Bk,(∀y∈u,y∈f\/y∈x.bl)->RL 20 u:=λu h b a=>by
    rcases h b a with h|h;exact e b h;exact k.bk b h
   have hxl:=k.bl;have N:=k.ti;simp only[go_sem,G,z,V,Ao];repeat' first|apply Aq.on<;>intro _|refine gD ?_|simp only[go_sem,G,z,V,Ao]
   all_goals first
    |(refine Am (m-1) _ _ om ⟨rfl,j+1,rv,v,f,J,g,om,w,om,e,om,o,rfl⟩ (hent (aa _) ?_)
      simp only[PU];try simp only[bE,num,str]
      repeat first|exact fb|refine EZ ?_ ?_|refine B7 ?_|refine Ju ?_|refine c9 ?_|refine U3 ?_
      done)
    |(refine Am (m-1) _ _ om ⟨rfl,j+1,rv,v,f,x.n,g,om,w,om,e,om,o,rfl⟩ (hent (aa _) ?_)
      simp only[PU];try simp only[bE,num,str]
      repeat first|exact fb|refine EZ ?_ ?_|refine B7 ?_|refine Ju ?_|refine c9 ?_|refine U3 ?_
      done)
    |(refine hR.mono ?_
      rintro r ⟨u,rfl,hl2,B⟩;simp only[go_sem,G,z,V,W,Ao];refine Zu ?_
      first
       |(refine Am (m-1) _ _ om ⟨rfl,j+1,rv,x.ti,u,x.n,g++[x],om,N,om,M u B,by simp;omega,K,rfl⟩ (hent (aa _) ?_)
         simp only[PU];try simp only[bE,num,str]
         repeat first|exact fb|refine EZ ?_ ?_|refine B7 ?_|refine Ju ?_|refine c9 ?_|refine U3 ?_
         done)
       |(refine Am (m-1) _ _ om ⟨rfl,j+1,x.rv,x.ti,u,x.n,g++[x],om,N,om,M u B,by simp;omega,K,rfl⟩ (hent (aa _) ?_)
         simp only[PU];try simp only[bE,num,str]
         repeat first|exact fb|refine EZ ?_ ?_|refine B7 ?_|refine Ju ?_|refine c9 ?_|refine U3 ?_
         done))
  have G:=eU j l.length;simp only[go_sem,G,Ao];refine Zu ?_;have A:∀b∈f,Ht b:=λb a=>⟨by have:=(e b a).1;omega,by have:=(e b a).2;omega⟩;refine ae (LG f om A) ?_;rintro r rfl;simp only[go_sem,G,Ao];refine Zu ?_;refine Ad (rl [8,3,1,84]) [7,11] (λS H I=>I=[]/\∃(i:Nat) (C:List Bk),i+S=s.length/\C.length<=64/\(∀b∈C,b.tx.length<=20+101*i/\b.af.length<=1000)/\H=[bE F rv v (.mine 77 9 (C.map b8)) J,num i]) ⟨s.length,_,_,⟨rfl,0,f,om,om,λb a=>⟨by have:=(e b a).1;omega,(e b a).2⟩,rfl⟩,hent (aa _) ?_⟩ ?_
  .simp only[PU];try simp only[bE,num,str]
   exact Ahk
  .rintro S H I ⟨rfl,i,C,B,p,d,rfl⟩;simp only[PU];try simp only[bE,num,str]
   rcases cq i s.length with O|mu
   .have P:=eT i s.length;obtain⟨c,Q,hdc⟩:=Bj O;have D:=Alr Q;have E:=wS i;have hct:=T c (cu Q);cases X:(c.lg==F)
    simp only[go_sem,P,D,E,X,Ao];refine Zu ?_;refine Am (S-1) _ _ om ⟨rfl,i+1,C,om,p,λb a=>⟨by have:=(d b a).1;omega,(d b a).2⟩,rfl⟩ (hent (aa _) ?_);exact Ag8;simp only[go_sem,P,D,E,X,Ao];refine Zu ?_;have hC:=mD C c (20+101*i) om om (λb a=>(d b a).1) om;simp only[gW,num,str]at hC;refine ae hC ?_;rintro r ⟨Y,rfl,Z⟩
    have R:Y.length<=64/\∀b∈Y,b.tx.length<=20+101*(i+1)/\b.af.length<=1000:=by
     rcases Z with rfl|⟨q,y,t,hq,ht,rfl⟩;exact⟨p,λb a=>⟨by have:=(d b a).1;omega,(d b a).2⟩⟩;refine⟨by simpa using p,λb a=> ?_⟩;rcases ww a with a|rfl;exact⟨by have:=(d b a).1;omega,(d b a).2⟩;exact⟨show t.length<=_ by have:=(d y (cu hq)).1;omega,(d y (cu hq)).2⟩
    simp only[go_sem,P,D,E,X,Ao];refine Zu ?_;refine Am (S-1) _ _ om ⟨rfl,i+1,Y,om,R.1,R.2,rfl⟩ (hent (aa _) ?_);exact Ag8
   have P:=eU i s.length;simp only[go_sem,P,Ao];refine Zu ?_;exact⟨_,_,bh _,rfl,aa _,rfl,⟨rv,v,C,J⟩,rfl,w,p,λb a=>⟨by have:=(d b a).1;omega,(d b a).2⟩⟩
theorem AaP(l:List Fc)(a:Ab)(c:List mC)(e:l.length<=16)(f:∀x∈l,N3 x)(b:a.length<=20)(g:c.length<=16)(d:∀x∈c,x.tx.length<=100):QA 70 [.sl 23 (l.map Qd),str a,.sl 5 (c.map gW)] (λr=>∃i:dV,r=.agg [str a,num i.rv,str i.ti,.sl 9 (i.bs.map b8),num i.ch]/\fH i):=
 (Aa.ny (ps:=λi:dV=>[str a,num i.rv,str i.ti]) (es:=λi:dV=>i.bs.map b8) (ys:=λi:dV=>[num i.ch]) (LI l a c e f b g d)).lf λr ⟨i,h,j⟩=>
  ⟨_,by rw[h];exact W1.agg (.same (.same (.same (Bl (.same .nil))))),rfl,i,rfl,j⟩
def Aoh(l:Ξ)(s)(a:l.length<=100000):QA 69 [.sl 1 (l.map str),str s] (λr=>∃l':Ξ,r=.sl 1 (l'.map str)/\l'.length<=l.length+1/\∀x∈l',x∈l\/x=s):=
 (AaO l s a).lf λr ⟨l',h,h1,h2⟩=>by exact AgZ
def Mf(e:Ab×dV):AV:=.agg [str e.1,num e.2.rv,str e.2.ti,.sl 9 (e.2.bs.map b8),num e.2.ch]
structure RN where
 au:Ab
 tp:Ξ
 pu:Int
 co:List mC
 re:Bool
 tk:Bool
structure ApW (i:RN):Prop where
 au:i.au.length<=20
 tp:i.tp.length<=10
 tn:∀t∈i.tp,t.length<=20
 ct:∀c∈i.co,c.tx.length<=100
def FK(a:Int)(i:RN)(t e c:AV):AV:=.box 71 [num a,str i.au,t,e,num i.pu,c,Af i.re,Af i.tk]
structure OU (id:Int) (s:Ap):Prop where
 id:s.id=id
 au:s.au.length<=20
 tp:s.tp.length<=10
 tn:∀t∈s.tp,t.length<=20
 ed:s.ed.length<=16
 ef:∀e∈s.ed,∃x:Ab×dV,e=Mf x/\x.1.length<=20/\fH x.2
 co:s.co.length<=16
 cf:∀c∈s.co,∃x:mC,c=gW x/\x.tx.length<=100
def Afe(l:List Fc)(E:Int)(hl:l.length<=16)(hk:∀x∈l,N3 x):QA 29 [.sl 23 (l.map Qd),num E] (λr=>∃s:Ap,r=ci s/\OU E s):=by
 refine ai (G7 [] [17] [(34,[104,111,10007],[0,2,3,4,5,7,1001,1006,1008],[2009,2010],[3011,12,3013])] func29 ?_) ⟨_,⟨E,[],[],[],0,[],false,false⟩,rfl,rfl,oS,oS,oS,oS,oS,oS,oS⟩;simp only[go_sem];refine Ad (rl [7,111]) [5,6] (λm B C=>C=[]/\∃(j:Nat) (o:List Fc),j+m=l.length/\o.length<=j/\(∀x∈o,N3 x)/\B=[.own 67 23 (o.map Qd),num j]) ⟨l.length,_,_,⟨rfl,0,[],om,oS,oS,rfl⟩,hent (aa _) ?_⟩ ?_
 .simp only[PU];repeat first|exact fb|refine EZ ?_ ?_|refine B7 ?_|refine Ju ?_|refine Bl ?_|refine c9 ?_|refine U3 ?_
 .rintro m B C ⟨rfl,j,o,hm,how,v,rfl⟩;simp only[PU];rcases cq j l.length with U|hge
  .have T:=eT j l.length;obtain⟨x,J,hd⟩:=Bj U;have g:=gX J;have hw:=wS j;have d:=hk x (cu J);have w:o.map Qd++[.agg [.raw (.int .i64 x.n),.raw (.int .i64 x.tm),.raw (.int .i64 x.kd),.raw (.int .i64 x.st),.raw (.string ⟨x.lg.toArray⟩),.raw (.int .i64 x.rv),.raw (.int .i64 x.bs),.raw (.string ⟨x.ti.toArray⟩),.raw (.string ⟨x.au.toArray⟩),.sl 1 (x.tp.map str),.sl 9 (x.bl.map b8),.raw (.int .i64 x.un),.sl 1 (Ar x.af),.raw (.int .i64 x.ap),.raw (.int .i64 x.de),.raw (.int .i64 x.ed),.raw (.int .i64 x.bk),.raw (.int .i64 x.se),.raw (.string ⟨x.tx.toArray⟩),.raw (.string ⟨x.nm.toArray⟩),.raw (.int .i64 x.pa),.raw (.int .i64 x.cl),.raw (.int .i64 x.ul)]]=(o++[x]).map Qd:=by simp[Qd,num,str]
   have V:∀y∈o++[x],N3 y:=λy t=>by
    rcases ff.1 t with t|t;exact v y t;rw[ga.1 t];exact d
   simp only[go_sem,T,g,hw,Ao];repeat' first|apply Aq.on<;>intro _|refine gD ?_|simp only[go_sem,T,g,hw,w,Ao]
   all_goals first
    |(refine Am (m-1) _ _ om ⟨rfl,j+1,o++[x],om,by simp;omega,V,rfl⟩ (hent (aa _) ?_)
      simp only[PU];repeat first|exact fb|refine EZ ?_ ?_|refine B7 ?_|refine Ju ?_|refine Bl ?_|refine c9 ?_|refine U3 ?_
      done)
    |(refine Am (m-1) _ _ om ⟨rfl,j+1,o,om,om,v,rfl⟩ (hent (aa _) ?_)
      simp only[PU];repeat first|exact fb|refine EZ ?_ ?_|refine B7 ?_|refine Ju ?_|refine Bl ?_|refine c9 ?_|refine U3 ?_
      done)
  have T:=eU j l.length;simp only[go_sem,T,Ao];refine Zu ?_;refine Ad (rl [6,1,4,107]) [5,7,8,9,10] (λz B C=>C=[]/\∃(i:Nat) (s:RN) (p:Bool) (b:Ξ),i+z=o.length/\ApW s/\s.co.length<=i/\b.length<=i/\(∀x∈b,x.length<=20)/\B=[.sl 23 (o.map Qd),FK E s (.sl 1 (s.tp.map str)) .nil (.own 132 5 (s.co.map gW)),Af p,.sl 1 (b.map str),num i]) ⟨o.length,_,_,⟨rfl,0,⟨[],[],0,[],false,false⟩,false,[],om,⟨oS,oS,oS,oS⟩,oS,oS,oS,rfl⟩,hent (aa _) ?_⟩ ?_
  .simp only[PU];try simp only[FK,num,str,Af]
   exact Zw
  .rintro z B C ⟨rfl,i,s,p,b,hm2,a,hsc,u6,f,rfl⟩;simp only[PU];try simp only[FK,num,str,Af]
   rcases cq i o.length with K|mu
   .have L:=eT i o.length;obtain⟨x,J,hdx⟩:=Bj K;have g:=gX J;have A:=wS i;have d:=v x (cu J);have w:s.co.map gW++[.agg [.raw (.string ⟨x.lg.toArray⟩),.raw (.int .i64 x.bk),.raw (.int .i64 x.se),.raw (.string ⟨x.tx.toArray⟩),.raw (.int .i64 x.n)]]=(s.co++[mC.mk x.lg x.bk x.se x.tx x.n]).map gW:=by simp[gW,num,str]
    have W:∀c∈s.co++[mC.mk x.lg x.bk x.se x.tx x.n],c.tx.length<=100:=λc F=>by
     rcases ff.1 F with F|F;exact a.ct c F;rw[ga.1 F];exact d.tx
    have X:∀H:Ξ,(∀y∈H,y∈b\/y=x.lg)->∀y∈H,y.length<=20:=λH h y t=>by
     rcases h y t with h|h;exact f y h;rw[h];exact d.lg
    have hxt:=d.tp;simp only[go_sem,L,g,A,Ao];repeat' first|apply Aq.on<;>intro _|refine gD ?_|simp only[go_sem,L,g,A,w,Ao]
    all_goals first
     |(refine Am (z-1) _ _ om ⟨rfl,i+1,s,p,b,om,a,om,om,f,rfl⟩ (hent (aa _) ?_)
       simp only[PU];try simp only[FK,num,str,Af]
       repeat first|exact fb|refine c9 ?_|refine EZ ?_ ?_|refine B7 ?_|refine Ju ?_|refine Bl ?_|refine U3 ?_
       done)
     |(refine Am (z-1) _ _ om ⟨rfl,i+1,{s with pu:=x.n},true,b,om,⟨a.au,a.tp,a.tn,a.ct⟩,by show s.co.length<=_;omega,om,f,rfl⟩ (hent (aa _) ?_)
       simp only[PU];try simp only[FK,num,str,Af]
       repeat first|exact fb|refine c9 ?_|refine EZ ?_ ?_|refine B7 ?_|refine Ju ?_|refine Bl ?_|refine U3 ?_
       done)
     |(refine Am (z-1) _ _ om ⟨rfl,i+1,s,true,b,om,a,om,om,f,rfl⟩ (hent (aa _) ?_)
       simp only[PU];try simp only[FK,num,str,Af]
       repeat first|exact fb|refine c9 ?_|refine EZ ?_ ?_|refine B7 ?_|refine Ju ?_|refine Bl ?_|refine U3 ?_
       done)
     |(refine Am (z-1) _ _ om ⟨rfl,i+1,{s with co:=s.co++[mC.mk x.lg x.bk x.se x.tx x.n]},p,b,om,⟨a.au,a.tp,a.tn,W⟩,by simp;omega,om,f,rfl⟩ (hent (aa _) ?_)
       simp only[PU];try simp only[FK,num,str,Af]
       repeat first|exact fb|refine c9 ?_|refine EZ ?_ ?_|refine B7 ?_|refine Ju ?_|refine Bl ?_|refine U3 ?_
       done)
     |(refine Am (z-1) _ _ om ⟨rfl,i+1,{s with re:=true},p,b,om,⟨a.au,a.tp,a.tn,a.ct⟩,by show s.co.length<=_;omega,om,f,rfl⟩ (hent (aa _) ?_)
       simp only[PU];try simp only[FK,num,str,Af]
       repeat first|exact fb|refine c9 ?_|refine EZ ?_ ?_|refine B7 ?_|refine Ju ?_|refine Bl ?_|refine U3 ?_
       done)
     |(refine Am (z-1) _ _ om ⟨rfl,i+1,{s with tk:=true},p,b,om,⟨a.au,a.tp,a.tn,a.ct⟩,by show s.co.length<=_;omega,om,f,rfl⟩ (hent (aa _) ?_)
       simp only[PU];try simp only[FK,num,str,Af]
       repeat first|exact fb|refine c9 ?_|refine EZ ?_ ?_|refine B7 ?_|refine Ju ?_|refine Bl ?_|refine U3 ?_
       done)
     |(refine Kh (cs1:= ?c1) (cs2:= ?c2) b3 Dc 1 ?e1 ?e2 ?h1
       case e1=>rfl
       case e2=>rfl
       simp only[py,qx,qw];simp only[go_sem];refine Zu ?_;apply Qb;exact CK;simp only[go_sem,g,A,Ao];refine Zu ?_;refine ae (Aoh b x.lg om) ?_;rintro r ⟨H,rfl,hl3,M⟩;simp only[go_sem,g,A,Ao];refine Zu ?_;refine Am (z-1) _ _ om ⟨rfl,i+1,{s with au:=x.au,tp:=x.tp},p,H,om,⟨d.au,d.tp,d.tn,a.ct⟩,by show s.co.length<=_;omega,om,X H M,rfl⟩ (hent (aa _) ?_);simp only[PU];try simp only[FK,num,str,Af]
       repeat first|exact fb|refine c9 ?_|refine EZ ?_ ?_|refine B7 ?_|refine Ju ?_|refine Bl ?_|refine U3 ?_
       done)
   have L:=eU i o.length;simp only[go_sem,L,Ao];repeat' first|apply Aq.on<;>intro _|refine gD ?_|simp only[go_sem,L,Ao]
   exact⟨ci ⟨E,[],[],[],s.pu,[],false,true⟩,_,W1.agg (.same (.same (B7 (B7 (.same (B7 (.same (.same .nil)))))))),rfl,aa _,rfl,_,rfl,rfl,oS,oS,oS,oS,oS,oS,oS⟩;refine Ad (rl [6,1,1,1,1,2,1,105]) [7,9,12] (λY B C=>C=[]/\∃(k:Nat) (u:List (Ab×dV)),k+Y=b.length/\u.length<=k/\(∀e∈u,e.1.length<=20/\fH e.2)/\B=[FK E s (.sl 1 (s.tp.map str)) (.own 101 5 (u.map Mf)) (.sl 5 (s.co.map gW)),.sl 1 (b.map str),num k]) ⟨b.length,_,_,⟨rfl,0,[],om,oS,oS,rfl⟩,hent (aa _) ?_⟩ ?_
   .simp only[PU];try simp only[FK,num,str,Af]
    repeat first|exact fb|refine c9 ?_|refine EZ ?_ ?_|refine B7 ?_|refine Ju ?_|refine Bl ?_|refine U3 ?_
   .rintro Y B C ⟨rfl,k,u,M,hes,N,rfl⟩;simp only[PU];try simp only[FK,num,str,Af]
    rcases cq k b.length with O|hge3
    .have ek:=eT k b.length;obtain⟨I,P,hdl⟩:=Bj O;have Q:=Cd P;have R:=wS k;simp only[go_sem,ek,Q,R,Ao];refine Zu ?_;have D:=f I (cu P);refine ae (AaP o I s.co om v D om a.ct) ?_;rintro r ⟨q,rfl,Z⟩;have w:u.map Mf++[.agg [.raw (.string ⟨I.toArray⟩),.raw (.int .i64 q.rv),.raw (.string ⟨q.ti.toArray⟩),.sl 9 (q.bs.map b8),.raw (.int .i64 q.ch)]]=(u++[(I,q)]).map Mf:=by simp[Mf,num,str]
     have S:∀e∈u++[(I,q)],e.1.length<=20/\fH e.2:=λe G=>by
      rcases ff.1 G with G|G;exact N e G;rw[ga.1 G];exact⟨D,Z⟩
     simp only[num,str];simp only[go_sem,ek,Q,R,Ao];refine Zu ?_;refine Am (Y-1) _ _ om ⟨rfl,k+1,u++[(I,q)],om,by simp;omega,S,rfl⟩ (hent (aa _) ?_);simp only[PU];try simp only[FK,num,str,Af]
     repeat first|exact fb|refine c9 ?_|refine EZ ?_ ?_|refine B7 ?_|refine Ju ?_|refine Bl ?_|refine U3 ?_
     done
    have ek:=eU k b.length;simp only[go_sem,ek,Ao];refine Z1 ek ?_
    exact⟨ci ⟨E,s.au,s.tp,u.map Mf,s.pu,s.co.map gW,s.re,s.tk⟩,_,W1.agg (.same (.same (.same (Bl (.same (.same (.same (.same .nil)))))))),rfl,aa _,rfl,_,rfl,rfl,a.au,a.tp,a.tn,by show(u.map Mf).length<=16;simp;omega,λe G=>by
     obtain⟨y,t,rfl⟩:=dm.1 G;exact⟨y,rfl,N y t⟩,by show(s.co.map gW).length<=16;simp;omega,λc F=>by
     obtain⟨y,t,rfl⟩:=dm.1 F;exact⟨y,rfl,a.ct y t⟩⟩
structure Bq where
 id:Int
 au:Ab
 tp:Ξ
 ed:List (Ab×dV)
 pu:Int
 co:List mC
 re:Bool
 tk:Bool
def Bq.s(t:Bq):Ap:=⟨t.id,t.au,t.tp,t.ed.map Mf,t.pu,t.co.map gW,t.re,t.tk⟩
def zT:Bq:=⟨0,[],[],[],0,[],false,false⟩
def zE:Ab×dV:=([],⟨0,[],[],0⟩)
def Ga(M:List Bq)(i:Int):Option Bq:=M.find? (λt=>decide (t.id=i))
def Ki(l:List (Ab×dV))(a:Ab):Option (Ab×dV):=l.find? (λe=>decide (e.1=a))
def Tv(t:Bq):AV:=.agg [num t.id,str t.au,.sl 1 (t.tp.map str),.sl 5 (t.ed.map Mf),num t.pu,.sl 5 (t.co.map gW),Af t.re,Af t.tk]
def I8(M:List Bq)(t:Φ):AV:=.agg [.sl 8 (M.map Tv),.sl 2 t]
def Nk(M t):I8 M t=stA (M.map Bq.s) t:=by simp only[I8,stA,lq];rfl
def A_{M:List Bq}{i:Nat}(h:i<M.length):(M.map Tv).getD i .any=Tv M[i]:=by simp[fk,h]
def AD{l:List (Ab×dV)}{i:Nat}(h:i<l.length):(l.map Mf).getD i .any=Mf l[i]:=by simp[fk,h]
def W1.zs:W1 (.agg [num 0,str [],.nil,.nil,num 0,.nil,Af false,Af false]) (Tv zT):=W1.agg (.same (.same (B7 (B7 (.same (B7 (.same (.same .nil))))))))
def W1.ze:W1 (.agg [str [],num 0,str [],.nil,num 0]) (Mf zE):=W1.agg (.same (.same (.same (B7 (.same .nil)))))
def AaR{M:List Bq}{a i}(b:i<M.length)(h:¬M[i].id=a):Ga (M.drop i) a=Ga (M.drop (i+1)) a:=by unfold Ga;rw[j0 b,d9 (by simpa using h)]
def AaS{M:List (Ab×dV)}{l i}(a:i<M.length)(h:¬M[i].1=l):Ki (M.drop i) l=Ki (M.drop (i+1)) l:=by unfold Ki;rw[j0 a,d9 (by simpa using h)]
def Nl(M t)(h:M.length<=1000000)(id):QA 192 [I8 M t,num id] (λr=>r=.a6 [Tv ((Ga M id).getD zT),Af (Ga M id).isSome]):=by
 simp only[I8];refine ai (Zt [] [] [] func192 ?_) ⟨_,rfl⟩;refine Ad (rl [3,1,2,3,3,10]) [11] (λm xs a=>a=[]/\∃i,i+m=M.length/\xs=[num i]/\Ga M id=Ga (M.drop i) id) ⟨M.length,_,_,⟨rfl,0,om,rfl,oS⟩,hent (aa _) ?_⟩ ?_
 .exact Zw
 .exact ϗ
def Nm(t:Bq)(h:t.ed.length<=1000000)(la):QA 194 [Tv t,str la] (λr=>r=.a6 [Mf ((Ki t.ed la).getD zE),Af (Ki t.ed la).isSome]):=by simp only[Tv];refine ai (Zt [] [] [] func194 ?_) ⟨_,rfl⟩;refine Ad (rl [3,1,2,3,3,10]) [11] (λm xs a=>a=[]/\∃i,i+m=t.ed.length/\xs=[num i]/\Ki t.ed la=Ki (t.ed.drop i) la) ⟨t.ed.length,_,_,⟨rfl,0,om,rfl,oS⟩,hent (aa _) ?_⟩ ?_;exact Zw;exact ϛ
def Aff[Env]{P T b K}(d a t v y):On P T (some d) (.call ⟨.builtin .append,#[.const v,y],#[a,t]⟩) b K=(a=t/\match T a with
 |some i=>match i.td.elem with
  |some e=>match T e with
   |some j=>D9 b e j (.const v) y (some d) K
   |none=>False
  |none=>False
 |none=>False):=by
 unfold On Wb;simp only[Gm];rfl
attribute [go_sem] Aff
section
variable{P:Program}{T:Br}{H:Hw}
def Afg(a:Act)(d)(u v:Value):(a.put (some d) u).put (some d) v=a.put (some d) v:=by
 have:(a.tmps.setIfInBounds d u).setIfInBounds d v=a.tmps.setIfInBounds d v:=by apply Array.ext';simp
 simp only[Act.put,this]
def ApX(P:Program)(T:Br)(H:Hw)(Q:Exit->Ω)(d q b t e k:Nat)(c:List CO)(f a:Φ):Prop:=
 d<a.length/\hop P T H (some d) (.call ⟨.builtin .append,#[.tmp d,.tmp q],#[b,t]⟩) f (a.set d (.mine e k [])) (fa P T H p6 [] (Q .normal) (ly Q) c) (λ_ _ _=>False)
def aU (W:Ax P T) (X:C1 P H) (n e k:Nat) {id d M t q:Nat} {g:Ϡ} {o:Oper} {B x:List CO} {Q:Exit->Ω} {Y Z:Φ} (hb1:fa P T H p6 [] (ApX P T H Q d q M t e k x) (ly Q) B Y Z) (h1:Dz g (g.toList.take n)=some B:=by rfl) (ho:g[n]? =some o:=by rfl)
 (h2:Dz g (g.toList.drop (n+1))=some x:=by rfl) (hpo:o.op=.call ⟨.builtin .append,#[.const (.slice none 0 0),.tmp q],#[M,t]⟩:=by rfl) (G:o.dst=some d:=by rfl) (N:o.guard=none:=by rfl) (hne:d≠q:=by decide)
 :Cp P T H (.ext (.region id g false)) Q Y Z:=λC w0 S0 c0 a w hst=>by
 refine wp_region ?_;have hl:(List.range g.size).map (g[·]?)=g.toList.map some:=by exact CJ
 have hn:n<g.size:=(ah.1 ho).1;rw[<-ki n (List.range g.size)];refine Nj W X (Rr P) _ _ (g.toList.take n) B Y Z a w ?_ h1 hst hb1 (λj l m O D U=> ?_) (λv j l m O hE D=>⟨j,l,hE,D⟩)
 .rw[ol,ol,hl]
 .obtain⟨hlt,U⟩:=U;have hdr:List.drop n (List.range g.size)=n::List.drop (n+1) (List.range g.size):=by rw[j0 (by simpa using hn)];simp
  rw[hdr];simp only[wpOps,ho];have hw:Region.wanted o (yielded g m.tmps)=true:=by simp[Region.wanted,N]
  rw[bn hw];refine .inl ?_;have J:Ah C w0 S0 c0 j (l.set d (.mine e k [])) (m.put (some d) (.slice none 0 0)) O:=by obtain⟨S,c,c1,gv,E,V,N,h1,z,hz,D⟩:=D;obtain⟨c4,g2,g3⟩:=V.am (y:=.mine e k []) (u:=.slice none 0 0) (.dt (.nil Al)) (some d);exact⟨S,c4,c1,gv,E.am (some d) _ rfl,g2,N,λb=>by have:=h1 b;have:=g3 b;omega,by rw[G5];exact z,hz,D.drop λb=>by have:=g3 b;show c4 b+c1 b<=c b+c1 b;omega⟩
  have hsz:d<m.tmps.size:=by obtain⟨S,c,c1,gv,E,V,_⟩:=D;have:=V.length;simp at this;omega
  have i:=F4 (o:={o with op:=.call ⟨.builtin .append,#[.tmp d,.tmp q],#[M,t]⟩}) (Q:=λ_ _ _=>False) W X J (by rw[<-G]at U;exact U) (λv j l O h _=>h);have he1:(m.put (some d) (.slice none 0 0)).eval (.tmp d)=.slice none 0 0:=by simp[Act.eval,Act.put,hsz]
  have he2:(m.put (some d) (.slice none 0 0)).eval (.tmp q)=m.eval (.tmp q):=by simp[Act.eval,Act.put,vw,Array.getElem?_setIfInBounds,hne]
  have hex:execOp (m.put (some d) (.slice none 0 0)).eval {o with op:=.call ⟨.builtin .append,#[.tmp d,.tmp q],#[M,t]⟩}=execOp m.eval o:=by unfold execOp;simp only[hpo];simp[he1,he2,resolve,show m.eval (.const (.slice none 0 0))=.slice none 0 0 from rfl];rfl
  unfold Oper.wp at i⊢;rw[hex]at i;generalize (execOp m.eval o).run P O=R at i;have A:∀a2 I v,a2=(m.put (some d) (.slice none 0 0)).put (some d) v->(∃j l,fa P T H p6 [] (Q .normal) (ly Q) x j l/\Ah C w0 S0 c0 j l a2 I)->wpOps P g (Zi C w0 S0 c0 Q) (List.drop (n+1) (List.range g.size)) (m.put o.dst v) I:=by rintro a2 I v rfl ⟨j2,K,g1,g2⟩;rw[Afg,<-G]at g2;refine Iu W X (Rr P) _ (g.toList.drop (n+1)) x _ K _ I ?_ h2 g2 g1 (λp s a'' w'' F hK=>⟨p,s,hK,F⟩) (λv p s a'' w'' hE F=>⟨p,s,hE,F⟩);rw[pm,pm,hl]
  cases R with
  |ok nx I=>
   cases nx with
   |value v=>exact A _ _ v (by rw[G]) i
   |skip=>exact A _ _ undef (by rw[G]) i
   |enter f args=>
    refine Calls.mono i λe w3 hq=> ?_
    cases e with
    |returned v=>exact A _ _ v (by rw[G]) hq
    |panicked c=>exact hq.elim
    |outgrown=>obtain⟨_,_,h⟩:=hq;exact h.elim
   |defer df=>obtain⟨j2,K,g1,S,c,c1,gv,E,V,N,h1,z,_⟩:=i;obtain⟨_,_,_,_,_,_,_,_,L,_⟩:=D;rw[G5]at z;have:=fq List.length z;have e2:=fq List.length L;simp[Act.put]at this;omega
   |row r args=>exact Rows.mono i λv w3 hq=>A _ _ v (by rw[G]) hq
   |_=>exact i.elim
  |halt h I=>cases h<;>exact i.elim
end
def Q6(l:List Bk)(o:l.length<=1000000)(i:∀b∈l,Ht b):QA 193 [.sl 9 (l.map b8)] (λr=>r=.mine 77 9 (l.map b8)):=by refine ai (G7 [(2,[100003],[]),(7,[100003],[])] [1] [] func193 ?_) ⟨_,rfl⟩;simp only[go_sem];refine Zu ?_;refine aU b3 Dc 1 77 9 ?_;simp only[qv,gx];simp only[go_sem];refine Zu ?_;refine Ad (rl [4,1,4,17]) [9] (λm e f=>f=[]/\∃j:Nat,j+m=l.length/\e=[num j]) ⟨l.length,_,_,⟨rfl,0,om,rfl⟩,hent (aa _) ?_⟩ ?_;exact Zw;rintro m e f ⟨rfl,j,p,rfl⟩;simp only[PU];rcases cq j l.length with h|hge;have ej:=eT j l.length;obtain⟨x,a,q⟩:=Bj h;have c:=Iq a;have k:=wS j;have n:=(i x (cu a)).af;have d:(Ar x.af).length=x.af.length:=Ao _;have g:(l.map b8).set j (b8 x)=l.map b8:=Ag (by rw[ao,a];rfl);simp only[b8,num,str]at g;refine Z5 ej c k d g ?_;exact Zm (m-1) ⟨rfl,j+1,om,rfl⟩;have ej:=eU j l.length;exact eP
theorem AE(M a)(f:M.length<=1000000)(g:∀t∈M,t.ed.length<=1000000/\∀e∈t.ed,e.2.bs.length<=1000000/\∀b∈e.2.bs,Ht b)(i l):
 QA 133 [I8 M a,num i,str l] (λr=>r=.a6 [Mf ((Ki ((Ga M i).getD zT).ed l).getD zE),Af (Ki ((Ga M i).getD zT).ed l).isSome]):=by
 have c:((Ga M i).getD zT).ed.length<=1000000/\∀e∈((Ga M i).getD zT).ed,e.2.bs.length<=1000000/\∀b∈e.2.bs,Ht b:=by
  cases h:Ga M i with
  |none=>simp [zT]
  |some t=>exact g t (i8 h)
 have d:((Ki ((Ga M i).getD zT).ed l).getD zE).2.bs.length<=1000000/\∀b∈((Ki ((Ga M i).getD zT).ed l).getD zE).2.bs,Ht b:=by
  cases h:Ki ((Ga M i).getD zT).ed l with
  |none=>simp [zE]
  |some e=>exact c.2 e (i8 h)
 refine ai (G7 [] [] [] func133 ?_) ⟨_,rfl⟩;simp only[I8];refine Z0 ?_;refine Zh (Nl M a f i) ?_;generalize (Ga M i).getD zT=t at *;simp only[Tv,num,str,Af];refine Z0 ?_;refine Zh (Nm t c.1 l) ?_;generalize Ki t.ed l=o at *;generalize j:o.getD zE=y at *;simp only[Mf,num,str,Af];refine Z0 ?_;refine Zh (Aa.freeze (Q6 y.2.bs d.1 d.2)) ?_;exact⟨_,_,eu (.cons (W1.agg (.same (.same (.same (Bl (.same .nil)))))) rfl (.same .nil)),rfl,aa _,rfl,rfl⟩
def Rs(t:Ab)(s:Bq):Bool:= !s.re&& !s.tk&&decide (0<s.ed.length)&&decide (t∈s.tp)
def i1(M:List Bq)(t:Ab):Nat:=(M.filter (Rs t)).length
def Tw(M t):i1 M t<=M.length:=kh _ _
def FL{M:List Bq}{t:Ab}{i x}(h:M[i]? =some x):i1 (M.take (i+1)) t=i1 (M.take i) t+(if Rs t x=true then 1 else 0):=by unfold i1;rw[fc,h,Ast,dc];cases a:Rs t x<;>simp[a]
def AaT(M:List Bq)(p)(w:M.length<=1000000)(q:∀s∈M,s.ed.length<=1000000/\s.tp.length<=1000000)(t):QA 272 [I8 M p,str t] (λr=>r=num (i1 M t)):=by
 simp only[I8];refine ai (Zt [] [] [] func272 ?_) ⟨_,rfl⟩;refine Ad (rl [3,5,3,28]) [5,11] (λm n o=>o=[]/\∃i,i+m=M.length/\n=[num (i1 (M.take i) t),num i]) ⟨M.length,_,_,⟨rfl,0,om,rfl⟩,hent (aa _) ?_⟩ ?_;exact Zw
 .rintro m n o ⟨rfl,i,y,rfl⟩;simp only[PU];have l:=Tw (M.take i) t;rw[fw]at l;by_cases f:i<M.length;rotate_left
  have ej:=eU i M.length;exact nT;have ej:=eT i M.length;have b:=A_ f;have u:M[i]? =some M[i]:=by simp[f]
  have hs:=FL (t:=t) u;have v:=q M[i] (ko _);generalize M[i]=x at *;generalize i1 (M.take i) t=c at *;have e:=wS i;have g:=wS c;simp only[Tv,num,str,Af]at b;cases h:x.re
  .cases d:x.tk
   .by_cases hlen:0<x.ed.length
    .have j:=bc (show(0:Int)<(x.ed.length:Int) by omega);have a:Rs t x=decide (t∈x.tp):=by simp[Rs,h,d,hlen]
     refine Z6 ej b h d j e ?_;refine ae (M9 x.tp t om) ?_;rintro r rfl;simp only[Af];cases k:decide (t∈x.tp);rw[a,k]at hs;refine Z8 ej b h d j e k g ?_;exact nQ;rw[a,k]at hs;refine Z8 ej b h d j e k g ?_;exact nQ
    have j:=bd (show¬(0:Int)<(x.ed.length:Int) by omega);have a:Rs t x=false:=by simp[Rs,hlen]
    rw[a]at hs;refine Z6 ej b h d j e ?_;exact nQ
   have a:Rs t x=false:=by simp[Rs,d]
   rw[a]at hs;refine Z5 ej b h d e ?_;exact nQ
  have a:Rs t x=false:=by simp[Rs,h]
  rw[a]at hs;refine Z4 ej b h e ?_;exact nQ
def Tx(l:List Bk)(g:Nat)(q)(p:Bk->Bool)(w:l.length<=1000000)(u:∀s∈l,QA g (b8 s::q) (λr=>r=Af (p s))):
 QA 317 [.sl 9 (l.map b8),.ee g q] (λr=>(r=num (-1)/\l.find? p=none)\/∃(j:Nat) (x:Bk),r=num j/\l[j]? =some x/\l.find? p=some x):=by
 have d:∃r,(r=num (-1)/\l.find? p=none)\/∃(j:Nat) (x:Bk),r=num j/\l[j]? =some x/\l.find? p=some x:=by
  cases h:l.find? p with
  |none=>exact⟨_,.inl ⟨rfl,rfl⟩⟩
  |some x=>obtain⟨j,v⟩:=dn (i8 h);exact⟨_,.inr ⟨j,x,rfl,v,rfl⟩⟩
 refine Zs [] func317 d ?_;refine Ak (rl [5,1,2,11]) [8] (λn t=>∃i:Nat,i+n=l.length/\l.find? p=(l.drop i).find? p/\t=[num i]) ⟨l.length,_,⟨0,om,oS,rfl⟩,?_⟩ ?_;exact Zw
 .rintro n t ⟨i,y,b,rfl⟩;simp only[PU];by_cases f:i<l.length;rotate_left
  have e:=eU i l.length;refine Z1 e ?_;exact .inl (by rw[b,n9 om];rfl);have e:=eT i l.length;obtain⟨x,k,m⟩:=Bj f;have a:=Iq k;have o:=wS i;refine Z3 e a o ?_;refine Zb (u x (cu k)) ?_ (by simp only[b8,num,str];exact Zv);rintro r rfl;rw[m]at b;simp only[Af];cases c:p x;refine Z4 e a o c ?_;exact Zl (n-1) ⟨i+1,om,by rw[b,d9 (by simpa using c)],rfl⟩;refine Z4 e a o c ?_;exact .inr ⟨i,x,rfl,k,by rw[b,d8 c]⟩
def Wu(q b):QA 318 [b8 q,.elt (b8 b)] (λr=>r=Af (decide (q.id=b.rf))):=by simp only[b8];refine G6 [] func318 ⟨_,rfl⟩ ?_;exact Ze
def zB:Bk:=⟨0,0,[],0,0,0,[],0,0⟩
def Vp:Ab:=[91,114,101,109,111,118,101,100,93]
def wd:Ab:=[91,114,101,116,114,97,99,116,101,100,93]
def Alt:Ab:=[91,99,105,114,99,117,108,97,114,93]
def Hl(M:List Bq)(l:Ab)(b:Bk):Bk×Ab:=match Ga M b.so with
 |none=>(zB,Vp)
 |some t=>match t.ed with
  |[]=>(zB,Vp)
  |e0::_=>match((Ki t.ed l).getD e0).2.bs.find? (λq=>decide (q.id=b.rf))with
   |none=>(zB,Vp)
   |some q=>if t.re=true then(zB,wd)else(q,[])
structure mF (M:List Bq):Prop where
 len:M.length<=1000000
 tp:∀t∈M,t.tp.length<=1000000
 ed:∀t∈M,t.ed.length<=1000000
 co:∀t∈M,t.co.length<=1000000
 bs:∀t∈M,∀e∈t.ed,e.2.bs.length<=1000000
 bk:∀t∈M,∀e∈t.ed,∀b∈e.2.bs,Ht b
 tx:∀t∈M,∀e∈t.ed,∀b∈e.2.bs,b.tx.length<=900000
 ti:∀t∈M,∀e∈t.ed,e.2.ti.length<=1000000
 ct:∀t∈M,∀c∈t.co,c.tx.length<=1000000
def W1.zb:W1 (.agg [num 0,num 0,str [],num 0,num 0,num 0,.nil,num 0,num 0]) (b8 zB):=W1.agg (.same (.same (.same (.same (.same (.same (B7 (.same (.same .nil)))))))))
def LJ(M l)(g:mF M)(la b):QA 271 [I8 M l,str la,b8 b] (λr=>r=.a6 [b8 (Hl M la b).1,str (Hl M la b).2]):=by
 refine ai (G7 [(7,[5],[])] [] [] func271 ?_) ⟨_,rfl⟩;simp only[I8,b8];refine Z0 ?_;refine ae (Nl M l g.len b.so) ?_;rintro r rfl
 cases f:Ga M b.so with
 |none=>
  have hq:Hl M la b=(zB,Vp):=by simp[Hl,f]
  rw[hq];simp only[nz,mf,Tv,zT,num,str,Af];refine Z0 ?_;exact GT
 |some t=>
  have m:t∈M:=i8 f;have i:=g.ed t m;simp only[jy,ng,Tv,num,str,Af]
  cases he:t.ed with
  |nil=>
   have hq:Hl M la b=(zB,Vp):=by simp[Hl,f,he]
   rw[hq];simp only[db];refine Z0 ?_;exact GT
  |cons e0 es=>
   have j:((t.ed.length:Nat):Int)=0↔False:=by rw[he];simp;omega
   have o:=propext j;rw[<-he];refine Z1 o ?_;refine ae (Nm t i la) ?_;rintro r rfl;have n:(t.ed.map Mf).getD 0 .any=Mf e0:=by rw[he];rfl
   obtain⟨e,h⟩:∃e,(Ki t.ed la).getD e0=e:=⟨_,rfl⟩;have k:e∈t.ed:=by rw[<-h];exact GR
   have hq:Hl M la b=match e.2.bs.find? (λq=>decide (q.id=b.rf))with
    |none=>(zB,Vp)
    |some q=>if t.re=true then(zB,wd)else(q,[]):=by simp only[Hl,f,he];rw[<-he,h]
   have c:=g.bs t m e k
   cases d:Ki t.ed la with
   |none=>rw[d]at h;simp only[nz]at h;subst h;simp only[nz,mf,zE,Mf,num,str,Af];simp only[Mf,num,str]at n;have a:=bc (show 0<t.ed.length by rw[he];simp);refine Z2 n a ?_;refine ae (Tx e0.2.bs 318 [.elt (b8 b)] (λq=>decide (q.id=b.rf)) c (λs _=>Wu s b)) ?_;exact ϓ
   |some y=>rw[d]at h;simp only[jy]at h;subst h;simp only[jy,ng,Mf,num,str,Af];have a:=bc (show 0<t.ed.length by rw[he];simp);refine Z1 a ?_;refine ae (Tx y.2.bs 318 [.elt (b8 b)] (λq=>decide (q.id=b.rf)) c (λs _=>Wu s b)) ?_;exact ϓ
def Og(b:Bk):Φ:=[num b.id,num b.kd,str b.tx,num b.so,num b.rf,num b.un,.sl 1 (Ar b.af),num b.ap,num b.de]
def I4(M:List Bq)(l:Ab):Nat->Bk->Ab
 |0,b=>if b.kd=3 then Alt else if b.kd=5 then itoa (i1 M b.tx:Nat)else b.tx
 |n+1,b=>if b.kd=3 then(if(Hl M l b).2=[]then I4 M l n (Hl M l b).1 else(Hl M l b).2)else if b.kd=5 then itoa (i1 M b.tx:Nat)else b.tx
def sZ(M l n b)(h:¬b.kd=3):I4 M l n b=if b.kd=5 then itoa (i1 M b.tx:Nat)else b.tx:=by cases n<;>simp[I4,h]
def AaV{M}(c)(i:11<=c)(h:∀t∈M,∀e∈t.ed,∀b∈e.2.bs,b.tx.length<=c)(la b):(Hl M la b).1.tx.length<=c/\(Hl M la b).2.length<=c:=by
 unfold Hl;split;simp[zB,Vp];omega;rename_i t d;have f:=i8 d;split;simp[zB,Vp];omega;rename_i g j he;have a:((Ki t.ed la).getD g)∈t.ed:=by exact GR
 split;simp[zB,Vp];omega;rename_i q hq;have:=h t f _ a q (i8 hq);split;simp[zB,wd];omega;simp;exact this
def Ty{M}(c)(f:30<=c)(g:M.length<=1000000)(h:∀t∈M,∀e∈t.ed,∀b∈e.2.bs,b.tx.length<=c)(l):∀(n:Nat) (b:Bk),b.tx.length<=c->(I4 M l n b).length<=c:=by
 have d:∀t,(itoa (i1 M t:Nat)).length<=c:=λt=>by have:=Tw M t;exact nR
 intro n
 induction n with
 |zero=> intro b a;unfold I4;split;simp[Alt];omega;split;exact d _;exact a
 |succ n ih=> intro b a;have hq:=AaV c om h l b;unfold I4;split;split;exact ih _ hq.1;exact hq.2;split;exact d _;exact a
def aV(M:List Bq)(t)(h:mF M)(la:Ab)(b):QA 197 [I8 M t,str la,b8 b] (λr=>r=str (I4 M la 8 b)):=by have d:∀b,b8 b=.agg (Og b):=λ_=>rfl;refine ai (G7 [] [] [] func197 ?_) ⟨_,rfl⟩;simp only[I8,b8];refine Z0 ?_;refine Ad (rl [5,1,1,31]) [5,7] (λm x a=>a=[]/\∃i b',i+m=8/\x=[.box 77 (Og b'),num (i:Nat)]/\I4 M la 8 b=I4 M la (8-i) b') ⟨8,_,_,⟨rfl,0,b,om,rfl,rfl⟩,hent (aa _) ?_⟩ ?_;exact Zw;rintro m x a ⟨rfl,i,b',f,rfl,hd⟩;simp only[PU,Og];by_cases hk:b'.kd=3;have ek:=bc hk;by_cases h8:i=8;have e8:=bc (show(i:Int)=8 by omega);exact AhF;have e8:=bd (show¬(i:Int)=8 by omega);have hw:=wS i;obtain⟨n,hn⟩:∃n,8-i=n+1:=⟨7-i,om⟩;refine Z2 ek e8 ?_;refine ae (LJ M t h la b') ?_;exact Ϸ;have ek:=bd hk;have hr:=sZ M la (8-i) b' hk;rw[hd,hr];by_cases c:b'.kd=5;have e:=bc c;refine Z2 ek e ?_;refine Zh (AaT M t h.len (λs hs=>⟨h.ed s hs,h.tp s hs⟩) b'.tx) ?_;have:=Tw M b'.tx;have:=h.len;refine Zh (Em (i1 M b'.tx:Nat) ⟨om,om⟩) ?_;exact Zx;have e:=bd c;refine Z2 ek e ?_;exact Zx
end Go.Proofs.YtobhohikfmlccaaGreatDoor
