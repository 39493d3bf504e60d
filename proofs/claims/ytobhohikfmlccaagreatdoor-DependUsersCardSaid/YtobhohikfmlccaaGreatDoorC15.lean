/- The reference of states: quotes, what a block shows. -/
import Derived.Test.YtobhohikfmlccaaGreatDoorC14
set_option linter.all false
set_option maxRecDepth 100000
set_option maxHeartbeats 4000000
open Go.RowKit Go.Proofs Tryz Go.Lib Go.IntKind
namespace Go.Proofs.YtobhohikfmlccaaGreatDoor
def AN(M:List Bq)(A)(s:mF M)(la:Ab)(b):QA 343 [I8 M A,str la,b8 b] (λr=>r=.a6 [b8 (Hl M la b).1,str (Hl M la b).2]):=by
 refine ai (G7 [(1000007,[],[])] [] [(10,[],[0,2,6,2001,3,4,2005,2007,8],[],[])] func343 ?_) ⟨_,rfl⟩;simp only[I8,b8];refine Z0 ?_;refine ae (Xx M A s.len b.so) ?_;rintro r rfl
 cases a:Ga M b.so with
 |none=>
  have hq:Hl M la b=(zB,Vp):=by simp[Hl,a]
  rw[hq];simp only[nz,mf,Tv,zT,num,str,Af];refine Z0 ?_;exact GT
 |some t=>
  have H:t∈M:=i8 a;have I:=s.ed t H;simp only[jy,ng,Tv,num,str,Af]
  cases he:t.ed with
  |nil=>
   have hq:Hl M la b=(zB,Vp):=by simp[Hl,a,he]
   rw[hq];simp only[db];refine Z0 ?_;exact GT
  |cons e0 es=>
   have B:((t.ed.length:Nat):Int)=0↔False:=by rw[he];simp;omega
   have B:=propext B;have c:=bc (show 0<t.ed.length by rw[he];simp);have C:(t.ed.map Mf).getD 0 .any=Mf e0:=by rw[he];rfl
   obtain⟨e,hee⟩:∃e,(Ki t.ed la).getD e0=e:=⟨_,rfl⟩;have D:e∈t.ed:=by rw[<-hee];exact GR
   have hq:Hl M la b=match e.2.bs.find? (λq=>decide (q.id=b.rf))with
    |none=>(zB,Vp)
    |some q=>if t.re=true then(zB,wd)else(q,[]):=by simp only[Hl,a,he];rw[<-he,hee];rfl
   have J:=s.bs t H e D;have u:=Pj M A s b.so la;rw[a]at u;simp only[jy,I8]at u;rw[<-he,hq];refine Z1 B ?_;refine ae u ?_;rintro r rfl;have E:∃(y:Ab×dV) (k:Bool),((Ki t.ed la).getD zE)=y/\(Ki t.ed la).isSome=k/\(k=true->y=e)/\(k=false->e=e0):=by exact a_
   obtain⟨y,k,d,f,g,j⟩:=E;rw[d,f];simp only[Mf,num,str,Af]at C⊢;simp only[go_sem];refine Z0 ?_;refine Bv (rl [10,54]) [10] (λl n=>n=[]/\l=[.box 101 [str e.1,num e.2.rv,str e.2.ti,.sl 9 (e.2.bs.map b8),num e.2.ch]]) ?_ ?_
   .cases k with
    |true=>have:=g rfl;subst this;refine Z0 ?_;exact Im
    |false=>have:=j rfl;subst this;refine Z2 C c ?_;exact Im
   rintro l n ⟨rfl,rfl⟩;simp only[PU];clear d f g j hee C u he hq;refine Z0 ?_;refine Ad (rl [12,52]) [12] (λm l n=>n=[]/\∃i,i+m=e.2.bs.length/\l=[num i]/\e.2.bs.find? (λq=>decide (q.id=b.rf))=(e.2.bs.drop i).find? (λq=>decide (q.id=b.rf))) ⟨e.2.bs.length,_,_,⟨rfl,0,om,rfl,oS⟩,hent (aa _) ?_⟩ ?_
   .exact Zw
   .rintro m l n ⟨rfl,i,N,rfl,v⟩;simp only[PU];by_cases F:i<e.2.bs.length;rotate_left
    .have o:=eU i e.2.bs.length;rw[v,n9 om];refine Z1 o ?_;exact GT
    have o:=eT i e.2.bs.length;obtain⟨x,K,G⟩:=Bj F;have h:=Iq K;have L:=wS i;rw[G]at v;by_cases w:x.id=b.rf
    .have ek:=bc w;rw[v,d8 (by simpa using w)];cases p:t.re
     .refine Z4 o h ek p ?_;exact Zx
     .refine Z4 o h ek p ?_;exact GT
    .have ek:=bd w;refine Z4 o h ek L ?_;exact Zm (m-1) ⟨rfl,i+1,om,rfl,by rw[v,d9 (by simpa using w)]⟩
def Wy(M:List Bq)(tm)(hM:mF M)(la:Ab)(b):QA 290 [I8 M tm,str la,b8 b] (λr=>r=str (I4 M la 8 b)):=by
 refine ai (G7 [] [] [] func290 ?_) ⟨_,rfl⟩;simp only[I8,b8];refine Z0 ?_;refine Ad (rl [5,2,36]) [5,7] (λm x a=>a=[]/\∃i b',i+m=8/\x=[.box 77 (Og b'),num (i:Nat)]/\I4 M la 8 b=I4 M la (8-i) b') ⟨8,_,_,⟨rfl,0,b,om,rfl,rfl⟩,hent (aa _) ?_⟩ ?_
 .exact Zw
 .rintro m x a ⟨rfl,i,b',h,rfl,hd⟩;simp only[PU,Og];by_cases hk:b'.kd=3
  .have ek:=bc hk;by_cases h8:i=8
   .have e8:=bd (show¬(i:Int)<8 by omega);exact AhF
   have e8:=bc (show(i:Int)<8 by omega);have hw:=wS i;obtain⟨n,hn⟩:∃n,8-i=n+1:=⟨7-i,om⟩;refine Z2 ek e8 ?_;refine ae (AN M tm hM la b') ?_;exact Ϸ
  .have ek:=bd hk;have hr:=sZ M la (8-i) b' hk;rw[hd,hr];by_cases h8:i=8
   .have e8:=bd (show¬(i:Int)<8 by omega);exact Agl
   .have e8:=bc (show(i:Int)<8 by omega);exact Agl
def MJ(l:Ξ)(x s:Ab):join (l++[x]) s=if l=[]then x else join l s++s++x:=by
 cases l with
 |nil=>simp[join_one]
 |cons y ys=>simp[join_cons,joinTail]
def Af7(a b:Ξ)(s):(join a s).length<=(join (a++b) s).length:=by
 cases a with
 |nil=>simp[join_nil]
 |cons y ys=>simp[join_cons,joinTail]
def iP{l:Ξ}{i}{x:Ab}(s)(h:l[i]? =some x):join (l.take (i+1)) s=if i=0 then x else join (l.take i) s++s++x:=by
 have c:=(ab.1 h).1;rw[fc,h];show join (_++[x]) s=_;rw[MJ];by_cases a:i=0
 .simp[a]
 .rw[ar a,ar];intro b;have:=fq List.length b;rw[fw,eh]at this;omega
def FR(l:Ξ)(s i):(join (l.take i) s).length<=(join l s).length:=by have:=Af7 (l.take i) (l.drop i) s;rwa [ki]at this
def Xy{l:Ξ}{i:Nat}{x:Ab}(h:l[i]? =some x):(l.map str).getD i .any=.raw (.string ⟨x.toArray⟩):=by simp[fk,h,str]
def Mj(l:Ξ)(sep)(g:l.length<=100000000)(j:(join l sep).length<=1000000000000):QA 35 [.sl 1 (l.map str),str sep] (λr=>r=str (join l sep)):=by
 refine ai (Zt [] [] [] func35 ?_) ⟨_,rfl⟩;refine Ad (rl [5,20]) [5,6] (λm b c=>c=[]/\∃i,i+m=l.length/\b=[str (join (l.take i) sep),num i]) ⟨l.length,_,_,⟨rfl,0,om,rfl⟩,hent (aa _) ?_⟩ ?_
 .exact Zw
 .rintro m b c ⟨rfl,i,k,rfl⟩;simp only[PU,str];by_cases h:i<l.length;rotate_left
  .have ej:=eU i l.length;exact nT
  have ej:=eT i l.length;obtain⟨x,d,e⟩:=Bj h;have hg:=Xy d;have hw:=wS i;have hn:=iP sep d;have h1:=FR l sep (i+1);rw[hn]at h1;by_cases a:i=0
  .have e0:=bd (show¬(0:Int)<(i:Int) by omega);rw[bn a]at hn h1;have f:join (l.take i) sep=[]:=by rw[a];rfl
   rw[f];exact BW
  .have e0:=bc (show(0:Int)<(i:Int) by omega);rw[ar a]at hn h1;simp only[dc]at h1;generalize join (l.take i) sep=z at *;exact BW
def MK(b:Bk)(D:b.tx.length<=1000000000):QA 291 [.sl 9 [b8 b]] (λr=>r=str (Jj b.kd b.tx)):=by
 refine ai (G7 [] [] [] func291 ?_) ⟨_,rfl⟩;simp only[b8,num,str];refine Z0 ?_;have q:=Xw b.tx;refine Ad (rl [3,2,83]) [3,4] (λm a c=>c=[]/\∃i:Nat,i+m=1/\a=[str (if i=0 then[]else Jj b.kd b.tx),num i]) ⟨1,_,_,⟨rfl,0,om,rfl⟩,hent (aa _) ?_⟩ ?_
 .exact Zw
 .rintro m a c ⟨rfl,i,s,rfl⟩;simp only[PU,str];by_cases h:i=0;rotate_left
  .have e:i=1:=om;subst e;have f:=bd (show¬(1:Int)<1 by decide);refine Z1 f ?_;exact Zx
  subst h;have t:m=1:=om;subst t;have e01:=bc (show(0:Int)<1 by decide);have hw:i64.wrap (0+1)=1:=rfl;have g:=hw;by_cases h1:b.kd=1
  .rw[h1];have hl:Jj 1 b.tx=b.tx++[10]:=rfl;exact BZ
  by_cases j:b.kd=3
  .rw[j];have hl:Jj 3 b.tx=[34]++b.tx++[34,10]:=by simp[Jj]
   exact BZ
  by_cases k:b.kd=4
  .rw[k];have hl:Jj 4 b.tx=[91]++b.tx++[93,10]:=by simp[Jj]
   exact BZ
  by_cases n:b.kd=5
  .rw[n];have hl:Jj 5 b.tx=[35]++b.tx++[10]:=rfl;exact BZ
  have e1:=bd h1;have u:=bd j;have v:=bd k;have w:=bd n;by_cases d:b.kd=2;rotate_left
  .have e2:=bd d;have hl:Jj b.kd b.tx=[]:=by simp[Jj,h1,d,j,k,n]
   rw[hl];refine Z7 e1 e2 u v w e01 hw ?_;exact Zm 0 ⟨rfl,1,om,rfl⟩
  rw[d];have hl:Jj 2 b.tx=Hc b.tx++[10]:=rfl;rw[hl]
  have A:(Hh b.tx).length<=1000000000+2:=by
   have:=Qc b.tx
   have d:∀l:Ξ,l.length<=lens l:=λl=>by
    induction l with
    |nil=>simp
    |cons y ys ih=>simp[lens]at ih⊢
   have:=d (Hh b.tx);omega
  refine Z1 e01 ?_;refine Zh (AaM b.tx om) ?_;have E:(join (Hh b.tx) [32]).length<=1000000001:=by unfold Hc at q;omega
  unfold Hc;generalize Hh b.tx=l at *;refine Ad (rl [7,81]) [3,6] (λm a c=>c=[]/\∃i,i+m=l.length/\a=[str (join (l.take i) [32]),num i]) ⟨l.length,_,_,⟨rfl,0,om,rfl⟩,hent (aa _) ?_⟩ ?_
  .exact Zw
  .rintro m a c ⟨rfl,i,s,rfl⟩;simp only[PU,str];by_cases h:i<l.length;rotate_left
   .have ej:=eU i l.length;rw[Are om];refine Z2 ej g ?_;exact Zm 0 ⟨rfl,1,om,rfl⟩
   have ej:=eT i l.length;obtain⟨x,p,B⟩:=Bj h;have hg:=Xy p;have hw:=wS i;have hn:=iP [32] p;have h1:=FR l [32] (i+1);rw[hn]at h1;by_cases o:i=0
   .have e0:=bd (show¬(0:Int)<(i:Int) by omega);rw[bn o]at hn h1;have C:join (l.take i) [32]=[]:=by rw[o];rfl
    rw[C];exact BW
   .have e0:=bc (show(0:Int)<(i:Int) by omega);rw[ar o]at hn h1;simp only[dc]at h1;generalize join (l.take i) [32]=z at *;exact BW
def Abu(M:List Bq)(q)(hM:mF M)(id:Int)(la):QA 210 [I8 M q,num id,str la] (λr=>r=.a6 [str (Pf M id la).1,Af (Pf M id la).2]):=by
 refine ai (G7 [(1000017,[],[])] [] [(16,[50,61,10014,10003],[0,4,1001,2,1003,1005],[2006],[7,3008,3009])] func210 ?_) ⟨_,rfl⟩;have w:=Pj M q hM id la;simp only[I8]at w⊢;refine Z0 ?_;refine ae (Xx M q hM.len id) ?_;rintro r rfl
 have qc:Pf M id la=match Ki ((Ga M id).getD zT).ed la with
  |none=>([],false)
  |some e=>(Mi M ((Ga M id).getD zT) e la,true):=rfl
 have C:((Ga M id).getD zT).ed.length<=1000000/\((Ga M id).getD zT).co.length<=1000000/\(∀e∈((Ga M id).getD zT).ed,e.2.bs.length<=1000000/\∀b∈e.2.bs,b.tx.length<=900000)/\(∀e∈((Ga M id).getD zT).ed,e.2.ti.length<=1000000)/\∀c∈((Ga M id).getD zT).co,c.tx.length<=1000000:=by exact ϩ
 generalize (Ga M id).getD zT=t at *;obtain⟨O,P,D,E,g⟩:=C;simp only[Tv,num,str,Af]at w⊢;refine Z0 ?_;refine ae w ?_;rintro r rfl
 cases hed:Ki t.ed la with
 |none=>exact Ah5
 |some e=>
  rw[hed]at qc;simp only at qc;rw[qc];simp only[jy,ng,Mf,num,str,Af];have s:e∈t.ed:=i8 hed;have Q:=E e s;clear qc hed w;cases d:t.re;rotate_left
  .have F:Mi M t e la=e.2.ti++[10]++(AJ++[10]):=by simp[Mi,d]
   rw[F];refine Z1 d ?_;exact Zx
  refine Z1 d ?_;obtain⟨R,hbt⟩:=D e s;have u:∀b∈e.2.bs.map (Fy M la),b.tx.length<=1000000*2:=by exact Agw
  have hpn:∀i,(Jk ((e.2.bs.map (Fy M la)).take i)).length<=2000003000000:=λi=>by
   have:=T7 (l:=(e.2.bs.map (Fy M la)).take i) (c:=1000000*2) λb S=>u b (i7 S);refine cp this ?_;have j:((e.2.bs.map (Fy M la)).take i).length<=1000000:=by simp;omega
   have:=jh (1000000*2+3) j;omega
  have G:e.2.ti++[10]++Jk ((e.2.bs.map (Fy M la)).take 0)=e.2.ti++[10]:=by simp[Jk]
  refine Ad (rl [12,89]) [12,13] (λm k n=>n=[]/\∃i,i+m=e.2.bs.length/\k=[str (e.2.ti++[10]++Jk ((e.2.bs.map (Fy M la)).take i)),num i]) ⟨e.2.bs.length,[str (e.2.ti++[10]),num 0],_,⟨rfl,0,om,by rw[G];rfl⟩,hent (aa _) ?_⟩ ?_
  .exact Zw
  .rintro m k n ⟨rfl,i,T,rfl⟩;simp only[PU,str];have H:=hpn i;by_cases o:i<e.2.bs.length
   .have ej:=eT i e.2.bs.length;obtain⟨x,hx,I⟩:=Bj o;have a:=Iq hx;have z:=wS i;have v:=hbt x (cu hx);have U:=Ty 900000 om hM.len hM.tx la 8 x v;have V:=u (Fy M la x) (dm.2 ⟨x,cu hx,rfl⟩);have h:Jk ((e.2.bs.map (Fy M la)).take (i+1))=Jk ((e.2.bs.map (Fy M la)).take i)++Jj (Fy M la x).kd (Fy M la x).tx:=by unfold Jk;rw[fc,ao,hx,pi];simp
    have W:=tP (Fy M la x).kd (Fy M la x).tx;generalize Jk ((e.2.bs.map (Fy M la)).take i)=pl at *;refine Z2 ej a ?_;refine Bv (rl [14,87]) [14] (λk n=>n=[]/\k=[.box 77 (Og (Fy M la x))]) ?_ ?_
    .by_cases j:x.kd=3
     .have p:=bc j;have J:Og (Fy M la x)=[num x.id,num x.kd,str (I4 M la 8 x),num x.so,num x.rf,num x.un,.sl 1 (Ar x.af),num x.ap,num x.de]:=by unfold Fy;rw[bn j];rfl
      rw[J];refine Z1 p ?_;refine ae (Wy M q hM la x) ?_;rintro r rfl;simp only[str];refine Z1 p ?_;exact Im
     by_cases A:x.kd=5
     .have p:=bd j;have B:=bc A;have K:Og (Fy M la x)=[num 0,num 2,str (x.tx++[58,32]++I4 M la 8 x),num 0,num 0,num 0,.sl 1 [],num 0,num 0]:=by unfold Fy;rw[ar j,bn A];rfl
      rw[K];refine Z2 p B ?_;refine ae (Wy M q hM la x) ?_;rintro r rfl;simp only[str];refine Z2 p B ?_;exact Im
     have p:=bd j;have B:=bd A;have X:Fy M la x=x:=by unfold Fy;rw[ar j,ar A]
     rw[X];refine Z2 p B ?_;exact Im
    rintro k n ⟨rfl,rfl⟩;simp only[PU,Og,num,str];generalize Fy M la x=y at *;refine Z0 ?_;refine HC.wk (ae (MK y om) ?_) (Bl .nil);rintro r rfl;simp only[str];refine Z1 z ?_;exact Zm (m-1) ⟨rfl,i+1,om,by rw[h,<-ir]⟩
   have ej:=eU i e.2.bs.length;rw[Are (by simp;omega)]at H⊢;refine Z1 ej ?_;have F:Mi M t e la=e.2.ti++[10]++Jk (e.2.bs.map (Fy M la))++Kr la t.co:=by simp[Mi,d]
   rw[F];generalize Jk (e.2.bs.map (Fy M la))=pl at *;refine Ad (rl [12,89]) [12,15] (λm k n=>n=[]/\∃i,i+m=t.co.length/\k=[str (e.2.ti++[10]++pl++Kr la (t.co.take i)),num i]) ⟨t.co.length,[str (e.2.ti++[10]++pl),num 0],_,⟨rfl,0,om,by simp[Kr]⟩,hent (aa _) ?_⟩ ?_
   .exact Zw
   .rintro m k n ⟨rfl,i,T,rfl⟩;simp only[PU,str];have hcl:=bN la (l:=t.co.take i) (c:=1000000) (λc Y=>g c (i7 Y));have Z:(Kr la (t.co.take i)).length<=1000013000000:=by exact Ahc
    by_cases o:i<t.co.length
    .have ej:=eT i t.co.length;obtain⟨x,hx,I⟩:=Bj o;have a:=s_ hx;have z:=wS i;have v:=g x (cu hx);have h:Kr la (t.co.take (i+1))=Kr la (t.co.take i)++(if x.lg=la then eC++x.tx++[10]else[]):=by unfold Kr;exact QE
     generalize Kr la (t.co.take i)=cf at *;simp only[num,str]at a;by_cases f:x.lg=la
     .have L:(x.lg==la)=true:=by simpa using f
      rw[bn f]at h;have N:e.2.ti++[10]++pl++(cf++(eC++x.tx++[10]))=e.2.ti++[10]++pl++cf++[67,111,114,114,101,99,116,105,111,110,58,32]++x.tx++[10]:=by simp[eC]
      refine Z4 ej a z L ?_;exact Zm (m-1) ⟨rfl,i+1,om,by rw[h,N]⟩
     have L:(x.lg==la)=false:=by simpa using f
     rw[ar f,gy]at h;refine Z4 ej a z L ?_;exact Zm (m-1) ⟨rfl,i+1,om,by rw[h]⟩
    have ej:=eU i t.co.length;exact nT
def Mk{u}(h:¬u<10):decDigits u=decDigits (u / 10)++[UInt8.ofNat (48+u % 10)]:=by rw[decDigits,dif_neg h]
def AO(n:Int)(o:Db n)(k:∀m:Int,Db m->m.natAbs<n.natAbs->QA 43 [num m] (λr=>r=str (itoa m))):QA 43 [num n] (λr=>r=str (itoa n)):=by
 have a:∀b:UInt8,[AV.raw (.int .u8 ((b.toNat:Nat):Int))]=Aj [b]:=λ_=>rfl;have c:∀b:UInt8,List.map view (Aj [b])=Aj [b]:=λ_=>rfl;refine ai (G7 [] [8] [] func43 ?_) ⟨_,rfl⟩;obtain⟨u,p⟩:∃u:Nat,u=n.natAbs:=⟨_,rfl⟩;have q:u<=9223372036854775808:=by have:=o.1;have:=o.2;omega
 have l:=itoa_length_le ((u / 10:Nat):Int) om om;rw[itoa_nonneg]at l;by_cases h0:n<0
 .have f:n= -(u:Int):=om;subst f;have i:=bc h0;have d:(-(u:Int)).tmod 10= -((u % 10:Nat):Int):=by rw[Int.neg_tmod,oa om];omega
  have g:i64.wrap (48- -((u % 10:Nat):Int))=48+((u % 10:Nat):Int):=by rw[Aw om om];omega
  have e:=pU (n:=((u % 10:Nat):Int)) om om;rw[pq]at e;rw[itoa_neg u om];by_cases h:u<10
  .have e1:=bc (show(-10:Int)< -(u:Int) by omega);rw[decDigits_one h];refine Z7 i d g e a c e1 ?_;rw[Nat.mod_eq_of_lt h];exact Zx
  .have e1:=bd (show¬(-10:Int)< -(u:Int) by omega);have hq:i64.wrap ((-(u:Int)).tdiv 10)= -((u / 10:Nat):Int):=by rw[Int.neg_tdiv,sq om,Aw om om];omega
   have j:=k (-((u / 10:Nat):Int)) ⟨om,om⟩ om;rw[itoa_neg _ om]at j;rw[Mk h];refine Z8 i d g e a c e1 hq ?_;refine ae j ?_;rintro r rfl;simp only[str];refine Z0 ?_;exact Zx
 .have f:n=(u:Int):=om;subst f;have i:=bd (show¬(u:Int)<0 by omega);rw[itoa_nonneg];by_cases h:u<10
  .have e1:=bc (show(u:Int)<10 by omega);have g:i64.wrap (48+(u:Int))=48+(u:Int):=Aw om om;have e:=pU (n:=(u:Int)) om om;rw[pq]at e;rw[decDigits_one h];refine Z6 i e1 g e a c ?_;exact Zx
  .have e1:=bd (show¬(u:Int)<10 by omega);have d:(u:Int).tmod 10=((u % 10:Nat):Int):=by rw[oa om];omega
   have g:i64.wrap (48+((u % 10:Nat):Int))=48+((u % 10:Nat):Int):=Aw om om;have e:=pU (n:=((u % 10:Nat):Int)) om om;rw[pq]at e;have hq:i64.wrap ((u:Int).tdiv 10)=((u / 10:Nat):Int):=by rw[sq om,Aw om om];omega
   have j:=k ((u / 10:Nat):Int) ⟨om,om⟩ om;rw[itoa_nonneg]at j;rw[Mk h];refine Z8 i e1 d g e a c hq ?_;clear p k;refine eF b3 Dc Cl (λ_=>True) (λ_:Unit=>[(0,28,num u),(1,29,num (u/10:Nat)),(2,30,str (decDigits (u/10))),(3,31,num u),(4,32,num (u%10:Nat)),(5,33,num (48+(u%10:Nat))),(6,34,.raw (.int .u8 ((UInt8.ofNat (48+u%10)).toNat:Nat))),(7,35,.own 5 1 [.raw (.int .u8 ((UInt8.ofNat (48+u%10)).toNat:Nat))]),(8,36,str [UInt8.ofNat (48+u%10)]),(9,37,str (decDigits (u/10)++[UInt8.ofNat (48+u%10)])),(10,2,str (decDigits (u/10)++[UInt8.ofNat (48+u%10)]))]) [(0,[],[]),(1,[0],[]),(3,[],[]),(4,[3],[]),(5,[4],[]),(6,[5],[]),(7,[6],[]),(8,[7],[]),(9,[2,8],[]),(10,[9],[]),(2,[1],[])] () trivial oK (λ_=>rfl) pM (by rfl) ?_ ?_
   .simp only[Sk];exact⟨Dt,Dt,Dt,Dt,Dt,Dt,Dt,Dt,Dt,Dt,Sl j,trivial⟩
   .intro x hx;simp only[cond_true];refine Z0 ?_;exact Zx
def Ib(n)(h:Db n):QA 43 [num n] (λr=>r=str (itoa n)):=by
 obtain⟨k,b⟩:∃k,k=n.natAbs:=⟨_,rfl⟩
 induction k using Nat.strongRecOn generalizing n with
 |ind k ih=>exact AO n h λm a c=>ih m.natAbs om m a rfl
def U1(x:AV):Ab:=match x with
 |.agg (.raw (.string b)::_)=>b.data.toList
 |_=>[]
def xm(s:Ap):Prop:=∀e∈s.ed,∃l a b c d,e=.agg [str l,a,b,c,d]
def Lk(s:Ap):List Ej:=if s.tk then[]else s.ed.map λe=>⟨2,[],s.id,U1 e⟩
def AP(L:List Ap)(t:Ab):Nat:=((Bd t L).length+4) / 5
def cY(L:List Ap)(t:Ab):List Ej:=if Bp t=true then⟨5,t,0,[]⟩::(List.range (min (AP L t) 64)).map λ(p:Nat)=>(⟨3,t,(p:Int)+1,[]⟩:Ej)else[]
def kM(t:Ab):Ej:=⟨4,t,0,[]⟩
def ML:Ej:=⟨1,[],0,[]⟩
def MM:Ej:=⟨6,[],0,[]⟩
def mL(L:List Ap):List Ej:=[ML,MM]++(L.flatMap Lk++((B9 L).flatMap (cY L)++(C7 L).map kM))
def RQ(L:List Ap)(k:Nat)(b:Φ):Prop:=∃a,(mL L)[k]? =some a/\b=[Fe a]
section
variable{a b:Type}{f:a->List b}{l:List a}{i:Nat}{s:a}
theorem T9(h:l[i]? =some s):((l.take (i+1)).flatMap f).length=((l.take i).flatMap f).length+(f s).length:=by rw[fc,h,pi,dc];simp
theorem r_{j:Nat}{x:b}(hx:l[i]? =some s)(c:(f s)[j]? =some x):(l.flatMap f)[((l.take i).flatMap f).length+j]? =some x:=by
 have hi:=(ab.1 hx).1;have d:l.drop i=s::l.drop (i+1):=by exact Aib
 have e:l.flatMap f=(l.take i).flatMap f++(f s++(l.drop (i+1)).flatMap f):=by
  conv=>lhs;rw[<-ki i l,d,pi,qt]
 have h:=(ab.1 c).1;rw[e,bo om,Nat.add_sub_cancel_left,List.getElem?_append_left h,c]
end
theorem Ao7{L:List Ap}{k:Nat}{a:Ej}(h:(L.flatMap Lk)[k]? =some a):(mL L)[2+k]? =some a:=by have:=(ab.1 h).1;unfold mL;rw[bo (by simp only[dg,eh];omega),List.getElem?_append_left (by simp only[dg,eh];omega)];rw[<-h];congr 1;simp only[dg,eh];omega
theorem AiN{L:List Ap}{k:Nat}{a:Ej}(h:((B9 L).flatMap (cY L))[k]? =some a):(mL L)[2+(L.flatMap Lk).length+k]? =some a:=by have:=(ab.1 h).1;unfold mL;rw[bo (by simp only[dg,eh];omega),bo (by simp only[dg,eh];omega),List.getElem?_append_left (by simp only[dg,eh];omega)];rw[<-h];congr 1;simp only[dg,eh];omega
theorem Ao8{L:List Ap}{k:Nat}{a:Ab}(h:(C7 L)[k]? =some a):(mL L)[2+(L.flatMap Lk).length+((B9 L).flatMap (cY L)).length+k]? =some (kM a):=by unfold mL;rw[bo (by simp only[dg,eh];omega),bo (by simp only[dg,eh];omega),bo (by simp only[dg,eh];omega),ao];rw[show 2+(L.flatMap Lk).length+((B9 L).flatMap (cY L)).length+k-[ML,MM].length-(L.flatMap Lk).length-((B9 L).flatMap (cY L)).length=k by simp only[dg,eh];omega,h];rfl
theorem mM{s:Ap}(h:s.tk=false):(Lk s).length=s.ed.length:=by simp[Lk,h]
theorem Abw{s:Ap}{j:Nat}{l:Ab}{a b c d:AV}(h:s.tk=false)(e:s.ed[j]? =some (.agg [str l,a,b,c,d])):(Lk s)[j]? =some ⟨2,[],s.id,l⟩:=by simp[Lk,h,e,U1,str]
def Af9{L:List Ap}{t}(h:Bp t=true):(cY L t).length=1+min (AP L t) 64:=by simp[cY,h];omega
theorem Al4{L:List Ap}{t:Ab}(h:Bp t=false):cY L t=[]:=by simp[cY,h]
theorem AfA{L:List Ap}{t:Ab}(h:Bp t=true):(cY L t)[0]? =some ⟨5,t,0,[]⟩:=by simp[cY,h]
theorem Al5{L:List Ap}{t:Ab}{p:Nat}(h:Bp t=true)(b:p<AP L t)(a:p<64):(cY L t)[1+p]? =some ⟨3,t,((p+1:Nat):Int),[]⟩:=by rw[cY,bn h,Nat.add_comm,aw,ao,fe om];simp
theorem MN(L:List Ap)(C:Φ)(M:L.length<=10000)(D:∀s∈L,Hj s)(P:∀s∈L,s.tp.length<=1000)(Q:∀s∈L,xm s)(hT:(B9 L).length<=1000000000)(hA:(C7 L).length<=1000000000):
 Oo prog 181 [.elt (.agg [.sl 8 (L.map ci),.sl 2 C])] (mL L).length (RQ L):=by
 refine M8 [] [(0,7002),(8,6),(15,3),(21,4),(26,3)] [] b3 Cl func181 oD oK (by simp only[go_sem,reduceIte,reduceCtorEq];rfl) ntmps181 results181 rfl ?_;intro l;simp only[LS,Nat.reduceAdd,Nat.reduceSub];refine Zu ?_;refine Kx ⟨ML,rfl,rfl⟩ ?_ ?_
 .refine Zu ?_;refine Kx ⟨MM,rfl,rfl⟩ ?_ ?_
  .refine Zu ?_;refine F7 (rl [4,1,1,1,20,23]) [27] (λn g x=>∃i k:Nat,g=some k/\i<=L.length/\i+n=L.length/\k=2+((L.take i).flatMap Lk).length/\x=[num i]) ⟨L.length,_,⟨0,2,rfl,om,om,rfl,rfl⟩,?_⟩ ?_
   .exact Zw
   .rintro n st1 x ⟨i,k,rfl,F,G,E,rfl⟩;simp only[PU];rcases cq i L.length with m|d
    .have c:=eT i L.length;obtain⟨s,hx,R⟩:=Bj m;have H:=D s (cu hx);have I:=Q s (cu hx);have S:=H.2;have a:=H5 hx;simp only[num,str,Af]at a;have hw:=wS i;cases f:s.tk
     .rw[f]at a;refine Z3 c a hw ?_;refine F7 (rl [6,1,29,13,50]) [36] (λn g x=>∃j k2:Nat,g=some k2/\j<=s.ed.length/\j+n=s.ed.length/\k2=2+((L.take i).flatMap Lk).length+j/\x=[num j]) ⟨s.ed.length,_,⟨0,k,rfl,om,om,om,rfl⟩,?_⟩ ?_
      .exact Zw
      .rintro T U x ⟨j,k2,rfl,V,W,J,rfl⟩;simp only[PU];rcases cq j s.ed.length with K|qi
       .have o:=wS j;have ek:=eT j s.ed.length;obtain⟨e,v,X⟩:=Bj K;obtain⟨l,c1,c2,Y,Z,rfl⟩:=I e (cu v);have d:s.ed.getD j .any=.agg [str l,c1,c2,Y,Z]:=by simp[v]
        simp only[str]at d;have b:=Ao7 (r_ hx (Abw f v));rw[<-Nat.add_assoc,<-J]at b;refine Z4 ek d o hw ?_;refine Kx ⟨_,b,rfl⟩ ?_ ?_
        .refine Z4 ek d o hw ?_;refine Ch (T-1) [num ((j+1:Nat):Int)] om ⟨j+1,k2+1,rfl,om,om,om,rfl⟩ ?_;exact Zw
        .repeat' first|apply Aq.on<;>intro _|refine gD ?_|simp only[go_sem,DT,Int.reduceEq,Int.cast_ofNat_Int,Ae,ek,d,o,hw]
         exact X9
       .have ek:=eU j s.ed.length;refine Z2 ek hw ?_;refine Ch (n-1) [num ((i+1:Nat):Int)] om ⟨i+1,k2,rfl,om,om,by rw[T9 hx,mM f];omega,rfl⟩ ?_;exact Zw
     .rw[f]at a;refine Z3 c a hw ?_;refine Ch (n-1) [num ((i+1:Nat):Int)] om ⟨i+1,k,rfl,om,om,by rw[T9 hx,Lk,bn f];simp only[eh];omega,rfl⟩ ?_;exact Zw
    .have c:=eU i L.length;rw[Are d]at E;refine Z1 c ?_;refine Zb (tH L C M D P) ?_;rintro r rfl;try simp only[Af,num,str]
     repeat' first|apply Aq.on<;>intro _|refine gD ?_|simp only[go_sem,DT,Int.reduceEq,Int.cast_ofNat_Int,Ae,c]
     refine F7 (rl [8,4,39,1,1,33,13]) [51,53] (λn g x=>∃i k:Nat,g=some k/\i<=(B9 L).length/\i+n=(B9 L).length/\k=2+(L.flatMap Lk).length+(((B9 L).take i).flatMap (cY L)).length/\x=[.sl 1 ((B9 L).map str),num i]) ⟨(B9 L).length,_,⟨0,k,rfl,om,om,by simp only[gx,sr,eh];omega,rfl⟩,?_⟩ ?_
     .exact Zw
     .rintro n st3 x ⟨i,k,rfl,F,G,E,rfl⟩;simp only[PU];rcases cq i (B9 L).length with m|d
      .have c:=bc (show(i:Int)<((B9 L).length:Int) by omega);obtain⟨t,hx,R⟩:=Bj m;have a:=Cd hx;have hw:=wS i;refine Z3 c a hw ?_;refine Zb (Ez Wh t) ?_;rintro r rfl;simp only[Af];cases hnm:Bp t
       .refine Z3 c a hw ?_;refine Ch (n-1) [.sl 1 ((B9 L).map str),num ((i+1:Nat):Int)] om ⟨i+1,k,rfl,om,om,by rw[T9 hx,Al4 hnm];simp only[eh];omega,rfl⟩ ?_;exact Zw
       .have b:=AiN (r_ hx (AfA (L:=L) hnm));rw[nj,<-E]at b;refine Z3 c a hw ?_;refine Kx ⟨_,b,rfl⟩ ?_ ?_
        .refine Z3 c a hw ?_;refine Zb (Abf L C t 1 ⟨om,om⟩ om D) ?_;rintro r rfl;try simp only[num,str,Af]
         refine Z3 c a hw ?_;refine F7 (rl [11,1,59,14,14]) [11] (λn g x=>∃p k4:Nat,g=some k4/\p<=64/\p<=AP L t/\p+n=65/\k4=2+(L.flatMap Lk).length+(((B9 L).take i).flatMap (cY L)).length+1+p/\x=[num ((p+1:Nat):Int)]) ⟨65,_,⟨0,k+1,rfl,om,om,om,om,rfl⟩,?_⟩ ?_
         .exact Zw
         .rintro n4 st4 x ⟨p,k4,rfl,hp1,hp2,hpn,hk4,rfl⟩;simp only[PU];have hwp:i64.wrap (((p+1:Nat):Int)+1)=((p+1+1:Nat):Int):=Da om;rcases cq p (AP L t)with y|hpg
          .have N:p<((Bd t L).length+4) / 5:=y;have ep:=bc (show((p+1:Nat):Int)<=((((Bd t L).length+4) / 5:Nat):Int) by omega);refine Z3 ep hwp hw ?_;refine Zb (Ef ((p+1:Nat):Int)) ?_;rintro r rfl;rcases cq p 64 with z|z
           .have w:Ox ((p+1:Nat):Int)=true:=Oz.2 ⟨om,om⟩;simp only[Af,w];have b:=AiN (r_ hx (Al5 hnm y z));rw[show 2+(L.flatMap Lk).length+((((B9 L).take i).flatMap (cY L)).length+(1+p))=k4 by omega]at b;refine Z3 ep hwp hw ?_;refine Kx ⟨_,b,rfl⟩ ?_ ?_
            .refine Z3 ep hwp hw ?_;refine Ch (n4-1) [num ((p+1+1:Nat):Int)] om ⟨p+1,k4+1,rfl,om,om,om,om,rfl⟩ ?_;exact Zw
            .repeat' first|apply Aq.on<;>intro _|refine gD ?_|simp only[go_sem,DT,Int.reduceEq,Int.cast_ofNat_Int,Ae,ep,hwp,hw]
             exact X9
           .have w:Ox ((p+1:Nat):Int)=false:=by
             cases h:Ox ((p+1:Nat):Int)with
             |false=>rfl
             |true=>have:=Oz.1 h;omega
            simp only[Af,w];exact Agy
          .have O:p≥((Bd t L).length+4) / 5:=hpg;have ep:=bd (show¬((p+1:Nat):Int)<=((((Bd t L).length+4) / 5:Nat):Int) by omega);exact Agy
        .repeat' first|apply Aq.on<;>intro _|refine gD ?_|simp only[go_sem,DT,Int.reduceEq,Int.cast_ofNat_Int,Ae,c,a,hw]
         exact X9
      .have c:=bd (show¬(i:Int)<((B9 L).length:Int) by omega);rw[Are d]at E;refine Z1 c ?_;refine Zb (iH L C M D) ?_;rintro r rfl;try simp only[num,str,Af]
       refine Z1 c ?_;refine F7 (rl [13,1,73,1,1,10]) [87,89] (λn g x=>∃q k5:Nat,g=some k5/\q<=(C7 L).length/\q+n=(C7 L).length/\k5=2+(L.flatMap Lk).length+((B9 L).flatMap (cY L)).length+q/\x=[.sl 1 ((C7 L).map str),num q]) ⟨(C7 L).length,_,⟨0,k,rfl,om,om,om,rfl⟩,?_⟩ ?_
       .exact Zw
       .rintro n5 st5 x ⟨q,k5,rfl,hq1,hq2,A,rfl⟩;simp only[PU];rcases cq q (C7 L).length with hq|hq
        .have c:=bc (show(q:Int)<((C7 L).length:Int) by omega);obtain⟨u,B,hud⟩:=Bj hq;have a:=Cd B;have hw:=wS q;have b:=Ao8 B;rw[<-A]at b;refine Z3 c a hw ?_;refine Kx ⟨_,b,rfl⟩ ?_ ?_
         .refine Z3 c a hw ?_;refine Ch (n5-1) [.sl 1 ((C7 L).map str),num ((q+1:Nat):Int)] om ⟨q+1,k5+1,rfl,om,om,om,rfl⟩ ?_;exact Zw
         .repeat' first|apply Aq.on<;>intro _|refine gD ?_|simp only[go_sem,DT,Int.reduceEq,Int.cast_ofNat_Int,Ae,c,a,hw]
          exact X9
        .have c:=bd (show¬(q:Int)<((C7 L).length:Int) by omega);refine Z1 c ?_;refine .inl ?_;have:(mL L).length=2+((L.flatMap Lk).length+(((B9 L).flatMap (cY L)).length+(C7 L).length)):=by simp only[mL,dc,dB,dg,eh]
         rw[this,A];first|omega|exact fq some om
  .repeat' first|apply Aq.on<;>intro _|refine gD ?_|simp only[go_sem,DT,Int.reduceEq,Int.cast_ofNat_Int,Ae]
   exact X9
 .repeat' first|apply Aq.on<;>intro _|refine gD ?_|simp only[go_sem,DT,Int.reduceEq,Int.cast_ofNat_Int,Ae]
  exact X9
def vA(l:List Ej):Ξ:=(l.filter Be).map Fu
def Dd(L:List Ap):Ξ:=dst (vA (mL L))
def Abx{l:List Ej}{k a}(h:l[k]? =some a):vA (l.take (k+1))=vA (l.take k)++if Be a=true then[Fu a]else[]:=by rw[fc,h];unfold vA;rw[Ast,ip];congr 1;cases b:Be a<;>simp[b]
def mN(l:List Ej):(vA l).length<=l.length:=by unfold vA;rw[dB];exact kh _ _
def Al6(L:List Ap)(t)(h:L.length<=10000):AP L t<=10000:=by have:=Cw t L;unfold AP;omega
def tR(L:List Ap)(t):QA 117 [stA L t] (λr=>r=.ee 181 [.elt (.agg [.sl 8 (L.map ci),.sl 2 t])]):=by simp only[stA];refine G6 [(1,[1],[])] func117 ⟨_,rfl⟩ ?_;exact Ags
def Ao9(L:List Ap)(t)(l:L.length<=10000)(m:∀s∈L,Hj s)(n:∀s∈L,s.tp.length<=1000)(o:∀s∈L,xm s)(p:(B9 L).length<=1000000000)(q:(C7 L).length<=1000000000)(u:(mL L).length<=10000000):
 QA 59 [stA L t] (λr=>r=.own 9 1 ((Dd L).map str)):=by
 simp only[stA];refine Ed [(7,[200003],[])] [] [4,5,6,9,10,11,12,13,14,15,16,17,18,19,20] b3 Cl func59 oD oK (by simp only[go_sem,reduceIte,reduceCtorEq];rfl) ntmps59 results59 ⟨_,rfl⟩ rfl ?_;skip;simp only[LS,Nat.reduceAdd,Nat.reduceSub];refine Z0 ?_;refine((tR L t).wk ?_).mono ?_
 .simp only[stA];exact Zw
 rintro r rfl;refine Z0 ?_;have e:=MN L t l m n o p q;obtain⟨Z,g⟩:∃Z,mL L=Z:=⟨_,rfl⟩;have f:RQ L=λk b=>∃a,Z[k]? =some a/\b=[Fe a]:=by funext k b;simp only[RQ,g]
 unfold Dd;rw[f]at e;rw[g]at e u⊢;refine Ft (rl [3,4,2,12]) [3] (λk x=>x=[.box 38 [.mine 9 1 ((vA (Z.take k)).map str)]]) (bx 25) ?_ e ?_ ?_ ?_
 .exact J1
 .refine⟨_,rfl,?_⟩;simp only[PU];simp only[gx,vA,po,db];exact GP
 .rintro k b x ⟨a,i,rfl⟩ rfl;refine⟨rfl,rfl,?_⟩;have hlk:k<Z.length:=(ab.1 i).1;have h:=mN (Z.take k);rw[fw]at h;have c:=Abx i;obtain⟨G,j⟩:∃G,vA (Z.take k)=G:=⟨_,rfl⟩;rw[j]at h c;rw[j];simp only[Fe,num,str,Af];simp only[PU];repeat' first|apply Aq.on<;>intro _|refine gD ?_|simp only[go_sem,DT,Int.reduceEq,Int.cast_ofNat_Int,Ae]
  refine((rP a).wk ?_).mono ?_
  .simp only[Fe,num,str];exact Zw
  rintro r rfl;cases d:Be a
  .simp only[O0,d,f0,if_false,num,str];refine Zu ?_;refine Ij [.box 38 [.mine 9 1 ((vA (Z.take (k+1))).map str)]] rfl ?_;rw[c,d];simp only[f0,if_false,gy];simp only[PU];exact GP
  .simp only[O0,d,if_true,num,str];refine Zu ?_;refine Ij [.box 38 [.mine 9 1 ((vA (Z.take (k+1))).map str)]] rfl ?_;rw[c,d];simp only[if_true,ip,ev,db,str];simp only[PU];exact GP
 .rintro x rfl;simp only[PU];rw[lr];have h:=mN Z;refine Z0 ?_;refine Cm.mono (Abd (vA Z) om) ?_;rintro r y ⟨rfl,rfl⟩;refine Z0 ?_;refine(Vr _ (by rw[tg];omega)).mono ?_;rintro r rfl;exact Ags
structure An (L:List Ap) (T:List (Ab×Ab)):Prop where
 len':L.length<=1000
 tp':∀s∈L,s.tp.length<=10
 ed:∀s∈L,s.ed.length<=100
 id:∀s∈L,Db s.id
 tn:∀s∈L,∀t∈s.tp,t.length<=1000
 an:∀s∈L,s.au.length<=1000
 eo:∀s∈L,xm s
 en:∀s∈L,∀e∈s.ed,(U1 e).length<=1000000000
 tl:T.length<=100000
 tt:∀t∈T,t.2.length<=100000
section
variable{L:List Ap}{T:List (Ab × Ab)}(G:An L T)
include G
def An.len:L.length<=10000:=cp G.len' om
def An.tp:∀s∈L,s.tp.length<=1000:=λs h=>cp (G.tp' s h) om
def An.ok:∀s∈L,Hj s:=λs h=>⟨by have:=G.tp' s h;omega,by have:=G.ed s h;omega⟩
def Kl(v:Ab):∀i∈(Bd v L).map (·.id),Db i:=λi h=>by obtain⟨s,a,rfl⟩:=dm.1 h;exact G.id s (Pd _ _ _ a)
def Ua(v:Ab):(Bd v L).length<=10000:=cp (Cw v L) G.len
def bP{i b n:Int}(h:i∈Kj L b n):Db i:=by
 unfold Kj at h;split at h
 .cases h
 .split at h
  .have h:=i7 h
   have a:∀(c:Ap) (k:Nat),i∈Pb (Bd [] L) c b k->Db i:=by
    intro c k
    induction k with
    |zero=>intro h;cases h
    |succ k ih=>
     intro h;unfold Pb at h;rcases ff.1 h with h|h
     .obtain⟨s,d,rfl⟩:=dm.1 h;exact G.id s (Pd _ _ _ (jq.1 d).1)
     .exact ih h
   exact a _ _ h
  .cases h
def FT(i n:Int):(Kj L i n).length<=100000000:=by
 unfold Kj;split
 .simp
 .rename_i s h;split
  .have h1:=T5 (Bd [] L) s i s.tp.length;have a:=G.tp s (i8 h);have b:=Ua G [];have c:s.tp.length*(Bd [] L).length<=1000*10000:=Nat.mul_le_mul a b;simp only[fw];omega
  .simp
end
def Jm(L:List Ap)(t:Ab)(n:Int):Ab:=Tr (((Bd t L).map (·.id)).take n.toNat)
def Q7(L:List Ap)(t:Ab)(p:Int):Ab:=Tr (O5 ((Bd t L).reverse.map (·.id)) p)++[32,111,102,32]++itoa (((Bd t L).length+4) / 5:Nat)
def kO(L:List Ap)(a:Ab):Ab:=Tr (((Bd [] L).filter (λs=>decide (s.au=a))).map (·.id))
def F0(L:List Ap)(i j:Int):Ab:=Tr (Kj L i j)
def Gn(L:List Ap):Ab:=join (B9 L) [44,32]
def E7(L:List Ap):Ab:=join (C7 L) [44,32]
def Vw(L:List Ap)(t:Ab):Ab:=itoa ((Bd t L).length:Nat)
def Ic{l:List Int}(h:∀x∈l,Db x):(Tr l).length<=l.length*22:=by
 have:=Dq (sep:=[44]) (c:=21) (zs:=l.map itoa) (by
  intro z b;obtain⟨x,a,rfl⟩:=dm.1 b;exact itoa_length_le x (h x a).1 (h x a).2)
 simpa[Tr]using this
def Xz{a}{O:List a}{p}{x:a}(h:x∈O5 O p):x∈O:=by
 unfold O5 at h;split at h
 .exact mg (i7 h)
 .cases h
section
variable{L:List Ap}{T:List (Ab × Ab)}(G:An L T)
include G
theorem MO(a b:Ab):QA 73 [str a,str b,.elt (.agg [.sl 8 (L.map ci),.sl 2 (T.map A4)])] (λr=>r=str (H9 T a)):=by
 refine ai (Zt [] [] [] func73 ?_) ⟨_,rfl⟩;refine HC.wk (ae (zK L T a (cp G.tl om) (λt h=>cp (G.tt t h) om)) ?_) ?_;rotate_left
 .exact R6
 exact Ix
def AQ(n)(t:Ab):QA 80 [num n,.elt (.agg [.sl 8 (L.map ci),.sl 2 (T.map A4)]),.elt (.agg [str t])] (λr=>r=str (Jm L t n)):=by
 refine ai (Zt [] [] [] func80 ?_) ⟨_,rfl⟩;refine HC.wk (ae (Aaz L (T.map A4) t n (cp G.len om) G.ok) ?_) ?_;rotate_left
 .exact R6
 rintro r rfl;refine Zn ?_;refine HC.wk (ae (Ts (((Bd t L).map (·.id)).take n.toNat) (by have:=Ua G t;simp;omega) (λi h=>Kl G _ i (i7 h))) ?_) ?_;rotate_left
 .exact Ny
 exact Ix
def AR(n)(a:Db n)(t:Ab):QA 84 [num n,.elt (.agg [.sl 8 (L.map ci),.sl 2 (T.map A4)]),.elt (.agg [str t])] (λr=>r=str (Q7 L t n)):=by
 refine ai (Zt [] [] [] func84 ?_) ⟨_,rfl⟩;have b:=Ua G t;have c:=Ic (l:=O5 ((Bd t L).reverse.map (·.id)) n) (λi h=>Kl G t i (by have:=Xz h;simpa using this));have d:=Tn ((Bd t L).reverse.map (·.id)) n;have e:=itoa_length_le (((Bd t L).length+4) / 5:Nat) om om;refine HC.wk (ae (Abf L (T.map A4) t n a (cp G.len om) G.ok) ?_) ?_;rotate_left
 .exact R6
 rintro r rfl;refine Zn ?_;refine HC.wk (ae (Ts (O5 ((Bd t L).reverse.map (·.id)) n) (by have:=Tn ((Bd t L).reverse.map (·.id)) n;omega) (λi h=>Kl G t i (by have:=Xz h;simpa using this))) ?_) ?_;rotate_left
 .exact Ny
 rintro r rfl;refine Zn ?_;refine HC.wk (ae (Em (((Bd t L).length+4) / 5:Nat) ⟨om,om⟩) ?_) ?_;rotate_left
 .exact Ny
 exact Ix
theorem MP(a b:Ab):QA 87 [str a,str b,.elt (.agg [.sl 8 (L.map ci),.sl 2 (T.map A4)])] (λr=>r=str (kO L a)):=by
 refine ai (Zt [] [] [] func87 ?_) ⟨_,rfl⟩;refine HC.wk (ae (ApP L (T.map A4) a (cp G.len om) G.ok) ?_) ?_;rotate_left
 .exact R6
 rintro r rfl;refine Zn ?_;refine HC.wk (ae (Ts (((Bd [] L).filter (λs=>decide (s.au=a))).map (·.id)) (by have:=Ua G [];have:=kh (λs:Ap=>decide (s.au=a)) (Bd [] L);simp only[dB];omega) (λi h=>Kl G [] i (by obtain⟨s,c,rfl⟩:=dm.1 h;exact dm.2 ⟨s,(jq.1 c).1,rfl⟩))) ?_) ?_;rotate_left
 .exact Ny
 exact Ix
def tS(i j:Int):QA 91 [num j,.elt (.agg [.sl 8 (L.map ci),.sl 2 (T.map A4)]),.elt (.agg [num i])] (λr=>r=str (F0 L i j)):=by
 refine ai (Zt [] [] [] func91 ?_) ⟨_,rfl⟩;refine HC.wk (ae (LV L (T.map A4) i j G.len G.ok G.tp) ?_) ?_;rotate_left
 .exact R6
 rintro r rfl;refine Zn ?_;refine HC.wk (ae (Ts (Kj L i j) (FT G i j) (λx h=>bP G h)) ?_) ?_;rotate_left
 .exact Ny
 exact Ix
theorem MQ(a b:Ab):QA 98 [str a,str b,.elt (.agg [.sl 8 (L.map ci),.sl 2 (T.map A4)])] (λr=>r=str (Vw L a)):=by
 refine ai (Zt [] [] [] func98 ?_) ⟨_,rfl⟩;refine HC.wk (ae (AeK L (T.map A4) a (cp G.len om) G.ok) ?_) ?_;rotate_left
 .exact R6
 rintro r rfl;refine Zn ?_;have h:=Ua G a;refine HC.wk (ae (Em ((Bd a L).length:Nat) ⟨om,om⟩) ?_) ?_;rotate_left
 .exact Ny
 exact Ix
end
def Ub{L t}:t∈B9 L↔∃s∈L,Ee s=true/\t∈s.tp:=by rw[bC,(Cv _).2];simp only[List.mem_flatMap,jq];exact⟨λ⟨s,⟨h1,h⟩,a⟩=>⟨s,h1,h,a⟩,λ⟨s,h1,h,a⟩=>⟨s,⟨h1,h⟩,a⟩⟩
def Uc{L t}:t∈C7 L↔∃s∈L,Ee s=true/\t=s.au:=by rw[bD,(Cv _).2];simp only[dm,jq];exact⟨λ⟨s,⟨h1,h⟩,a⟩=>⟨s,h1,h,a.symm⟩,λ⟨s,h1,h,a⟩=>⟨s,⟨h1,h⟩,a.symm⟩⟩
def Ml{a b:Type}{f:a->List b}{c}:∀{l:List a},(∀x∈l,(f x).length<=c)->(l.flatMap f).length<=c*l.length
 |[],_=>by simp
 |x::l,h=>by have h1:=Ml (l:=l) λy d=>h y (by simp[d]);have e:=h x oS;rw[qt,dc,dg,Nat.mul_add,md];omega
def FU(L:List Ap)(T:List (Ab×Ab)):Φ:=[.agg [str [116,101,109,112,108,97,116,101],num 2,.ee 73 [.elt (.agg [.sl 8 (L.map ci),.sl 2 (T.map A4)])]],.agg [str [115,116,111,114,121],num 3,.ee 75 [.elt (.agg [.sl 8 (L.map ci),.sl 2 (T.map A4)])]],.agg [str [108,97,116,101,115,116],num 3,.ee 79 [.elt (.agg [.sl 8 (L.map ci),.sl 2 (T.map A4)])]],.agg [str [112,97,103,101],num 3,.ee 83 [.elt (.agg [.sl 8 (L.map ci),.sl 2 (T.map A4)])]],.agg [str [98,121],num 2,.ee 87 [.elt (.agg [.sl 8 (L.map ci),.sl 2 (T.map A4)])]],.agg [str [114,101,108,97,116,101,100],num 3,.ee 89 [.elt (.agg [.sl 8 (L.map ci),.sl 2 (T.map A4)])]],.agg [str [116,111,112,105,99,115],num 1,.ee 93 [.elt (.agg [.sl 8 (L.map ci),.sl 2 (T.map A4)])]],.agg [str [97,117,116,104,111,114,115],num 1,.ee 96 [.elt (.agg [.sl 8 (L.map ci),.sl 2 (T.map A4)])]],.agg [str [99,111,117,110,116],num 2,.ee 98 [.elt (.agg [.sl 8 (L.map ci),.sl 2 (T.map A4)])]]]
structure Nn (L:List Ap) (T:List (Ab×Ab)) (sf:Int->Ab->Ab):Prop where
 call:∀(i:Int) (b:Ab),Db i->b.length<=1000000->QA 78 [stA L (T.map A4),num i,str b] (λr=>r=str (sf i b))
 len:∀i b,(sf i b).length<=1000000
section
variable{L:List Ap}{T:List (Ab × Ab)}{d:Int->Ab->Ab}(G:An L T)
include G
def K6:(B9 L).length<=10000:=by rw[bC];refine cp (P5 _) ?_;have h1:=Ml (l:=L.filter Ee) (f:=(·.tp)) (c:=10) λs h=>G.tp' s (jq.1 h).1;have a:=kh Ee L;have:=G.len';omega
def K7:(C7 L).length<=10000:=by rw[bD];refine cp (P5 _) ?_;rw[dB];exact cp (kh Ee L) G.len
def iQ:(Gn L).length<=10020000000:=by have h1:=K6 G;have h:=Dq (sep:=[44,32]) (c:=1000) (zs:=B9 L) (λt a=>by obtain⟨s,b,_,e⟩:=Ub.1 a;exact G.tn s b t e);have:(Gn L).length<=(B9 L).length*1002:=h;omega
def bQ:(E7 L).length<=10020000:=by have h1:=K7 G;have h:=Dq (sep:=[44,32]) (c:=1000) (zs:=C7 L) (λt a=>by obtain⟨s,b,_,rfl⟩:=Uc.1 a;exact G.an s b);have:(E7 L).length<=(C7 L).length*1002:=h;omega
theorem MR(a b:Ab):QA 93 [str a,str b,.elt (.agg [.sl 8 (L.map ci),.sl 2 (T.map A4)])] (λr=>r=str (Gn L)):=by
 refine ai (Zt [] [] [] func93 ?_) ⟨_,rfl⟩;refine HC.wk (ae (tH L (T.map A4) G.len G.ok G.tp) ?_) ?_;rotate_left
 .exact R6
 rintro r rfl;refine Zn ?_;have c:=K6 G;have h:=iQ G;refine HC.wk (ae (P7 (B9 L) [44,32] om (by have:(join (B9 L) [44,32]).length<=10020000000:=h;omega)) ?_) ?_;rotate_left
 .exact Ny
 exact Ix
theorem MS(a b:Ab):QA 96 [str a,str b,.elt (.agg [.sl 8 (L.map ci),.sl 2 (T.map A4)])] (λr=>r=str (E7 L)):=by
 refine ai (Zt [] [] [] func96 ?_) ⟨_,rfl⟩;refine HC.wk (ae (iH L (T.map A4) G.len G.ok) ?_) ?_;rotate_left
 .exact R6
 rintro r rfl;refine Zn ?_;have c:=K7 G;have h:=bQ G;refine HC.wk (ae (P7 (C7 L) [44,32] om (by have:(join (C7 L) [44,32]).length<=10020000:=h;omega)) ?_) ?_;rotate_left
 .exact Ny
 exact Ix
theorem AS(K:Nn L T d)(n:Int)(h:Db n)(b:Ab)(a:b.length<=1000000):QA 77 [num n,.elt (.agg [.sl 8 (L.map ci),.sl 2 (T.map A4)]),.elt (.agg [str b])] (λr=>r=str (d n b)):=by
 refine ai (Zt [] [] [] func77 ?_) ⟨_,rfl⟩;refine HC.wk (ae (K.call n b h a) ?_) ?_;rotate_left
 .exact R6
 exact Ix
theorem MU (K:Nn L T d) (a b:Ab) (h:a.length<=1000000) (c:b.length<=1000000):QA 75 [str a,str b,.elt (.agg [.sl 8 (L.map ci),.sl 2 (T.map A4)])] (λr=>r=str (B5 a λi=>d i b)):=by
 refine ai (Zt [(1,[4],[])] [] [] func75 ?_) ⟨_,rfl⟩;refine HC.wk (ae (Ke a 77 [.elt (.agg [.sl 8 (L.map ci),.sl 2 (T.map A4)]),.elt (.agg [str b])] (λi=>d i b) h (λn h1 e=>AS G K n ⟨om,om⟩ b c)) ?_) ?_;rotate_left
 ·exact Ny
 exact Ix
theorem MV(a b:Ab)(h:b.length<=1000000):QA 79 [str a,str b,.elt (.agg [.sl 8 (L.map ci),.sl 2 (T.map A4)])] (λr=>r=str (B5 b λi=>Jm L a i)):=by
 refine ai (Zt [(1,[3],[])] [] [] func79 ?_) ⟨_,rfl⟩;refine HC.wk (ae (Ke b 80 [.elt (.agg [.sl 8 (L.map ci),.sl 2 (T.map A4)]),.elt (.agg [str a])] (λi=>Jm L a i) h (λn h1 c=>AQ G n a)) ?_) ?_;rotate_left
 .exact Ny
 exact Ix
theorem MW(a b:Ab)(h:b.length<=1000000):QA 83 [str a,str b,.elt (.agg [.sl 8 (L.map ci),.sl 2 (T.map A4)])] (λr=>r=str (B5 b λi=>Q7 L a i)):=by
 refine ai (Zt [(1,[3],[])] [] [] func83 ?_) ⟨_,rfl⟩;refine HC.wk (ae (Ke b 84 [.elt (.agg [.sl 8 (L.map ci),.sl 2 (T.map A4)]),.elt (.agg [str a])] (λi=>Q7 L a i) h (λn h1 c=>AR G n ⟨om,om⟩ a)) ?_) ?_;rotate_left
 .exact Ny
 exact Ix
def AT(i:Int)(b:Ab)(h:b.length<=1000000):QA 90 [num i,.elt (.agg [str b]),.elt (.agg [.sl 8 (L.map ci),.sl 2 (T.map A4)])] (λr=>r=str (B5 b λj=>F0 L i j)):=by
 refine ai (Zt [(1,[3],[])] [] [] func90 ?_) ⟨_,rfl⟩;refine HC.wk (ae (Ke b 91 [.elt (.agg [.sl 8 (L.map ci),.sl 2 (T.map A4)]),.elt (.agg [num i])] (λj=>F0 L i j) h (λn h1 a=>tS G i n)) ?_) ?_;rotate_left
 .exact Ny
 exact Ix
theorem MX(a b:Ab)(h:a.length<=1000000)(c:b.length<=1000000):QA 89 [str a,str b,.elt (.agg [.sl 8 (L.map ci),.sl 2 (T.map A4)])] (λr=>r=str (B5 a λi=>B5 b λj=>F0 L i j)):=by
 refine ai (Zt [(1,[4],[])] [] [] func89 ?_) ⟨_,rfl⟩;refine HC.wk (ae (Ke a 90 [.elt (.agg [str b]),.elt (.agg [.sl 8 (L.map ci),.sl 2 (T.map A4)])] (λi=>B5 b λj=>F0 L i j) h (λn h1 e=>AT G n b c)) ?_) ?_;rotate_left
 .exact Ny
 exact Ix
omit G in
def AfB:QA 34 [stA L (T.map A4)] (λr=>r=.sl 3 (FU L T)):=by simp only[stA,FU];refine ai (Zt [(1,[1],[])] [] [] func34 ?_) ⟨_,rfl⟩;refine⟨_,_,?_,rfl,aa _,rfl,rfl⟩;exact dy _ _ _
end
section
variable{L:List Ap}{T:List (Ab × Ab)}{d:Int->Ab->Ab}(G:An L T)
include G
omit G in
def AoA{s p:Ab}(h:hasPrefix s p=true):p.length<=s.length:=by rw[<-hasPrefix_of_take,gk]at h;exact of_decide_eq_true h.1
omit G in
def Rw(a:Ab):∀(k:Nat) (s:Ab),(splitK a 0 k s).length<=k+1
 |0,s=>by rw[splitK];simp
 |k+1,s=>by
  rw[splitK];split
  .simp
  .have:=Rw a k;simp only[dg];exact Nat.succ_le_succ (this _)
def AU:(mL L).length<=1000000:=by
 have h1:=Ml (l:=B9 L) (f:=cY L) (c:=65) λt _=>by
  unfold cY;split
  .simp;omega
  .simp
 have a:=Ml (l:=L) (f:=Lk) (c:=100) λs h=>by
  unfold Lk;split
  .simp
  .rw[dB];exact G.ed s h
 have:=K6 G;have:=K7 G;have:=G.len';simp only[mL,dc,dB,dg,eh];omega
def Qf:(Dd L).length<=1000000:=by have:=P5 (vA (mL L));have:=mN (mL L);have:=AU G;unfold Dd;omega
def GS:QA 59 [stA L (T.map A4)] (λr=>r=.sl 1 ((Dd L).map str)):=by have:=K6 G;have:=K7 G;have:=AU G;refine(Ao9 L (T.map A4) G.len G.ok G.tp G.eo om om om).lf ?_;rintro r rfl;exact⟨_,dy _ _ _,rfl,rfl⟩
def AW(a):QA 32 [stA L (T.map A4),str a] (λr=>r=str (if a∈Dd L then[49]else[])):=by
 have n:=Qf G;have b:=GS G;simp only[stA]at *;refine ai (Zt [] [] [] func32 ?_) ⟨_,rfl⟩;refine ae b ?_;rintro r rfl;generalize Dd L=l at *;refine Z0 ?_;refine Ad (rl [6,1,4,7]) [10] (λm x g=>g=[]/\∃i,i+m=l.length/\x=[num i]/\a∉l.take i) ⟨l.length,_,_,⟨rfl,0,om,rfl,oS⟩,hent (aa _) ?_⟩ ?_
 .exact Zw
 .rintro m x g ⟨rfl,i,o,rfl,f⟩;simp only[PU];by_cases c:i<l.length;rotate_left
  .have j:=eU i l.length;rw[Are om]at f;refine Z1 j ?_;rw[ar f];exact Zx
  have j:=eT i l.length;have k:(l.map str).getD i .any=str l[i]:=by simp[fk,c]
  simp only[str]at k;by_cases e:l[i]=a
  .have e1:(l[i]==a)=true:=by simpa using e
   refine Zu ?_;rw[bn (show a∈l from e▸ko _)];exact Zx
  have e1:(l[i]==a)=false:=by simpa using e
  have p:i64.wrap ((i:Int)+1)=((i+1:Nat):Int):=Da om;refine Zu ?_;refine Am (m-1) _ _ om ⟨rfl,i+1,om,rfl,?_⟩ (hent (aa _) ?_)
  .rw[nk c,ff,ga];rintro(h|h)
   .exact f h
   .exact e h.symm
  .exact Zw
omit G in
def B3(k:Ab):Ξ:=splitK [47] 0 (min 4 (k.length+1)-1) k
def I5(L:List Ap)(T:List (Ab×Ab))(d:Int->Ab->Ab):List (Ab×Nat×(Ab->Ab->Ab)):=[([116,101,109,112,108,97,116,101],2,λa b=>H9 T a),([115,116,111,114,121],3,λa b=>B5 a λi=>d i b),([108,97,116,101,115,116],3,λa b=>B5 b λi=>Jm L a i),([112,97,103,101],3,λa b=>B5 b λi=>Q7 L a i),([98,121],2,λa b=>kO L a),([114,101,108,97,116,101,100],3,λa b=>B5 a λi=>B5 b λj=>F0 L i j),([116,111,112,105,99,115],1,λa b=>Gn L),([97,117,116,104,111,114,115],1,λa b=>E7 L),([99,111,117,110,116],2,λa b=>Vw L a)]
def Hq(p:Ξ)(f:Ab×Nat×(Ab->Ab->Ab)):Bool:=(f.1==p.getD 0 [])&&decide (f.2.1=p.length)
def B0(L:List Ap)(T:List (Ab×Ab))(d:Int->Ab->Ab)(k:Ab):Ab:=
 if hasPrefix k [97,100,100,114,101,115,115,47]=true then(if k.drop 7∈Dd L then[49]else[])
 else match(I5 L T d).find? (Hq (B3 k))with
  |some f=>f.2.2 ((B3 k++[[],[]]).getD 1 []) ((B3 k++[[],[]]).getD 2 [])
  |none=>[]
omit G in
def MY(a):0<(B3 a).length:=by
 unfold B3
 cases (min 4 (a.length+1)-1)with
 |zero=>simp[splitK]
 |succ k=>rw[splitK];split<;>simp
omit G in
def iR(p:Ξ)(i:Nat)(h:i<p.length+2):(p.map str++[str [],str []]).getD i .any=str ((p++[[],[]]).getD i []):=by have:p.map str++[str [],str []]=(p++[[],[]]).map str:=oS;rw[this,fk,fk,ao,ac (by simpa using h)];rfl
omit G in
def iS(k:Ab)(i)(a:k.length<=1000000):((B3 k++[[],[]]).getD i []).length<=1000000:=by
 rw[fk]
 cases h:(B3 k++[[],[]])[i]? with
 |none=>simp
 |some p=>
  have:=cu h;rcases ff.1 this with h|h
  .exact cp (Nb _ _ _ _ h) a
  .simp at h;subst h;simp
theorem Al8(K:Nn L T d){i:Nat}{f:Ab×Nat×(Ab->Ab->Ab)}(h:(I5 L T d)[i]? =some f):∃g e,(FU L T).getD i .any=.agg [str f.1,num f.2.1,.ee g e]/\∀a b:Ab,a.length<=1000000->b.length<=1000000->QA g (str a::str b::e) (λr=>r=str (f.2.2 a b)):=by
 have k:=(ab.1 h).1;rcases(show i=0\/i=1\/i=2\/i=3\/i=4\/i=5\/i=6\/i=7\/i=8 by have:(I5 L T d).length=9:=rfl;omega)with rfl|rfl|rfl|rfl|rfl|rfl|rfl|rfl|rfl<;>injection h with h<;>subst h<;>refine⟨_,_,rfl,λa b j c=> ?_⟩
 .exact MO G a b
 .exact MU G K a b j c
 .exact MV G a b c
 .exact MW G a b c
 .exact MP G a b
 .exact MX G a b j c
 .exact MR G a b
 .exact MS G a b
 .exact MQ G a b
def AfC(K:Nn L T d)(a:Ab)(A:a.length<=1000000):QA 11 [stA L (T.map A4),str a] (λr=>r=str (B0 L T d a)):=by
 have w:stA L (T.map A4)=.agg [.sl 8 (L.map ci),.sl 2 (T.map A4)]:=rfl;rw[w];refine ai (G7 [(2000007,[0,2,3,2001,2004,5,6,7,9,10,2008,11,12],[]),(7,[],[5])] [] [(2,[],[1,2,2000],[],[3003,4]),(7,[],[0,2,3,2001,2004,5,6,7,9,10,2008,11,12],[],[]),(9,[],[0,2,3,5,6,2001,2004,2007],[],[3008,9])] func11 ?_) ⟨_,rfl⟩;refine Z0 ?_
 cases l:hasPrefix a [97,100,100,114,101,115,115,47]with
 |true=>
  have x:B0 L T d a=if a.drop 7∈Dd L then[49]else[]:=by simp only[B0,l,if_true]
  have hlen:8<=a.length:=by have:=AoA l;simpa using this
  have y:List.take (a.length-7) (List.drop 7 a)=a.drop 7:=Are oS;refine HC.wk (ae (rH a [97,100,100,114,101,115,115,47]) ?_) ?_;rotate_left
  .try simp only[num,str]
   exact Zw
  rintro r rfl;try simp only[num,str,Af]
  repeat' first|apply Aq.on<;>intro _|refine gD ?_|simp only[go_sem,l,y]
  refine HC.wk (ae (AW G (a.drop 7)) ?_) ?_;rotate_left
  .try simp only[stA,num,str]
   exact Zw
  rintro r rfl;refine Z0 ?_;rw[x];exact Zx
 |false=>
  have o:B0 L T d a=match(I5 L T d).find? (Hq (B3 a))with
   |some f=>f.2.2 ((B3 a++[[],[]]).getD 1 []) ((B3 a++[[],[]]).getD 2 [])
   |none=>[]:=by simp only[B0,l,f0,if_false]
  have h:(FU L T).length=9:=rfl;have b:=MY a;have j:splitK [47] 0 (min 4 (a.length+1)-1) a=B3 a:=rfl;have F:(B3 a).length<=4:=by have:=Rw [47] (min 4 (a.length+1)-1) a;rw[j]at this;omega
  have hp0:((B3 a).map str).getD 0 .any=str ((B3 a).getD 0 []):=by simp[fk,b]
  simp only[str]at hp0;refine HC.wk (ae (rH a [97,100,100,114,101,115,115,47]) ?_) ?_;rotate_left
  .try simp only[num,str]
   exact Zw
  rintro r rfl;try simp only[num,str,Af]
  repeat' first|apply Aq.on<;>intro _|refine gD ?_|simp only[go_sem,l]
  refine HC.wk (ae (ZU a [47] 4 om oS om om) ?_) ?_;rotate_left
  .try simp only[num,str]
   exact Zw
  rintro r rfl;refine Z1 j ?_;refine HC.wk (ae (AfB (L:=L) (T:=T)) ?_) ?_;rotate_left
  .try simp only[stA,num,str]
   exact Zw
  rintro r rfl;try simp only[num,str,Af]
  repeat' first|apply Aq.on<;>intro _|refine gD ?_|simp only[go_sem,h]
  refine Ad (rl [7,1,12,29]) [5,19] (λm B C=>C=[]/\∃i,i+m=9/\B=[.own 9 1 ((B3 a).map str),num i]/\(I5 L T d).find? (Hq (B3 a))=((I5 L T d).drop i).find? (Hq (B3 a))) ⟨9,_,_,⟨rfl,0,om,rfl,rfl⟩,hent (aa _) ?_⟩ ?_
  .simp only[PU,j];exact Zw
  .rintro m B C ⟨rfl,i,J,rfl,c⟩;simp only[PU];rcases cq i 9 with D|D
   .have p:=bc (show(i:Int)<((9:Nat):Int) by omega);have u:i64.wrap ((i:Int)+1)=((i+1:Nat):Int):=Da om;obtain⟨f,H,z⟩:=Bj (show i<(I5 L T d).length from D);obtain⟨g,M,e,I⟩:=Al8 G K H;obtain⟨n,k,v⟩:=f;simp only[str,num]at e;cases h1:(n==(B3 a).getD 0 [])
    .have q:Hq (B3 a) (n,k,v)=false:=by simp only[Hq];rw[h1];rfl
     repeat' first|apply Aq.on<;>intro _|refine gD ?_|simp only[go_sem,p,e,hp0,b,h1,h,u]
     refine Am (m-1) _ _ om ⟨rfl,i+1,om,rfl,?_⟩ (hent (aa _) ?_)
     .rw[c,z,List.find?_cons,q]
     .exact Zw
    by_cases E:k=(B3 a).length;rotate_left
    .have e2:=bd (show¬((k:Int)=((B3 a).length:Int)) by omega);have q:Hq (B3 a) (n,k,v)=false:=by simp only[Hq,E,decide_false,qo]
     refine Wq (nA p (nA e (nA hp0 (nA b (nA h1 (nA e2 (nA h u))))))) ?_;refine Am (m-1) _ _ om ⟨rfl,i+1,om,rfl,?_⟩ (hent (aa _) ?_)
     .rw[c,z,List.find?_cons,q]
     .exact Zw
    have e2:=bc (show((k:Int)=((B3 a).length:Int)) by omega);have q:Hq (B3 a) (n,k,v)=true:=by simp only[Hq,h1,<-E,decide_true,qn]
    have s:=iR (B3 a) 1 om;have t:=iR (B3 a) 2 om;simp only[str]at s t;repeat' first|apply Aq.on<;>intro _|refine gD ?_|simp only[go_sem,p,e,hp0,b,h1,e2,h,u,s,t,dc]
    refine HC.wk (ae (I _ _ (iS a 1 A) (iS a 2 A)) ?_) ?_;rotate_left
    .try simp only[str,fj,fm]
     exact Zw
    rintro r rfl;refine Z1 u ?_;rw[show B0 L T d a=v ((B3 a++[[],[]]).getD 1 []) ((B3 a++[[],[]]).getD 2 []) by rw[o,c,z,List.find?_cons,q]];exact Zx
   .have p:=bd (show¬(i:Int)<((9:Nat):Int) by omega);obtain rfl:i=9:=om;have x:B0 L T d a=[]:=by rw[o,c];rfl
    refine Wq (nA p h) ?_;rw[x];exact Zx
end
def AoB(l:Ξ)(v)(n:l.length<=1000000):QA 39 [.sl 1 (l.map str),str v] (λr=>r=Af (decide (v∈l))):=by
 refine ai (Zt [] [] [] func39 ?_) ⟨_,rfl⟩;refine Ad (rl [5,13]) [5] (λm d e=>e=[]/\∃i,i+m=l.length/\d=[num i]/\decide (v∈l)=decide (v∈l.drop i)) ⟨l.length,_,_,⟨rfl,0,om,rfl,oS⟩,hent (aa _) ?_⟩ ?_
 .exact Zw
 .rintro m d e ⟨rfl,i,o,rfl,g⟩;simp only[PU];rw[g];by_cases b:i<l.length;rotate_left
  .have ej:=eU i l.length;have c:decide (v∈l.drop i)=false:=by rw[n9 om];simp
   rw[c];exact eP
  have ej:=eT i l.length;obtain⟨x,j,h⟩:=Bj b;have f:=Xy j;have k:=wS i;by_cases a:x=v
  .have e1:(x==v)=true:=by simpa using a
   have c:decide (v∈l.drop i)=true:=by rw[h];simp[a]
   rw[c];refine Z3 ej f e1 ?_;exact Zx
  .have e1:(x==v)=false:=by simpa using a
   refine Z4 ej f e1 k ?_;refine Zm (m-1) ⟨rfl,i+1,om,rfl,?_⟩;rw[h];simp[Ne.symm a]
def tT(L)(T:List (Ab×Ab))(v)(k:T.length<=1000000):QA 40 [.agg [.sl 8 L,.sl 2 (T.map A4)],str v] (λr=>r=.a6 [str (((T.find? (λt=>decide (t.1=v))).getD ([],[])).2),Af (T.find? (λt=>decide (t.1=v))).isSome]):=by
 refine ai (Zt [] [] [] func40 ?_) ⟨_,rfl⟩;refine Ad (rl [6,22]) [6] (λm d e=>e=[]/\∃i,i+m=T.length/\d=[num i]/\T.find? (λt=>decide (t.1=v))=(T.drop i).find? (λt=>decide (t.1=v))) ⟨T.length,_,_,⟨rfl,0,om,rfl,oS⟩,hent (aa _) ?_⟩ ?_
 .exact Zw
 .rintro m d e ⟨rfl,i,l,rfl,f⟩;simp only[PU];rw[f];by_cases a:i<T.length;rotate_left
  .have ej:=eU i T.length;rw[n9 om];exact eP
  have ej:=eT i T.length;obtain⟨x,g,b⟩:=Bj a;have c:(T.map A4).getD i .any=A4 x:=by rw[fk,ao,g];rfl
  simp only[A4,str]at c;have j:=wS i;rw[b]at f⊢;by_cases h:x.1=v
  .have e1:(x.1==v)=true:=by simpa using h
   rw[d8 (by simpa using h)];refine Z3 ej c e1 ?_;exact Zx
  .have e1:(x.1==v)=false:=by simpa using h
   rw[d9 (by simpa using h)];refine Z4 ej c e1 j ?_;exact Zm (m-1) ⟨rfl,i+1,om,rfl,rfl⟩
def Np(l:List Int)(q:l.length<=100000000)(h:∀x∈l,Db x):QA 45 [.sl 1 (Ar l)] (λr=>r=str (Tr l)):=by
 refine ai (Zt [] [] [] func45 ?_) ⟨_,rfl⟩;refine Ad (rl [3,18]) [3,4] (λm f g=>g=[]/\∃i,i+m=l.length/\f=[.own 9 1 (((l.take i).map itoa).map str),num i]) ⟨l.length,_,_,⟨rfl,0,om,rfl⟩,hent (aa _) ?_⟩ ?_
 .exact Zw
 .rintro m f g ⟨rfl,i,s,rfl⟩;simp only[PU];have a:(Ar l).length=l.length:=Ao l;by_cases b:i<l.length;rotate_left
  .have e:=eU i l.length;rw[Are om];refine Z2 e a ?_;have k:=Ic h;refine HC.wk (ae (Mj (l.map itoa) [44] (by simp;omega) (by unfold Tr at k;omega)) ?_) (Bl (br _));exact jK
  have e:=eT i l.length;obtain⟨x,c,n⟩:=Bj b;have o:(Ar l).getD i .any=.raw (.int .i64 x):=by rw[fk];simp[Ar,c];rfl
  have p:=wS i;have j:((l.take (i+1)).map itoa).map str=((l.take i).map itoa).map str++[str (itoa x)]:=by rw[fc,c];simp
  simp only[str]at j;refine Z3 e a o ?_;refine ae (Ib x (h x (cu c))) ?_;rintro r rfl;simp only[str];have d:(l.take i).length=i:=by rw[fw];omega
  refine Z2 p d ?_;exact Zm (m-1) ⟨rfl,i+1,om,by rw[j]⟩
def Km(s p:Ab):Ab×Bool:=if s.take p.length=p then(s.drop p.length,true)else([],false)
def bR(s p:Ab)(c:s.length<=1000000000)(d:p.length<=1000000000):QA 38 [str s,str p] (λr=>r=.a6 [str (Km s p).1,Af (Km s p).2]):=by
 refine ai (G7 [] [] [] func38 ?_) ⟨_,rfl⟩;by_cases f:s.length<p.length
 .have e:=eT s.length p.length;have a:Km s p=([],false):=by unfold Km;rw[ar];intro h;have:=fq List.length h;rw[fw]at this;omega
  rw[a];refine Z1 e ?_;exact Zx
 have e:=eU s.length p.length;have g:=Are (l:=s) (i:=s.length) om;by_cases b:s.take p.length=p
 .have e1:(s.take p.length==p)=true:=by simpa using b
  have a:Km s p=(s.drop p.length,true):=by unfold Km;rw[bn b]
  rw[a];refine Z2 e e1 ?_;rw[Are (by rw[jb];omega)];exact Zx
 .have e1:(s.take p.length==p)=false:=by simpa using b
  have a:Km s p=([],false):=by unfold Km;rw[ar b]
  rw[a];refine Z2 e e1 ?_;exact Zx
def N4(s a b:Ab):Prop:=s=a++47::b/\47∉a/\47∉b
def FV{s a b:Ab}(h:N4 s a b):s.count 47=1:=by obtain⟨rfl,h1,c⟩:=h;rw[List.count_append,List.count_cons_self,List.count_eq_zero.2 h1,List.count_eq_zero.2 c]
def ι(s:Ab)(r:AV):Prop:=(∃a b,N4 s a b/\r=.a6 [str a,str b,Af true])\/((∀a b,¬N4 s a b)/\r=.a6 [str [],str [],Af false])
def AfD(s:Ab):∃r,ι s r:=by
 by_cases h:∃a b,N4 s a b
 .obtain⟨a,b,h⟩:=h;exact⟨_,.inl ⟨a,b,h,rfl⟩⟩
 .exact⟨_,.inr ⟨λa b c=>h ⟨a,b,c⟩,rfl⟩⟩
def AX(s:Ab)(D:s.length<=1000000000):QA 42 [str s] (ι s):=by
 refine ai (G7 [] [] [(11,[],[0,1,2,3,4,5,6,7,8,9],[],[])] func42 ?_) (AfD s);refine Z0 ?_;refine Ad (rl [5,24]) [5,6] (λm x y=>y=[]/\∃i:Nat,i+m=s.length/\((x=[num (-1),num i]/\47∉s.take i)\/∃a b,x=[num (a.length:Nat),num i]/\N4 (s.take i) a b)) ⟨s.length,_,_,⟨rfl,0,om,.inl ⟨rfl,oS⟩⟩,hent (aa _) ?_⟩ ?_
 .exact Zw
 .rintro m x y ⟨rfl,i,E,d⟩;by_cases q:i<s.length;rotate_left
  .have j:=eU i s.length;rw[Are om]at d;rcases d with⟨rfl,d⟩|⟨a,b,rfl,d⟩
   .have r:∀a b,¬N4 s a b:=λa b h=>d (by rw[h.1];simp);simp only[PU,num];have k:=bc (show(-1:Int)<0 by decide);refine Z2 j k ?_;exact⟨_,_,bh _,rfl,aa _,rfl,.inr ⟨r,rfl⟩⟩
   .have t:=d;obtain⟨l,h1,z⟩:=d;have u:=fq List.length l;simp at u;simp only[PU,num];have k:=bd (show¬(a.length:Int)<0 by omega);have n:=wS a.length;have A:s.take a.length=a:=by rw[l,qq]
    have B:s.take ((a.length:Nat):Int).toNat=a:=A;have v:s.drop (a.length+1)=b:=by rw[l,List.drop_append];simp
    have e:b.take (s.length-(a.length+1))=b:=Are om;refine Z6 j k n A v e ?_;exact⟨_,_,bh _,rfl,aa _,rfl,.inl ⟨a,b,t,rfl⟩⟩
  have j:=eT i s.length;have n:=wS i;obtain⟨c,o⟩:∃c,s.getD i 0=c:=⟨_,rfl⟩;have e:s.take (i+1)=s.take i++[c]:=by rw[fc,<-o];simp[ac q]
  have p:((c.toNat:Int)=47)↔c=47:=by rw[<-UInt8.toNat_inj];show _↔c.toNat=47;omega
  by_cases f:c=47
  .have g:=bc (p.2 f);rcases d with⟨rfl,d⟩|⟨a,b,rfl,d⟩
   .simp only[PU,num];have k:=bd (show¬(0:Int)<= -1 by decide);refine Z5 j o g k n ?_;have w:(s.take i).length=i:=by rw[fw];omega
    exact Zm (m-1) ⟨rfl,i+1,om,.inr ⟨s.take i,[],by rw[w],by rw[e,f],d,oS⟩⟩
   .have r:∀a b,¬N4 s a b:=λF G h=>by
     have h1:=FV h;have z:=FV d;have C:=ki (i+1) s;rw[<-C,e,List.count_append,List.count_append,z,f]at h1;simp at h1;omega
    simp only[PU,num];have k:=bc (show(0:Int)<=(a.length:Int) by omega);refine Z4 j o g k ?_;exact⟨_,_,bh _,rfl,aa _,rfl,.inr ⟨r,rfl⟩⟩
  .have g:=bd (λh=>f (p.1 h));rcases d with⟨rfl,d⟩|⟨a,b,rfl,d⟩
   .simp only[PU,num];refine Z4 j o g n ?_;exact Zm (m-1) ⟨rfl,i+1,om,.inl ⟨rfl,by rw[e];simp[d,Ne.symm f]⟩⟩
   .simp only[PU,num];refine Z4 j o g n ?_;exact Zm (m-1) ⟨rfl,i+1,om,.inr ⟨a,b++[c],rfl,by rw[e,d.1];simp,d.2.1,by simp[d.2.2,Ne.symm f]⟩⟩
def AY(c:UInt8):Prop:=48<=c.toNat/\c.toNat<=57
def bS(n:Int)(c:UInt8):Int:=i64.wrap (i64.wrap (10*n)-((c.toNat:Int)-48))
def Pk{k}(h:k<10):AY (UInt8.ofNat (48+k))/\((UInt8.ofNat (48+k)).toNat:Int)-48=k:=by
 have h1:(UInt8.ofNat (48+k)).toNat=48+k:=by rw[UInt8.toNat_ofNat'];omega
 unfold AY;omega
def X0:∀(u:Nat),∀c∈decDigits u,AY c:=by
 intro u
 induction u using Nat.strongRecOn with
 |ind u ih=>
  intro c a;by_cases h:u<10
  .rw[decDigits_one h,ga]at a;rw[a];exact(Pk h).1
  .rw[Mk h,ff,ga]at a;rcases a with a|a
   .exact ih (u / 10) om c a
   .rw[a];exact(Pk om).1
def tU:∀(k u:Nat),u<10 ^ (k+1)->(decDigits u).length<=k+1:=by
 intro k
 induction k with
 |zero=>intro u h;rw[decDigits_one (by simpa using h)];simp
 |succ k ih=>
  intro u h;by_cases a:u<10
  .rw[decDigits_one a];simp
  .rw[Mk a,dc];have:=ih (u / 10) (by rw[Nat.pow_succ]at h;omega);simp;omega
def FW:∀(u:Nat),u<=999999999->(decDigits u).foldl bS 0= -(u:Int):=by
 intro u
 induction u using Nat.strongRecOn with
 |ind u ih=>
  intro a;by_cases h:u<10
  .rw[decDigits_one h];simp only[lc,oq,bS];rw[(Pk h).2,show i64.wrap (10*0)=0 from rfl,Aw om om];omega
  .rw[Mk h,mw,ih (u / 10) om om];simp only[lc,oq,bS];rw[(Pk (by omega:u % 10<10)).2,Aw (n:=10* -((u / 10:Nat):Int)) om om,Aw om om];omega
def Aby(n:Int)(c):Db (bS n c):=by unfold bS Db;rw[IntKind.wrap_i64];omega
def Abz(l:Ab):Db (l.foldl bS 0):=by
 rcases List.eq_nil_or_concat l with rfl|⟨l,c,rfl⟩
 .exact⟨oD,oD⟩
 .rw[List.concat_eq_append,mw];exact Aby _ _
def xl(s:Ab)(r:AV):Prop:=∃(n:Int) (b:Bool),r=.a6 [num n,Af b]/\(b=true->s=itoa n)/\∀k:Int,-999999999<=k->k<=999999999->s=itoa k->b=true/\n=k
def io(s:Ab):Nat:=if s.head? =some 45 then 1 else 0
def tV{k:Int}(h:0<=k):itoa k=decDigits k.toNat:=by unfold itoa;rw[ar om]
def tW{k:Int}(h:k<0):itoa k=45::decDigits k.natAbs:=by unfold itoa;rw[bn h]
def Vx{s:Ab}{k:Int}(h1: -999999999<=k)(i:k<=999999999)(h:s=itoa k):s.length<=20/\(∀c∈s.drop (io s),AY c)/\(s.drop (io s)).foldl bS 0= -(k.natAbs:Int)/\(io s=0↔0<=k):=by
 by_cases b:k<0
 .rw[tW b]at h;have a:io s=1:=by rw[h];rfl
  have d:=tU 9 k.natAbs om;rw[a,h];refine⟨by simp;omega,X0 _,?_,om⟩;exact FW k.natAbs om
 .rw[tV om]at h;have d:=tU 9 k.toNat om
  have a:io s=0:=by
   unfold io;rw[ar];intro e;have f:45∈decDigits k.toNat:=by rw[<-h];exact List.mem_of_head? e
   exact cw (X0 _ _ f).1 oD
  rw[a,h];refine⟨om,λc g=>X0 _ c g,?_,⟨λ_=>om,λ_=>rfl⟩⟩;rw[List.drop_zero,FW k.toNat om];omega
def iT(s:Ab)(U:s.length<=1000000000):QA 103 [str s] (xl s):=by
 have I:∃r,xl s r:=by
  by_cases h:∃k:Int,s=itoa k/\ -999999999<=k/\k<=999999999
  .obtain⟨k,M,h1,b⟩:=h;refine⟨_,k,true,rfl,λ_=>M,λj a N O=>⟨rfl,?_⟩⟩;have g1:=Vx h1 b M;have g2:=Vx a N O;omega
  .exact⟨_,0,false,rfl,oS,λk h1 b a=>cw ⟨k,a,h1,b⟩ h⟩
 have p:(¬(s.length<=20/\∀c∈s.drop (io s),AY c))->xl s (.a6 [num 0,Af false]):=λh=>⟨0,false,rfl,oS,λk h1 b a=>cw ⟨(Vx h1 b a).1,(Vx h1 b a).2.1⟩ h⟩;refine ai (G7 [(1000005,[],[])] [] [] func103 ?_) I;refine Z0 ?_;refine Bv (rl [5,49]) [5] (λy z=>z=[]/\y=[num (io s:Nat)]) ?_ ?_
 .cases s with
  |nil=>have e:=bd (show¬(0:Int)<0 by decide);have q:io []=0:=rfl;rw[q];refine Z1 e ?_;exact Im
  |cons c s'=>
   have e:=bc (show(0:Int)<((s'.length+1:Nat):Int) by omega);have f:(c::s').getD 0 0=c:=rfl;have A:((c.toNat:Int)=45)↔c=45:=by rw[<-UInt8.toNat_inj];show _↔c.toNat=45;omega
   by_cases d:c=45
   .have t:=bc (A.2 d);have q:io (c::s')=1:=by simp[io,d]
    rw[q];refine Z3 e f t ?_;exact Im
   .have t:=bd (λh=>d (A.1 h));have q:io (c::s')=0:=by simp[io,d]
    rw[q];refine Z3 e f t ?_;exact Im
 rintro y z ⟨rfl,rfl⟩;simp only[PU,num]
 have P:io s<=s.length:=by
  unfold io;split
  .rename_i h;cases s with
   |nil=>cases h
   |cons c l=>simp
  .omega
 refine Z0 ?_;refine Ad (rl [4,1,1,48]) [4,6] (λm y z=>z=[]/\∃i:Nat,io s+i+m=s.length/\y=[num (((s.drop (io s)).take i).foldl bS 0),num (io s+i:Nat)]/\(∀c∈(s.drop (io s)).take i,AY c)/\(0<i->s.length<=20)) ⟨s.length-io s,_,_,⟨rfl,0,om,rfl,oS,om⟩,hent (aa _) ?_⟩ ?_
 .exact Zw
 .rintro m y z ⟨rfl,i,V,rfl,J,hlen⟩;have E:=Abz ((s.drop (io s)).take i);by_cases K:io s+i<s.length
  .have u:=eT (io s+i) s.length;have Q:=wS (io s+i);obtain⟨c,f⟩:∃c,s.getD (io s+i) 0=c:=⟨_,rfl⟩;have hcd:(s.drop (io s))[i]? =some c:=by rw[List.getElem?_drop,<-f];simp[ac K]
   have B:(s.drop (io s)).take (i+1)=(s.drop (io s)).take i++[c]:=by rw[fc,hcd];rfl
   have g:c∈s.drop (io s):=cu hcd;generalize C:((s.drop (io s)).take i).foldl bS 0=n at *;simp only[PU,num];by_cases F:(c.toNat:Int)<48
   .have hr:=p λh=>by have:=(h.2 c g).1;omega
    have F:=bc F;refine Z3 u f F ?_;exact nW
   have e1:=bd F;by_cases G:(57:Int)<(c.toNat:Int)
   .have hr:=p λh=>by have:=(h.2 c g).2;omega
    have G:=bc G;refine Z4 u f e1 G ?_;exact nW
   have e2:=bd G;by_cases H:(20:Int)<(s.length:Int)
   .have hr:=p λh=>by have:=h.1;omega
    have H:=bc H;refine Z5 u f e1 e2 H ?_;exact nW
   have R:=bd H;have S:IntKind.u8.wrap ((c.toNat:Int)-48)=(c.toNat:Int)-48:=by rw[IntKind.wrap_u8];omega
   have T:i64.wrap ((c.toNat:Int)-48)=(c.toNat:Int)-48:=Aw om om;have L:((s.drop (io s)).take (i+1)).foldl bS 0=i64.wrap (i64.wrap (10*n)-((c.toNat:Int)-48)):=by rw[B,mw,C];rfl
   refine Z8 u f e1 e2 R S T Q ?_;refine Zm (m-1) ⟨rfl,i+1,om,by rw[L],λx o=> ?_,λ_=>om⟩;rw[B,ff,ga]at o;rcases o with o|rfl
   .exact J x o
   .exact⟨om,om⟩
  .have u:=eU (io s+i) s.length;have v:(s.drop (io s)).take i=s.drop (io s):=Are (by rw[jb];omega);rw[v]at E⊢;obtain⟨n,C⟩:∃n,(s.drop (io s)).foldl bS 0=n:=⟨_,rfl⟩;rw[C]at E⊢;simp only[PU,num];have D:∀x:Int,Db x->(∀k:Int,-999999999<=k->k<=999999999->s=itoa k->x=k)->xl s (.a6 [num x,Af (itoa x==s)]):=λx o h=>by refine⟨x,_,rfl,λh=>(by simpa using h:itoa x=s).symm,λk h1 b a=> ?_⟩;have:=h k h1 b a;rw[this,<-a];simp
   by_cases q:io s=0
   .have e:=bc (show((io s:Nat):Int)=0 by omega);have w:Db (i64.wrap (0-n)):=by unfold Db;rw[IntKind.wrap_i64];omega
    have hr:=D (i64.wrap (0-n)) w λk h1 b a=>by obtain⟨_,_,g3,g4⟩:=Vx h1 b a;have:=g4.1 q;rw[<-C,g3,Aw om om];omega
    obtain⟨x,o⟩:∃x,i64.wrap (0-n)=x:=⟨_,rfl⟩;rw[o]at hr w;refine Z3 u e o ?_;refine ae (Ib x w) ?_;rintro r rfl;simp only[str];refine Z0 ?_;exact nW
   .have e:=bd (show¬((io s:Nat):Int)=0 by omega);have hr:=D n E λk h1 b a=>by obtain⟨_,_,g3,g4⟩:=Vx h1 b a;rw[<-C,g3];omega
    refine Z2 u e ?_;refine ae (Ib n E) ?_;rintro r rfl;simp only[str];refine Z0 ?_;exact nW
def Mm(M:List Bq)(i:Int)(l:Ab):Option Ξ:=match Ga M i with
 |none=>none
 |some t=>match t.ed with
  |[]=>none
  |e0::_=>some (Kk M i t ((Ki t.ed l).getD e0))
def MZ(M:List Bq)(i:Int)(a:Ab):Cx M i a=match Mm M i a with
 |none=>[]
 |some l=>Lh l:=by
 unfold Cx Mm
 cases Ga M i with
 |none=>rfl
 |some t=>cases h:t.ed<;>simp[h]
def NA(M:List Bq)(v)(f:mF M)(h:mK M)(b:Int)(la):QA 163 [I8 M v,num b,str la] (λr=>r=.a6 [.sl 1 (((Mm M b la).getD []).map str),Af (Mm M b la).isSome]):=by
 refine ai (G7 [(1000007,[],[]),(1000017,[],[]),(1000020,[],[])] [] [(12,[],[0,2,6,2001,3,4,2005,2007,8],[],[]),(25,[80,95,97,99,101,10010,10008],[0,2,4,6,9,10,11,12,1001,1003,1005,1007],[2008,2013],[3014,15,16])] func163 ?_) ⟨_,rfl⟩;simp only[I8];refine Z0 ?_;refine ae (Xx M v f.len b) ?_;rintro r rfl
 cases g:Ga M b with
 |none=>
  have hq:Mm M b la=none:=by simp[Mm,g]
  rw[hq];simp only[nz,mf,Tv,zT,num,str,Af,db];exact Aih
 |some t=>
  have d:t∈M:=i8 g;have I:=f.ed t d;simp only[jy,ng,Tv,num,str,Af]
  cases he:t.ed with
  |nil=>
   have hq:Mm M b la=none:=by simp[Mm,g,he]
   rw[hq];simp only[db,nz,mf];exact Aih
  |cons e0 es=>
   have el:((t.ed.length:Nat):Int)=0↔False:=by rw[he];simp;omega
   have el:=propext el;have j:=bc (show 0<t.ed.length by rw[he];simp);have A:(t.ed.map Mf).getD 0 .any=Mf e0:=by rw[he];rfl
   obtain⟨e,hee⟩:∃e,(Ki t.ed la).getD e0=e:=⟨_,rfl⟩;have J:e∈t.ed:=by rw[<-hee];exact GR
   have hq:Mm M b la=some (Kk M b t e):=by simp only[Mm,g,he];rw[<-he,hee]
   rw[<-he,hq];have w:=Pj M v f b la;rw[g]at w;simp only[jy,I8]at w;refine Z1 el ?_;refine ae w ?_;rintro r rfl;have B:∃(y:Ab×dV) (k:Bool),((Ki t.ed la).getD zE)=y/\(Ki t.ed la).isSome=k/\(k=true->y=e)/\(k=false->e=e0):=by exact a_
   obtain⟨y,k,l,o,p,q⟩:=B;rw[l,o];simp only[Mf,num,str,Af]at A⊢;simp only[go_sem];refine Z0 ?_;refine Bv (rl [10,100]) [10] (λx a=>a=[]/\x=[.box 101 [str e.1,num e.2.rv,str e.2.ti,.sl 9 (e.2.bs.map b8),num e.2.ch]]) ?_ ?_
   .cases k with
    |true=>have:=p rfl;subst this;refine Z0 ?_;exact Im
    |false=>have:=q rfl;subst this;refine Z2 A j ?_;exact Im
   rintro x a ⟨rfl,rfl⟩;simp only[PU];clear l o p q hee A w he;refine Z0 ?_;refine ae (Abu M v f b e.1) ?_;rintro r rfl;simp only[str,Af];refine Z0 ?_;have K:=f.co t d;refine Ad (rl [14,96]) [14,15] (λm x a=>a=[]/\∃i,i+m=t.co.length/\x=[num (Ff e.1 (t.co.take i):Nat),num i]) ⟨t.co.length,_,_,⟨rfl,0,om,rfl⟩,hent (aa _) ?_⟩ ?_
   .exact Zw
   .rintro m x a ⟨rfl,i,L,rfl⟩;simp only[PU];have C:Ff e.1 (t.co.take i)<=i:=cp (kh _ _) (by simp;omega);by_cases hlt:i<t.co.length
    .exact ϵ
    have ej:=eU i t.co.length;rw[Are om]at C⊢;refine Z1 ej ?_;refine Bv (rl [14,96]) [14,16] (λx a=>a=[]/\x=[.any,str (if Ff e.1 t.co=0 then[]else itoa (Ff e.1 t.co:Nat))]) ?_ ?_
    .by_cases hn0:Ff e.1 t.co=0
     .exact AgB
     .have en:=bc (show(0:Int)<((Ff e.1 t.co:Nat):Int) by omega);refine Z1 en ?_;refine Zh (Ib (Ff e.1 t.co:Nat) ⟨om,om⟩) ?_;exact Im
    rintro x a ⟨rfl,rfl⟩;simp only[PU]
    have N:(if Ff e.1 t.co=0 then[]else itoa (Ff e.1 t.co:Nat):Ab).length<=30:=by
     split
     .simp
     .exact nR
    have s:Kk M b t e=Kk M b t e:=rfl
    conv at s=>rhs;unfold Kk
    generalize (if Ff e.1 t.co=0 then[]else itoa (Ff e.1 t.co:Nat):Ab)=cr at *;simp only[str];refine Z0 ?_;refine Bv (rl [14,2,1,93]) [17] (λx a=>a=[]/\x=[str (if t.re=true then T8 else[])]) ?_ ?_
    .cases u:t.re
     .refine Z1 u ?_;exact Im
     .refine Z1 u ?_;exact Im
    rintro x a ⟨rfl,rfl⟩;simp only[PU];have H:(if t.re=true then T8 else[]:Ab).length<=30:=by split<;>simp[T8]
    generalize (if t.re=true then T8 else[])=re at *;simp only[str];refine Z0 ?_;refine Ad (rl [18,92]) [18,19] (λm x a=>a=[]/\∃i,i+m=t.ed.length/\x=[.own 9 1 (((t.ed.take i).map (·.1)).map str),num i]) ⟨t.ed.length,_,_,⟨rfl,0,om,rfl⟩,hent (aa _) ?_⟩ ?_
    .exact Zw
    .rintro m x a ⟨rfl,i,L,rfl⟩;simp only[PU];have hll:(((t.ed.take i).map (·.1)).map str).length=min i t.ed.length:=oS;by_cases hlt:i<t.ed.length
     .exact Ϯ
     have ej:=eU i t.ed.length;rw[Are om];rw[s];have D:=Dq (sep:=[44,32]) (c:=1000000) (zs:=t.tp) (h.tn t d);have E:=Dq (sep:=[32]) (c:=1000000) (zs:=t.ed.map (·.1)) (λz O=>by obtain⟨e,he,rfl⟩:=dm.1 O;exact h.la t d e he);have F:=h.tp t d;have G:=h.ed t d;have P:=jh (1000000+2) F;have Q:=jh (1000000+1) G;simp only[dg,eh,dB]at D E;refine Z1 ej ?_;refine Zh (Mj t.tp [44,32] om om) ?_;refine HC.wk (ae (Mj (t.ed.map (·.1)) [32] (by simp;omega) om) ?_) (Bl (br _));rintro r rfl;refine Zn ?_;exact⟨_,_,eu (Bl (.same .nil)),rfl,aa _,rfl,rfl⟩
def AfF{M:List Bq}(a:mF M)(h:mK M)(i:Int)(la):((Mm M i la).getD []).length<=8/\∀s∈(Mm M i la).getD [],s.length<=5000000000000:=by
 unfold Mm;split
 .simp
 .rename_i t o;have b:t∈M:=i8 o;split
  .simp
  .rename_i m B he;have d:((Ki t.ed la).getD m)∈t.ed:=by exact GR
   generalize (Ki t.ed la).getD m=e at *;refine⟨by simp[Kk],λs f=> ?_⟩;have g:=Dq (sep:=[44,32]) (c:=1000000) (zs:=t.tp) (h.tn t b);have j:=Dq (sep:=[32]) (c:=1000000) (zs:=t.ed.map (·.1)) (λz p=>by obtain⟨e,he,rfl⟩:=dm.1 p;exact h.la t b e he);have k:=h.tp t b;have l:=h.ed t b;have q:=jh (1000000+2) k;have r:=jh (1000000+1) l;simp only[dg,eh,dB]at g j;have u:=Vv (c:=900000) om a.len a.tx a.bs a.ti a.co a.ct i e.1;have v:=h.au t b;have w:=h.la t b e d;have x:=a.ti t b e d
   have A:(if Ff e.1 t.co=0 then[]else itoa (Ff e.1 t.co:Nat):Ab).length<=30:=by
    split
    .simp
    .have:Ff e.1 t.co<=t.co.length:=kh _ _;have:=a.co t b;exact nR
   have n:(if t.re=true then T8 else[]:Ab).length<=30:=by split<;>simp[T8]
   simp only[Kk,jy,e9,lv,or_false]at f;rcases f with rfl|rfl|rfl|rfl|rfl|rfl|rfl|rfl;all_goals omega
def NB(M:List Bq)(t)(o:mF M)(e:mK M)(a:Int)(c):QA 104 [I8 M t,num a,str c] (λr=>r=str (Cx M a c)):=by
 have p:=NA M t o e a c;have w:=AfF o e a c;have y:Cx M a c=Lh ((Mm M a c).getD []):=by rw[MZ];cases Mm M a c<;>rfl
 have A:(Mm M a c).isSome=false->(Mm M a c).getD []=[]:=by cases Mm M a c<;>simp
 rw[y];generalize (Mm M a c).getD []=l at *;generalize (Mm M a c).isSome=b at *;obtain⟨B,f⟩:=w;refine ai (G7 [] [] [(6,[],[0,1,2,3,9,10,11,1004,5,1012],[2006,7,8],[13,14,15])] func104 ?_) ⟨_,rfl⟩;simp only[I8]at p⊢;refine Z0 ?_;refine ae p ?_;rintro r rfl;simp only[Af];refine Z0 ?_;refine Ad (rl [9,34]) [9,10] (λm q u=>u=[]/\∃i,i+m=l.length/\q=[str (Lh (l.take i)),num i]) ⟨l.length,_,_,⟨rfl,0,om,rfl⟩,hent (aa _) ?_⟩ ?_
 .exact Zw
 .rintro m q u ⟨rfl,i,I,rfl⟩;simp only[PU,str];by_cases d:i<l.length
  .have ej:=eT i l.length
   have g:b=true:=by
    cases b with
    |true=>rfl
    |false=>rw[A rfl]at d;simp at d
   subst g;obtain⟨x,j,C⟩:=Bj d;have v:=Xy j;have D:=wS i;have E:=f x (cu j);have F:=tQ (l:=l.take i) λs h=>f s (i7 h);have k:(l.take i).length<=8:=by rw[fw];omega
   have G:=jh 5000000000030 k;have n:Lh (l.take (i+1))=Lh (l.take i)++itoa (x.length:Nat)++[58]++x++[44]:=by unfold Lh;rw[fc,j,pi];simp[kH]
   have H:=itoa_length_le (x.length:Nat) om om;generalize Lh (l.take i)=z at *;refine Z2 ej v ?_;refine ae (Ib (x.length:Nat) ⟨om,om⟩) ?_;rintro r rfl;simp only[str];refine Z3 ej v D ?_;exact Zm (m-1) ⟨rfl,i+1,om,by rw[n]⟩
  .have ej:=eU i l.length;exact nT
def mP{c:UInt8}(d:AY c):∀(l:Ab) (a u:Nat),parseUint10 a l=.ok u->u<=999999999->parseUint10 a (l++[c])=.ok (u*10+(c.toNat-48))
 |[],a,u,h,hu=>by simp only[parseUint10]at h;injection h with h;subst h;obtain⟨h1,b⟩:=d;simp only[fm,parseUint10];rw[bn ⟨h1,b⟩,ar om,ar om]
 |x::l,a,u,h,hu=>by
  simp only[fj,parseUint10]at h⊢;split at h
  .rename_i e;rw[bn e];split at h
   .cases h
   .rename_i h1;rw[ar h1];split at h
    .cases h
    .rename_i b;rw[ar b];exact mP d l _ u h hu
  .cases h
def Ab0:∀(u:Nat),u<=999999999->parseUint10 0 (decDigits u)=.ok u:=by
 intro u
 induction u using Nat.strongRecOn with
 |ind u ih=>
  intro a;by_cases h:u<10
  .rw[decDigits_one h];have:=mP (Pk h).1 [] 0 0 rfl om;simp only[fm]at this;rw[this];have:=(Pk h).2;congr 1;omega
  .rw[Mk h,mP (Pk (by omega:u % 10<10)).1 _ 0 (u / 10) (ih _ om om) om];have:=(Pk (by omega:u % 10<10)).2;congr 1;omega
def Ab1(u):decDigits u≠[]:=by rw[decDigits];split<;>simp
def iU{k}(h1: -999999999<=k)(f:k<=999999999):atoiAll (itoa k)=.ok k:=by
 by_cases h:k<0
 .rw[tW h,atoiAll_minus,parseMag,ar (Ab1 _),Ab0 _ om];simp only[Lib.signed];rw[ar om];congr 1;omega
 .rw[tV om];have a:=Ab1 k.toNat;have b:=X0 k.toNat;have d:=Ab0 k.toNat om;generalize decDigits k.toNat=l at *
  cases l with
  |nil=>exact cw rfl a
  |cons c r=>have e:=b c oS;obtain⟨g1,g2⟩:=e;rw[atoiAll_plain c r om om,parseMag,ar oS,d];simp only[signless];rw[ar om];congr 1;omega
def Ab2{k}(h1: -999999999<=k)(h:k<=999999999)(f:Int->Ab):B5 (itoa k) f=f k:=by
 have a:K0 (itoa k)=true:=by unfold K0;rw[iU h1 h]
 have b:Bi (itoa k)=k:=by unfold Bi;rw[iU h1 h]
 unfold B5;rw[a,b,bn ⟨rfl,rfl,h1,h⟩]
def AfG{s:Ab}(h:∀k:Int,-999999999<=k->k<=999999999->s≠itoa k)(f:Int->Ab):B5 s f=[]:=by unfold B5;rw[ar];rintro⟨_,a,b,c⟩;exact h _ b c a.symm
def tX{s:Ab}{n b}(h1:b=true->s=itoa n)(a:∀k:Int,-999999999<=k->k<=999999999->s=itoa k->b=true/\n=k)(f:Int->Ab):
 ((b&&(decide (-999999999<=n)&&decide (n<=999999999)))=true->B5 s f=f n)/\((b&&(decide (-999999999<=n)&&decide (n<=999999999)))=false->B5 s f=[]):=by
 refine⟨λh=> ?_,λh=>AfG (λk g1 g2 g3=> ?_) f⟩
 .simp only[gk,i6]at h;rw[h1 h.1];exact Ab2 h.2.1 h.2.2 f
 .obtain⟨rfl,rfl⟩:=a k g1 g2 g3;rw[decide_eq_true g1,decide_eq_true g2]at h;cases h
def Vy:Ab:=[115,116,111,114,121]
def Vz:Ab:=[108,97,116,101,115,116]
def V0:Ab:=[112,97,103,101]
def Wz:Ab:=[114,101,108,97,116,101,100]
def iV(M:List Bq)(w a b:Ab):Ab:=if w=Vy then B5 a λi=>Cx M i b else if w=Vz then B5 b λi=>Jm (M.map Bq.s) a i else if w=V0 then B5 b λi=>Q7 (M.map Bq.s) a i else B5 a λi=>B5 b λj=>F0 (M.map Bq.s) i j
def AfH(M:List Bq)(T:List (Ab×Ab))(G:An (M.map Bq.s) T)(C:mF M)(p:mK M)(w a b:Ab)(D:w=Vy\/w=Vz\/w=V0\/w=Wz)(E:a.length<=1000000000)(F:b.length<=1000000000):QA 47 [I8 M (T.map A4),str w,str a,str b] (λr=>r=str (iV M w a b)):=by
 refine ai (G7 [(1000004,[],[]),(1000005,[],[])] [] [] func47 ?_) ⟨_,rfl⟩;simp only[I8];refine Z0 ?_;refine ae (iT a E) ?_;rintro r ⟨c,t,rfl,p1,y⟩;simp only[num,Af];refine Z0 ?_;refine ae (iT b F) ?_;rintro r ⟨n,u,rfl,z,A⟩;simp only[num,Af];have q1:=tX p1 y;have q:=tX z A;clear p1 y z A;refine Z0 ?_;refine Bv (rl [15,82]) [10] (λk m=>m=[]/\k=[Af (t&&(decide (-999999999<=c)&&decide (c<=999999999)))]) ?_ ?_
 .cases t with
  |false=>refine Z0 ?_;exact Im
  |true=>
   by_cases h1: -999999999<=c
   .have e1:=bc h1;by_cases o:c<=999999999
    .have e2:=bc o;refine Z2 e1 e2 ?_;exact Im
    .have e2:=bd o;refine Z2 e1 e2 ?_;exact Im
   .exact AgG
 rintro k m ⟨rfl,rfl⟩;simp only[PU,Af];generalize (t&&(decide (-999999999<=c)&&decide (c<=999999999)))=c1 at *;refine Bv (rl [15,82]) [12] (λk m=>m=[]/\k=[Af (u&&(decide (-999999999<=n)&&decide (n<=999999999)))]) ?_ ?_
 .cases u with
  |false=>refine Z0 ?_;exact Im
  |true=>
   by_cases h1: -999999999<=n
   .have e1:=bc h1;by_cases o:n<=999999999
    .have e2:=bc o;refine Z2 e1 e2 ?_;exact Im
    .have e2:=bd o;refine Z2 e1 e2 ?_;exact Im
   .exact AgG
 rintro k m ⟨rfl,rfl⟩;simp only[PU,Af];generalize (u&&(decide (-999999999<=n)&&decide (n<=999999999)))=c2 at *;have H:(M.map Bq.s).length<=1000:=G.len';have d:∀v,(Bd v (M.map Bq.s)).length<=1000:=λv=>by have:=Cw v (M.map Bq.s);omega
 have e:∀v,∀x∈(Bd v (M.map Bq.s)).map (·.id),Db x:=λv x f=>by obtain⟨s,I,rfl⟩:=dm.1 f;exact G.id s (Pd v _ s I)
 rcases D with rfl|rfl|rfl|rfl
 .have e1:(Vy==[115,116,111,114,121])=true:=rfl;have e2:(Vy==[108,97,116,101,115,116])=false:=rfl;have e3:(Vy==[112,97,103,101])=false:=rfl;have e4:(Vy==[114,101,108,97,116,101,100])=false:=rfl;have g:iV M Vy a b=B5 a λi=>Cx M i b:=rfl;rw[g]
  cases c1 with
  |false=>rw[(q1 _).2 rfl];exact nZ
  |true=>rw[(q1 _).1 rfl];refine Z4 e1 e2 e3 e4 ?_;refine ae (NB M (T.map A4) C p c b) ?_;exact jK
 .have e1:(Vz==[115,116,111,114,121])=false:=rfl;have e2:(Vz==[108,97,116,101,115,116])=true:=rfl;have e3:(Vz==[112,97,103,101])=false:=rfl;have e4:(Vz==[114,101,108,97,116,101,100])=false:=rfl;have g:iV M Vz a b=B5 b λi=>Jm (M.map Bq.s) a i:=rfl;rw[g]
  cases c2 with
  |false=>rw[(q _).2 rfl];exact nZ
  |true=>rw[(q _).1 rfl];have h:=sJ (M.map Bq.s) (T.map A4) a n om G.ok;rw[<-Nk]at h;simp only[I8,str,num]at h;refine Z4 e1 e2 e3 e4 ?_;refine ae h ?_;rintro r rfl;refine Z0 ?_;refine HC.wk (ae (Np _ (by have:=d a;simp;omega) λx f=>e a x (i7 f)) ?_) (Bl .nil);exact jK
 .have e1:(V0==[115,116,111,114,121])=false:=rfl;have e2:(V0==[108,97,116,101,115,116])=false:=rfl;have e3:(V0==[112,97,103,101])=true:=rfl;have e4:(V0==[114,101,108,97,116,101,100])=false:=rfl;have g:iV M V0 a b=B5 b λi=>Q7 (M.map Bq.s) a i:=rfl;rw[g]
  cases c2 with
  |false=>rw[(q _).2 rfl];exact nZ
  |true=>rw[(q _).1 rfl];have h:=gP (M.map Bq.s) (T.map A4) a n om G.ok;rw[<-Nk]at h;have B:∀x∈O5 ((Bd a (M.map Bq.s)).reverse.map (·.id)) n,Db x:=λx f=>e a x (by simpa using Xz f);have L:=Tn ((Bd a (M.map Bq.s)).reverse.map (·.id)) n;have J:=Ic B;have:=d a;unfold Q7;generalize O5 ((Bd a (M.map Bq.s)).reverse.map (·.id)) n=l at *;generalize hpn:((Bd a (M.map Bq.s)).length+4) / 5=pn at *;have K:=itoa_length_le (pn:Nat) om om;simp only[I8,str,num]at h;refine Z4 e1 e2 e3 e4 ?_;refine ae h ?_;rintro r rfl;refine Z0 ?_;refine HC.wk (ae (Np l om B) ?_) (Bl .nil);rintro r rfl;simp only[str];refine Z0 ?_;refine ae (Ib (pn:Nat) ⟨om,om⟩) ?_;exact jK
 .have e1:(Wz==[115,116,111,114,121])=false:=rfl;have e2:(Wz==[108,97,116,101,115,116])=false:=rfl;have e3:(Wz==[112,97,103,101])=false:=rfl;have e4:(Wz==[114,101,108,97,116,101,100])=true:=rfl;have g:iV M Wz a b=B5 a λi=>B5 b λj=>F0 (M.map Bq.s) i j:=rfl;rw[g]
  cases c1 with
  |false=>rw[(q1 _).2 rfl];exact nZ
  |true=>
   rw[(q1 _).1 rfl]
   cases c2 with
   |false=>rw[(q _).2 rfl];exact nZ
   |true=>rw[(q _).1 rfl];have h:=mH (M.map Bq.s) (T.map A4) c n om G.ok G.tp;rw[<-Nk]at h;simp only[I8,str,num]at h;refine Z4 e1 e2 e3 e4 ?_;refine ae h ?_;rintro r rfl;refine Z0 ?_;refine HC.wk (ae (Np _ (FT G c n) (λx f=>bP G f)) ?_) (Bl .nil);exact jK
def mQ{p}(b:47∉p)(k:Nat):splitK [47] 0 k p=[p]:=by have:=aB [] p k (λq hq c a h=>by rw[ga.1 hq]at a;exact b (h▸a)) oS;rwa [join_one]at this
def Mn{p}(b:47∉p)(r)(k:Nat):splitK [47] 0 (k+1) (p++47::r)=p::splitK [47] 0 k r:=by
 have h1:=Wj p r (λc d h=>b (h▸d));rw[splitK,index_one,h1];have a:¬((p.length:Int)== -1)=true:=by simp;try omega
 rw[ar a];simp only[pq,nj,dg,eh,jp];rw[sw (bx _),lr,show List.drop (p.length+1) (p++47::r)=r by rw[<-ob,sv (bx _),List.drop_length];rfl]
theorem Pl:∀(s:Ab),47∈s->∃p a,s=p++47::a/\47∉p
 |[],h=>by cases h
 |c::s,h=>by
  by_cases b:c=47
  .exact⟨[],s,by rw[b];rfl,oS⟩
  .obtain⟨p,r,h1,d⟩:=Pl s (by simpa[Ne.symm b]using h);exact⟨c::p,r,by rw[h1];rfl,by simp[d,Ne.symm b]⟩
def Al9{k}(h:47∉k):B3 k=[k]:=mQ h _
def AlA{p q:Ab}(h:47∉p)(a:47∉q):B3 (p++47::q)=[p,q]:=by unfold B3;obtain⟨k,b⟩:∃k,min 4 ((p++47::q).length+1)-1=k+1:=⟨min 4 ((p++47::q).length+1)-2,by simp;omega⟩;rw[b,Mn h,mQ a]
def AlB{p q r:Ab}(h:47∉p)(a:47∉q)(b:47∉r):B3 (p++47::(q++47::r))=[p,q,r]:=by unfold B3;obtain⟨k,c⟩:∃k,min 4 ((p++47::(q++47::r)).length+1)-1=k+1+1:=⟨min 4 ((p++47::(q++47::r)).length+1)-3,by simp;omega⟩;rw[c,Mn h,Mn a,mQ b]
def AlC{p q r:Ab}(h:47∉p)(a:47∉q)(b:47∈r):∃x y,B3 (p++47::(q++47::r))=[p,q,x,y]:=by
 obtain⟨x,y,rfl,c⟩:=Pl r b;refine⟨x,y,?_⟩;unfold B3;have d:min 4 ((p++47::(q++47::(x++47::y))).length+1)-1=0+1+1+1:=by simp;omega
 rw[d,Mn h,Mn a,Mn c];rfl
theorem Ab3(k:Ab):47∉k\/(∃p q,k=p++47::q/\47∉p/\47∉q)\/(∃p q r,k=p++47::(q++47::r)/\47∉p/\47∉q/\47∉r)\/∃p q r,k=p++47::(q++47::r)/\47∉p/\47∉q/\47∈r:=by
 by_cases h:47∈k
 .obtain⟨p,q,rfl,a⟩:=Pl k h;by_cases b:47∈q
  .obtain⟨q,r,rfl,hq⟩:=Pl q b;by_cases c:47∈r
   .exact .inr (.inr (.inr ⟨p,q,r,rfl,a,hq,c⟩))
   .exact .inr (.inr (.inl ⟨p,q,r,rfl,a,hq,c⟩))
  .exact .inr (.inl ⟨p,q,rfl,a,b⟩)
 .exact .inl h
def Rx:∀{p w t r:Ab},47∉p->47∉w->w++47::t=p++47::r->w=p/\t=r
 |[],[],t,r,hp,hw,h=>by simpa using h
 |[],c::w,t,r,hp,hw,h=>by simp only[fj,fm,b5]at h;exact cw (h.1▸vq) hw
 |c::p,[],t,r,hp,hw,h=>by simp only[fj,fm,b5]at h;exact cw (h.1▸vq) hp
 |c::p,d::w,t,r,hp,hw,h=>by simp only[fj,b5]at h;obtain⟨h1,a⟩:=Rx (λh=>hp (.tail _ h)) (λh=>hw (.tail _ h)) h.2;exact⟨by rw[h.1,h1],a⟩
def X1:Ab:=[97,100,100,114,101,115,115]
def Pt:Ab:=[116,101,109,112,108,97,116,101]
def SI:Ab:=[98,121]
def VQ:Ab:=[99,111,117,110,116]
def Wc:Ab:=[116,111,112,105,99,115]
def Ws:Ab:=[97,117,116,104,111,114,115]
def Qg{p rest:Ab}(a:47∉p):hasPrefix (p++47::rest) [97,100,100,114,101,115,115,47]=decide (p=X1):=by
 unfold hasPrefix;by_cases h:p=X1
 .rw[h];simp[X1]
 .rw[decide_eq_false h]
  cases b:List.isPrefixOf [97,100,100,114,101,115,115,47] (p++47::rest)with
  |false=>rfl
  |true=>obtain⟨t,c⟩:=List.isPrefixOf_iff_prefix.1 b;exact cw (Rx (w:=X1) (t:=t) a oD c).1.symm h
section
variable{L:List Ap}{T:List (Ab × Ab)}{a:Int->Ab->Ab}
def w_{k}(h:47∉k):B0 L T a k=if k=Wc then Gn L else if k=Ws then E7 L else[]:=by
 unfold B0
 have c:hasPrefix k [97,100,100,114,101,115,115,47]=false:=by
  cases d:hasPrefix k [97,100,100,114,101,115,115,47]with
  |false=>rfl
  |true=>obtain⟨t,e⟩:=List.isPrefixOf_iff_prefix.1 d;exact cw (by rw[<-e];simp) h
 rw[c,Al9 h];by_cases h1:k=Wc
 .subst h1;rfl
 by_cases b:k=Ws
 .subst b;rfl
 rw[ar h1,ar b];have e1:(Wc==k)=false:=by simpa using Ne.symm h1
 have e2:(Ws==k)=false:=by simpa using Ne.symm b
 unfold Wc at e1;unfold Ws at e2;simp[I5,Hq,List.find?,e1,e2]
theorem FX{rest}:(X1++47::rest).drop 7=47::rest:=rfl
def wb{p q:Ab}(h:47∉p)(f:47∉q):B0 L T a (p++47::q)=if p=X1 then(if 47::q∈Dd L then[49]else[])else if p=Pt then H9 T q else if p=SI then kO L q else if p=VQ then Vw L q else[]:=by
 unfold B0;rw[Qg h,AlA h f];by_cases ha:p=X1
 .exact PV
 rw[decide_eq_false ha,ar oS,ar ha];by_cases b:p=Pt
 .subst b;rfl
 by_cases c:p=SI
 .subst c;rfl
 by_cases d:p=VQ
 .subst d;rfl
 rw[ar b,ar c,ar d];have e1:(Pt==p)=false:=by simpa using Ne.symm b
 have e2:(SI==p)=false:=by simpa using Ne.symm c
 have e:(VQ==p)=false:=by simpa using Ne.symm d
 unfold Pt at e1;unfold SI at e2;unfold VQ at e;simp[I5,Hq,List.find?,e1,e2,e]
def xj{p q r:Ab}(h:47∉p)(c:47∉q)(d:47∉r):B0 L T a (p++47::(q++47::r))=if p=X1 then(if 47::(q++47::r)∈Dd L then[49]else[])else if p=Vy then B5 q (λi=>a i r)else if p=Vz then B5 r (λi=>Jm L q i)else if p=V0 then B5 r (λi=>Q7 L q i)else if p=Wz then B5 q (λi=>B5 r λj=>F0 L i j)else[]:=by
 unfold B0;rw[Qg h,AlB h c d];by_cases ha:p=X1
 .exact PV
 rw[decide_eq_false ha,ar oS,ar ha];by_cases g1:p=Vy
 .subst g1;rfl
 by_cases g2:p=Vz
 .subst g2;rfl
 by_cases g3:p=V0
 .subst g3;rfl
 by_cases g4:p=Wz
 .subst g4;rfl
 rw[ar g1,ar g2,ar g3,ar g4];have e1:(Vy==p)=false:=by simpa using Ne.symm g1
 have e2:(Vz==p)=false:=by simpa using Ne.symm g2
 have e:(V0==p)=false:=by simpa using Ne.symm g3
 have b:(Wz==p)=false:=by simpa using Ne.symm g4
 unfold Vy at e1;unfold Vz at e2;unfold V0 at e;unfold Wz at b;simp[I5,Hq,List.find?,e1,e2,e,b]
def Fm{p q r:Ab}(h:47∉p)(b:47∉q)(c:47∈r):B0 L T a (p++47::(q++47::r))=if p=X1 then(if 47::(q++47::r)∈Dd L then[49]else[])else[]:=by
 unfold B0;obtain⟨x,y,d⟩:=AlC h b c;rw[Qg h,d];by_cases ha:p=X1
 .exact PV
 rw[decide_eq_false ha,ar oS,ar ha];simp[I5,Hq,List.find?]
end
end Go.Proofs.YtobhohikfmlccaaGreatDoor
