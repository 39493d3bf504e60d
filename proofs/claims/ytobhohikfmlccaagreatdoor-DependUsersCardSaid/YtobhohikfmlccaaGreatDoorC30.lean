/- The reference's Sum is the code's. -/
import Derived.Test.YtobhohikfmlccaaGreatDoorRows
import Derived.OpenShut
import Derived.LaidMore
import Derived.LaidLaws
import Derived.Lay
import Derived.Handed
import Derived.Shelf.Vars
import Derived.Stop.Joined
import Derived.Test.YtobhohikfmlccaaGreatDoorC18
set_option linter.all false
set_option maxRecDepth 100000
set_option maxHeartbeats 4000000
open Go.RowKit Go.Proofs Go.ChangeShapes Go.WideShapes Go.ChangeAt Tryz Go.Lib Go.IntKind
namespace Go.Proofs.YtobhohikfmlccaaGreatDoor
def zqti:TI:={zero:=[zI,zI],size:=2,bytes:=16,td:={agg:=true,arr:=some (2,3)}}
def zqTU:Br:=λt=>if t=53 then some zqti else TT t
theorem zquT:Ax prog zqTU:=by
 intro t i h;unfold zqTU at h;split at h
 .rename_i e;subst e;cases h;exact .a
 .exact b3 t i h
theorem zqtS:zqTU 53=some zqti/\zqTU 3=TT 3/\zqTU 4=TT 4/\zqTU 9=TT 9/\zqTU 27=TT 27/\zqTU 32=TT 32/\zqTU 35=TT 35/\zqTU 38=TT 38/\zqTU 41=TT 41/\zqTU 43=TT 43/\zqTU 52=TT 52:=by and_intros<;>rfl
theorem zqbe{T:Br}{K:AV->Prop}:∀t a b,Ln T .eql t (.raw (.bool a)) (.raw (.bool b)) K=((T t).map (·.td.bl)=some true/\K (.raw (.bool (a==b)))):=by intros;rfl
theorem zqbq(y:Operand)(u v:Bool):wN y (.raw (.bool u)) (.raw (.bool v))=True:=(rfl)
theorem zqn4{c:Bt}{K:Ω}{E:Value->Ω}{a σ:Φ}:∀X d o l,Ct c X K E ((⟨d,o,none⟩,4)::l) a σ=c d o a σ (Ct c X K E l) E:=by intros;rfl
attribute [go_sem] zqtS zqti zqbe zqbq zqn4
abbrev vz:= @Nat.xor_lt_two_pow
theorem DP (l:Ξ) (s:Ab) (u:l.length<=1000000):QA 18 [.sl 1 (l.map str),str s] (λr=>r=Af (decide (s∈l))):=by
 refine Zs [] func18 ⟨_,rfl⟩ ?_;refine Ak (rl [6,12]) [5] (λn m=>∃j:Nat,j+n=l.length/\(∀x∈l.take j,x≠s)/\m=[num j]) ⟨l.length,_,⟨0,om,oS,rfl⟩,?_⟩ ?_
 ·exact Zw
 ·rintro n m ⟨j,v,b,rfl⟩;simp only[PU];rcases cq j l.length with g|hge
  ·have f:=eT j l.length;obtain⟨x,i,w⟩:=Bj g;have c:=Cd i;have o:=wS j;cases d:(x==s)
   ·have k:x≠s:=λe=>by rw[e]at d;simp at d
    refine Z4 f c o d ?_
    exact Zl (n-1) ⟨j+1,om,λy a=>by
     rw[fc,i]at a;rcases ff.1 a with a|a
     ·exact b y a
     ·simp at a;subst a;exact k,rfl⟩
   have p:x=s:=by simpa using d
   subst p;have q:decide (x∈l)=true:=decide_eq_true (cu i);refine Z4 f c o d ?_;rw[q]
  have f:=eU j l.length;have t:decide (s∈l)=false:=decide_eq_false λh=>b s (by rw[Are hge];exact h) rfl;refine Z1 f ?_;rw[t]
def dz (n:Nat):Nat:=if n % 2=1 then n / 2 ^^^ 2197175160 else n / 2
theorem kj (a b:Nat):dz (a ^^^ b)=dz a ^^^ dz b:=by
 have h1:(a ^^^ b) / 2=a / 2 ^^^ b / 2:=Nat.xor_div_two;have d:(a ^^^ b) % 2=1↔¬(a % 2=1↔b % 2=1):=Nat.xor_mod_two_eq_one;have k:∀x y z:Nat,x ^^^ z ^^^ (y ^^^ z)=x ^^^ y:=λx y z=>by rw[Nat.xor_assoc,Nat.xor_comm z,Nat.xor_assoc,Nat.xor_self,Nat.xor_zero]
 unfold dz;by_cases h:a % 2=1<;>by_cases c:b % 2=1
 ·rw [ar (by rw[d];simp [h,c]),bn h,bn c,h1,k]
 ·rw [bn (by rw[d];simp [h,c]),bn h,ar c,h1,Nat.xor_assoc,Nat.xor_assoc,Nat.xor_comm (b / 2)]
 ·rw [bn (by rw[d];simp [h,c]),ar h,bn c,h1,Nat.xor_assoc]
 ·rw [ar (by rw[d];simp [h,c]),ar h,ar c,h1]
def m5:Θ:=yN.map Int.toNat
theorem vp (n:Nat):dz (dz (dz (dz n)))=n / 16 ^^^ m5.getD (n % 16) 0:=by
 have h:n=16*(n / 16) ^^^ n % 16:=by
  apply Nat.eq_of_testBit_eq;intro i;rw[Nat.testBit_xor,show(16:Nat)=2 ^ 4 from rfl,Nat.testBit_two_pow_mul,Nat.testBit_mod_two_pow,Nat.testBit_div_two_pow];by_cases a:i<4
  ·simp [a,Nat.not_le.2 a]
  ·simp [a,Nat.le_of_not_lt a]
 have e:∀m,dz (2*m)=m:=λm=>by unfold dz;rw[ar om];omega
 have b:dz (dz (dz (dz (16*(n / 16)))))=n / 16:=by rw[show 16*(n / 16)=2*(2*(2*(2*(n / 16)))) by omega,e,e,e,e]
 have t:∀m:Nat,m<16->dz (dz (dz (dz m)))=m5.getD m 0:=oK
 conv=>lhs;rw[h]
 rw[kj,kj,kj,kj,b,t _ (Nat.mod_lt _ oD)]
theorem nd {a b:Nat} (c:a<4294967296) (d:b<4294967296):gp .u32 (a:Int) (b:Int)=((a ^^^ b:Nat):Int):=by unfold gp;have h:∀n:Nat,BitVec.ofInt u32.bits (n:Int)=BitVec.ofNat 32 n:=λn=>rfl;rw[h,h];show u32.wrap (((BitVec.ofNat 32 a ^^^ BitVec.ofNat 32 b).toNat:Nat):Int)=_;rw[BitVec.toNat_xor,BitVec.toNat_ofNat,BitVec.toNat_ofNat,Nat.mod_eq_of_lt c,Nat.mod_eq_of_lt d,IntKind.wrap_u32];have:=vz (n:=32) c d;omega
theorem xd {n:Nat} (h:n<4294967296):dz n<4294967296:=by
 unfold dz;split
 ·exact vz (n:=32) om oD
 ·omega
def ii:Nat->Δ
 |0,n=>n
 |k+1,n=>dz (ii k n)
theorem ji {n:Nat} (h:n<4294967296):∀k,ii k n<4294967296
 |0=>h
 |k+1=>xd (ji h k)
theorem xf {n:Nat} (h:n<4294967296):fG n=(dz (dz (dz (dz n))):Nat):=by
 have e1:qz .u32 (n:Int) 4=((n / 16:Nat):Int):=by unfold qz;rw[show(2:Int) ^ (min (4:Int).toNat u32.bits)=16 from rfl,Int.fdiv_eq_ediv_of_nonneg _ oD];omega
 have e2:((n:Int).tmod 16).toNat=n % 16:=by rw[oa om];omega
 have t:∀m:Nat,m<16->yN.getD m 0=((m5.getD m 0:Nat):Int)/\m5.getD m 0<4294967296:=oK;obtain⟨a,b⟩:=t (n % 16) (Nat.mod_lt _ oD);unfold fG;rw[e1,e2,a,nd om b,vp]
theorem xk (c:UInt8):u32.wrap ((c.toNat:Nat):Int)=((c.toNat:Nat):Int):=by have:=c.toNat_lt;rw[IntKind.wrap_u32];omega
theorem Wf {n:Nat} (h:n<4294967296) (c:UInt8):oc n c=(ii 8 (n ^^^ c.toNat):Nat):=by have b:=c.toNat_lt;have a:=vz (n:=32) h (show c.toNat<2 ^ 32 by omega);unfold oc;rw[xk,nd h om,xf a];show fG ((ii 4 (n ^^^ c.toNat):Nat):Int)=_;rw[xf (ji a 4)];rfl
def fx (s:Ab):Nat:=s.foldl (λn c=>ii 8 (n ^^^ c.toNat)) 4294967295
theorem AcQ (s:Ab):fx s<4294967296/\AB s=(fx s:Nat):=by
 have k:∀(s:Ab) (n:Nat),n<4294967296->s.foldl (λn c=>ii 8 (n ^^^ c.toNat)) n<4294967296/\s.foldl oc (n:Int)=((s.foldl (λn c=>ii 8 (n ^^^ c.toNat)) n:Nat):Int):=by
  intro s
  induction s with
  |nil=>exact λn h=>⟨h,rfl⟩
  |cons c s ih=>intro n h;have b:=c.toNat_lt;have a:=ji (vz (n:=32) h (show c.toNat<2 ^ 32 by omega)) 8;simp only[lc];rw[Wf h];exact ih _ a
 exact k s 4294967295 oD
theorem Ag3 (s:Ab) (G:s.length<=1000000):QA 24 [str s] (λr=>r=num (Qq s)):=by
 have A:num (Qq s)=num (i64.wrap (gp .u32 4294967295 (fx s:Nat))):=by unfold Qq;rw[(AcQ s).2]
 rw[A];refine ai (Zt [] [13] [] func24 ?_) ⟨_,rfl⟩;refine Ad (rl [5,29]) [3,4] (λm x c=>c=[]/\∃i:Nat,i+m=s.length/\x=[.raw (.int .u32 (fx (s.take i):Nat)),num i]) ⟨s.length,_,_,⟨rfl,0,om,rfl⟩,hent (aa _) ?_⟩ ?_
 ·simp only[gx];exact Zw
 ·rintro m x c ⟨rfl,i,H,rfl⟩;simp only[PU];by_cases h:i<s.length;rotate_left
  ·have g:=eU i s.length;refine Z1 g ?_;rw[Are om];refine Tu b3 Dc zZ [] (by simp only[go_sem,reduceIte];rfl) ?_;refine Z0 ?_;exact Zx
  have g:=eT i s.length;have t:=wS i
  have j:fx (s.take (i+1))=ii 8 (fx (s.take i) ^^^ (s.getD i 0).toNat):=by
   have l:s.getD i 0=s[i]:=by simp [fk,h]
   unfold fx;rw[nk h,mw,l];rfl
  have u:=(AcQ (s.take i)).1;have I:=(s.getD i 0).toNat_lt;have B:=xk (s.getD i 0);have o:=nd u (show(s.getD i 0).toNat<4294967296 by omega);have C:=vz (n:=32) u (show(s.getD i 0).toNat<2 ^ 32 by omega);generalize fx (s.take i) ^^^ (s.getD i 0).toNat=r1 at *;refine Z4 g t B o ?_;refine Ad (rl [6,28]) [3,5] (λf x c=>c=[]/\∃k:Nat,k+f=8/\x=[.raw (.int .u32 (ii k r1:Nat)),num k]) ⟨8,_,_,⟨rfl,0,om,rfl⟩,hent (aa _) ?_⟩ ?_
  ·exact Zw
  ·rintro f x c ⟨rfl,k,J,rfl⟩;simp only[PU];by_cases D:k<8;rotate_left
   ·have ek:((k:Int)<8)=False:=bd om;refine Z2 ek t ?_;have E:k=8:=om;subst E;rw[<-j];exact Zm (m-1) ⟨rfl,i+1,om,rfl⟩
   have ek:((k:Int)<8)=True:=bc om;have d:=wS k;have K:=ji C k;have e:ii (k+1) r1=dz (ii k r1):=rfl;generalize ii k r1=n at *;have v:(n:Int).tmod 2=((n % 2:Nat):Int):=by rw[oa om];omega
   have w:(n:Int).tdiv 2=((n / 2:Nat):Int):=by rw[sq om];omega
   have y:u32.wrap ((n / 2:Nat):Int)=((n / 2:Nat):Int):=by rw[IntKind.wrap_u32];omega
   by_cases z:n % 2=1
   ·have p:(((n % 2:Nat):Int)=1)=True:=bc om;have F:gp .u32 ((n / 2:Nat):Int) 2197175160=((n / 2 ^^^ 2197175160:Nat):Int):=nd (a:=n / 2) (b:=2197175160) om oD;have q:dz n=n / 2 ^^^ 2197175160:=bn z;refine Z7 ek d v w y p F ?_;rw[<-q,<-e];exact Zm (f-1) ⟨rfl,k+1,om,rfl⟩
   ·have p:(((n % 2:Nat):Int)=1)=False:=bd om;have q:dz n=n / 2:=ar z;refine Z6 ek d v w y p ?_;rw[<-q,<-e];exact Zm (f-1) ⟨rfl,k+1,om,rfl⟩
theorem xg (L:List Ap):0<(Dd L).length:=by
 have:[47]∈Dd L:=by unfold Dd;rw[(Cv _).2];exact dm.2 ⟨ML,jq.2 ⟨by simp [mL],oD⟩,oD⟩
 exact List.length_pos_of_mem this
theorem Ajo (c:List Pg) (k:Ab) (g:c.length<=1000000) (j:∀p∈c,p.rd.length<=1000000):QA 23 [.sl 3 (c.map Ll),str k] (λr=>∃D:Ξ,r=.sl 1 (D.map str)/\D.length<=1000000/\(D.Pairwise λx y=>x<y)/\∀x,x∈D↔∃p∈c,Ms k p=true/\p.ad=x):=
 (AlU c k g j).lf λr ⟨D,h,h1,l⟩=>by
  have d:D.Pairwise λx y=>x<y:=h1.imp λh=>Gp.1 h;have f:∀x,x∈D↔∃p∈c,Ms k p=true/\p.ad=x:=λx=>by rw[l,dm];simp only[jq,and_assoc]
  refine⟨_,by rw[h];exact dy _ _ _,rfl,D,rfl,?_,d,f⟩;have n:D.Nodup:=d.imp λ{a b} i e=>by subst e;exact F8 a i
  have:=x6 (m:=c.map (·.ad)) n λx o=>by obtain⟨p,g,_,e⟩:=(f x).1 o;exact dm.2 ⟨p,g,e⟩
  rw[dB]at this;omega
theorem Ajp (l:List X5) (hl:l.length<=9223372036854775807) (hX:∀x∈l,HR x) (a:Int) (ha:Db a) (I c1:Int) (hc0:Db I) (hc1:Db c1):QA 7 [.sl 5 (l.map xA),num a,.agg [num I,num c1]] (λr=>r=Af true):=by
 refine ai (G7 (n:=zquT) [] [] [(25,[10008,10009],[0,1,2,3,4,5,6,7,8,9,10,11,12,14,18,1013,1017],[2015,2016],[3019,3020,21,22,23,24,25,26,4027,4028,3029,30,31,32,33]),(9,[45,47,49,33,40,10011,10005],[0,2,4,1001,1003,1005,6],[2007],[8,9,3010,11]),(11,[10008,10009],[1,4,1000,1003],[2002],[3005,6,7]),(15,[],[0,1,2,3,4,5,6,7,8,10,11,12,2009,2013,14,15,16,17],[],[])] func7 ?_) ⟨_,rfl⟩;refine Z0 ?_;refine ae wV ?_;rintro r rfl;simp only[Af];refine Z0 ?_;refine ae (xh l hl hX a ha) ?_;rintro r ⟨L,T,L2,T2,rfl,hB1,hB2⟩;obtain⟨M,rfl,B⟩:=rk hB1;obtain⟨M2,rfl,B2⟩:=rk hB2;have hV:=B.rv;have hV2:=B2.rv;have hP:=B.pages;have hFr:=λp (h:W9 p)=>GJ B2.v p h.1 h.2;obtain⟨J,z⟩:=cU B;have hp0:0<(Jb M T).length:=by unfold Jb;rw[dB];exact xg _
 have hrd:∀p∈Jb M T,∀r∈p.rd,r.2=Qq (iY M T r.1):=λp A r hr=>by obtain⟨u,hu,rfl,_⟩:=GO B A;exact n_ hr
 have K:∀p∈Jb M T,∀q∈Jb M T,p.ad=q.ad->p=q:=λp A q hq e=>by obtain⟨u,hu,rfl,e1⟩:=GO B A;obtain⟨w,g,rfl,e2⟩:=GO B hq;rw[e1,e2]at e;rw[e]
 have hvl:=B.v.len;have N:=B2.v.len;generalize Jb M T=ps at *;generalize iY M T=v at *;generalize iY M2 T2=v2 at *;generalize (M.map Bq.s).map ci=SA at *;generalize T.map A4=TA at *;generalize (M2.map Bq.s).map ci=SB at *;generalize T2.map A4=TB at *;refine Z0 ?_;refine ae hP ?_;rintro r rfl;have e0:((ps.length:Int)=0)=False:=bd om;refine Z1 e0 ?_;refine ae (Gf I hc0 ps.length hp0 J) ?_;rintro r rfl;have hk0:=E8 I hp0;generalize fi I ps.length=k0 at *;obtain⟨p0,k,_⟩:=Bj hk0;have O:=pv k;have P:=eT k0 ps.length;simp only[num];obtain⟨hr0,Q⟩:=z p0 (cu k);by_cases hz:p0.rd.length=0
 ·have ez:((p0.rd.length:Int)=0)=True:=bc om;refine Z3 O P ez ?_;exact Zx
 have ez:((p0.rd.length:Int)=0)=False:=bd om;refine Z3 O P ez ?_;refine ae (Gf c1 hc1 p0.rd.length om hr0) ?_;rintro r rfl;have hk1:=E8 c1 (n:=p0.rd.length) om;generalize fi c1 p0.rd.length=k1 at *;obtain⟨r0,o,_⟩:=Bj hk1;have hg1:=v0 o;have ek1:=eT k1 p0.rd.length;have R:=Q r0 (cu o);have hkey:∃p∈ps,∃r∈p.rd,r.1=r0.1:=⟨p0,cu k,r0,cu o,rfl⟩;generalize r0.1=key at *;simp only[num];refine Z2 hg1 ek1 ?_;refine ae (Ajo ps key J λp A=>(z p A).1) ?_;rintro r ⟨D,rfl,hDl,hDs,S⟩;refine Z0 ?_;have cV:=hV key R;have G:=hV2 key R;simp only[str]at cV G;refine ae cV ?_;rintro r rfl;refine Z0 ?_;refine ae G ?_;rintro r rfl;obtain⟨sm,hsm⟩:∃b,(v key==v2 key)=b:=⟨_,rfl⟩;refine Z1 hsm ?_;refine Ad (rl [15,145]) [7,15] (λm C E=>E=[]/\∃i:Nat,i+m=D.length/\C=[Af true,num i]) ⟨D.length,_,_,⟨rfl,0,om,rfl⟩,hent (aa _) ?_⟩ ?_
 ·exact Zw
 rintro m C E ⟨rfl,i,hm,rfl⟩;simp only[PU,Af];by_cases H:i<D.length
 ·have F:=eT i D.length;obtain⟨x,hx,_⟩:=Bj H;have U:=Cd hx;have g:=wS i;by_cases hi0:i=0
  ·have ei:((i:Int)=0)=True:=bc om;refine Z4 F U g ei ?_;exact Zm (m-1) ⟨rfl,i+1,om,rfl⟩
  have ei:((i:Int)=0)=False:=bd om;obtain⟨y,hy,_⟩:=Bj (l:=D) (j:=i-1) om;have vd:=Cd hy;have hw1:i64.wrap ((i:Int)-1)=((i-1:Nat):Int):=by rw[Aw om om];omega
  have ej1:=eT (i-1) D.length;have e00:(0<=((i-1:Nat):Int))=True:=bc om;have hyx:y<x:=by obtain⟨h1,rfl⟩:=ab.1 hx;obtain⟨V,rfl⟩:=ab.1 hy;exact List.pairwise_iff_getElem.1 hDs _ _ _ _ om
  have els:Op.bytesLess y x=true:=by rw[bytesLess_eq];exact decide_eq_true hyx
  refine Z8 F U g ei vd hw1 ej1 els ?_;exact Zm (m-1) ⟨rfl,i+1,om,rfl⟩
 have F:=eU i D.length;refine Z1 F ?_;refine Ad (rl [17,143]) [7,16] (λm C E=>E=[]/\∃i:Nat,i+m=ps.length/\C=[Af true,num i]) ⟨ps.length,_,_,⟨rfl,0,om,rfl⟩,hent (aa _) ?_⟩ ?_
 ·exact Zw
 rintro m C E ⟨rfl,i,hm,rfl⟩;simp only[PU,Af];by_cases H:i<ps.length;rotate_left
 ·have F:=eU i ps.length;refine Z1 F ?_;exact Zx
 have F:=eT i ps.length;obtain⟨p,A,_⟩:=Bj H;have d:=pv A;have g:=wS i;have t:=cu A;obtain⟨hpr,hpr2⟩:=z p t
 have W:decide (p.ad∈D)=Ms key p:=by
  cases hu:Ms key p with
  |true=>exact decide_eq_true ((S _).2 ⟨p,t,hu,rfl⟩)
  |false=>refine decide_eq_false λh=> ?_;obtain⟨q,hq,h1,V⟩:=(S _).1 h;rw[K q hq p t V,hu]at h1;cases h1
 refine Z3 F d g ?_;refine Ad (rl [19,141]) [17,18] (λm2 C E=>E=[]/\∃(j:Nat) (c:Bool),j+m2=p.rd.length/\((p.rd.take j).any λr=>r.1==key)=c/\C=[Af c,num j]) ⟨p.rd.length,_,_,⟨rfl,0,false,om,rfl,rfl⟩,hent (aa _) ?_⟩ ?_
 ·exact Zw
 rintro m2 C E ⟨rfl,j,c,hm2,hc,rfl⟩;simp only[PU,Af];by_cases X:j<p.rd.length
 ·have el:=eT j p.rd.length;obtain⟨q,hq,_⟩:=Bj X;have Y:=v0 hq;have Z:=wS j;have hdn:((p.rd.take (j+1)).any λr=>r.1==key)=(c||(q.1==key)):=by rw[fc,hq,<-hc];simp
  cases c;rotate_left
  ·refine Z4 el d Y Z ?_;exact Zm (m2-1) ⟨rfl,j+1,true,om,hdn,rfl⟩
  refine Z4 el d Y Z ?_;exact Zm (m2-1) ⟨rfl,j+1,_,om,hdn,rfl⟩
 have el:=eU j p.rd.length;rw[Are om]at hc;have f:Ms key p=c:=hc;rw[f]at W;have cH:=DP D p.ad hDl;rw[W]at cH;simp only[str]at cH;refine Z3 el d g ?_;refine ae cH ?_;rintro r rfl;simp only[Af]
 cases c with
 |false=>refine Z3 d g f ?_;exact Zm (m-1) ⟨rfl,i+1,om,rfl⟩
 |true=>
  cases sm with
  |true=>refine Z3 d g f ?_;exact Zm (m-1) ⟨rfl,i+1,om,rfl⟩
  |false=>
   have cS:=Ag3 (v key) (hvl key);have cS2:=Ag3 (v2 key) (N key);have cF:=hFr p (z p t);simp only[str,num]at cS cS2;refine Z3 d g f ?_;refine ae cV ?_;rintro r rfl;refine Z3 d g f ?_;refine ae cS ?_;rintro r rfl;refine Z3 d g f ?_;refine ae G ?_;rintro r rfl;refine Z3 d g f ?_;refine ae cS2 ?_;rintro r rfl;by_cases hs:Qq (v key)=Qq (v2 key)
   ·have es:=bc hs;refine Z4 d g f es ?_;exact Zm (m-1) ⟨rfl,i+1,om,rfl⟩
   have es:=bd hs
   have hf:Ca v2 p.rd=false:=by
    cases hf:Ca v2 p.rd with
    |false=>rfl
    |true=>
     unfold Ms at f;obtain⟨r,hr,e⟩:=List.any_eq_true.1 f;have e':r.1=key:=by simpa using e
     unfold Ca at hf;have h1:=ib.1 hf r hr;have V:=of_decide_eq_true h1;rw[hrd p t r hr,e']at V;exact cw V hs
   rw[hf]at cF;refine Z4 d g f es ?_;refine ae cF ?_;rintro r rfl;simp only[Af];refine Z4 d g f es ?_;exact Zm (m-1) ⟨rfl,i+1,om,rfl⟩
theorem Aj5 (x:Φ) (h:Sg prog [32,3,53] x):QA 7 x (λr=>r=Af true):=by
 obtain⟨_,y,_,rfl,h1,h⟩:=qC h;obtain⟨_,z,_,rfl,s,k2⟩:=qC h;obtain⟨t,rfl,u⟩:=Pz underlying3 s;obtain⟨_,q,_,rfl,v,k3⟩:=qC k2;have i:j1 prog 3=false:=by simp [j1,underlying3]
 obtain⟨k,w,rfl,g⟩:=IM underlying53 v;simp only[mc,ml]at g;obtain⟨a,_,rfl,j,g⟩:=Sq i g;obtain⟨b,_,rfl,l,g⟩:=Sq i g;obtain rfl:=v8 g;obtain⟨A,rfl,B⟩:=Pz underlying3 j;obtain⟨c1,rfl,C⟩:=Pz underlying3 l;obtain rfl:=x3 k3;obtain⟨m,es,rfl,p,n⟩:=IK (e:=145) (k:=5) underlying32 (by kernel_rfl) oD h1;have i:j1 prog 3=false:=by simp [j1,underlying3]
 obtain⟨D,rfl,o⟩:=UK (f:=xA) (Q:=HR) (es:=es) λy E=>by obtain⟨k,w,rfl,g⟩:=IM underlying145 (n y E);simp only[mc,ml]at g;obtain⟨a,_,rfl,j,g⟩:=Sq i g;obtain⟨b,_,rfl,l,g⟩:=Sq i g;obtain⟨c,_,rfl,F,g⟩:=Sq i g;obtain⟨d,_,rfl,G,g⟩:=Sq i g;obtain⟨e,_,rfl,H,g⟩:=Sq i g;obtain rfl:=v8 g;obtain⟨I,rfl,J⟩:=Pz underlying3 j;obtain⟨K,rfl,L⟩:=Pz underlying3 l;obtain⟨M,rfl,N⟩:=Pz underlying3 F;obtain⟨O,rfl,P⟩:=Pz underlying3 G;obtain⟨R,rfl,ie⟩:=Pz underlying3 H;exact⟨⟨I,K,M,O,R⟩,rfl,J,L,N,P,ie⟩
 unfold maxLen at p;rw[dB]at p;exact Ajp D om o t u A c1 B C
theorem uT {H:Type} {enc:TypeId×Value->H} {a:Assume} {C:Checked} {os:Os} {f:FuncId} {p:Func} {s:ChangeSpec} {l:List PathCond} {c fresh h m:Bool} {X:World->Array Value->Prop}
 (G:∀(w w':World) (b:Array Value),w.heap=w'.heap->X w b->X w' b)
 (own:ownKnob C.prog.godebug=none) (n:os.Started) (q:C.prog.inits.idxOf? f=none) (z:C.prog.funcs[f]? =some p)
 (o:∃(w:World) (d:Tape) (i:Input),w.os=os/\(w.forCall d i).Shaped C.prog/\i.vars=[]/\Input.okWide C.prog (w.forCall d i) .any w.heap.size f i/\
  ((s.pre enc C.prog p l c (w.forCall d i).memory i.args/\X (w.forCall d i).memory i.args)/\sizedMet enc C.prog p (OpenSpec.ofChange s) c (w.forCall d i).memory i.args)/\a.holds C.prog (lone (Frame.enter C.prog f i.args .normal) [] (w.forCall d i)))
 (k:∀(W:World) (r:Nat) (b:Array Value) (A B:List (DataW H)) (g:List MemPlace),
  (∀(j:Nat) t v,p.params[j]? =some t->b[j]? =some v->Value.okWide C.prog W .any r t v)->DataW.Whole enc C.prog p.params.toList s.vars c W b.toList A B g->X W b->W.ShapedOpen C.prog->
  Calls C.prog f b W λe F=>∃v,e=.returned v/\s.post enc C.prog p c fresh h m W b v F):
 ReturnsInHanded a C os f .any (λw b=>(s.pre enc C.prog p l c w b/\X w b)/\sizedMet enc C.prog p (OpenSpec.ofChange s) c w b) (s.post enc C.prog p c fresh h m):=by
 refine returnsInHanded_of_calls own n q o λw d i _ D _ E u _=> ?_;obtain⟨_,_,_,I,x,_,_,_,_,y⟩:=E;obtain rfl:=aj (x.symm.trans z);obtain⟨⟨⟨A,B,g,J,_⟩,K⟩,_⟩:=u;exact(k (w.forCall d i) w.heap.size i.args A B g y (DataW.Whole.of_heap (w':=w.forCall d i) (by rfl) J) (G _ _ _ (by rfl) K) D).mono λe F ⟨v,L,M⟩=>by subst L;exact ChangeSpec.post_blind M
theorem V5 {w:World} {g:Nat} {v:Value} (h:w.cell? ⟨g,0,none⟩=some v):0<Sb w g:=(kP h).2
theorem sc:prog.globalNamed "strconv.ErrSyntax" =some 2:=by kernel_rfl
theorem sb:prog.globalNamed "strconv.ErrRange" =some 3:=by kernel_rfl
theorem pe:prog.globalNamed "internal/strconv.uint64pow10" =some 6:=by kernel_rfl
theorem pd:prog.globalNamed "copydesk/wire.shifts" =some 0:=by kernel_rfl
theorem uU {w:World} {n:String} {g a t:Nat} {c:Array Value} {f:Nat} {e:String} {d:DataW Unit} {p:List MemPlace} {m:Array (String×TypeId)} (i:prog.globalNamed n=some a) (b:prog.globalNamed n=some g) (j:(prog.globals[g]?).map (·.type)=some t) (k:∀u,(prog.globals[a]?).map (·.type)=some u->prog.underlying u=some (.interface m))
 (l:w.var? prog n=some c) (o:DataW.trod (λ_=>()) prog w 0 (λ_=>true) false f t c.toList=some (.iface e d,p)):∃v,w.cell? ⟨a,0,none⟩=some v/\(v=.nilIface\/∃q r,v=.iface q r):=by
 obtain rfl:=aj (i.symm.trans b);obtain⟨_,u,v,h,_,_⟩:=iface_of_trod (k t j) o;refine⟨.iface u v,?_,.inr ⟨u,v,rfl⟩⟩;rw[World.var?_cell b l 0,<-ak,h];rfl
theorem uV {w:World} {g:Nat} {n:String} {k:IntKind} {zs:List Int} {c:Array Value} (d:prog.globalNamed n=some g) (h:w.var? prog n=some c) (e:c.toList=zs.map λz=>Value.int k z):
 ∀x∈lF g k zs,x.2.1<Sb w x.1/\x.2.2 (w.cell? ⟨x.1,x.2.1,none⟩):=by
 have l:c.size=zs.length:=by rw[<-ot,e,dB]
 have m:c.size<Sb w g:=by
  unfold World.var? at h;rw[d]at h;simp only[pk]at h;unfold Sb;split at h
  ·rename_i f;cases h;rw[f];exact Nat.lt_succ_self _
  ·cases h
 intro x a;rcases ff.1 a with a|a
 ·obtain ⟨⟨z,i⟩,b,rfl⟩:=dm.1 a;have b:=su.1 b;have j:=(ab.1 b).1;simp only at b j⊢;refine⟨om,?_⟩;rw[World.var?_cell d h i,<-ak,e,ao,b];rfl
 ·rw [ga]at a;subst a;refine⟨by show zs.length<Sb w g;omega,?_⟩;show w.cell? ⟨g,zs.length,none⟩=none;rw[World.var?_cell d h,cj om]
def W4:List (String×DataW Unit):=Rows.dependUsersRow.laid
theorem DB {w:World} (h:laidMetH prog W4 w) (d:w.ShapedOpen prog):Gs w (Sb w):=by
 rw[MakeChecks.laidMetH_plain _ _ _ (by kernel_rfl)]at h;obtain⟨L,⟨_,_,_,_,_,_,_,_,_,_,⟨_,_,_,_,_,_,_,_,_,_,⟨g3,M,F,N,O,Q,e,f,i,j,⟨_,_,_,_,_,_,_,_,_,_,⟨g5,R,G,S,T,U,k,l,n,o,⟨g6,V,W,X,Y,Z,p,q,r,s,⟨g7,t7,c7,n7,p7,q7,v,x,y,A,_,_⟩,_⟩,_⟩,_⟩,_⟩,_⟩,_⟩,_⟩:=h;have H:∀u,(prog.globals[3]?).map (·.type)=some u->prog.underlying u=some (.interface _):=λu B=>by obtain rfl:=aj ((show(prog.globals[3]?).map (·.type)=some 151 by kernel_rfl).symm.trans B);exact underlying151
 have I:∀u,(prog.globals[2]?).map (·.type)=some u->prog.underlying u=some (.interface _):=λu B=>by obtain rfl:=aj ((show(prog.globals[2]?).map (·.type)=some 151 by kernel_rfl).symm.trans B);exact underlying151
 obtain⟨v2,b,C⟩:=uU sb p q H r s;obtain⟨v1,c,D⟩:=uU sc v x I y A;obtain⟨m,E⟩:=cell_of_shapedOpen_int (P:=prog) (g:=1) (t:=3) (zero:= #[.int .i64 0]) d (of_decide_eq_true (by kernel_rfl)) (by kernel_rfl) rfl (by kernel_rfl) (by kernel_rfl) underlying3;obtain rfl:=aj (pe.symm.trans e);obtain rfl:=aj ((show(prog.globals[6]?).map (·.type)=some 368 by kernel_rfl).symm.trans f);obtain rfl:=aj (pd.symm.trans k);obtain rfl:=aj ((show(prog.globals[0]?).map (·.type)=some 128 by kernel_rfl).symm.trans l);have J:F.toList=pow10Tab.map λz=>Value.int .u64 z:=cells_of_tab (zs:=pow10Tab) underlying368 underlying289 (by kernel_rfl) (by kernel_rfl) j;have K:G.toList=yN.map λz=>Value.int .u32 z:=cells_of_tab (zs:=yN) underlying128 underlying126 (by kernel_rfl) (by kernel_rfl) o;intro g a;change g∈(2,0,mj)::(3,0,mj)::(1,0,ZN)::(lF 6 .u64 pow10Tab++lF 0 .u32 yN)at a;simp only[e9,ff]at a;rcases a with rfl|rfl|rfl|a|a
 ·exact ⟨V5 c,_,c,D⟩
 ·exact ⟨V5 b,_,b,C⟩
 ·exact ⟨V5 E,_,E⟩
 ·exact uV pe i J g a
 ·exact uV pd n K g a
set_option maxRecDepth 100000 in
theorem uW (os:Os) (a:Array Value):((World.laidAll prog os W4).forCall (λ_ _=>0) ⟨#[],a,[]⟩).Shaped prog:=
 World.shaped_of_ZipB (by kernel_rfl) (by kernel_rfl)
set_option maxRecDepth 100000 in
theorem m_ (os:Os) (a:Array Value):laidMetH prog W4 ((World.laidAll prog os W4).forCall (λ_ _=>0) ⟨#[],a,[]⟩).memory:=by rw[MakeChecks.laidMetH_plain _ _ _ (by kernel_rfl)];exact laidMet_laidAll _ (by kernel_rfl) (by kernel_rfl)
end Go.Proofs.YtobhohikfmlccaaGreatDoor
