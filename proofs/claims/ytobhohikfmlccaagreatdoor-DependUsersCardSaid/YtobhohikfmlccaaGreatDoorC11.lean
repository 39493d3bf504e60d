/- each: the iterator over a state. -/
import Derived.Ground.Names2Prog
import Derived.Shelf.Slices.Clone
import Derived.Ground.SlsfProg
import Derived.Lib.ItoaLen
import Derived.Lib.AtoiAllCases
import Derived.Test.YtobhohikfmlccaaGreatDoorC10
set_option linter.all false
set_option maxRecDepth 100000
set_option maxHeartbeats 4000000
open Go.RowKit Go.Proofs Go.Shelf Tryz Go.Lib Go.IntKind
namespace Go.Proofs.YtobhohikfmlccaaGreatDoor
abbrev OA:=Nat×List AV×(Ap->Int->Bool)
def dR(c:OA):AV:=.ee c.1 c.2.1
def C5(a:List OA)(s:Ap)(i:Int):Bool:=a.all λc=>c.2.2 s i
def Cq(p:Ap->Int->Bool):Nat->List Ap->List (Ap×Nat)
 |_,[]=>[]
 |i,s::r=>if Ee s&&p s i then(s,i)::Cq p (i+1) r else Cq p (i+1) r
def aQ(p:Ap->Int->Bool):∀(i:Nat) (l m:List Ap),Cq p i (l++m)=Cq p i l++Cq p (i+l.length) m
 |i,[],m=>by simp[Cq]
 |i,s::l,m=>by have:=aQ p (i+1) l m;simp only[fj,Cq,this,dg];have e:i+1+l.length=i+(l.length+1):=om;split<;>simp[e]
def Vg{p:Ap->Int->Bool}{l:List Ap}{i:Nat}{s:Ap}(h:l[i]? =some s):(Cq p 0 (l.take (i+1))).length=(Cq p 0 (l.take i)).length+if Ee s&&p s i then 1 else 0:=by have a:=(ab.1 h).1;rw[fc,h,aQ,dc,fw,pp om,jp];simp only[oe,Cq];split<;>simp
def Aau{p:Ap->Int->Bool}{l:List Ap}{i:Nat}{s:Ap}(hx:l[i]? =some s)(h:(Ee s&&p s i)=true):(Cq p 0 l)[(Cq p 0 (l.take i)).length]? =some (s,i):=by
 have hi:=(ab.1 hx).1;have a:l.drop i=s::l.drop (i+1):=by exact Aib
 have:Cq p 0 l=Cq p 0 (l.take i)++(s,i)::Cq p (i+1) (l.drop (i+1)):=by rw[<-ki i l,aQ,ki,fw,pp om,jp,a,Cq,bn h]
 rw[this];simp
def Hj(s:Ap):Prop:=s.tp.length<=9223372036854775807/\s.ed.length<=9223372036854775807
def x_(c:OA):Prop:=∀(s:Ap) (a:Int),Hj s->QA c.1 (iz s a::c.2.1) (λr=>r=Af (c.2.2 s a))
def qY(x:Ap×Nat):AV:=iz x.1 (x.2:Nat)
def zG(p:Ap->Int->Bool)(l:List Ap)(k:Nat)(a:Φ):Prop:=∃x,(Cq p 0 l)[k]? =some x/\a=[qY x]
def H5{l:List Ap}{j:Nat}{x:Ap}(h:l[j]? =some x):(l.map ci).getD j .any=.agg [num x.id,str x.au,.sl 1 (x.tp.map str),.sl 5 x.ed,num x.pu,.sl 5 x.co,Af x.re,Af x.tk]:=by simp[h,ci,Qn]
def Ale{l:List OA}{j:Nat}{x:OA}(h:l[j]? =some x):(l.map dR).getD j .any=.ee x.1 x.2.1:=by simp[h,dR]
def Vh(L:List Ap)(E)(a:List OA)(M:L.length<=1000000)(F:∀s∈L,Hj s)(G:a.length<=1000000)(H:∀c∈a,x_ c):
 Oo prog 204 [.elt (.agg [.sl 8 (L.map ci),.sl 2 E]),.elt (.agg [.sl 1 (a.map dR)])] (Cq (C5 a) 0 L).length (zG (C5 a) L):=by
 refine M8 [] [(10,2)] [] b3 Cl func204 oD oK (by simp only[go_sem,reduceIte,reduceCtorEq];rfl) ntmps204 results204 rfl ?_;intro l;simp only[LS,Nat.reduceAdd,Nat.reduceSub];refine Zu ?_;refine F7 (rl [4,3,1,1,3,27]) [12] (λn C x=>∃(k i:Nat),C=some k/\i<=L.length/\i+n=L.length/\k=(Cq (C5 a) 0 (L.take i)).length/\x=[num i]) ⟨L.length,_,⟨0,0,rfl,om,om,rfl,rfl⟩,?_⟩ ?_;exact Zw
 .rintro n C x ⟨k,i,rfl,I,N,m,rfl⟩;simp only[PU];rcases cq i L.length with z|hge
  .have q:=eT i L.length;obtain⟨s,o,p⟩:=Bj z;have t:=F s (cu o);have b:=H5 o;simp only[num,str,Af]at b;have f:=wS i;refine Z3 q b f ?_;refine((rL s i t.2).wk ?_).mono ?_
   exact eL;rintro r rfl;simp only[Af];cases g:Ee s;refine Z3 q b f ?_;refine Ch (n-1) [num ((i+1:Nat):Int)] om ⟨k,i+1,rfl,om,om,?_,rfl⟩ ?_;rw[m,Vg o,ar (by simp[g])];simp;exact Zw
   .refine Z3 q b f ?_;refine F7 (rl [8,1,16,9,5]) [25] (λA u x=>∃j:Nat,u=some k/\j<=a.length/\j+A=a.length/\(∀c∈a.take j,c.2.2 s i=true)/\x=[num j]) ⟨a.length,_,⟨0,rfl,om,om,oS,rfl⟩,?_⟩ ?_
    exact Zw
    .rintro A u x ⟨j,rfl,J,K,h,rfl⟩;simp only[PU];rcases cq j a.length with B|qi
     .have ek:=eT j a.length;obtain⟨c,e,hcd⟩:=Bj B;have v:=Ale e;have w:=wS j;refine Z4 ek v f w ?_;refine((H c (cu e) s i t).wk ?_).mono ?_
      exact eL;rintro r rfl;simp only[Af];cases D:c.2.2 s i;refine Z4 ek v f w ?_;have y:C5 a s i=false:=by simp only[C5,List.all_eq_false];exact⟨c,cu e,by simp[D]⟩
      refine Ch (n-1) [num ((i+1:Nat):Int)] om ⟨k,i+1,rfl,om,om,?_,rfl⟩ ?_;rw[m,Vg o,ar (by simp[y])];simp;exact Zw;refine Zu ?_;refine Ch (A-1) [num ((j+1:Nat):Int)] om ⟨j+1,rfl,om,om,?_,rfl⟩ ?_;intro d p;rw[fc,e]at p;simp only[oe,ff,ga]at p;rcases p with p|rfl;exact h d p;exact D;exact Zw
     .have ek:=eU j a.length;rw[Are qi]at h;have y:C5 a s i=true:=by simp only[C5,ib];exact h
      refine Z2 ek f ?_;refine Kx ⟨(s,i),by rw[m];exact Aau o (by simp[g,y]),rfl⟩ ?_ ?_;refine Z2 ek f ?_;refine Ch (n-1) [num ((i+1:Nat):Int)] om ⟨k+1,i+1,rfl,om,om,?_,rfl⟩ ?_;rw[m,Vg o,bn (by simp[g,y])];exact Zw
      .repeat' first|apply Aq.on<;>intro _|refine gD ?_|simp only[go_sem,DT,Int.reduceEq,Int.cast_ofNat_Int,Ae,ek,f]
       exact X9
  have q:=eU i L.length;rw[Are hge]at m;refine Z1 q ?_;exact .inl (by rw[m])
def stA(L:List Ap)(t:Φ):AV:=.agg [.sl 8 (L.map ci),.sl 2 t]
def Vi(L:List Ap)(t)(c:List OA):QA 149 [stA L t,.sl 1 (c.map dR)] (λr=>r=.ee 204 [.elt (stA L t),.elt (.agg [.sl 1 (c.map dR)])]):=by simp only[stA];refine G6 [(1,[2,3],[])] func149 ⟨_,rfl⟩ ?_;exact Ze
def Aaw(X:List (Ap×Nat))(j:X.length<=1000000){g:Nat}{d:Φ}(f:Oo prog g d X.length (λk a=>∃x,X[k]? =some x/\a=[qY x])):QA 274 [.mine 180 9 [],.ee g d] (λr=>r=.mine 180 9 (X.map qY)):=by
 refine Ed [] [] [5,7,8,9,10,11] b3 Cl func274 oD oK (by simp only[go_sem,reduceIte,reduceCtorEq];rfl) ntmps274 results274 ⟨_,rfl⟩ rfl ?_;skip;simp only[LS,Nat.reduceAdd,Nat.reduceSub];refine Z0 ?_;refine Ft (rl [2,1,2,1,1,5]) [2] (λk b=>b=[.box 177 [.mine 180 9 ((X.take k).map qY)]]) (bx 13) J1 f ?_ ?_ ?_;refine⟨_,rfl,?_⟩;simp only[PU];exact AhM
 .rintro k a b ⟨x,e,rfl⟩ rfl;refine⟨rfl,rfl,?_⟩;have hlk:k<X.length:=(ab.1 e).1;have c:((X.take k).map qY).length=k:=by simp;omega
  have h:(X.take k).map qY++[qY x]=(X.take (k+1)).map qY:=by rw[fc,e];simp
  obtain⟨s,i⟩:=x;simp only[qY,iz,num,str,Af]at h⊢;simp only[PU];repeat' first|apply Aq.on<;>intro _|refine gD ?_|simp only[go_sem,DT,Int.reduceEq,Int.cast_ofNat_Int,c,h]
  exact Ij _ rfl Zw
 rintro b rfl;simp only[PU];simp only[lr];exact Ze
def gM(X:List (Ap×Nat))(h:X.length<=1000000){g:Nat}{c:Φ}(b:Oo prog g c X.length (λk a=>∃x,X[k]? =some x/\a=[qY x])):QA 199 [.ee g c] (λr=>r=.mine 180 9 (X.map qY)):=by
 refine G6 [] func199 ⟨_,rfl⟩ ?_;repeat' first|apply Aq.on<;>intro _|refine gD ?_|simp only[go_sem,DT,Int.reduceEq,Int.cast_ofNat_Int]
 refine Zb (Aaw X h b) ?_;rintro r rfl;exact OE
def H6:List Ap->Ap->List Ap
 |[],x=>[x]
 |y::r,x=>if I2 y x then x::y::r else y::H6 r x
def dS(v:Ϟ)(a:List Ap)(s:Ap):List Ap:=if Ee s&&hasB s v then H6 a s else a
def Bd(v:Ϟ)(L:List Ap):List Ap:=L.foldl (dS v) []
def aR:∀(l:List Ap) (x:Ap),(H6 l x).length=l.length+1
 |[],x=>rfl
 |y::r,x=>by have:=aR r x;simp only[H6];split<;>simp[this]
def sH(v):∀(L a:List Ap),(L.foldl (dS v) a).length<=a.length+L.length
 |[],a=>by simp
 |s::L,a=>by
  have h:=sH v L (dS v a s)
  have:(dS v a s).length<=a.length+1:=by
   unfold dS;split;rw[aR];omega;omega
  exact nU
def Cw(v L):(Bd v L).length<=L.length:=by have:=sH v L [];simpa[Bd]using this
def gN{v:Ϟ}{L:List Ap}{i}{s:Ap}(h:L[i]? =some s):Bd v (L.take (i+1))=if Ee s&&hasB s v then H6 (Bd v (L.take i)) s else Bd v (L.take i):=by rw[fc,h];simp only[Bd,oe,mw,lc,oq,dS]
def Acr{x}:∀(B A:List Ap),(∀y∈B,I2 y x=false)->(∀y,A.head? =some y->I2 y x=true)->H6 (B++A) x=B++x::A
 |[],[],_,_=>rfl
 |[],a::A,_,h=>by simp only[fm,H6,h a rfl,if_true]
 |b::B,A,hB,hA=>by have:=Acr B A (λy c=>hB y (by simp[c])) hA;simp only[fj,H6,hB b oS,f0,if_false,this]
def sI{v:Ϟ}{L:List Ap}{i}{s:Ap}{O A B:List Ap}(c:L[i]? =some s)(a:(Ee s&&hasB s v)=true)(d:(Bd v (L.take i)).reverse=O)(b:O=A++B)(e:∀y∈B,I2 y s=false)(f:A=[]\/∃y,A.getLast? =some y/\I2 y s=true):
 (Bd v (L.take (i+1))).reverse=A++[s]++B:=by
 have g:Bd v (L.take i)=B.reverse++A.reverse:=by rw[<-List.reverse_reverse (Bd v (L.take i)),d,b,List.reverse_append]
 rw[gN c,bn a,g,Acr B.reverse A.reverse (λy h=>e y (by simpa using h)) (λy h=> ?_)];simp;rcases f with rfl|⟨z,hz,hz2⟩;simp at h;rw[List.head?_reverse,hz]at h;injection h with h;subst h;exact hz2
def O4(L F v)(N:L.length<=100000)(G:∀s∈L,Hj s):QA 102 [stA L F,str v] (λr=>r=.sl 8 ((Bd v L).reverse.map ci)):=by
 simp only[stA];refine G6 [(2000009,[0,1,2,3,4,5,6,2007,2008],[3009,10,11]),(1000008,[],[])] func102 ⟨_,rfl⟩ ?_;refine Zu ?_;refine Ak (rl [5,63]) [5,6] (λn x=>∃(i:Nat),i<=L.length/\i+n=L.length/\x=[.sl 8 (((Bd v (L.take i)).reverse).map ci),num i]) ⟨L.length,_,⟨0,om,om,rfl⟩,?_⟩ ?_;simp only[gx,Bd,oq,List.reverse_nil,db];exact Zw
 .rintro n x ⟨i,H,P,rfl⟩;simp only[PU];rcases cq i L.length with o|hge
  .have ej:=eT i L.length;obtain⟨s,hx,Q⟩:=Bj o;have f:=G s (cu hx);have b:=H5 hx;simp only[num,str,Af]at b;have D:=wS i;refine Zu ?_;refine((S7 s f.2).wk ?_).mono ?_
   exact nX;rintro r rfl;simp only[Af];simp only[go_sem];refine Xl (rl [27,11]) [] (λx=>x=[]/\(Ee s&&hasB s v)=true) ?_ ?_
   .cases a:Ee s
    have hsel:(Ee s&&hasB s v)=false:=by simp[a]
    exact Agx;by_cases p:v=[];have I:(v==[])=true:=by simp[p]
    refine Zu ?_;refine Gt [] ⟨rfl,by simp[hasB,a, *]⟩ ?_;exact Zw;have I:(v==[])=false:=by simp[p]
    refine Zu ?_;refine Zb (PA s.tp v f.1) ?_;rintro r rfl;simp only[Af];by_cases c:v∈s.tp;have J:=bc c;refine Zu ?_;refine Gt [] ⟨rfl,by simp[hasB,a, *]⟩ ?_;exact Zw;have J:=bd c;have hsel:(Ee s&&hasB s v)=false:=by simp[hasB,a,p,c]
    exact Agx
   .rintro x ⟨rfl,hsel⟩;simp only[PU];have d:(Bd v (L.take i)).length<=i:=by have:=Cw v (L.take i);rw[fw]at this;omega
    obtain⟨O,l⟩:∃O,(Bd v (L.take i)).reverse=O:=⟨_,rfl⟩;have K:O.length<=i:=by rw[<-l,ni];exact d
    rw[l];refine Zu ?_;refine Ak (rl [9,1,30,14]) [9] (λE x=>∃k:Nat,k<=O.length/\k=E/\(∀y∈O.drop k,I2 y s=false)/\x=[num k]) ⟨O.length,_,⟨O.length,om,rfl,oS,rfl⟩,Zw⟩ ?_
    .rintro E x ⟨k,M,rfl,h,rfl⟩;simp only[PU];rcases jz k with rfl|hpos
     .have q:=bd (show¬(0:Int)<((0:Nat):Int) by omega);have hfin:=sI (v:=v) hx hsel l (A:=[]) (B:=O) rfl (by simpa using h) (.inl rfl);have e:List.take O.length (O.map ci)=O.map ci:=Are oS;repeat' first|apply Aq.on<;>intro _|refine gD ?_|simp only[go_sem,DT,Int.reduceEq,Int.cast_ofNat_Int,ej,b,D,q,e,dc]
      all_goals try (exfalso;omega)
      refine Av (n-1) [.sl 8 (((Bd v (L.take (i+1))).reverse).map ci),num ((i+1:Nat):Int)] om ⟨i+1,om,om,rfl⟩ ?_;rw[hfin];simp only[ip,ev,db,fm,fj,ci,Qn,num,str,Af];exact Zw
     .have q:=bc (show(0:Int)<(k:Int) by omega);obtain⟨y,t⟩:∃y,O[k-1]? =some y:=⟨_,ac om⟩;have g:=H5 t;simp only[num,str,Af]at g;have u:i64.wrap ((k:Int)-1)=((k-1:Nat):Int):=by rw[Aw om om];omega
      refine Zu ?_;refine((Aez y s).wk nX).mono ?_;rintro r rfl;simp only[Af];cases j:I2 y s;refine Zu ?_;refine Av (k-1) [num ((k-1:Nat):Int)] om ⟨k-1,om,rfl,?_,rfl⟩ ?_;intro z m;have w:O.drop (k-1)=y::O.drop k:=by rw[j0 om];have:=(ab.1 t).2;rw[this];congr 2;omega
      rw[w,e9]at m;rcases m with rfl|m;exact j;exact h z m;exact Zw
      .have hfin:=sI (v:=v) hx hsel l (A:=O.take k) (B:=O.drop k) (ki k O).symm h (.inr ⟨y,by rw[List.getLast?_eq_getElem?,fw,pp M,List.getElem?_take_of_lt om];exact t,j⟩);have C:List.take k (O.map ci)=(O.take k).map ci:=List.map_take.symm;have e:List.take (O.length-k) (List.drop k (O.map ci))=(O.drop k).map ci:=by rw[<-pm,Are oS]
       repeat' first|apply Aq.on<;>intro _|refine gD ?_|simp only[go_sem,DT,Int.reduceEq,Int.cast_ofNat_Int,ej,b,D,q,g,u,C,e,dc,fw,jb]
       refine Av (n-1) [.sl 8 (((Bd v (L.take (i+1))).reverse).map ci),num ((i+1:Nat):Int)] om ⟨i+1,om,om,rfl⟩ ?_;rw[hfin];simp only[ip,ev,db,ci,Qn,num,str,Af];exact Zw
  exact PS
def sJ(L t v n)(g:L.length<=100000)(i:∀s∈L,Hj s):QA 105 [stA L t,str v,num n] (λr=>r=.own 3 1 (Ar (((Bd v L).map (·.id)).take n.toNat))):=by
 simp only[stA];refine Zs [(4,[],[8])] func105 ⟨_,rfl⟩ ?_;refine((O4 L t v g i).wk ?_).mono ?_;simp only[stA,str];exact Zw;rintro r rfl;obtain⟨M,e⟩:∃M,Bd v L=M:=⟨_,rfl⟩;have l:M.length<=L.length:=by rw[<-e];exact Cw v L
 simp only[e];have a:i64.wrap ((M.length:Int)-1)=(M.length:Int)-1:=Aw om om;repeat' first|apply Aq.on<;>intro _|refine gD ?_|simp only[go_sem,DT,Int.reduceEq,Int.cast_ofNat_Int,a,ni]
 refine Ak (rl [8,2,6,18,1]) [8,9] (λk x=>∃(j:Nat),j<=M.length/\j<=n.toNat/\j+k=M.length/\x=[.own 3 1 (Ar ((M.map (·.id)).take j)),num ((M.length:Int)-1-(j:Int))]) ⟨M.length,_,⟨0,om,om,om,rfl⟩,?_⟩ ?_;simp only[gx,Ar,db,Int.natCast_zero,Int.sub_zero];exact Nu
 .rintro k x ⟨j,m,o,u,rfl⟩;have b:((M.map (·.id)).take j).length=j:=by simp;omega
  simp only[PU];rcases cq j M.length with c|hge
  .have f:=bc (show(0:Int)<=(M.length:Int)-1-(j:Int) by omega);obtain⟨s,hx⟩:∃s,M[j]? =some s:=⟨_,ac c⟩;have h:(M.reverse.map ci).getD (((M.length:Int)-1-(j:Int)).toNat) .any=.agg [num s.id,str s.au,.sl 1 (s.tp.map str),.sl 5 s.ed,num s.pu,.sl 5 s.co,Af s.re,Af s.tk]:=by exact Aha
   simp only[num,str,Af]at h;have p:i64.wrap ((M.length:Int)-1-(j:Int)-1)=(M.length:Int)-1-((j+1:Nat):Int):=by rw[Aw om om];omega
   rcases cq j n.toNat with q|qi
   .have en:=bc (show(j:Int)<n by omega);have d:Ar ((M.map (·.id)).take j)++[AV.raw (.int .i64 s.id)]=Ar ((M.map (·.id)).take (j+1)):=by exact PX
    repeat' first|apply Aq.on<;>intro _|refine gD ?_|simp only[go_sem,DT,Int.reduceEq,Int.cast_ofNat_Int,f,en,h,p,b,d,Ao,ni]
    exact Av (k-1) [.own 3 1 (Ar ((M.map (·.id)).take (j+1))),num ((M.length:Int)-1-((j+1:Nat):Int))] om ⟨j+1,om,om,om,rfl⟩ Nu
   exact OS
  have f:=bd (show¬(0:Int)<=(M.length:Int)-1-(j:Int) by omega);exact OQ
def AeG(L t a)(m:L.length<=100000)(n:∀s∈L,Hj s):QA 46 [stA L t,str a] (λr=>r=.own 3 1 (Ar (((Bd [] L).filter (λs=>decide (s.au=a))).map (·.id)))):=by
 simp only[stA];refine G6 [] func46 ⟨_,rfl⟩ ?_;repeat' first|apply Aq.on<;>intro _|refine gD ?_|simp only[go_sem,DT,Int.reduceEq,Int.cast_ofNat_Int]
 refine((O4 L t [] m n).wk ?_).mono ?_;simp only[stA,str];exact Zw;rintro r rfl;obtain⟨M,i⟩:∃M,Bd [] L=M:=⟨_,rfl⟩;have o:M.length<=L.length:=by rw[<-i];exact Cw [] L
 simp only[i];have d:i64.wrap ((M.length:Int)-1)=(M.length:Int)-1:=Aw om om;repeat' first|apply Aq.on<;>intro _|refine gD ?_|simp only[go_sem,DT,Int.reduceEq,Int.cast_ofNat_Int,d,ni]
 refine Ak (rl [6,2,5,19,1]) [6,7] (λk x=>∃(j:Nat),j<=M.length/\j+k=M.length/\x=[.own 3 1 (Ar (((M.take j).filter (λs=>decide (s.au=a))).map (·.id))),num ((M.length:Int)-1-(j:Int))]) ⟨M.length,_,⟨0,om,om,rfl⟩,?_⟩ ?_;simp only[gx,po,Ar,db,Int.natCast_zero,Int.sub_zero];exact Nu
 .rintro k x ⟨j,p,u,rfl⟩;have q:((M.take j).filter (λs=>decide (s.au=a))).length<=j:=by have:=kh (λs=>decide (s.au=a)) (M.take j);rw[fw]at this;omega
  simp only[PU];rcases cq j M.length with e|hge
  .have f:=bc (show(0:Int)<=(M.length:Int)-1-(j:Int) by omega);obtain⟨s,hx⟩:∃s,M[j]? =some s:=⟨_,ac e⟩;have b:(M.reverse.map ci).getD (((M.length:Int)-1-(j:Int)).toNat) .any=.agg [num s.id,str s.au,.sl 1 (s.tp.map str),.sl 5 s.ed,num s.pu,.sl 5 s.co,Af s.re,Af s.tk]:=by exact Aha
   simp only[num,str,Af]at b;have l:i64.wrap ((M.length:Int)-1-(j:Int)-1)=(M.length:Int)-1-((j+1:Nat):Int):=by rw[Aw om om];omega
   by_cases h:s.au=a
   .have g:(s.au==a)=true:=by simp[h]
    have c:Ar (((M.take j).filter (λs=>decide (s.au=a))).map (·.id))++[AV.raw (.int .i64 s.id)]=Ar (((M.take (j+1)).filter (λs=>decide (s.au=a))).map (·.id)):=by rw[fc,hx];simp[Ar,num,h]
    repeat' first|apply Aq.on<;>intro _|refine gD ?_|simp only[go_sem,DT,Int.reduceEq,Int.cast_ofNat_Int,f,g,b,l,c,Ao,ni]
    exact Av (k-1) [.own 3 1 (Ar (((M.take (j+1)).filter (λs=>decide (s.au=a))).map (·.id))),num ((M.length:Int)-1-((j+1:Nat):Int))] om ⟨j+1,om,om,rfl⟩ Nu
   .have g:(s.au==a)=false:=by simp[h]
    have c:((M.take (j+1)).filter (λs=>decide (s.au=a)))=((M.take j).filter (λs=>decide (s.au=a))):=by rw[fc,hx];simp[h]
    repeat' first|apply Aq.on<;>intro _|refine gD ?_|simp only[go_sem,DT,Int.reduceEq,Int.cast_ofNat_Int,f,g,b,l,Ao,ni]
    refine Av (k-1) [.own 3 1 (Ar (((M.take (j+1)).filter (λs=>decide (s.au=a))).map (·.id))),num ((M.length:Int)-1-((j+1:Nat):Int))] om ⟨j+1,om,om,rfl⟩ ?_;rw[c];exact Nu
  have f:=bd (show¬(0:Int)<=(M.length:Int)-1-(j:Int) by omega);refine Zu ?_;rw[Are om]
def zH(L t v)(b:L.length<=100000)(c:∀s∈L,Hj s):QA 44 [stA L t,str v] (λr=>r=num ((Bd v L).length:Nat)):=by
 simp only[stA];refine Zs [] func44 ⟨_,rfl⟩ ?_;refine((O4 L t v b c).wk ?_).mono ?_;simp only[stA,str];exact Zw;rintro r rfl;obtain⟨M,a⟩:∃M,Bd v L=M:=⟨_,rfl⟩;have d:M.length<=L.length:=by rw[<-a];exact Cw v L
 simp only[a];have h:i64.wrap ((M.length:Int)-1)=(M.length:Int)-1:=Aw om om;repeat' first|apply Aq.on<;>intro _|refine gD ?_|simp only[go_sem,DT,Int.reduceEq,Int.cast_ofNat_Int,h,ni]
def O5{a:Type}(O:List a)(p:Int):List a:=if 1<=p then(O.drop (5*(p-1).toNat)).take 5 else[]
def Alf{a O}{x:a}{p}(h:((O.length / 5+1:Nat):Int)=p):O5 (O++[x]) p=O5 O p++[x]:=by subst h;have h1:(1:Int)<=((O.length / 5+1:Nat):Int):=om;have b:(((O.length / 5+1:Nat):Int)-1).toNat=O.length / 5:=om;simp only[O5,h1,if_true,b];have c:5*(O.length / 5)<=O.length:=Nat.mul_div_le _ _;have d:O.length<5*(O.length / 5)+5:=om;rw[sv c,Are (by simp;omega),Are (by simp;omega)]
def AeH{a O}{x:a}{p}(h:¬((O.length / 5+1:Nat):Int)=p):O5 (O++[x]) p=O5 O p:=by by_cases b:1<=p;obtain⟨q,rfl⟩:∃q:Nat,p=((q+1:Nat):Int):=⟨(p-1).toNat,om⟩;have d:(((q+1:Nat):Int)-1).toNat=q:=om;simp only[O5,b,if_true,d];rcases cq O.length (5*q)with c|c;rw[tq (by simp;omega),tq om];rw[sv c,sw (by simp;omega)];simp only[O5,b,if_false]
def Tn{a}(O:List a)(p):(O5 O p).length<=5:=by unfold O5;split;rw[fw];omega;simp
def gP(L t v p)(g:L.length<=100000)(j:∀s∈L,Hj s):QA 51 [stA L t,str v,num p] (λr=>r=.a6 [.own 3 1 (Ar (O5 ((Bd v L).reverse.map (·.id)) p)),num (((Bd v L).length+4) / 5:Nat)]):=by
 simp only[stA];refine G6 [] func51 ⟨_,rfl⟩ ?_;repeat' first|apply Aq.on<;>intro _|refine gD ?_|simp only[go_sem,DT,Int.reduceEq,Int.cast_ofNat_Int]
 refine((O4 L t v g j).wk ?_).mono ?_;simp only[stA,str];exact Gq;rintro r rfl;obtain⟨M,d⟩:∃M,Bd v L=M:=⟨_,rfl⟩;have l:M.length<=L.length:=by rw[<-d];exact Cw v L
 simp only[d];have m:i64.wrap ((M.length:Int)-1)=(M.length:Int)-1:=Aw om om;obtain⟨O,h⟩:∃O,M.reverse=O:=⟨_,rfl⟩;have o:O.length=M.length:=by rw[<-h,ni]
 simp only[h];refine Wp ?_;refine Ak (rl [9,3,3,22,2]) [9,10,11] (λk e=>∃(i:Nat),i<=O.length/\i+k=O.length/\e=[num (((i+4) / 5:Nat):Int),.own 3 1 (Ar (O5 ((O.map (·.id)).take i) p)),num i]) ⟨O.length,_,⟨0,om,om,rfl⟩,?_⟩ ?_;have q:O5 (([]:List Int)) p=[]:=by unfold O5;split<;>simp
 simp only[gx,q,Ar,db];exact Nu;rintro k e ⟨i,u,y,rfl⟩;have w:=Tn ((O.map (·.id)).take i) p;simp only[PU];rcases cq i O.length with a|hge;have ej:=bc (show(i:Int)<(O.length:Int) by omega);obtain⟨s,f⟩:∃s,O[i]? =some s:=⟨_,ac a⟩;have hgx:=H5 f;simp only[num,str,Af]at hgx;have hw:i64.wrap ((i:Int)+1)=((i+1:Nat):Int):=Da om;have hm:(i:Int).tmod 5=((i % 5:Nat):Int):=L5 (n:=5) om;have b:(O.map (·.id)).take (i+1)=(O.map (·.id)).take i++[s.id]:=by rw[fc,ao,f];rfl
 have c:((O.map (·.id)).take i).length=i:=by simp;omega
 have hin:=Alf (O:=(O.map (·.id)).take i) (x:=s.id) (p:=p);have hout:=AeH (O:=(O.map (·.id)).take i) (x:=s.id) (p:=p);rw[c,<-b]at hin hout;by_cases z:i % 5=0;have e5:=bc (show((i % 5:Nat):Int)=0 by omega);have hwp:i64.wrap (((((i+4) / 5:Nat):Int))+1)=((i / 5+1:Nat):Int):=by rw[Aw om om];omega
 exact Ϛ;have e5:=bd (show¬((i % 5:Nat):Int)=0 by omega);have hwp:(((i+4) / 5:Nat):Int)=((i / 5+1:Nat):Int):=om;exact Ϛ;have ej:=bd (show¬(i:Int)<(O.length:Int) by omega);refine Wq ej ?_;rw[Are (by simp;omega),show i=M.length by omega,<-h]
def Aod{l:List (Ap×Nat)}{j:Nat}{s:Ap}{i}(h:l[j]? =some (s,i)):(l.map qY).getD j .any=.agg [num s.id,str s.au,.sl 1 (s.tp.map str),.sl 5 s.ed,num s.pu,.sl 5 s.co,Af s.re,Af s.tk,num (i:Int)]:=by simp[h,qY,iz]
def Vj(X:List (Ap×Nat))(n:Int)(m:X.length<=1000000):QA 139 [.sl 9 (X.map qY),num n,.raw (.func (.func 140) #[] #[])] (λr=>r=.own 3 1 (Ar ((X.map (·.1.id)).take n.toNat))):=by
 refine Zs [] func139 ⟨_,rfl⟩ ?_;refine Ak (rl [7,22]) [7,8] (λk b=>∃(j:Nat),j<=X.length/\j<=n.toNat/\j+k=X.length/\b=[.own 3 1 (Ar ((X.map (·.1.id)).take j)),num j]) ⟨X.length,_,⟨0,om,om,om,rfl⟩,?_⟩ ?_;simp only[gx,Ar,db];exact Nu;rintro k b ⟨j,c,d,o,rfl⟩;have e:((X.map (·.1.id)).take j).length=j:=by simp;omega
 simp only[PU];rcases cq j n.toNat with f|qi;have en:=bc (show(j:Int)<n by omega);rcases cq j X.length with h|hge;have g:=eT j X.length;obtain⟨x,hx⟩:∃x,X[j]? =some x:=⟨_,ac h⟩;obtain⟨s,i⟩:=x;have a:=Aod hx;simp only[num,str,Af]at a;have p:=wS j;have l:Ar ((X.map (·.1.id)).take j)++[AV.raw (.int .i64 s.id)]=Ar ((X.map (·.1.id)).take (j+1)):=by exact PX
 refine Zu ?_;refine((yS s i).wk ?_).mono ?_;simp only[iz,num,str,Af];exact Gq;exact AhZ;have g:=eU j X.length;exact OQ;exact OS
end Go.Proofs.YtobhohikfmlccaaGreatDoor
namespace Go.Proofs
def Tryz.i3:Go.Shelf.Ren:=⟨λ|6=>200|15=>180|14=>275|28=>240|29=>241|20=>328|21=>329|22=>330|23=>331|24=>332|25=>333|26=>334|27=>335|46=>367|47=>303|48=>304|49=>368|50=>369|57=>386|n=>n,λ|22=>177|24=>180|25=>251|3=>3|39=>127|0=>0|53=>126|55=>289|4=>4|46=>282|45=>281|50=>142|5=>5|9=>9|66=>343|70=>347|76=>380|77=>381|n=>n,λ|n=>n⟩
def Tryz.j7:Go.Proofs.SlLaysF0.n6 prog Tryz.i3:=Tryz.lw
def Tryz.i4:Go.Shelf.Ren:=⟨λ|6=>152|15=>180|14=>206|28=>240|29=>241|20=>280|21=>281|22=>282|23=>283|24=>284|25=>285|26=>286|27=>287|46=>340|47=>303|48=>304|49=>341|50=>342|57=>372|n=>n,λ|22=>187|24=>192|25=>194|3=>3|39=>127|0=>0|53=>126|55=>289|4=>4|46=>282|45=>281|50=>142|5=>5|9=>9|66=>343|70=>347|76=>380|77=>381|n=>n,λ|n=>n⟩
def Tryz.j8:Go.Proofs.SlLaysF0.n6 prog Tryz.i4:=Tryz.lw
def Tryz.i9:Go.Shelf.Ren:=⟨λ|6=>115|15=>180|14=>179|28=>240|29=>241|20=>232|21=>233|22=>234|23=>235|24=>236|25=>237|26=>238|27=>239|46=>302|47=>303|48=>304|49=>305|50=>306|57=>359|n=>n,λ|22=>41|24=>52|25=>159|3=>3|39=>127|0=>0|53=>126|55=>289|4=>4|46=>282|45=>281|50=>142|5=>5|9=>9|66=>343|70=>347|76=>380|77=>381|n=>n,λ|n=>n⟩
def Tryz.j9:Go.Proofs.SlLaysF0.n6 prog Tryz.i9:=Tryz.lw
end Go.Proofs
namespace Go.Proofs.YtobhohikfmlccaaGreatDoor
def To{x y}:L6 x y<0↔x<y:=by unfold L6;split<;>(try split)<;>omega
def Ji{x y}:L6 x y=0↔x=y:=by unfold L6;split<;>(try split)<;>omega
def AeI{s t a b}:yR s a t b<0↔s.pu<t.pu\/s.pu=t.pu/\(s.id<t.id\/s.id=t.id/\a<b):=by unfold yR;simp only[yQ];split;rename_i h1;have h1:=Ji.1 h1;split;rename_i c;have c:=Ji.1 c;split;rename_i d;have d:=Ji.1 d;omega;have:= @To a b;omega;rename_i c;have e:¬s.id=t.id:=λh=>c (Ji.2 h);have:= @To s.id t.id;omega;rename_i h1;have f:¬s.pu=t.pu:=λh=>h1 (Ji.2 h);have:= @To s.pu t.pu;omega
def Qo(x y:Ap×Nat):Int:=yR y.1 y.2 x.1 x.2
def Ik{x y}:Qo x y<0↔y.1.pu<x.1.pu\/y.1.pu=x.1.pu/\(y.1.id<x.1.id\/y.1.id=x.1.id/\y.2<x.2):=by unfold Qo;rw[AeI];omega
def Vk:List (Ap×Nat)->Ap×Nat->List (Ap×Nat)
 |[],x=>[x]
 |y::r,x=>if I2 y.1 x.1 then x::y::r else y::Vk r x
def sK:∀(l:List (Ap×Nat)) (x:Ap×Nat),(Vk l x).map (·.1)=H6 (l.map (·.1)) x.1
 |[],x=>rfl
 |y::r,x=>by
  have:=sK r x;simp only[Vk,ev,H6];split;rfl;simp only[ev,this]
def Qa:∀(l:List (Ap×Nat)) (x:Ap×Nat),(Vk l x).Perm (x::l)
 |[],x=>.refl _
 |y::r,x=>by
  have:=Qa r x;simp only[Vk];split;exact .refl _
  .exact(this.cons y).trans (.swap x y r)
def Wo:∀(l:List (Ap×Nat)) (x:Ap×Nat),(∀y∈l,y.2<x.2)->(l.Pairwise λa b=>Qo a b<0)->(Vk l x).Pairwise λa b=>Qo a b<0
 |[],x,_,_=>by simp[Vk]
 |y::r,x,h,hp=>by
  have f:=h y oS;rw[mh]at hp;simp only[Vk];split;rename_i ha;have d:Qo x y<0:=by exact AhS
  refine mh.2 ⟨λz c=> ?_,mh.2 hp⟩;rcases e9.1 c with rfl|c;exact d;have h1:=hp.1 z c;rw[Ik]at d h1⊢;omega;rename_i ha;have e:Qo y x<0:=by exact AhS
  refine mh.2 ⟨λz c=> ?_,Wo r x (λy f=>h y (by simp[f])) hp.2⟩;rcases e9.1 ((Qa r x).mem_iff.1 c)with rfl|c;exact e;exact hp.1 z c
def Ma(x:List (Ap×Nat)):List (Ap×Nat):=x.foldl Vk []
def H7:∀(X b:List (Ap×Nat)),(X.foldl Vk b).Perm (X++b)
 |[],b=>.refl _
 |x::X,b=>by have h1:=H7 X (Vk b x);exact h1.trans (((Qa b x).append_left X).trans (List.perm_middle (a:=x) (l₁:=X) (l₂:=b)))
def Hk:∀(X c:List (Ap×Nat)),(∀y∈c,∀x∈X,y.2<x.2)->(X.Pairwise λa b=>a.2<b.2)->(c.Pairwise λa b=>Qo a b<0)->(X.foldl Vk c).Pairwise λa b=>Qo a b<0
 |[],c,_,_,h=>h
 |x::X,c,h1,h2,h3=>by
  rw[mh]at h2;refine Hk X _ (λy d z e=> ?_) h2.2 (Wo c x (λy d=>h1 y d x oS) h3);rcases e9.1 ((Qa c x).mem_iff.1 d)with rfl|d;exact h2.1 z e;exact h1 y d z (by simp[e])
def Xt{p:Ap->Int->Bool}:∀(L:List Ap) (i:Nat),∀x∈Cq p i L,i<=x.2/\x.1∈L
 |[],i,x,h=>by simp[Cq]at h
 |s::L,i,x,h=>by
  have a:=Xt (p:=p) L (i+1) x;unfold Cq at h;split at h;rcases e9.1 h with rfl|h;exact⟨bx _,oS⟩;have:=a h;exact⟨om,by simp[this.2]⟩;have:=a h;exact⟨om,by simp[this.2]⟩
def Mb{p:Ap->Int->Bool}:∀(L:List Ap) (i:Nat),(Cq p i L).Pairwise λa b=>a.2<b.2
 |[],i=>by simp[Cq]
 |s::L,i=>by
  have c:=Mb (p:=p) L (i+1);unfold Cq;split;refine mh.2 ⟨λy h=> ?_,c⟩;have:=(Xt L (i+1) y h).1;show i<y.2;omega;exact c
def E6{p:Ap->Int->Bool}:∀(L:List Ap) (i:Nat),(Cq p i L).length<=L.length
 |[],i=>by simp[Cq]
 |s::L,i=>by have a:=E6 (p:=p) L (i+1);unfold Cq;split<;>simp<;>omega
def Tp(x):(Ma x).length=x.length:=by have:=(H7 x []).length_eq;simpa[Ma]using this
def lT:∀{l:List (Ap×Nat)},(l.Pairwise λa b=>a.2<b.2)->∀x∈l,∀y∈l,x.2=y.2->x=y
 |[],_,x,hx,_,_,_=>by simp at hx
 |a::l,hp,x,hx,y,hy,he=>by
  rw[mh]at hp;rcases e9.1 hx with h1|h1<;>rcases e9.1 hy with h|h;rw[h1,h];have:=hp.1 y h;rw[h1]at he;omega;have:=hp.1 x h1;rw[h]at he;omega;exact lT hp.2 x h1 y h he
def gQ{l:List (Ap×Nat)}(h:l.Pairwise λa b=>a.2<b.2):l.Nodup:=h.imp λ{a b} h c=>by rw[c]at h;omega
def Vl{v}:∀(L:List Ap) (i:Nat) (a:List (Ap×Nat)),((Cq (λs _=>hasB s v) i L).foldl Vk a).map (·.1)=L.foldl (dS v) (a.map (·.1))
 |[],i,a=>rfl
 |s::L,i,a=>by
  unfold Cq;simp only[lc,dS];by_cases h:(Ee s&&hasB s v)=true;rw[bn h,bn h,lc,Vl L (i+1),sK];rw[ar h,ar h,Vl L (i+1)]
def O6(v L):(Ma (Cq (λs _=>hasB s v) 0 L)).map (·.1)=Bd v L:=Vl L 0 []
def Aax(X)(d:X.length<=1000000)(c:X.Pairwise λa b=>a.2<b.2):Cm prog 200 (.row 180 9 (X.map qY)) [.raw (.func (.func 201) #[] #[])] (λr y=>r=.a6 []/\y=.row 180 9 ((Ma X).map qY)):=by
 refine Lf Tryz.j7 9 oD Tryz.isAgg180 Tryz.sizeOf180 ⟨_,_,func200,rfl,oD⟩ (enters_of func201 (by kernel_rfl) rfl) X (Ma X) qY Qo (λx _=>⟨_,rfl,rfl⟩) d ?_ ?_ ?_ (gQ c) ?_ ?_ ?_
 .intro x _;rw[Ik];omega
 .intro x _ y _ z _ h1 h;rw[Ik]at h1 h⊢;omega
 .intro x e y f;by_cases h1:Qo x y<0
  .exact .inl h1
  by_cases h:Qo y x<0
  .exact .inr (.inr h)
  refine .inr (.inl (lT c x e y f ?_));rw[Ik]at h1 h;omega
 .intro x _ y _;exact @ZX ⟨True,Env.globs⟩ x.1 y.1 x.2 y.2
 .have:=H7 X [];simpa[Ma]using this
 .exact Hk X [] oS c oS
def sM(L:List Ap)(t)(a:List OA)(b:L.length<=1000000)(d:∀s∈L,Hj s)(h:a.length<=1000000)(e:∀c∈a,x_ c):QA 136 [stA L t,.sl 1 (a.map dR)] (λr=>r=.own 180 9 ((Ma (Cq (C5 a) 0 L)).map qY)):=by simp only[stA];refine Zs [(2,[100005],[]),(3,[5],[])] func136 ⟨_,rfl⟩ ?_;refine((Vi L t a).wk ?_).mono ?_;simp only[stA];exact Zw;rintro r rfl;simp only[stA];refine Zu ?_;refine Za (gM (Cq (C5 a) 0 L) (by have:=E6 (p:=C5 a) L 0;omega) (Vh L t a b d h e)) ?_;refine Cm.mono (Aax (Cq (C5 a) 0 L) (by have:=E6 (p:=C5 a) L 0;omega) (Mb L 0)) ?_;rintro r y ⟨rfl,rfl⟩;exact Ze
def O7(p q:Ap->Int->Bool):∀(L:List Ap) (i:Nat),Cq (λs a=>q s a&&p s a) i L=(Cq q i L).filter λx=>p x.1 x.2
 |[],i=>rfl
 |s::L,i=>by
  have d:=O7 p q L (i+1);simp only[Cq];by_cases h1:(Ee s&&q s i)=true;rw[bn h1,ou];have b:Ee s=true/\q s i=true:=by simpa using h1
  by_cases c:p s i=true;rw[bn (by simp[b.1,b.2,c]),bn c,d];rw[ar (by simp[c]),ar c,d];rw[ar h1,ar (by intro h;apply h1;simp at h;simp[h]),d]
def Wr(X)(p:Ap×Nat->Bool)(h:X.Pairwise λa b=>a.2<b.2):Ma (X.filter p)=(Ma X).filter p:=by have h1:=H7 (X.filter p) [];have c:=H7 X [];rw[gy]at h1 c;have s:=Hk (X.filter p) [] oS (h.filter p) oS;have d:=Hk X [] oS h oS;refine List.Perm.eq_of_pairwise (le:=λx y=>Qo x y<0) (λx y _ _ e f=> ?_) s (d.filter p) (h1.trans (c.filter p).symm);rw[Ik]at e f;omega
def Tq(s):hasB s []=true:=by simp[hasB]
def sN(v:Ϟ)(f:Nat):OA:=(f,[.elt (.agg [str v])],λs _=>hasB s v)
def DO(v:Ϟ):OA:=(144,[.elt (.agg [str v])],λs _=>decide (s.au=v))
def Vm(v f):C5 [sN v f]=λs _=>hasB s v:=by funext s a;simp[C5,sN]
def Aay(v):C5 [DO v]=λs _=>decide (s.au=v):=by funext s a;simp[C5,DO]
theorem AeJ(v:Ϟ)(L:List Ap):(Ma (Cq (λs _=>hasB s v) 0 L)).map (·.1.id)=(Bd v L).map (·.id):=by rw[<-O6,lq];rfl
theorem Alg(v:Ϟ)(L:List Ap):(Ma (Cq (λs _=>decide (s.au=v)) 0 L)).map (·.1.id)=((Bd [] L).filter (λs=>decide (s.au=v))).map (·.id):=by have h:=O7 (λs _=>decide (s.au=v)) (λs _=>hasB s []) L 0;simp only[Tq,ph]at h;rw[h,Wr _ _ (Mb L 0),<-O6];simp only[Tq,List.filter_map,lq];rfl
theorem Aaz(L:List Ap)(t:Φ)(v:Ϟ)(n:Int)(e:L.length<=100000)(b:∀s∈L,Hj s):QA 82 [stA L t,str v,num n] (λr=>r=.own 3 1 (Ar (((Bd v L).map (·.id)).take n.toNat))):=by
 simp only[stA];refine Zs [(1,[4],[])] func82 ⟨_,rfl⟩ ?_;refine((sM L t [sN v 137] om b oS (λc h s a d=> ?_)).wk ?_).mono ?_
 ·rw [ga]at h;subst h;exact ZZ s a v d.1
 ·exact PC
 rintro r rfl;rw[Vm];refine Zu ?_;refine Zb (Vj (Ma (Cq (λs _=>hasB s v) 0 L)) n (by rw[Tp];have:=E6 (p:=λs _=>hasB s v) L 0;omega)) ?_;rintro r rfl;rw[AeJ];exact Ze
theorem ApP(L:List Ap)(t:Φ)(v:Ϟ)(d:L.length<=100000)(b:∀s∈L,Hj s):QA 88 [stA L t,str v] (λr=>r=.own 3 1 (Ar (((Bd [] L).filter (λs=>decide (s.au=v))).map (·.id)))):=by
 simp only[stA];refine Zs [(1,[3],[])] func88 ⟨_,rfl⟩ ?_;refine((sM L t [DO v] om b oS (λc h s a e=> ?_)).wk ?_).mono ?_
 ·rw [ga]at h;subst h;exact ApK s a v
 ·exact PC
 rintro r rfl;rw[Aay];refine Zu ?_;refine Zb (Vj (Ma (Cq (λs _=>decide (s.au=v)) 0 L)) ((Ma (Cq (λs _=>decide (s.au=v)) 0 L)).length:Nat) (by rw[Tp];have:=E6 (p:=λs _=>decide (s.au=v)) L 0;omega)) ?_;rintro r rfl;rw[Are oS,Alg];exact Ze
theorem zJ(v:Ϟ)(L:List Ap):(Cq (λs _=>hasB s v) 0 L).length=(Bd v L).length:=by rw[<-O6,dB,Tp]
theorem AeK(L:List Ap)(t:Φ)(v:Ϟ)(l:L.length<=100000)(f:∀s∈L,Hj s):QA 99 [stA L t,str v] (λr=>r=num ((Bd v L).length:Nat)):=by
 have hlen:=E6 (p:=λs _=>hasB s v) L 0;simp only[stA];refine Ed [(2,[3],[])] [] [10,11,12] b3 Cl func99 oD oK (by simp only[go_sem,reduceIte,reduceCtorEq];rfl) ntmps99 results99 ⟨_,rfl⟩ rfl ?_;skip;simp only[LS,Nat.reduceAdd,Nat.reduceSub];refine Z0 ?_;refine((Vi L t [sN v 160]).wk ?_).mono ?_
 ·simp only[stA,ev,db,dR,sN,num,str,Af];exact Zw
 rintro r rfl;refine Z0 ?_;have h:=Vh L t [sN v 160] om f oS (λc d s a g=>by rw[ga]at d;subst d;exact Ae0 s a v g.1);rw[Vm]at h;refine Ft (rl [5,1,4,3]) [5] (λk b=>b=[.box 3 [num k]]) (bx 14) ?_ h ?_ ?_ ?_
 ·exact J1
 ·refine ⟨_,rfl,?_⟩;exact Zw
 ·rintro k e b ⟨x,i,rfl⟩ rfl;refine⟨rfl,rfl,?_⟩;have hlk:k<(Cq (λs _=>hasB s v) 0 L).length:=(ab.1 i).1;have j:=wS k;simp only[PU];repeat' first|apply Aq.on<;>intro _|refine gD ?_|simp only[go_sem,DT,Int.reduceEq,Int.cast_ofNat_Int,j]
  refine Ij _ rfl ?_;exact Zw
 ·rintro b rfl;simp only[PU];rw[zJ];exact Ze
theorem gR(a:Ej)(ha:a.name.length<=1000000000)(hb:a.lang.length<=1000000000):QA 108 [Fe a] (λr=>r=O0 a):=by
 simp only[Fe];refine G6 [(2000008,[0,5,1001,1006],[7,8,9]),(3000008,[9,15,20,10001],[2002,3,4]),(2000010,[0,4,1001,2,3,1005],[7,8,9]),(3000010,[9,25,29,10001],[2006])] func108 ⟨_,rfl⟩ ?_;cases hv:Be a
 ·refine Zu ?_;refine Za (Vb a ha hb) ?_;all_goals first|rfl|(simp [O0,hv,str,num];done)
 ·have hk:=lQ hv;have hn:=EV hv;have h:=S9 hn.1 (show a.n<100 by omega);by_cases b:a.kind=2
  ·have e2:=eE a.kind 2;have e3:=eN a.kind 3;exact ϻ
  ·by_cases c:a.kind=3
   ·have e2:=eN a.kind 2;have e3:=eE a.kind 3;exact ϻ
   ·by_cases d:a.kind=4
    ·have e2:=eN a.kind 2;have e3:=eN a.kind 3;have e4:=eE a.kind 4;have e5:=eN a.kind 5;have e1:=eN a.kind 1;have e6:=eN a.kind 6;exact yi
    ·by_cases e:a.kind=5
     ·have e2:=eN a.kind 2;have e3:=eN a.kind 3;have e4:=eN a.kind 4;have e5:=eE a.kind 5;have e1:=eN a.kind 1;have e6:=eN a.kind 6;exact yi
     ·by_cases f:a.kind=1
      ·have e2:=eN a.kind 2;have e3:=eN a.kind 3;have e4:=eN a.kind 4;have e5:=eN a.kind 5;have e1:=eE a.kind 1;have e6:=eN a.kind 6;exact yi
      ·by_cases g:a.kind=6
       ·have e2:=eN a.kind 2;have e3:=eN a.kind 3;have e4:=eN a.kind 4;have e5:=eN a.kind 5;have e1:=eN a.kind 1;have e6:=eE a.kind 6;exact yi
       ·exact XS
theorem AeL(s:Ab)(h:s.length<=1000000):QA 33 [str s,str [47],num 5] (λr=>r=.sl 1 ((Dl s).map str)):=by refine(Zz Tryz.m9 (by kernel_rfl) Wh ⟨_,_,func33,rfl,oD⟩ lH s [47] 5 om oS om om).lf ?_;rintro r rfl;exact⟨_,dy _ _ _,rfl,rfl⟩
theorem Nb(a:Ab):∀(k:Nat) (s:Ab),∀p∈splitK a 0 k s,p.length<=s.length
 |0,s,p,h=>by rw[splitK,ga]at h;rw[h];exact bx _
 |k+1,s,p,h=>by
  rw[splitK]at h;split at h
  ·rw [ga]at h;rw[h];exact bx _
  ·rw [e9]at h;rcases h with rfl|h
   ·rw [fw];omega
   ·have:=Nb a k _ p h;rw[jb]at this;omega
theorem FB{s:Ab}{i:Nat}:((Dl s).getD i []).length<=s.length:=by
 rw[fk]
 cases h:(Dl s)[i]? with
 |none=>simp
 |some p=>exact Nb _ _ _ _ (cu h)
theorem H8{l:Ξ}{i:Nat}(h:i<l.length):(l.map str).getD i .any=.raw (.string ⟨(l.getD i []).toArray⟩):=by simp [fk,h,str]
theorem xq(n:Nat)(w:Ab)(p:Ξ)(b:2<=n)(h:n<=100)(c:p.length<=1000000):QA 110 [num n,str w,.elt (.agg [.sl 1 (p.map str)])] (λr=>r=Af (decide (p.length=n/\p.getD 1 []=w))):=by
 refine G6 [] func110 ⟨_,rfl⟩ ?_;by_cases h1:p.length=n
 ·have e1:=bc (show(p.length:Int)=(n:Int) by omega);have a:=H8 (l:=p) (i:=1) om;repeat' first|apply Aq.on<;>intro _|refine gD ?_|simp only[go_sem,DT,Int.reduceEq,e1,a]
  all_goals first|omega|(simp [h1,Af];rw[Bool.eq_iff_iff];simp;done)
 ·have e1:=bd (show¬(p.length:Int)=(n:Int) by omega);repeat' first|apply Aq.on<;>intro _|refine gD ?_|simp only[go_sem,DT,Int.reduceEq,e1]
  all_goals first|omega|(simp [h1,Af];done)
def Ro(o:Option Ej):AV:=match o with
 |some a=>.a6 [Fe a,num 0]
 |none=>.a6 [Fe rM,num 120]
theorem FC(s:Ab)(o:s.length<=1000000):QA 54 [str s] (λr=>r=Ro (Gv s)):=by
 have e:(Dl s).length<=1000000:=by have h:=splitB_length_le (Bo [47]) 0 (min 5 (s.length+1)-1) (Bo s);have d:=fq List.length (splitB_data (Bo [47]) 0 (min 5 (s.length+1)-1) (Bo s));rw[dB,Bm,Bm]at d;unfold Dl;omega
 refine G6 [(2,[4],[]),(1000018,[],[])] func54 ⟨_,rfl⟩ ?_;repeat' first|apply Aq.on<;>intro _|refine gD ?_|simp only[go_sem,DT,Int.reduceEq]
 refine((AeL s o).wk ?_).mono ?_
 ·try simp only[num,str]
  first|exact Wi.h|exact br _
 rintro r rfl;try simp only[Af,num,str]
 repeat' first|apply Aq.on<;>intro _|refine gD ?_|simp only[go_sem,DT,Int.reduceEq]
 refine Xl (rl [1,1,1,3,1,75]) [6] (λx=>x=[.box 103 [num (H4 s).kind,str (H4 s).name,num (H4 s).n,str (H4 s).lang]]) ?_ ?_
 ·by_cases h1:s=[47]
  ·have e1:(s==[47])=true:=by rw[h1];rfl
   rw[show H4 s=⟨1,[],0,[]⟩ by rw[H4,bn h1]];refine Z1 e1 ?_;refine Gt _ rfl ?_
   ·exact Zw
  have e1:(s==[47])=false:=by simp [h1]
  by_cases d:s=47::Oy
  ·have e2:(s==[47,109,97,112])=true:=by rw[d];rfl
   rw[show H4 s=⟨6,[],0,[]⟩ by rw[H4,ar h1,bn d]];refine Z2 e1 e2 ?_;refine Gt _ rfl ?_
   ·exact Zw
  have e2:(s==[47,109,97,112])=false:=by simpa[Oy]using d
  refine Z2 e1 e2 ?_;refine((xq 4 D5 (Dl s) om om e).wk ?_).mono ?_
  ·simp only[num,str,D5,D6,cX,F9];exact Zw
  rintro r rfl;by_cases f:(Dl s).length=4/\(Dl s).getD 1 []=D5
  ·have b:=H8 (l:=Dl s) (i:=2) om;have c:=H8 (l:=Dl s) (i:=3) om;rw[decide_eq_true f,show H4 s=⟨2,[],Bi ((Dl s).getD 2 []),(Dl s).getD 3 []⟩ by rw[H4,ar h1,ar d,bn f]];try simp only[Af,num,str]
   repeat' first|apply Aq.on<;>intro _|refine gD ?_|simp only[go_sem,DT,Int.reduceEq,e1,e2,b,c]
   refine((P6 ((Dl s).getD 2 []) (cp FB o)).wk ?_).mono ?_
   ·try simp only[num,str]
    first|exact Wi.h|exact br _
   rintro r rfl;try simp only[Af,num,str]
   repeat' first|apply Aq.on<;>intro _|refine gD ?_|simp only[go_sem,DT,Int.reduceEq,e1,e2,b,c]
   refine Gt _ rfl ?_
   ·exact Zw
  rw[decide_eq_false f];try simp only[Af,num,str]
  repeat' first|apply Aq.on<;>intro _|refine gD ?_|simp only[go_sem,DT,Int.reduceEq,e1,e2]
  refine((xq 4 D6 (Dl s) om om e).wk ?_).mono ?_
  ·simp only[num,str,D5,D6,cX,F9];exact Zw
  rintro r rfl;by_cases g:(Dl s).length=4/\(Dl s).getD 1 []=D6
  ·have b:=H8 (l:=Dl s) (i:=2) om;have c:=H8 (l:=Dl s) (i:=3) om;rw[decide_eq_true g,show H4 s=⟨3,(Dl s).getD 2 [],Bi ((Dl s).getD 3 []),[]⟩ by rw[H4,ar h1,ar d,ar f,bn g]];try simp only[Af,num,str]
   repeat' first|apply Aq.on<;>intro _|refine gD ?_|simp only[go_sem,DT,Int.reduceEq,e1,e2,b,c]
   refine((P6 ((Dl s).getD 3 []) (cp FB o)).wk ?_).mono ?_
   ·try simp only[num,str]
    first|exact Wi.h|exact br _
   rintro r rfl;try simp only[Af,num,str]
   repeat' first|apply Aq.on<;>intro _|refine gD ?_|simp only[go_sem,DT,Int.reduceEq,e1,e2,b,c]
   refine Gt _ rfl ?_
   ·exact Zw
  rw[decide_eq_false g];try simp only[Af,num,str]
  repeat' first|apply Aq.on<;>intro _|refine gD ?_|simp only[go_sem,DT,Int.reduceEq,e1,e2]
  refine((xq 3 cX (Dl s) om om e).wk ?_).mono ?_
  ·simp only[num,str,D5,D6,cX,F9];exact Zw
  rintro r rfl;by_cases j:(Dl s).length=3/\(Dl s).getD 1 []=cX
  ·have b:=H8 (l:=Dl s) (i:=2) om;rw[decide_eq_true j,show H4 s=⟨4,(Dl s).getD 2 [],0,[]⟩ by rw[H4,ar h1,ar d,ar f,ar g,bn j]];try simp only[Af,num,str]
   repeat' first|apply Aq.on<;>intro _|refine gD ?_|simp only[go_sem,DT,Int.reduceEq,e1,e2,b]
   refine Gt _ rfl ?_
   ·exact Zw
  rw[decide_eq_false j];try simp only[Af,num,str]
  repeat' first|apply Aq.on<;>intro _|refine gD ?_|simp only[go_sem,DT,Int.reduceEq,e1,e2]
  refine((xq 3 F9 (Dl s) om om e).wk ?_).mono ?_
  ·simp only[num,str,D5,D6,cX,F9];exact Zw
  rintro r rfl;by_cases k:(Dl s).length=3/\(Dl s).getD 1 []=F9
  ·have b:=H8 (l:=Dl s) (i:=2) om;rw[decide_eq_true k,show H4 s=⟨5,(Dl s).getD 2 [],0,[]⟩ by rw[H4,ar h1,ar d,ar f,ar g,ar j,bn k]];try simp only[Af,num,str]
   repeat' first|apply Aq.on<;>intro _|refine gD ?_|simp only[go_sem,DT,Int.reduceEq,e1,e2,b]
   refine Gt _ rfl ?_
   ·exact Zw
  rw[decide_eq_false k];try simp only[Af,num,str]
  repeat' first|apply Aq.on<;>intro _|refine gD ?_|simp only[go_sem,DT,Int.reduceEq,e1,e2]
  rw[show H4 s=rM by rw[H4,ar h1,ar d,ar f,ar g,ar j,ar k]];refine Gt _ rfl ?_
  ·exact Zw
 rintro x rfl;simp only[PU];repeat' first|apply Aq.on<;>intro _|refine gD ?_|simp only[go_sem,DT,Int.reduceEq]
 rw[Gv];generalize H4 s=a;refine((rP a).wk ?_).mono ?_
 ·try simp only[Fe,num,str]
  exact Zw
 rintro r rfl;cases p:Be a
 ·simp only[O0,p,f0,if_false,false_and,num,str];repeat' first|apply Aq.on<;>intro _|refine gD ?_|simp only[go_sem,DT,Int.reduceEq]
  all_goals first|rfl|(simp [Ro,Fe,rM,num,str];done)
 ·by_cases m:Fu a=s
  ·simp only[O0,p,m,if_true,and_self,num,str];repeat' first|apply Aq.on<;>intro _|refine gD ?_|simp only[go_sem,DT,Int.reduceEq,m]
   all_goals first|rfl|(simp [Ro,Fe,num,str];done)|(simp_all;done)
  ·have q:(Fu a==s)=false:=by simpa using m
   simp only[O0,p,m,if_true,if_false,and_false,num,str];repeat' first|apply Aq.on<;>intro _|refine gD ?_|simp only[go_sem,DT,Int.reduceEq,q]
   all_goals first|rfl|(simp [Ro,Fe,rM,num,str];done)|(simp_all;done)
def Kd(l):(Ar l).length=l.length:=by simp[Ar]
def Fb(s):Db (Bi s):=by
 unfold Bi;split
 all_goals first
  |(rename_i v h;exact atoiAll_bounds h)
  |(have:=atoiSat_bounds s;exact⟨om,om⟩)
  |exact⟨oD,oD⟩
def Dq{sep c}:∀{zs:Ξ},(∀z∈zs,z.length<=c)->(join zs sep).length<=zs.length*(c+sep.length)
 |[],_=>by simp[join]
 |[z],h=>by have:=h z (.head _);rw[join_one];simp;omega
 |z::y::zs,h=>by
  have h1:=h z (.head _);have a:=Dq (sep:=sep) (zs:=y::zs) (λx b=>h x (.tail _ b));have e:join (z::y::zs) sep=z++sep++join (y::zs) sep:=by simp[join,List.intercalate,ir]
  rw[e];simp only[dc,dg]at a⊢;have e2:(zs.length+1+1)*(c+sep.length)=(zs.length+1)*(c+sep.length)+(c+sep.length):=Nat.succ_mul _ _;omega
def B5(s:Ab)(f:Int->Ab):Ab:=if K0 s=true/\itoa (Bi s)=s/\ -999999999<=Bi s/\Bi s<=999999999 then f (Bi s)else[]
def Ke(s g j)(f:Int->Ab)(k:s.length<=1000000)(l:∀n,-999999999<=n->n<=999999999->QA g (num n::j) (λr=>r=str (f n))):QA 76 [str s,.ee g j] (λr=>r=str (B5 s f)):=by
 refine ai (Zt [] [] [] func76 ?_) ⟨_,rfl⟩;apply ae (ZT s k);rintro r ⟨e,rfl,h1,m⟩;simp only[num]
 cases b:K0 s with
 |false=>
  obtain⟨t,p,rfl⟩:=m b;have h:B5 s f=[]:=by simp[B5,b]
  refine Z0 ?_;rw[h];exact cZ
 |true=>
  obtain rfl:=h1 b;by_cases c:itoa (Bi s)=s;rotate_left
  .have h:B5 s f=[]:=by simp[B5,c]
   have e1:(itoa (Bi s)==s)=false:=by simpa using c
   refine Z1 e1 ?_;refine ae (Em (Bi s) (Fb s)) ?_;rintro r rfl;try simp only[num,str,Af]
   repeat' first|apply Aq.on<;>intro _|refine gD ?_|simp only[go_sem,e1]
   rw[h];exact cZ
  have e1:(itoa (Bi s)==s)=true:=by simpa using c
  by_cases d: -999999999<=Bi s;rotate_left
  .have h:B5 s f=[]:=by simp[B5,d]
   have e2:=bc (show Bi s< -999999999 by omega);refine Z2 e1 e2 ?_;refine ae (Em (Bi s) (Fb s)) ?_;rintro r rfl;try simp only[num,str,Af]
   repeat' first|apply Aq.on<;>intro _|refine gD ?_|simp only[go_sem,e1,e2]
   rw[h];exact cZ
  have e2:=bd (show¬Bi s< -999999999 by omega);by_cases i:Bi s<=999999999;rotate_left
  .have h:B5 s f=[]:=by
    simp only[B5,i,and_false,if_false]
   have a:=bc (show(999999999:Int)<Bi s by omega);refine Z3 e1 e2 a ?_;refine ae (Em (Bi s) (Fb s)) ?_;rintro r rfl;try simp only[num,str,Af]
   repeat' first|apply Aq.on<;>intro _|refine gD ?_|simp only[go_sem,e1,e2,a]
   rw[h];exact cZ
  have a:=bd (show¬(999999999:Int)<Bi s by omega);have h:B5 s f=f (Bi s):=by simp only[B5,b,c,d,i,and_self,if_true]
  refine Z3 e1 e2 a ?_;refine ae (Em (Bi s) (Fb s)) ?_;rintro r rfl;try simp only[num,str,Af]
  repeat' first|apply Aq.on<;>intro _|refine gD ?_|simp only[go_sem,e1,e2,a]
  refine ae (l (Bi s) d i) ?_;rintro r rfl;try simp only[num,str,Af]
  repeat' first|apply Aq.on<;>intro _|refine gD ?_|simp only[go_sem]
  rw[h];exact cZ
def Tr(l:List Int):Ab:=join (l.map itoa) [44]
def Ts(l)(p:l.length<=100000000)(h:∀x∈l,Db x):QA 81 [.sl 1 (Ar l)] (λr=>r=str (Tr l)):=by
 refine ai (Zt [] [] [] func81 ?_) ⟨_,rfl⟩;refine Ad (rl [5,1,3,9]) [3,8] (λm d e=>e=[]/\∃i,i+m=l.length/\d=[.own 9 1 (((l.take i).map itoa).map str),num i]) ⟨l.length,_,_,⟨rfl,0,om,rfl⟩,hent (aa _) ?_⟩ ?_;simp only[PU,gx,db];exact Zw
 .rintro m d e ⟨rfl,i,q,rfl⟩;simp only[PU];by_cases a:i<l.length;rotate_left
  .have g:=eU i l.length;have b:i≥l.length:=om;refine Zu ?_;rw[Are b]
   have j:=Dq (sep:=[44]) (c:=21) (zs:=l.map itoa) (by
    intro z k;obtain⟨x,f,rfl⟩:=dm.1 k;exact itoa_length_le x (h x f).1 (h x f).2)
   refine HC.wk (ae (P7 (l.map itoa) [44] (by simp;omega) (by simp at j⊢;omega)) ?_) ?_;rotate_left;exact Ny;exact Ix
  have g:=eT i l.length;have b:(Ar l).getD i .any=num l[i]:=by simp[Ar,fk,a]
  simp only[num]at b;refine Zu ?_;refine Zh (Em l[i] (h _ (ko _))) ?_;have s:=wS i;have n:(l.take i).length=i:=by simp;omega
  refine Zu ?_;refine Am (m-1) _ _ om ⟨rfl,i+1,om,rfl⟩ (hent (aa _) ?_);have o:((l.take (i+1)).map itoa).map str=((l.take i).map itoa).map str++[str (itoa l[i])]:=by rw[nk a,ip,ip];rfl
  simp only[PU,o,str];exact Zw
def Mc(s):QA 131 [str s] (λr=>r=Af (Bp s)):=by
 refine ai (Zt [] [] [] func131 ?_) ⟨_,rfl⟩;refine HC.wk (ae (J9 ⟨4,s,0,[]⟩) ?_) ?_;rotate_left;exact CP;rintro r rfl;refine Zn ?_;have h:Be ⟨4,s,0,[]⟩=Bp s:=by simp[Be]
 rw[h];exact cZ
def A4(t:Ab×Ab):AV:=.agg [str t.1,str t.2]
def H9(T:List (Ab×Ab))(n:Ab):Ab:=if Bp n=true then(match T.find? (λt=>decide (t.1=n))with
 |some t=>61::t.2
 |none=>[])else[]
def zK(L T s)(n:T.length<=1000000)(j:∀t∈T,t.2.length<=1000000000):QA 74 [stA L (T.map A4),str s] (λr=>r=str (H9 T s)):=by
 simp only[stA];refine ai (Zt [] [] [] func74 ?_) ⟨_,rfl⟩
 cases b:Bp s with
 |false=>
  have h:H9 T s=[]:=by simp[H9,b]
  refine HC.wk (ae (Mc s) ?_) ?_;rotate_left;exact Ny;rintro r rfl;try simp only[num,str,Af]
  repeat' first|apply Aq.on<;>intro _|refine gD ?_|simp only[go_sem,b]
  rw[h];exact cZ
 |true=>
  refine HC.wk (ae (Mc s) ?_) ?_;rotate_left;exact Ny;rintro r rfl;try simp only[num,str,Af]
  repeat' first|apply Aq.on<;>intro _|refine gD ?_|simp only[go_sem,b]
  refine Ad (rl [6,1,7,11]) [13] (λm x g=>g=[]/\∃i,i+m=T.length/\x=[num i]/\H9 T s=H9 (T.drop i) s) ⟨T.length,_,_,⟨rfl,0,om,rfl,oS⟩,hent (aa _) Zw⟩ ?_
  .rintro m x g ⟨rfl,i,o,rfl,d⟩;simp only[PU];by_cases a:i<T.length;rotate_left
   have e:=eU i T.length;refine Z1 e ?_;rw[d,n9 om];have h:H9 [] s=[]:=by simp[H9]
   rw[h];exact cZ;have e:=eT i T.length;have f:(T.map A4).getD i .any=.agg [str T[i].1,str T[i].2]:=by simp[fk,a,A4]
   simp only[str]at f;by_cases c:T[i].1=s;have e1:(T[i].1==s)=true:=by simpa using c
   have p:=j T[i] (ko _);refine Z3 e f e1 ?_;rw[d,j0 a];have h:H9 (T[i]::T.drop (i+1)) s=61::T[i].2:=by simp only[H9,b,if_true];rw[d8 (by simpa using c)]
   rw[h];exact cZ;have e1:(T[i].1==s)=false:=by simpa using c
   have k:=wS i;refine Z4 e f e1 k ?_;refine Am (m-1) _ _ om ⟨rfl,i+1,om,rfl,?_⟩ (hent (aa _) ?_);rw[d,j0 a];have h:∀l,H9 (T[i]::l) s=H9 l s:=λl=>by simp only[H9,b,if_true];rw[d9 (by simpa using c)]
   exact h _;exact Zw
def yA(s:Ab):Δ
 |0=>37
 |n+1=>if(((s.getD (n+1) 0).toNat:Nat):Int)=32/\¬(((s.getD n 0).toNat:Nat):Int)=32 then n+1 else yA s n
def Lg(s:Ab):Ab:=if s.length<=40 then s else s.take (yA s 37)++[46,46,46]
def Aa1(s):∀n,n<=37->yA s n<=37
 |0,_=>bx _
 |n+1,h=>by
  unfold yA;split;exact h;exact Aa1 s n om
def Aa2(s)(t:s.length<=1000000000000):QA 356 [str s] (λr=>r=str (Lg s)):=by
 refine ai (G7 [] [] [] func356 ?_) ⟨_,rfl⟩;by_cases h:s.length<=40;have e1:=bc (show(s.length:Int)<=40 by omega);have b:Lg s=s:=by simp[Lg,h]
 rw[b];exact Ze;have e1:=bd (show¬(s.length:Int)<=40 by omega);have b:Lg s=s.take (yA s 37)++[46,46,46]:=by simp[Lg,h]
 refine Z1 e1 ?_;refine Ad (rl [8,22]) [3] (λm x o=>o=[]/\m<=37/\x=[num m]/\yA s 37=yA s m) ⟨37,_,_,⟨rfl,bx _,rfl,rfl⟩,hent (aa _) Zw⟩ ?_
 .rintro m x o ⟨rfl,u,rfl,d⟩;simp only[PU]
  cases m with
  |zero=>
   have e:=bd (show¬(1:Int)<=((0:Nat):Int) by omega);have f:=bd (show¬(1:Int)<=0 by omega);have hF2:Lg s=s.take 37++[46,46,46]:=by rw[b,d];rfl
   have g:=bc (show(37:Int)<=(s.length:Int) by omega);have htl:(s.take 37).length=37:=by rw[fw];omega
   repeat' first|apply Aq.on<;>intro _|refine gD ?_|simp only[go_sem,e,f,g,htl]
   exact Agq
  |succ n=>
   have e:=bc (show(1:Int)<=((n+1:Nat):Int) by omega);have i:=bc (show((n+1:Nat):Int)<(s.length:Int) by omega);have j:i64.wrap (((n+1:Nat):Int)-1)=(n:Int):=by rw[Aw om om];omega
   have k:=eT n s.length;have l:=bc (show((n+1:Nat):Int)<=(s.length:Int) by omega);have htl:(s.take (n+1)).length=n+1:=by rw[fw];omega
   by_cases c:(((s.getD (n+1) 0).toNat:Nat):Int)=32/\¬(((s.getD n 0).toNat:Nat):Int)=32
   .have a:=bc c.1;have q1:=bd c.2;have hF2:Lg s=s.take (n+1)++[46,46,46]:=by rw[b,d,yA,bn c]
    repeat' first|apply Aq.on<;>intro _|refine gD ?_|simp only[go_sem,e,i,k,l,j,a,q1,htl]
    exact Agq
   have p:yA s (n+1)=yA s n:=by rw[yA,ar c]
   have v:∀(G:Prop),G->G:=λ_ h=>h;by_cases q:(((s.getD (n+1) 0).toNat:Nat):Int)=32;have a:=bc q;have q1:=bc (show(((s.getD n 0).toNat:Nat):Int)=32 from Classical.byContradiction λh=>c ⟨q,h⟩);refine Z7 e i k l j a q1 ?_;refine Am n _ _ om ⟨rfl,om,rfl,by rw[d,p]⟩ (hent (aa _) ?_);simp only[PU];exact Gq;have a:=bd q;refine Z6 e i k l j a ?_;refine Am n _ _ om ⟨rfl,om,rfl,by rw[d,p]⟩ (hent (aa _) ?_);simp only[PU];exact Gq
section
variable[Env]
variable{m:Ϙ}
def lU(v:Θ):Γ->Op->Bool
 |some d,.load _ (.tmp _)=>v.contains d
 |_,_=>false
def KR(i:Option TI)(g:Γ)(o:Nat)(d:Γ)(a b:Φ)(K:Ω):Prop:=match i,g with
 |some i,some g=>(match a.getD g .any with
  |.bp _ _ cs=>o+dh i<=cs.length/\K a (am b d (pl (em i.td.agg ((aq cs o (dh i)).map v1))))
  |_=>False)
 |_,_=>False
def xp(T:Br)(o:Op)(d:Γ)(a c:Φ)(K:Ω):Prop:=match o with
 |.load t (.tmp q)=>(match Jf (c.getD q .any)with
  |some (b,off)=>KR (T t) (Lu b a) off d a c K
  |none=>False)
 |_=>False
def nO(v:Θ):Γ->Op->Bool
 |some d,.box _ _=>v.contains d
 |some d,.alloc _=>v.contains d
 |_,_=>false
def FD(d:Γ)(K:Ω)(a b:Φ):Prop:=match d with
 |some s=>Kb [s] (λ_ a b=>K a b) a b
 |none=>False
def Md(P:Program)(T:Br)(H:Hw)(vs:Θ)(K:Ω)(E:Value->Ω):List CO->Ω
 |[],γ,σ=>K γ σ
 |⟨d,op,none⟩::l,γ,σ=>bif lU vs d op then xp T op d γ σ (Md P T H vs K E l)else bif nO vs d op then hop P T H d op γ σ (FD d (Md P T H vs K E l)) E else hop P T H d op γ σ (Md P T H vs K E l) E
 |_::_,_,_=>False
section
variable{P:Program}{T:Br}{H:Hw}{d:World}{e f:Nat->Nat}{γ σ:Φ}{a:Act}{w:World}{o:Oper}{Q:Exit->Act->World->Prop}
def sO{t n off z b A q:Nat}{i:TI}{p:Φ}(X:o.op=.load t (.tmp q))(hi:Df P t i)(g:Ah m d e f γ σ a w)(hq:σ.getD q .any=.raw (.pointer (some ⟨b,off,none⟩)))(B:γ[z]? =some (.bp b A p))(hn:n=dh i)(Y:off+n<=p.length):
 o.wp P a w (λC w'=>Ah m d e f γ (am σ o.dst (pl (em i.td.agg ((aq p off n).map v1)))) C w') Q:=by
 have Z:=g.raw hq;obtain⟨S,c,c1,D,r,E,s,h1,F,G,I⟩:=g;obtain⟨j,d1,c2,hb,hS,k,l,J,hc,y⟩:=Ah.ju s B;have K:=k.length;obtain⟨e1,e2,L,M,N⟩:=k.part off n;have h:=G9 (Ac.iv Ac.v1 L) (λu O=>l u (mg (i7 O))) i.td.agg (λR=>by unfold dh at hn;rw[R]at hn;simp at hn;subst hn;simp[aq];omega);obtain⟨e3,h,U⟩:=h.pl;obtain⟨V,W,h3⟩:=E.am h o.dst;refine Au (w':=w) (v:=if i.td.agg then .agg ((j.toList.drop off).take n).toArray else((j.toList.drop off).take n).headD undef) ?_ ⟨S,V,c1,D,r.am _ _ (N7 _),W,s,λx=> ?_,by rw[G5];exact F,G,I.drop λx=> ?_⟩;exact PE
 grind
 grind
def Wt(B:Ax P T)(C:C1 P H){vs:Θ}{s:Ϡ}{K:Ω}{E:Value->Ω}:
 ∀(l:Θ) (os:List Oper) (A:List CO) (γ σ:Φ) (a:Act) (w:World),l.map (s[·]?)=os.map some->Dz s os=some A->Ah m d e f γ σ a w->Md P T H vs K E A γ σ->
  (∀γ σ u c,Ah m d e f γ σ u c->K γ σ->Q .normal u c)->(∀v γ σ u c,E v γ σ->Ah m d e f γ σ u c->Q (.panic [{v:=v,recovered:=false}]) u c)->wpOps P s Q l a w
 |[],os,A,γ,σ,a,w,hl,hcs,hst,h,hQ,hE=>by exact yb
 |i::l,[],A,γ,σ,a,w,hl,hcs,hst,h,hQ,hE=>by simp at hl
 |i::l,o::os,A,γ,σ,a,w,hl,hcs,hst,h,hQ,hE=>by
  simp only[ev,b5]at hl;obtain⟨J,hl⟩:=hl;simp only[Dz]at hcs;split at hcs
  .rename_i g r p L;injection hcs with hcs;subst hcs;have x:∀γ σ a w,Ah m d e f γ σ a w->Md P T H vs K E r γ σ->wpOps P s Q l a w:=λγ σ a w hst h=>Wt B C l os r γ σ a w hl L hst h hQ hE;simp only[wpOps,J]
   cases y:o.guard with
   |none=>
    rw[y]at p;simp only[El]at p;injection p with p;subst p;have M:Region.wanted o (yielded s a.tmps)=true:=by simp[Region.wanted,y]
    rw[bn M];refine .inl ?_;unfold Md at h
    cases F:lU vs o.dst o.op with
    |false=>
     rw[F]at h;simp only[cond_false]at h
     cases G:nO vs o.dst o.op with
     |true=>
      rw[G]at h;simp only[cond_true]at h;refine Ba (λu c ⟨k,n,h1,z⟩=> ?_) (F4 B C hst h λv k n c h1 z=>hE v k n a c h1 z);unfold FD at h1;split at h1
      .obtain⟨_,N,O,Y,Z,_⟩:=K4 z h1
       grind
      grind
     |false=>
     rw[G]at h;simp only[cond_false]at h;exact Ba (λu c ⟨k,n,h1,z⟩=>x k n u c z h1) (F4 B C hst h λv k n c h1 z=>hE v k n a c h1 z)
    |true=>
     rw[F]at h;simp only[cond_true]at h;unfold xp at h;split at h
     .rename_i t q hop;split at h
      .rename_i b R S;unfold KR at h;split at h
       .rename_i i gi U D;split at h
        .rename_i b' Te V W;obtain⟨g1,g2⟩:=Io D;rw[W]at g1 g2;injection g2 with g2;subst g2;exact Ba (λu c X=>x _ _ u c X h.2) (sO hop (B t i U) hst (Jw S) g1 rfl h.1)
        grind
       grind
      grind
     grind
   |some jw=>
    obtain⟨j,I⟩:=jw;rw[y]at p;simp only[El]at p;split at p
    .rename_i t ht;injection p with p;subst p;simp only[Md]at h
    .cases p
  .cases hcs
def Vn(j:Ax P T)(k:C1 P H)(vs){l b g}{Q:Exit->Ω}(i:Dz b b.toList=some g)(h:Md P T H vs (Q .normal) (ly Q) g γ σ):Cp P T H (.ext (.region l b false)) Q γ σ:=λm d e f a w c=>by
 apply wp_region;refine Wt j k (vs:=vs) (List.range b.size) b.toList g γ σ a w ?_ i c h (λγ σ n p c q=>⟨γ,σ,q,c⟩) (λv γ σ n p r c=>⟨γ,σ,r,c⟩);apply List.ext_getElem;simp
 grind
end
section
variable{P:Program}{T:Br}{H:Hw}{a:Θ}{K:Φ->Φ->Prop}{E:Value->Φ->Φ->Prop}{e g:Φ}{d:Γ}
theorem KS:Md P T H a K E [] e g=K e g:=(rfl)
theorem AiT(o l):Md P T H a K E (⟨d,o,none⟩::l) e g=bif lU a d o then xp T o d e g (Md P T H a K E l)else bif nO a d o then hop P T H d o e g (FD d (Md P T H a K E l)) E else hop P T H d o e g (Md P T H a K E l) E:=(rfl)
theorem Aps(d t q):lU a (some d) (.load t (.tmp q))=a.contains d:=(rfl)
def KT(t q y):lU a d (.store t (.tmp q) y)=false:=by cases d<;>rfl
def Aa3(x):lU a d (.move x)=false:=by cases d<;>rfl
def zM(x):lU a d (.assign x)=false:=by cases d<;>rfl
def lV(x):lU a d (.nilCheck x)=false:=by cases d<;>rfl
def dT(t f x):lU a d (.fieldAddr t x f)=false:=by cases d<;>rfl
def Aa4(c):lU a d (.call c)=false:=by cases d<;>rfl
def AeO(b t c x y):lU a d (.binOp b t x y c)=false:=by cases d<;>rfl
def Alh(b t x):lU a d (.unOp b t x)=false:=by cases d<;>rfl
def KU(t q y):nO a d (.store t (.tmp q) y)=false:=by cases d<;>rfl
def Aa5(x):nO a d (.move x)=false:=by cases d<;>rfl
def zN(x):nO a d (.assign x)=false:=by cases d<;>rfl
def lW(x):nO a d (.nilCheck x)=false:=by cases d<;>rfl
def dU(t f x):nO a d (.fieldAddr t x f)=false:=by cases d<;>rfl
def Aa6(c):nO a d (.call c)=false:=by cases d<;>rfl
def AeP(b t c x y):nO a d (.binOp b t x y c)=false:=by cases d<;>rfl
def Ali(b t x):nO a d (.unOp b t x)=false:=by cases d<;>rfl
def Aa7(t x):nO a d (.load t x)=false:=by cases d<;>rfl
def KV(t p):nO a d (.build t p)=false:=by cases d<;>rfl
def sP(x n):nO a d (.extract x n)=false:=by cases d<;>rfl
def sQ(t y):nO a d (.makeMap t y)=false:=by cases d<;>rfl
def lX(f:Fn)(x y):nO a d (.makeFunc f x y)=false:=by cases d<;>rfl
def sR(s t x):nO a d (.convert s t x)=false:=by cases d<;>rfl
theorem AeQ(d t x):nO a (some d) (.box t x)=a.contains d:=(rfl)
def KW(t p):lU a d (.build t p)=false:=by cases d<;>rfl
def sS(x n):lU a d (.extract x n)=false:=by cases d<;>rfl
def sT(t y):lU a d (.makeMap t y)=false:=by cases d<;>rfl
def lY(f:Fn)(x y):lU a d (.makeFunc f x y)=false:=by cases d<;>rfl
def sU(s t x):lU a d (.convert s t x)=false:=by cases d<;>rfl
def AeR(t x):lU a d (.box t x)=false:=by cases d<;>rfl
def KX(t):lU a d (.alloc t)=false:=by cases d<;>rfl
theorem zO(s):FD (some s) K e g=Kb [s] (λ_ e g=>K e g) e g:=(rfl)
def AiG(T:Br)(t:Nat)(d:Γ)(e g:Φ)(K:Ω):Option (Nat×Nat)->Prop
 |some (b,off)=>KR (T t) (Lu b e) off d e g K
 |none=>False
def KY(t q):xp T (.load t (.tmp q)) d e g K=AiG T t d e g K (Jf (g.getD q .any)):=by
 show(match Jf (g.getD q .any)with
  |some (b,off)=>KR (T t) (Lu b e) off d e g K
  |none=>False)=_
 generalize Jf (g.getD q .any)=x;cases x<;>rfl
theorem zP(t b o):AiG T t d e g K (some (b,o))=KR (T t) (Lu b e) o d e g K:=(rfl)
def AiH(i:TI)(o:Nat)(d:Γ)(e g:Φ)(K:Ω):AV->Prop
 |.bp _ _ cs=>o+dh i<=cs.length/\K e (am g d (pl (em i.td.agg ((aq cs o (dh i)).map v1))))
 |_=>False
def KZ(i b o):KR (some i) (some b) o d e g K=AiH i o d e g K (e.getD b .any):=by
 show(match e.getD b .any with
  |.bp _ _ cs=>o+dh i<=cs.length/\K e (am g d (pl (em i.td.agg ((aq cs o (dh i)).map v1))))
  |_=>False)=_
 generalize e.getD b .any=x;cases x<;>rfl
theorem LA(i o b U c):AiH i o d e g K (.bp b U c)=(o+dh i<=c.length/\K e (am g d (pl (em i.td.agg ((aq c o (dh i)).map v1))))):=(rfl)
def AmO:(∀b c u k y,IR b c u k y none=.bw b (c++[k]) (u++[y]))/\(∀b j c u k y,IR b c u k y (some j)=.bw b c (u.set j y)):=by and_intros<;>intros<;>rfl
attribute [go_sem] AmO AeQ AeR KX zO KU Aa5 zN lW dU Aa6 AeP Ali Aa7 KV sP sQ lX sR KW sS sT lY sU KS AiT Aps KT Aa3 zM lV dT Aa4 AeO Alh KY zP KZ LA List.contains_cons List.contains_nil Bool.or_false qm rc Nat.reduceBEq
end
end
structure EvS where
 out:Ab
 steps:Nat
 inc:Nat
 ks:Ξ
inductive K5 where
 |ok (s:EvS)
 |bad (e:Nat) (s:EvS)
def K5.bind:K5->(EvS->K5)->K5
 |.ok s,f=>f s
 |.bad e s,_=>.bad e s
structure Nc where
 ja:Int->Ab->Ξ->Option Ab×List Ab
 j6:Int->Ab->Ab->Int->Ξ->List Int×List Ab
 inl:Ab->Ξ->Option (List Nd)×List Ab
def Nf(x:Ab)(s:EvS):K5:=if 8192<s.out.length+x.length then .bad 111 s else .ok {s with out:=s.out++x}
def En(bf:Ab->Ab->Option Ab):Ξ->Ab->Option Ab
 |[],s=>some s
 |f::fs,s=>(bf f s).bind (En bf fs)
def Kf(g:Int->EvS->K5):List Int->EvS->K5
 |[],s=>.ok s
 |i::l,s=>(g i s).bind (Kf g l)
def Eg(bf:Ab->Ab->Option Ab)(S:Nc)(r:List Nd->Int->EvS->K5)(x:Nd)(b:Int)(s:EvS):K5:=match x with
 |.mk 1 t _ _ _ _ _ _=>Nf t s
 |.mk 2 _ n _ _ fs _ _=>(match(S.ja b n s.ks).1 with
  |none=>.bad 110 {s with ks:=(S.ja b n s.ks).2}
  |some x=>(match En bf fs x with
   |none=>.bad 110 {s with ks:=(S.ja b n s.ks).2}
   |some y=>Nf y {s with ks:=(S.ja b n s.ks).2}))
 |.mk 3 _ n a c _ kids _=>if(S.j6 b n a c s.ks).1=[]then .ok {s with ks:=(S.j6 b n a c s.ks).2}else if kids=[]then .ok {s with ks:=(S.j6 b n a c s.ks).2}
  else Kf (λi s=>r kids i s) ((S.j6 b n a c s.ks).1.take 2001) {s with ks:=(S.j6 b n a c s.ks).2}
 |.mk 4 _ n _ _ _ kids els=>if(S.ja b n s.ks).1.getD []=[]then r els b {s with ks:=(S.ja b n s.ks).2}else r kids b {s with ks:=(S.ja b n s.ks).2}
 |.mk 5 _ n _ _ _ _ _=>if 3<=s.inc then .bad 111 s else(match(S.inl n s.ks).1 with
  |none=>.bad 110 {s with ks:=(S.inl n s.ks).2}
  |some l=>(r l b {s with ks:=(S.inl n s.ks).2,inc:=s.inc+1}).bind λs=>.ok {s with inc:=s.inc-1})
 |_=>.bad 110 s
def O8(f:Nd->EvS->K5):List Nd->EvS->K5
 |[],s=>.ok s
 |x::l,s=>if 2000<=s.steps then .bad 111 s else(f x {s with steps:=s.steps+1}).bind (O8 f l)
def Me(bf:Ab->Ab->Option Ab)(S:Nc):Nat->List Nd->Int->EvS->K5
 |0,l,id,s=>O8 (λ_ s=>.bad 111 s) l s
 |f+1,l,id,s=>O8 (λx s=>Eg bf S (Me bf S f) x id s) l s
def Kq(k:Ab):Value:=.string ⟨k.toArray⟩
def Dr(b:Addr)(m:Nat)(rv:Φ)(v:Ab->Ab)(a:Ξ):Φ:=[.fu b (.agg rv),.bw m (a.map Kq) (a.map λk=>str (v k))]
def E2:ϴ:=[.int .i64 1,.int .i64 2,.int .i64 3,.int .i64 4,.int .i64 5]
def Xc:Φ:=[.raw (.func (.func 226) #[] #[]),.raw (.func (.func 227) #[] #[]),.raw (.func (.func 228) #[] #[]),.raw (.func (.func 229) #[] #[]),.raw (.func (.func 230) #[] #[])]
def Ng(a:Addr)(b mk:Nat)(s:EvS):AV:=.bp b 231 [.own 5 1 (Aj s.out),.raw (.iface 112 (.pointer (some a))),.raw (.map (some mk)),num s.steps,num s.inc]
def Rp(a:Addr)(m b mk:Nat)(rv:Φ)(v:Ab->Ab)(s:EvS):Φ:=Dr a m rv v s.ks++[Ng a b mk s,.bw mk E2 Xc]
def gS(e:Nat):Value:=.iface 223 (.agg #[.int .i64 e])
def Qp(s:EvS):Prop:=s.out.length<=8192/\s.steps<=2000/\s.inc<=3
def EH(d:Addr)(m b mk:Nat)(rv:Φ)(a:Ab->Ab)(f:Nat)(args:Φ)(s:EvS)(o:K5):Prop:=
 QH f args (Rp d m b mk rv a s) (λr g=>∃c,o=.ok c/\Qp c/\r=.a6 []/\g=Rp d m b mk rv a c) (λv g=>∃e c,o=.bad e c/\v=gS e/\g=Rp d m b mk rv a c)
section
variable{g:Addr}{m b mk:Nat}{rv:Φ}{d:Ab->Ab}
def EH.go{f args s o}{K:AV->Ψ}{E:Value->Ψ}(h:EH g m b mk rv d f args s o)(c:∀e a,o=.bad e a->E (gS e) (Rp g m b mk rv d a))(h1:∀a,o=.ok a->Qp a->K (.a6 []) (Rp g m b mk rv d a)):QH f args (Rp g m b mk rv d s) K E:=
 b7 h (λr i ⟨a,g1,g2,g3,g4⟩=>by rw[g3,g4];exact h1 a g1 g2) (λv i ⟨e,a,g1,g2,g3⟩=>by rw[g2,g3];exact c e a g1)
def Nh{s}(h:xw (Rp g m b mk rv d s)):(m=b)=False/\(m=mk)=False/\(b=mk)=False:=by unfold xw Rp Dr at h;simp only[fj,fm,mh,e9,lv,or_false,Ng,forall_eq_or_imp,forall_eq,Qm]at h;refine⟨bd λe=> h.2.1.1 m rfl (by rw[e]),bd λe=> ?_,bd λe=> ?_⟩;exact h.2.1.2 m rfl (by rw[e]);exact h.2.2.1 b rfl (by rw[e])
def Ni(e:Nat)(c:Φ):QH 231 [num e] c (λ_ _=>False) (λv a=>v=gS e/\a=c):=by refine G7 [] [] [] func231 ?_;have k1:HH.cn 223=true:=rfl;have k2:List.mapM kX [AV.raw (Value.int .i64 (e:Int))]=some [.int .i64 (e:Int)]:=rfl;refine Zu ?_;exact⟨_,aa _,rfl,rfl⟩
def Aa8(x s)(l:Qp s)(q:x.length<=1000000000000):EH g m b mk rv d 299 [.raw (.pointer (some ⟨b,0,none⟩)),str x] s (Nf x s):=by
 unfold EH;refine HC.si ⟨_,_,func299,rfl,oD⟩ λo=> ?_;obtain⟨n,i,j⟩:=Nh o;obtain⟨r,c,p⟩:=l;refine G7 [] [0] [] func299 ?_;simp only[Rp,Dr,Ng,fj,fm,num,str];refine Wp ?_;refine Vn b3 Dc [9] sL ?_;have a:(Aj s.out).length=s.out.length:=by simp[Aj]
 by_cases k:8192<s.out.length+x.length
 .have e:Nf x s=.bad 111 s:=by simp[Nf,k]
  have f:i64.wrap (8192-(s.out.length:Int))=8192-(s.out.length:Int):=Aw om om;have e1:=bc (show(8192:Int)-(s.out.length:Int)<(x.length:Int) by omega);refine Wq (nA n (nA i (nA j (nA a (nA f e1))))) ?_;refine(Ni 111 _).mono (λ_ _ h=>h.elim) ?_;rintro v t ⟨rfl,rfl⟩;refine Wp ?_;exact⟨_,aa _,111,s,e,rfl,rfl⟩
 have e:Nf x s=.ok {s with out:=s.out++x}:=by simp[Nf,k]
 have f:i64.wrap (8192-(s.out.length:Int))=8192-(s.out.length:Int):=Aw om om;have e1:=bd (show¬(8192:Int)-(s.out.length:Int)<(x.length:Int) by omega);refine Wq (nA n (nA i (nA j (nA a (nA f e1))))) ?_;refine⟨_,_,bh _,rfl,aa _,_,e,⟨by simp;omega,c,p⟩,rfl,?_⟩;simp[Rp,Dr,Ng,Aj,num]
def zQ(t n a c l k f o s)(p:Qp s)(q:t.length<=1000000000000):EH g m b mk rv d 226 [.raw (.pointer (some ⟨b,0,none⟩)),.agg (dO (.mk 1 t n a c l k f)),num o] s (Nf t s):=by
 unfold EH;refine HC.si ⟨_,_,func226,rfl,oD⟩ λr=> ?_;obtain⟨u,v,w⟩:=Nh r;rw[dH];refine Zt [] [] [(1,[],[0,1,2,3,2004],[],[3005])] func226 ?_;refine EH.go (Aa8 t s p q) (λe h i=> ?_) (λh i j=> ?_)
 .refine Wp ?_;exact⟨_,aa _,e,h,i,rfl,rfl⟩
 .refine Wp ?_;exact⟨_,_,bh _,rfl,aa _,h,i,j,rfl,rfl⟩
end
def N1(c:UInt8):Ab:=if((c.toNat:Nat):Int)=38 then[38,97,109,112,59]else if((c.toNat:Nat):Int)=60 then[38,108,116,59]else if((c.toNat:Nat):Int)=62 then[38,103,116,59]else if((c.toNat:Nat):Int)=34 then[38,113,117,111,116,59]else[c]
def N2(s:Ab):Ab:=s.flatMap N1
def Aa9(c):(N1 c).length<=6:=by
 unfold N1;repeat' split
 all_goals simp
def sV:∀s:Ab,(N2 s).length<=6*s.length
 |[]=>by simp[N2]
 |c::s=>by have h1:=sV s;have h:=Aa9 c;simp only[N2,qt,dc,dg]at *;omega
def zR(a b):Aj (a++b)=Aj a++Aj b:=by simp[Aj]
def LB(s)(n:s.length<=1000000000000):QA 358 [str s] (λr=>r=str (N2 s)):=by
 refine ai (Zt [] [] [] func358 ?_) ⟨_,rfl⟩;refine Ad (rl [5,33]) [3,4] (λm x f=>f=[]/\∃i,i+m=s.length/\x=[.own 5 1 (Aj (N2 (s.take i))),num i]) ⟨s.length,_,_,⟨rfl,0,om,rfl⟩,hent (aa _) ?_⟩ ?_;simp only[PU,gx,N2,sr,Re];exact Zw
 .rintro m x f ⟨rfl,i,o,rfl⟩;simp only[PU];by_cases h:i<s.length;rotate_left
  have g:=bd (show¬((i:Int)<(s.length:Int)) by omega);rw[Are om];exact Ze;have g:=bc (show((i:Int)<(s.length:Int)) by omega);have p:=wS i
  have htk:N2 (s.take (i+1))=N2 (s.take i)++N1 (s.getD i 0):=by
   have e:s.getD i 0=s[i]:=by simp[fk,h]
   unfold N2;rw[nk h,pi,e,qt,sr,gy]
  have j:=gc (N2 (s.take i));have a:=sV (s.take i);rw[fw]at a;by_cases b0:(((s.getD i 0).toNat:Nat):Int)=38;have k:=bc b0;have he:N1 (s.getD i 0)=[38,97,109,112,59]:=by unfold N1;rw[bn b0]
  exact OG;have k:=bd b0;by_cases b:(((s.getD i 0).toNat:Nat):Int)=60;have c1:=bc b;have he:N1 (s.getD i 0)=[38,108,116,59]:=by unfold N1;rw[ar b0,bn b]
  exact OG;have c1:=bd b;by_cases c:(((s.getD i 0).toNat:Nat):Int)=62;have c2:=bc c;have he:N1 (s.getD i 0)=[38,103,116,59]:=by unfold N1;rw[ar b0,ar b,bn c]
  exact OG;have c2:=bd c;by_cases d:(((s.getD i 0).toNat:Nat):Int)=34;have l:=bc d;have he:N1 (s.getD i 0)=[38,113,117,111,116,59]:=by unfold N1;rw[ar b0,ar b,ar c,bn d]
  exact OG;have l:=bd d;have he:N1 (s.getD i 0)=[s.getD i 0]:=by unfold N1;rw[ar b0,ar b,ar c,ar d]
  exact OG
def DX(c:UInt8):Bool:=decide (97<=((c.toNat:Nat):Int))&&decide (((c.toNat:Nat):Int)<=122)||decide (48<=((c.toNat:Nat):Int))&&decide (((c.toNat:Nat):Int)<=57)
def Kg(b:Ab)(c:UInt8):Ab:=if DX c=true then b++[c]else if 0<b.length/\¬(((b.getD (b.length-1) 0).toNat:Nat):Int)=45 then b++[45]else b
def Q5:Ab->Ab->Ab
 |[],b=>b
 |c::s,b=>if(Kg b c).length=20 then Kg b c else Q5 s (Kg b c)
def gT(b c):(Kg b c).length<=b.length+1:=by
 unfold Kg;repeat' split
 all_goals simp
def AeS(d:Ab->Ab)(E:∀s:Ab,s.length<=1000000000000->QA 354 [str s,.raw (.int .u8 65),.raw (.int .u8 90)] (λr=>r=str (d s)))(F:∀s,(d s).length=s.length)(s:Ab)(G:s.length<=1000000000000):
 QA 357 [str s] (λr=>r=str (trimRightB (Q5 (d s) []) 45)):=by
 refine ai (Zt [(9,[],[3]),(11,[],[3]),(1000011,[],[])] [] [] func357 ?_) ⟨_,rfl⟩;refine ae (E s G) ?_;rintro r rfl;have H:=F s;generalize d s=t at *;refine Zn ?_;refine Ad (rl [5,53]) [3,4] (λm x l=>l=[]/\∃(i:Nat) (b:Ab),i+m=t.length/\b.length<20/\Q5 t []=Q5 (t.drop i) b/\x=[.own 5 1 (Aj b),num i]) ⟨t.length,_,_,⟨rfl,0,[],om,oS,oS,rfl⟩,hent (aa _) ?_⟩ ?_;simp only[PU,Re];exact Zw
 .rintro m x l ⟨rfl,i,b,I,J,e,rfl⟩;simp only[PU];have a:=gc b;by_cases n:i<t.length;rotate_left
  have f:=bd (show¬((i:Int)<(t.length:Int)) by omega);rw[tq om]at e;rw[e];refine Z1 f ?_;refine Zh (rI b 45 oD om) ?_;exact Zx;have f:=bc (show((i:Int)<(t.length:Int)) by omega);have g:=wS i;have u:t.drop i=t.getD i 0::t.drop (i+1):=by rw[j0 n];simp[fk,n]
  rw[u,Q5]at e;have v:=gT b (t.getD i 0);refine Z3 f g a ?_;refine Bv (rl [5,53]) [3] (λx l=>l=[]/\x=[.own 5 1 (Aj (Kg b (t.getD i 0)))]) ?_ ?_
  .by_cases A:(97<=(((t.getD i 0).toNat:Nat):Int)/\(((t.getD i 0).toNat:Nat):Int)<=122)\/(48<=(((t.getD i 0).toNat:Nat):Int)/\(((t.getD i 0).toNat:Nat):Int)<=57)
   .rw[show Kg b (t.getD i 0)=b++[t.getD i 0] by
     unfold Kg DX;rw[bn (by simpa only[n8,gk,i6]using A)]]
    repeat' first|apply Aq.on<;>intro _|refine gD ?_|simp only[go_sem,f,g,a,dc]
    all_goals first|(exfalso;omega)|(refine Bw _ _ ⟨rfl,rfl⟩ (hent (aa _) ?_);simp only[PU,<-Ea];first|exact Wi.h|exact br _)
   have j:DX (t.getD i 0)=false:=by rw[<-Bool.not_eq_true];unfold DX;simpa only[n8,gk,i6]using A
   by_cases B:0<b.length;rotate_left
   .rw[show Kg b (t.getD i 0)=b by unfold Kg;rw[ar (by rw[j];simp),ar (λh=>B h.1)]];have z:=bd (show¬((0:Int)<(b.length:Int)) by omega);repeat' first|apply Aq.on<;>intro _|refine gD ?_|simp only[go_sem,f,g,a,z,dc]
    all_goals first|(exfalso;omega)|(refine Bw _ _ ⟨rfl,rfl⟩ (hent (aa _) ?_);simp only[PU,<-Ea];first|exact Wi.h|exact br _)
   have z:=bc (show((0:Int)<(b.length:Int)) by omega);have o:i64.wrap ((b.length:Int)-1)=((b.length-1:Nat):Int):=by rw[Aw om om];omega
   have C:=bc (show(((b.length-1:Nat):Int)<(b.length:Int)) by omega);have D:=bc (show b.length-1<b.length by omega);have p:(Aj b).getD (b.length-1) .any=.raw (.int .u8 (((b.getD (b.length-1) 0).toNat:Nat):Int)):=by simp[Aj,oO,fk,ao,ac (show b.length-1<b.length by omega)]
   by_cases c:(((b.getD (b.length-1) 0).toNat:Nat):Int)=45
   .have w:=bc c;rw[show Kg b (t.getD i 0)=b by unfold Kg;rw[ar (by rw[j];simp),ar (λh=>h.2 c)]];repeat' first|apply Aq.on<;>intro _|refine gD ?_|simp only[go_sem,f,g,a,z,C,D,w,o,p,dc]
    all_goals first|(exfalso;omega)|(refine Bw _ _ ⟨rfl,rfl⟩ (hent (aa _) ?_);simp only[PU,<-Ea];first|exact Wi.h|exact br _)
   have w:=bd c;rw[show Kg b (t.getD i 0)=b++[45] by unfold Kg;rw[ar (by rw[j];simp),bn ⟨B,c⟩]];have y:Aj b++[AV.raw (.int .u8 45)]=Aj (b++[45]):=Ea b 45;repeat' first|apply Aq.on<;>intro _|refine gD ?_|simp only[go_sem,f,g,a,z,C,D,w,o,p,y,dc]
   all_goals first|(exfalso;omega)|(refine Bw _ _ ⟨rfl,rfl⟩ (hent (aa _) ?_);simp only[PU,<-Ea];first|exact Wi.h|exact br _)
  generalize Kg b (t.getD i 0)=b at e v⊢;rintro x l ⟨rfl,rfl⟩;have a:=gc b;simp only[PU];by_cases q:b.length=20
  .have k:=bc (show((b.length:Int)=20) by omega);rw[bn q]at e;rw[e];refine Z3 g a k ?_;refine HC.wk (ae (rI b 45 oD om) ?_) ?_;rotate_left
   simp only[str];exact Zw;rintro r rfl;exact Ze
  have k:=bd (show¬((b.length:Int)=20) by omega);rw[ar q]at e;refine Z3 g a k ?_;refine Am (m-1) _ _ om ⟨rfl,i+1,b,om,om,e,rfl⟩ (hent (aa _) ?_);simp only[PU];first|exact Wi.h|exact br _
section
mutual
def Xd:Nd->Prop
 |.mk _ t n a c fs ks es=>t.length<=1000000/\n.length<=900000/\a.length<=900000/\Db c/\fs.length<=2000/\(∀f∈fs,f.length<=1000000)/\ks.length<=1000000/\es.length<=1000000/\Fw ks/\Fw es
def Fw:List Nd->Prop
 |[]=>True
 |x::l=>Xd x/\Fw l
end
structure aS (ad:Addr) (m:Nat) (rv:Φ) (val:Ab->Ab) (S:Nc):Prop where
 ja:∀(id:Int) (n:Ab) (ks:Ξ),Db id->n.length<=900000->QH 409 [.raw (.pointer (some ad)),num id,str n] (Dr ad m rv val ks) (λr γ=>r=.a6 [str ((S.ja id n ks).1.getD []),Af (S.ja id n ks).1.isSome]/\γ=Dr ad m rv val (S.ja id n ks).2) (λ_ _=>False)
 vn:∀id n ks x,Db id->(S.ja id n ks).1=some x->x.length<=1000000
 j6:∀(id:Int) (n a:Ab) (c:Int) (ks:Ξ),Db id->n.length<=900000->a.length<=900000->Db c->QH 411 [.raw (.pointer (some ad)),num id,str n,str a,num c] (Dr ad m rv val ks) (λr γ=>r=.sl 1 (Ar (S.j6 id n a c ks).1)/\γ=Dr ad m rv val (S.j6 id n a c ks).2) (λ_ _=>False)
 ue:∀id n a c ks,(S.j6 id n a c ks).1.length<=1000000/\∀i∈(S.j6 id n a c ks).1,Db i
 inl:∀(n:Ab) (ks:Ξ),n.length<=900000->QH 410 [.raw (.pointer (some ad)),str n] (Dr ad m rv val ks) (λr γ=>r=.a6 [.sl 8 (Ka ((S.inl n ks).1.getD [])),Af (S.inl n ks).1.isSome]/\γ=Dr ad m rv val (S.inl n ks).2) (λ_ _=>False)
 uh:∀n ks l,(S.inl n ks).1=some l->l.length<=1000000/\Fw l
structure Rq (bf:Ab->Ab->Option Ab):Prop where
 call:∀n s:Ab,n.length<=1000000->s.length<=1000000000000->QA 300 [str n,str s] (λr=>r=.a6 [str ((bf n s).getD []),Af (bf n s).isSome])
 chain:∀(fs:Ξ) (x:Ab),fs.length<=2000->x.length<=1000000->∀y,En bf fs x=some y->y.length<=1000000000000
theorem ApQ:HH.me 112 "List" =some 411:=rfl
theorem ApR:HH.me 112 "Include" =some 410:=rfl
section
variable{j:Addr}{m b mk:Nat}{rv:Φ}{d:Ab->Ab}{S:Nc}{bf:Ab->Ab->Option Ab}
def FE(j:Addr)(m b mk:Nat)(rv:Φ)(d:Ab->Ab)(r:List Nd->Int->EvS->K5)(n:Nat):Prop:=
 ∀(l:List Nd) (i:Int) (s:EvS),Qp s->n<=s.steps->Db i->l.length<=1000000->Fw l->EH j m b mk rv d 178 [.raw (.pointer (some ⟨b,0,none⟩)),.sl 8 (Ka l),num i] s (r l i s)
def zU{a:Ξ}{i}(h:i<a.length)(x):En bf (a.take (i+1)) x=(En bf (a.take i) x).bind (bf a[i]):=by
 have k:∀(l:Ξ) (f:Ab) (x:Ab),En bf (l++[f]) x=(En bf l x).bind (bf f):=by
  intro l f
  induction l with
  |nil=>intro x;simp[En]
  |cons g l ih=>
   intro x;simp only[fj,En]
   cases bf g x with
   |none=>rfl
   |some y=>exact ih y
 rw[nk h,k]
def zV{f i}(x)(h:En bf (f.take i) x=none):En bf f x=none:=by
 have k:∀(l r:Ξ) (x:Ab),En bf l x=none->En bf (l++r) x=none:=by
  intro l r
  induction l with
  |nil=>intro x h;cases h
  |cons g l ih=>
   intro x h;simp only[fj,En]at h⊢
   cases a:bf g x with
   |none=>rfl
   |some y=>rw[a]at h;exact ih y h
 rw[<-ki i f];exact k _ _ _ h
def AaA(X:aS j m rv d S)(Y:Rq bf)(A:List Nd->Int->EvS->K5)(t n a c g l q o s)(Z:Qp s)(B:Db o)(hn:n.length<=900000)(I:g.length<=2000)(J:∀f∈g,f.length<=1000000):
 EH j m b mk rv d 227 [.raw (.pointer (some ⟨b,0,none⟩)),.agg (dO (.mk 2 t n a c g l q)),num o] s (Eg bf S A (.mk 2 t n a c g l q) o s):=by
 unfold EH;refine HC.si ⟨_,_,func227,rfl,oD⟩ λhd=> ?_;obtain⟨C,D,E⟩:=Nh hd;rw[RG];generalize p:(⟨s.out,s.steps,s.inc,(S.ja o n s.ks).2⟩:EvS)=s1;have K:s1.ks=(S.ja o n s.ks).2:=by rw[<-p]
 have L:Qp s1:=by rw[<-p];exact Z
 have M:Ng j b mk s=Ng j b mk s1:=by rw[<-p];rfl
 have N:Eg bf S A (.mk 2 t n a c g l q) o s=(match(S.ja o n s.ks).1 with
  |none=>.bad 110 s1
  |some x=>(match En bf g x with
   |none=>.bad 110 s1
   |some y=>Nf y s1)):=by rw[<-p];rfl
 rw[N];refine G7 [] [] [(1,[],[0,1,2,4,5,2003,2006],[],[3007,8,9,10,11,12])] func227 ?_;simp only[Rp,Dr,Ng,fj,fm,num,str];refine Zu ?_;refine fy (jr:=Dr j m rv d s.ks) (j2:=[Ng j b mk s,.bw mk E2 Xc]) (b7 (X.ja o n s.ks B hn) ?_ (λ_ _ h=>h.elim));rintro r F ⟨rfl,rfl⟩;rw[<-K,M]
 cases G:(S.ja o n s.ks).1 with
 |none=>simp only[nz,mf,Dr,Ng,fj,fm,num,str,Af];refine Z3 C D E ?_;refine(Ni 110 _).mono (λ_ _ h=>h.elim) ?_;rintro v F ⟨rfl,rfl⟩;refine Z0 ?_;exact⟨_,aa _,110,s1,rfl,rfl,rfl⟩
 |some x=>
  have T:=X.vn _ _ _ _ B G;simp only[jy,ng,Dr,Ng,fj,fm,num,str,Af];refine Z3 C D E ?_;refine Ad (rl [9,1,18,13]) [6,7,27] (λk U F=>F=Rp j m b mk rv d s1/\∃i y,i+k=g.length/\En bf (g.take i) x=some y/\U=[str y,Af true,num i]) ⟨g.length,_,_,⟨rfl,0,x,om,by simp[En],rfl⟩,hent (aa _) ?_⟩ ?_
  .exact Zw
  .rintro k U F ⟨rfl,i,y,hi,w,rfl⟩;simp only[PU,str,Af];simp only[Rp,Dr,Ng,fj,fm,num,str];by_cases H:i<g.length;rotate_left
   .have O:=eU i g.length;rw[Are om]at w;have P:=Y.chain g x I T y w;refine Z4 O C D E ?_;refine EH.go (s:=s1) (Aa8 y s1 L P) (λe Q G=> ?_) (λQ G R=> ?_)
    .refine Z0 ?_;exact⟨_,aa _,e,Q,by simp only[w];exact G,rfl,rfl⟩
    refine Z0 ?_;exact⟨_,_,bh _,rfl,aa _,Q,by simp only[w];exact G,R,rfl,rfl⟩
   have O:=eT i g.length;have V:(g.map str).getD i .any=str g[i]:=by simp[fk,H]
   simp only[str]at V;have P:y.length<=1000000000000:=Y.chain (g.take i) x (by simp;omega) T y w;have u:=zU (bf:=bf) H x;rw[w]at u;refine Z5 O V C D E ?_;refine ae (Y.call g[i] y (J _ (ko _)) P) ?_;rintro r rfl
   cases W:bf g[i] y with
   |none=>have hN:En bf g x=none:=zV (i:=i+1) x (by rw[u];exact W);simp only[nz,mf,num,str,Af];refine Z3 C D E ?_;refine(Ni 110 _).mono (λ_ _ h=>h.elim) ?_;rintro v F ⟨rfl,rfl⟩;refine Z0 ?_;exact⟨_,aa _,110,s1,by simp only[hN],rfl,rfl⟩
   |some z=>have hw:=wS i;simp only[jy,ng,num,str,Af];refine Zu ?_;exact Zm (k-1) ⟨rfl,i+1,z,om,by rw[u];exact W,rfl⟩
end
end
def Fh(c:Int->Int->Ab->Ab)(a:Ab->Ξ)(n s:Ab):Option Ab:=
 if n=[117,112,112,101,114]then some (c 97 122 s)else
 if n=[108,111,119,101,114]then some (c 65 90 s)else
 if n=[116,114,105,109]then some (trimB s 32)else
 if n=[102,105,114,115,116]then some ((a s).getD 0 [])else
 if n=[115,104,111,114,116]then some (Lg s)else
 if n=[115,108,117,103]then some (trimRightB (Q5 (c 65 90 s) []) 45)else
 if n=[101,115,99,97,112,101]then some (N2 s)else
 if n=[108,101,110,103,116,104]then some (itoa (s.length:Nat))else
 none
def AaB(s b)(h:b.toNat<128)(a:s.length<=1000000000000):QA 355 [str s,str [b]] (λr=>r=str (trimB s b)):=
 Z9 Tryz.ll Wh ⟨_,_,func355,rfl,oD⟩ s b h om
structure AiI (vo:Int->Int->Ab->Ab) (wj:Ab->Ξ):Prop where
 ch:∀(a b:Int) (s:Ab),(a=97/\b=122\/a=65/\b=90)->s.length<=1000000000000->QA 354 [str s,.raw (.int .u8 a),.raw (.int .u8 b)] (λr=>r=str (vo a b s))
 ln:∀a b s,(vo a b s).length=s.length
 se:∀s:Ab,s.length<=1000000000000->QA 323 [str s] (λr=>r=.sl 1 ((wj s).map str))
def LD{c:Int->Int->Ab->Ab}{a:Ab->Ξ}(X:AiI c a)(n s:Ab)(h:s.length<=1000000000000):QA 300 [str n,str s] (λr=>r=.a6 [str ((Fh c a n s).getD []),Af (Fh c a n s).isSome]):=by
 refine ai (G7 [] [] [] func300 ?_) ⟨_,rfl⟩;by_cases b:n=[117,112,112,101,114];subst b;have k:(([117,112,112,101,114]:Ab)==[117,112,112,101,114])=true:=oD;rw[show Fh c a [117,112,112,101,114] s=some (c 97 122 s)from rfl];refine Zu ?_;refine Zh (X.ch 97 122 s (.inl ⟨rfl,rfl⟩) h) ?_;exact Zx;have k:(n==[117,112,112,101,114])=false:=by simpa using b
 by_cases h1:n=[108,111,119,101,114];subst h1;have e1:(([108,111,119,101,114]:Ab)==[108,111,119,101,114])=true:=oD;rw[show Fh c a [108,111,119,101,114] s=some (c 65 90 s)from rfl];refine Zu ?_;refine Zh (X.ch 65 90 s (.inr ⟨rfl,rfl⟩) h) ?_;exact Zx;have e1:(n==[108,111,119,101,114])=false:=by simpa using h1
 by_cases d:n=[116,114,105,109];subst d;have e2:(([116,114,105,109]:Ab)==[116,114,105,109])=true:=oD;rw[show Fh c a [116,114,105,109] s=some (trimB s 32)from rfl];refine Zu ?_;refine Zh (AaB s 32 oD h) ?_;exact Zx;have e2:(n==[116,114,105,109])=false:=by simpa using d
 by_cases e:n=[102,105,114,115,116]
 .subst e;have l:(([102,105,114,115,116]:Ab)==[102,105,114,115,116])=true:=oD;rw[show Fh c a [102,105,114,115,116] s=some ((a s).getD 0 [])from rfl];refine Zu ?_;refine ae (X.se s h) ?_;rintro r rfl
  cases m:a s with
  |nil=>have z:=bd (show¬(0:Int)<0 by decide);have v:=bd (show¬(0:Int)<((0:Nat):Int) by decide);simp only[db];exact Ze
  |cons p ps=>have z:=bc (show(0:Int)<((ps.length+1:Nat):Int) by omega);have w:=bc (show 0<ps.length+1 by omega);simp only[ev];exact Ze
 have l:(n==[102,105,114,115,116])=false:=by simpa using e
 by_cases f:n=[115,104,111,114,116];subst f;have o:(([115,104,111,114,116]:Ab)==[115,104,111,114,116])=true:=oD;rw[show Fh c a [115,104,111,114,116] s=some (Lg s)from rfl];refine Zu ?_;refine Zh (Aa2 s h) ?_;exact Zx;have o:(n==[115,104,111,114,116])=false:=by simpa using f
 by_cases g:n=[115,108,117,103];subst g;have q:(([115,108,117,103]:Ab)==[115,108,117,103])=true:=oD;rw[show Fh c a [115,108,117,103] s=some (trimRightB (Q5 (c 65 90 s) []) 45)from rfl];refine Zu ?_;refine Zh (AeS (c 65 90) (λs h=>X.ch 65 90 s (.inr ⟨rfl,rfl⟩) h) (λs=>X.ln 65 90 s) s h) ?_;exact Zx;have q:(n==[115,108,117,103])=false:=by simpa using g
 by_cases i:n=[101,115,99,97,112,101];subst i;have t:(([101,115,99,97,112,101]:Ab)==[101,115,99,97,112,101])=true:=oD;rw[show Fh c a [101,115,99,97,112,101] s=some (N2 s)from rfl];refine Zu ?_;refine Zh (LB s h) ?_;exact Zx;have t:(n==[101,115,99,97,112,101])=false:=by simpa using i
 by_cases j:n=[108,101,110,103,116,104];subst j;have u:(([108,101,110,103,116,104]:Ab)==[108,101,110,103,116,104])=true:=oD;rw[show Fh c a [108,101,110,103,116,104] s=some (itoa (s.length:Nat))from rfl];refine Zu ?_;refine Zh (Em (s.length:Nat) ⟨om,om⟩) ?_;exact Zx;have u:(n==[108,101,110,103,116,104])=false:=by simpa using j
 rw[show Fh c a n s=none from by unfold Fh;rw[ar b,ar h1,ar d,ar e,ar f,ar g,ar i,ar j]];exact Ze
end Go.Proofs.YtobhohikfmlccaaGreatDoor
