/- What the reference of pages asks of a key, and the key's value. -/
import Derived.Test.YtobhohikfmlccaaGreatDoorC15
set_option linter.all false
set_option maxRecDepth 100000
set_option maxHeartbeats 4000000
open Go.RowKit Go.Proofs Tryz Go.Lib Go.IntKind
namespace Go.Proofs.YtobhohikfmlccaaGreatDoor
def mR{s p:Ab}(h:(Km s p).2=true):s=p++(Km s p).1:=by
 unfold Km at h⊢;split
 .rename_i h1
  conv=>lhs;rw[<-ki p.length s,h1]
 .rename_i h1;rw[ar h1]at h;cases h
def AfK(p t:Ab):Km (p++t) p=(t,true):=by unfold Km;rw[bn qq,List.drop_left]
def AZ{s p:Ab}(h:(Km s p).2=false)(t):s≠p++t:=by rintro rfl;rw[AfK]at h;cases h
section
variable{L:List Ap}{T:List (Ab × Ab)}{f:Int->Ab->Ab}
def iW{x}(h:x∈Dd L):∃y,x=47::y:=by unfold Dd at h;have h:=((Cv _).2 _).1 h;unfold vA at h;obtain⟨a,_,rfl⟩:=dm.1 h;exact⟨_,rfl⟩
def Aqh(t):B0 L T f (X1++t)=if t∈Dd L then[49]else[]:=by
 cases t with
 |nil=>rw[w_ oD,ar oD,ar oD,ar];intro h;obtain⟨y,e⟩:=iW h;cases e
 |cons c t=>
  by_cases g:c=47
  .subst g;have h1:=Qg (p:=X1) (rest:=t) oD;unfold B0;rw[h1,decide_eq_true rfl,bn rfl,FX]
  .have i:c::t∉Dd L:=λh=>by obtain⟨y,e⟩:=iW h;injection e with e;exact g e
   rw[ar i]
   have k:∀p rest:Ab,X1++c::t=p++47::rest->47∉p->p≠X1/\∃b,p=97::b:=λp rest h j=>by
    refine⟨λh1=> ?_,?_⟩
    .rw[h1]at h;have:=List.append_cancel_left h;injection this with a;exact g a
    .cases p with
     |nil=>cases h
     |cons d b=>simp only[X1,fj,b5]at h;exact⟨b,by rw[<-h.1]⟩
   rcases Ab3 (X1++c::t)with h|⟨p,q,h,h1,a⟩|⟨p,q,r,h,h1,a,h3⟩|⟨p,q,r,h,h1,a,h3⟩
   .rw[w_ h,ar (by simp[X1,Wc]),ar (by simp[X1,Ws])]
   .obtain⟨g1,b,rfl⟩:=k p _ h h1;rw[h,wb h1 a,ar g1,ar (by simp[Pt]),ar (by simp[SI]),ar (by simp[VQ])]
   .obtain⟨g1,b,rfl⟩:=k p _ h h1;rw[h,xj h1 a h3,ar g1,ar (by simp[Vy]),ar (by simp[Vz]),ar (by simp[V0]),ar (by simp[Wz])]
   .obtain⟨g1,b,rfl⟩:=k p _ h h1;rw[h,Fm h1 a h3,ar g1]
def BA{t}(h:47∈t):Bp t=false:=by
 cases a:Bp t with
 |false=>rfl
 |true=>exact cw ((Jx.1 a).2.2 _ h) oD
def Aqi(t):B0 L T f (Pt++47::t)=H9 T t:=by
 have a:47∉Pt:=oD;by_cases h:47∈t
 .have c:H9 T t=[]:=by unfold H9;rw[BA h];rfl
  rw[c];obtain⟨q,r,rfl,hq⟩:=Pl t h;by_cases b:47∈r
  .rw[Fm a hq b,ar oD]
  .rw[xj a hq b,ar oD,ar oD,ar oD,ar oD,ar oD]
 .rw[wb a h,ar oD,bn rfl]
def Aqj{s b:Ab}(h:N4 s SI b):B0 L T f s=kO L b:=by rw[h.1,wb h.2.1 h.2.2,ar oD,ar oD,bn rfl]
def Aqk{s b:Ab}(h:N4 s VQ b):B0 L T f s=Vw L b:=by rw[h.1,wb h.2.1 h.2.2,ar oD,ar oD,ar oD,bn rfl]
def Aql{s:Ab}(h1:s≠Wc)(i:s≠Ws)(d:∀t,s≠X1++t)(j:∀t,s≠Pt++47::t)(k:∀a b,N4 s a b->a≠VQ/\a≠SI)(l:∀w,w=Vy\/w=Vz\/w=V0\/w=Wz->∀t a b,N4 t a b->s≠w++47::t):B0 L T f s=[]:=by
 rcases Ab3 s with h|⟨p,q,h,g1,g2⟩|⟨p,q,r,h,g1,g2,g3⟩|⟨p,q,r,h,g1,g2,g3⟩
 .rw[w_ h,ar h1,ar i]
 .have g:=k p q ⟨h,g1,g2⟩;rw[h,wb g1 g2,ar (λe=>d (47::q) (by rw[h,e])),ar (λe=>j q (by rw[h,e])),ar g.2,ar g.1]
 .have c:∀w,w=Vy\/w=Vz\/w=V0\/w=Wz->p≠w:=λw m e=>l w m (q++47::r) q r ⟨rfl,g2,g3⟩ (by rw[h,e]);rw[h,xj g1 g2 g3,ar (λe=>d (47::(q++47::r)) (by rw[h,e])),ar (c _ (.inl rfl)),ar (c _ (.inr (.inl rfl))),ar (c _ (.inr (.inr (.inl rfl)))),ar (c _ (.inr (.inr (.inr rfl))))]
 .rw[h,Fm g1 g2 g3,ar (λe=>d (47::(q++47::r)) (by rw[h,e]))]
end
def AlE{M:List Bq}{T:List (Ab×Ab)}{w t a b:Ab}(c:w=Vy\/w=Vz\/w=V0\/w=Wz)(h:N4 t a b):B0 (M.map Bq.s) T (Cx M) (w++47::t)=iV M w a b:=by
 obtain⟨rfl,h1,d⟩:=h;rcases c with rfl|rfl|rfl|rfl
 all_goals
  rw[xj oD h1 d];rfl
def I6(l:Ξ)(a:Ej):Ξ:=if Be a=true then Hn l (Fu a)else l
def Ab8(l:Ξ)(a):(I6 l a).length<=l.length+1:=by
 unfold I6;split
 .exact aY l (Fu a)
 .omega
def iX:∀(Z:List Ej) (l:Ξ),(Z.foldl I6 l).length<=l.length+Z.length
 |[],l=>bx _
 |a::Z,l=>by have:=iX Z (I6 l a);have:=Ab8 l a;exact nU
def NC{l:Ξ}(h:l.Pairwise (·< ·))(a):(I6 l a).Pairwise (·< ·)/\∀x,x∈I6 l a↔x∈l\/Be a=true/\x=Fu a:=by
 unfold I6;split
 .rename_i b;obtain⟨h1,c⟩:=iD (Fu a) h;exact⟨h1,λx=>by rw[c];simp[b]⟩
 .rename_i b;exact⟨h,λx=>by simp[b]⟩
def bU:∀(Z:List Ej) (l:Ξ),l.Pairwise (·< ·)->(Z.foldl I6 l).Pairwise (·< ·)/\∀x,x∈Z.foldl I6 l↔x∈l\/∃a∈Z,Be a=true/\x=Fu a
 |[],l,h=>⟨h,λx=>oS⟩
 |a::Z,l,h=>by obtain⟨h1,b⟩:=NC h a;obtain⟨c,d⟩:=bU Z _ h1;refine⟨c,λx=> ?_⟩;rw[lc,d,b];simp only[e9,exists_eq_or_imp];exact or_assoc
def b0:Ξ:=[[47],47::Oy]
def bV(L:List Ap)(t:Ab):List Ej:=⟨5,t,0,[]⟩::(List.range (AP L t)).map λ(p:Nat)=>(⟨3,t,(p:Int)+1,[]⟩:Ej)
def eG(L:List Ap):List Ej:=L.flatMap Lk++((B9 L).flatMap (bV L)++(C7 L).map kM)
def AlF:b0.Pairwise (·< ·):=by unfold b0;refine mh.2 ⟨λx h=> ?_,List.pairwise_singleton _ _⟩;rw[ga]at h;subst h;exact of_decide_eq_true rfl
def Fk:Fu ML=[47]/\Be ML=true:=oK
def Fd:Fu MM=47::Oy/\Be MM=true:=oK
def AfL(L):(eG L).foldl I6 b0=Dd L:=by
 obtain⟨h1,d⟩:=bU (eG L) b0 AlF;refine(lG h1 λx=> ?_).symm;rw[d];simp only[vA,dm,jq,mL,eG,b0,ff,e9,lv,or_false,List.mem_flatMap];constructor
 .rintro((rfl|rfl)|⟨a,b,c,rfl⟩)
  .exact⟨ML,⟨.inl (.inl rfl),Fk.2⟩,Fk.1⟩
  .exact⟨MM,⟨.inl (.inr rfl),Fd.2⟩,Fd.1⟩
  .refine⟨a,⟨.inr ?_,c⟩,rfl⟩;rcases b with h|⟨t,ht,b⟩|h
   .exact .inl h
   .refine .inr (.inl ⟨t,ht,?_⟩)
    have e:Bp t=true:=by
     simp only[bV,e9,dm]at b;rcases b with rfl|⟨p,_,rfl⟩
     .simp[Be]at c;exact c
     .simp[Be]at c;exact c.2
    rw[cY,bn e];simp only[bV,e9,dm,th]at b⊢;rcases b with rfl|⟨p,hp,rfl⟩
    .exact J1
    .refine .inr ⟨p,?_,rfl⟩;have:Ox ((p:Int)+1)=true:=by simp[Be]at c;exact c.1
     have:=Oz.1 this;omega
   .exact R7
 .rintro⟨a,⟨b,c⟩,rfl⟩;rcases b with(rfl|rfl)|h|⟨t,ht,b⟩|h
  .exact .inl (.inl Fk.1)
  .exact .inl (.inr Fd.1)
  .exact .inr ⟨a,.inl h,c,rfl⟩
  .refine .inr ⟨a,.inr (.inl ⟨t,ht,?_⟩),c,rfl⟩;unfold cY at b;split at b
   .simp only[bV,e9,dm,th]at b⊢;rcases b with rfl|⟨p,hp,rfl⟩
    .exact J1
    .exact .inr ⟨p,om,rfl⟩
   .simp at b
  .exact .inr ⟨a,.inr (.inr h),c,rfl⟩
def AfM(l:Ξ)(a:Ej)(E:l.length<=10000000)(w:a.name.length<=1000000000)(y:a.lang.length<=1000000000):QA 50 [.sl 1 (l.map str),Fe a] (λr=>r=.sl 1 (l.map str)/\Be a=false\/r=.own 9 1 ((Hn l (Fu a)).map str)/\Be a=true):=by
 have m:∃r:AV,r=.sl 1 (l.map str)/\Be a=false\/r=.own 9 1 ((Hn l (Fu a)).map str)/\Be a=true:=by
  cases h:Be a
  .exact⟨_,.inl ⟨rfl,rfl⟩⟩
  .exact⟨_,.inr ⟨rfl,rfl⟩⟩
 simp only[Fe];refine G6 [] func50 m ?_;cases z:Be a
 .refine Zu ?_;refine Zb (gR a w y) ?_;rintro r rfl;simp only[O0,z,f0,if_false];try simp only[Af,num,str]
  repeat' first|apply Aq.on<;>intro _|refine gD ?_|simp only[go_sem,DT,Int.reduceEq,Int.cast_ofNat_Int,Ae]
  all_goals first|exact .inl ⟨rfl,rfl⟩|(simp;done)
 .refine Zu ?_;refine Zb (gR a w y) ?_;rintro r rfl;simp only[O0,z,if_true];refine Zn ?_;obtain⟨s,C⟩:∃s,Fu a=s:=⟨_,rfl⟩;rw[C];refine Ak (rl [7,3,8,33]) [7,8,9] (λn A=>∃j:Nat,j<=l.length/\j+n=l.length/\A=[.own 9 1 ((Ia s (l.take j)).1.map str),Af (Ia s (l.take j)).2,num j]) ⟨l.length,_,⟨0,om,om,rfl⟩,?_⟩ ?_
  .exact Aim
  .rintro n A ⟨j,D,F,rfl⟩;have g:=aX s (l.take j);rw[fw]at g;simp only[PU];rcases cq j l.length with u|hge
   .have i:=eT j l.length;obtain⟨x,B,p⟩:=Bj u;have f:=Cd B;have k:=wS j;have hstep:=iA (s:=s) B;obtain⟨o,t⟩:∃o,(Ia s (l.take j)).1=o:=⟨_,rfl⟩;obtain⟨d,p⟩:∃d,(Ia s (l.take j)).2=d:=⟨_,rfl⟩;rw[show Ia s (l.take j)=(o,d)from Prod.ext t p]at g hstep⊢;simp only[Iv]at hstep;simp only[Af]at *;have q:o.length<=l.length+1:=cp (qu _ _) (cp g om);rcases Bool.eq_false_or_eq_true (Gc s x)with hle|hle
    .have b:(Op.bytesLess s x||s==x)=true:=hle;by_cases c:x=s
     .have hxe:=bc c;have e:(x==s)=true:=by simp[c]
      cases d
      .repeat' first|apply Aq.on<;>intro _|refine gD ?_|simp only[go_sem,DT,Int.reduceEq,Int.cast_ofNat_Int,Ae,i,f,k,b,e,dc]
       exact uX
      .repeat' first|apply Aq.on<;>intro _|refine gD ?_|simp only[go_sem,DT,Int.reduceEq,Int.cast_ofNat_Int,Ae,i,f,k,b,e,dc]
       exact uX
     .have hxe:=bd c;have e:(x==s)=false:=by simp[c]
      cases d
      .repeat' first|apply Aq.on<;>intro _|refine gD ?_|simp only[go_sem,DT,Int.reduceEq,Int.cast_ofNat_Int,Ae,i,f,k,b,e,dc]
       exact uX
      .repeat' first|apply Aq.on<;>intro _|refine gD ?_|simp only[go_sem,DT,Int.reduceEq,Int.cast_ofNat_Int,Ae,i,f,k,b,e,dc]
       exact uX
    .have b:(Op.bytesLess s x||s==x)=false:=hle;by_cases c:x=s
     .have hxe:=bc c;have e:(x==s)=true:=by simp[c]
      cases d
      .repeat' first|apply Aq.on<;>intro _|refine gD ?_|simp only[go_sem,DT,Int.reduceEq,Int.cast_ofNat_Int,Ae,i,f,k,b,e,dc]
       exact uX
      .repeat' first|apply Aq.on<;>intro _|refine gD ?_|simp only[go_sem,DT,Int.reduceEq,Int.cast_ofNat_Int,Ae,i,f,k,b,e,dc]
       exact uX
     .have hxe:=bd c;have e:(x==s)=false:=by simp[c]
      cases d
      .repeat' first|apply Aq.on<;>intro _|refine gD ?_|simp only[go_sem,DT,Int.reduceEq,Int.cast_ofNat_Int,Ae,i,f,k,b,e,dc]
       exact uX
      .repeat' first|apply Aq.on<;>intro _|refine gD ?_|simp only[go_sem,DT,Int.reduceEq,Int.cast_ofNat_Int,Ae,i,f,k,b,e,dc]
       exact uX
   .have i:=eU j l.length;rw[Are hge]at g⊢;obtain⟨o,t⟩:∃o,(Ia s l).1=o:=⟨_,rfl⟩;obtain⟨d,p⟩:∃d,(Ia s l).2=d:=⟨_,rfl⟩;have v:Hn l s=o++if d then[]else[s]:=by rw[Hn,t,p]
    rw[show Ia s l=(o,d)from Prod.ext t p]at g⊢;rw[v];have q:o.length<=l.length+1:=cp (qu _ _) (cp g om);simp only[Af];cases d
    .repeat' first|apply Aq.on<;>intro _|refine gD ?_|simp only[go_sem,DT,Int.reduceEq,Int.cast_ofNat_Int,Ae,i,dc]
     all_goals first|(simp only[f0,if_false,ip,ev,db,str,or_true,false_or,and_true];done)|(refine .inr ⟨?_,rfl⟩;simp only[f0,if_false,ip,ev,db,str];done)
    .repeat' first|apply Aq.on<;>intro _|refine gD ?_|simp only[go_sem,DT,Int.reduceEq,Int.cast_ofNat_Int,Ae,i,dc]
     all_goals first|exact .inr trivial|(simp only[if_true,gy,or_true,false_or,and_true];done)|(refine .inr ⟨?_,rfl⟩;simp only[if_true,gy];done)
def mT(l:Ξ)(a:Ej)(b:l.length<=10000000)(c:a.name.length<=1000000000)(d:a.lang.length<=1000000000):QA 50 [.sl 1 (l.map str),Fe a] (λr=>r=.sl 1 ((I6 l a).map str)):=by
 refine(AfM l a b c d).lf ?_;rintro r (⟨rfl,h⟩|⟨rfl,h⟩)
 .exact⟨_,bh _,rfl,by rw[I6,h];rfl⟩
 .exact⟨_,dy _ _ _,rfl,by rw[I6,bn h]⟩
def mU{L}{Z:List Ej}(a:(eG L).length<=9000000)(h:Z.length<=(eG L).length):(Z.foldl I6 b0).length<=9000002:=by have:=iX Z b0;have e:b0.length=2:=rfl;omega
def Pm(L:List Ap):(eG L).length=(L.flatMap Lk).length+(((B9 L).flatMap (bV L)).length+(C7 L).length):=by simp only[eG,dc,dB]
theorem AiQ{a:Type}{f:a->List Ej}{M:List a}{i:Nat}:((M.take i).flatMap f).length<=(M.flatMap f).length:=by
 conv=>rhs;rw[<-ki i M,pi,dc]
 omega
theorem Ab9{a:Type}{f:a->List Ej}{M:List a}{i:Nat}{s:a}(h:M[i]? =some s):((M.take i).flatMap f).length+(f s).length<=(M.flatMap f).length:=by rw[<-T9 h];exact AiQ
def FY(L:List Ap)(t):(bV L t).length=1+AP L t:=by simp[bV];omega
def AlI{L:List Ap}{t p}(h:p<AP L t):(bV L t)[1+p]? =some ⟨3,t,((p+1:Nat):Int),[]⟩:=by rw[bV,Nat.add_comm,aw,ao,fe h];simp
def AbA(L:List Ap)(t)(v:Ϟ)(p)(h:L.length<=100000)(a:∀s∈L,Hj s):QA 51 [stA L t,str v,num p] (λr=>r=.a6 [.sl 1 (Ar (O5 ((Bd v L).reverse.map (·.id)) p)),num (((Bd v L).length+4) / 5:Nat)]):=by refine(gP L t v p h a).lf ?_;rintro r rfl;exact⟨_,eu (Bl (br _)),rfl,rfl⟩
def AbB(L:List Ap)(O)(S:L.length<=10000)(P:∀s∈L,Hj s)(ht:∀s∈L,s.tp.length<=1000)(he:∀s∈L,xm s)(hT:(B9 L).length<=1000000000)(hA:(C7 L).length<=1000000000)(Q:(eG L).length<=9000000)(G:∀t∈B9 L,t.length<=1000000000)(T:∀t∈C7 L,t.length<=1000000000)(U:∀s∈L,∀e∈s.ed,(U1 e).length<=1000000000):
 QA 17 [stA L O] (λr=>r=.sl 1 ((Dd L).map str)):=by
 simp only[stA];refine G6 [(2000009,[0,1,3,5,2002,2004,6,7,2008,9],[3010,11]),(2000014,[1,2,3,2000,2004],[3005,6,7,8,9,10])] func17 ⟨_,rfl⟩ ?_;refine Zu ?_;refine Ak (rl [3,4,8,35]) [3,4] (λn y=>∃(i:Nat) (a:Ξ),i<=L.length/\i+n=L.length/\a=((L.take i).flatMap Lk).foldl I6 b0/\y=[.sl 1 (a.map str),num i]) ⟨L.length,_,⟨0,b0,om,om,rfl,rfl⟩,?_⟩ ?_
 .simp only[b0,Oy,ev,db,str];exact dA
 .rintro n y ⟨i,a,V,W,b,rfl⟩;simp only[PU];rcases cq i L.length with C|v
  .have k:=eT i L.length;obtain⟨s,z,hd⟩:=Bj C;have X:=P s (cu z);have Y:=he s (cu z);have hed:=X.2;have d:=H5 z;simp only[num,str,Af]at d;have w:=wS i;refine Z3 k d w ?_;refine Ak (rl [3,1,2,1,20,23,53]) [3,6] (λn y=>∃(j:Nat) (c:Ξ),j<=(Lk s).length/\j+n=(Lk s).length/\c=((L.take i).flatMap Lk++(Lk s).take j).foldl I6 b0/\y=[.sl 1 (c.map str),num j]) ⟨(Lk s).length,_,⟨0,a,om,om,by rw[b];simp only[gx,gy],rfl⟩,?_⟩ ?_
   .exact dA
   .rintro n2 y ⟨j,c,hj1,hj2,m,rfl⟩;simp only[PU];rcases cq j (Lk s).length with D|qi
    .have o:s.tk=false:=by
      cases h:s.tk with
      |false=>rfl
      |true=>simp[Lk,h]at D
     have H:j<s.ed.length:=by rw[mM o]at D;exact D
     have I:=wS j;have ek:=eT j s.ed.length;obtain⟨e,A,hjd⟩:=Bj H;have B:=U s (cu z) e (cu A);obtain⟨l,c1,c2,c3,c4,rfl⟩:=Y e (cu A);have v:s.ed.getD j .any=.agg [str l,c1,c2,c3,c4]:=by simp[A]
     have Z:U1 (.agg [str l,c1,c2,c3,c4])=l:=by simp[U1,str]
     rw[Z]at B;simp only[str]at v;have E:c.length<=9000002:=by rw[m];refine mU Q ?_;have:=Ab9 (f:=Lk) z;rw[Pm];simp only[dc,fw];omega
     refine Z7 ek v I w o d k ?_;refine((mT (c) ⟨2,[],s.id,l⟩ om oS B).wk ?_).mono ?_
     .simp only[Fe,num,str];exact vC
     rintro r rfl;refine Z7 ek v I w o d k ?_;refine Av (n2-1) [.sl 1 ((I6 c ⟨2,[],s.id,l⟩).map str),num ((j+1:Nat):Int)] om ⟨j+1,_,om,om,?_,rfl⟩ ?_
     .rw[m,fc,Abw o A,<-ir,mw (l:=((L.take i).flatMap Lk)++List.take j (Lk s))];rfl
     .exact dA
    .rw[Are qi]at m;have J:c=((L.take (i+1)).flatMap Lk).foldl I6 b0:=by rw[m,fc,z,pi];simp
     cases o:s.tk
     .have hjg':s.ed.length<=j:=by rw[mM o]at qi;exact qi
      have ek:=eU j s.ed.length;refine Z3 ek w o ?_;refine Av (n-1) [.sl 1 (c.map str),num ((i+1:Nat):Int)] om ⟨i+1,_,om,om,?_,rfl⟩ ?_
      .exact J
      .exact dA
     .repeat' first|apply Aq.on<;>intro _|refine gD ?_|simp only[go_sem,DT,Int.reduceEq,Int.cast_ofNat_Int,Ae,w,o]
      all_goals (
       refine Av (n-1) [.sl 1 (c.map str),num ((i+1:Nat):Int)] om ⟨i+1,_,om,om,J,rfl⟩ ?_;exact Zw)
  .have k:=eU i L.length;rw[Are v]at b;refine Z1 k ?_;refine Zb (Wv L O S P ht) ?_;rintro r rfl;try simp only[Af,num,str]
   repeat' first|apply Aq.on<;>intro _|refine gD ?_|simp only[go_sem,DT,Int.reduceEq,Int.cast_ofNat_Int,Ae,k]
   refine Ak (rl [3,1,3,5,40,35,16]) [3,7,8] (λn y=>∃(i:Nat) (a:Ξ),i<=(B9 L).length/\i+n=(B9 L).length/\a=(((L.flatMap Lk)++((B9 L).take i).flatMap (bV L))).foldl I6 b0/\y=[.sl 1 (a.map str),.sl 1 ((B9 L).map str),num i]) ⟨(B9 L).length,_,⟨0,a,om,om,by rw[b];simp only[gx,sr,gy],rfl⟩,?_⟩ ?_
   .exact dA
   .rintro n y ⟨i,a,V,W,b,rfl⟩;simp only[PU];rcases cq i (B9 L).length with C|v
    .have k:=bc (show(i:Int)<((B9 L).length:Int) by omega);obtain⟨t,z,hd⟩:=Bj C;have d:=Cd z;have w:=wS i;have hpgl:=Al6 L t S;have E:a.length<=9000002:=by rw[b];refine mU Q ?_;have:=AiQ (f:=bV L) (M:=B9 L) (i:=i);rw[Pm];simp only[dc];omega
     refine Z3 k d w ?_;refine Zb (AbA L O t 1 om P) ?_;rintro r rfl;try simp only[Af,num,str]
     repeat' first|apply Aq.on<;>intro _|refine gD ?_|simp only[go_sem,DT,Int.reduceEq,Int.cast_ofNat_Int,Ae,k,d,w]
     refine((mT (a) ⟨5,t,0,[]⟩ om (G t (cu z)) oS).wk ?_).mono ?_
     .simp only[Fe,num,str];exact vC
     rintro r rfl;refine Z3 k d w ?_;refine Ak (rl [3,1,3,1,3,1,62,13]) [3,7,11] (λn y=>∃(p:Nat) (g:Ξ),p<=AP L t/\p+n=AP L t/\g=(((L.flatMap Lk)++((B9 L).take i).flatMap (bV L))++(bV L t).take (1+p)).foldl I6 b0/\y=[.sl 1 (g.map str),.sl 1 ((B9 L).map str),num ((p+1:Nat):Int)]) ⟨AP L t,_,⟨0,_,om,om,rfl,rfl⟩,?_⟩ ?_
     .have e0:(((L.flatMap Lk)++((B9 L).take i).flatMap (bV L))++(bV L t).take (1+0)).foldl I6 b0=I6 a ⟨5,t,0,[]⟩:=by rw[b,mw];rfl
      rw[e0];exact dA
     .rintro n4 y ⟨p,g,hp1,hp2,x,rfl⟩;simp only[PU];rcases cq p (AP L t)with K|hpg
      .have N:i64.wrap (((p+1:Nat):Int)+1)=((p+1+1:Nat):Int):=Da om;have hpl':p<((Bd t L).length+4) / 5:=K;have R:=bc (show((p+1:Nat):Int)<=((((Bd t L).length+4) / 5:Nat):Int) by omega);have E:g.length<=9000002:=by rw[x];refine mU Q ?_;have:=Ab9 (f:=bV L) z;rw[Pm];simp only[dc,fw];omega
       refine Z5 R N w d k ?_;refine((mT (g) ⟨3,t,((p+1:Nat):Int),[]⟩ om (G t (cu z)) oS).wk ?_).mono ?_
       .simp only[Fe,num,str];exact vC
       rintro r rfl;refine Z5 R N w d k ?_;refine Av (n4-1) [.sl 1 ((I6 g ⟨3,t,((p+1:Nat):Int),[]⟩).map str),.sl 1 ((B9 L).map str),num ((p+1+1:Nat):Int)] om ⟨p+1,_,om,om,?_,rfl⟩ ?_
       .rw[x,show 1+(p+1)=(1+p)+1 by omega,fc,AlI K,<-ir,mw (l:=((L.flatMap Lk)++((B9 L).take i).flatMap (bV L))++List.take (1+p) (bV L t))];rfl
       .exact dA
      .have hpg':p≥((Bd t L).length+4) / 5:=hpg;have R:=bd (show¬((p+1:Nat):Int)<=((((Bd t L).length+4) / 5:Nat):Int) by omega);refine Z2 R w ?_;refine Av (n-1) [.sl 1 (g.map str),.sl 1 ((B9 L).map str),num ((i+1:Nat):Int)] om ⟨i+1,_,om,om,?_,rfl⟩ ?_
       .have e1:(bV L t).take (1+p)=bV L t:=Are (by rw[FY];omega);rw[x,e1,fc,z,pi,ir];simp
       .exact dA
    .have k:=bd (show¬(i:Int)<((B9 L).length:Int) by omega);rw[Are v]at b;refine Z1 k ?_;refine Zb (T3 L O S P) ?_;rintro r rfl;try simp only[num,str,Af]
     refine Z1 k ?_;refine Ak (rl [3,1,8,2,75,13,1]) [3,12,13] (λn y=>∃(q:Nat) (a:Ξ),q<=(C7 L).length/\q+n=(C7 L).length/\a=(((L.flatMap Lk)++(B9 L).flatMap (bV L))++((C7 L).take q).map kM).foldl I6 b0/\y=[.sl 1 (a.map str),.sl 1 ((C7 L).map str),num q]) ⟨(C7 L).length,_,⟨0,a,om,om,by rw[b];simp only[gx,db,gy],rfl⟩,?_⟩ ?_
     .exact dA
     .rintro n y ⟨q,a,hq1,hq2,b,rfl⟩;simp only[PU];rcases cq q (C7 L).length with hq|hq
      .have k:=bc (show(q:Int)<((C7 L).length:Int) by omega);obtain⟨u,F,hud⟩:=Bj hq;have d:=Cd F;have w:=wS q;have E:a.length<=9000002:=by rw[b];refine mU Q ?_;rw[Pm];simp only[dc,dB,fw];omega
       refine Z3 k d w ?_;refine((mT (a) ⟨4,u,0,[]⟩ om (T u (cu F)) oS).wk ?_).mono ?_
       .simp only[Fe,num,str];exact vC
       rintro r rfl;refine Z3 k d w ?_;refine Av (n-1) [.sl 1 ((I6 a (kM u)).map str),.sl 1 ((C7 L).map str),num ((q+1:Nat):Int)] om ⟨q+1,_,om,om,?_,rfl⟩ ?_
       .rw[b,fc,F,ip,<-ir,mw (l:=((L.flatMap Lk)++(B9 L).flatMap (bV L))++List.map kM (List.take q (C7 L)))];rfl
       .exact dA
      .have k:=bd (show¬(q:Int)<((C7 L).length:Int) by omega);rw[Are hq]at b;have hfin:a=Dd L:=by rw[b,<-AfL,eG,ir]
       rw[hfin];repeat' first|apply Aq.on<;>intro _|refine gD ?_|simp only[go_sem,DT,Int.reduceEq,Int.cast_ofNat_Int,Ae,k]
       all_goals rfl
def RR:Ab:=[116,101,109,112,108,97,116,101,47]
def tY{L:List Ap}{T}(G:An L T):(eG L).length<=9000000:=by
 have h1:=Ml (l:=B9 L) (f:=bV L) (c:=202) λt _=>by rw[FY];unfold AP;have:=Cw t L;have:=G.len';omega
 have a:=Ml (l:=L) (f:=Lk) (c:=100) λs h=>by
  unfold Lk;split
  .simp
  .rw[dB];exact G.ed s h
 have:=K6 G;have:=K7 G;have:=G.len';rw[Pm];omega
def AbC(M:List Bq)(T:List (Ab×Ab))(G:An (M.map Bq.s) T)(hM:mF M)(U:mK M)(k:Ab)(hk:k.length<=1000000):QA 12 [I8 M (T.map A4),str k] (λr=>r=str (B0 (M.map Bq.s) T (Cx M) k)):=by
 refine ai (G7 [(1000019,[],[]),(1000021,[],[])] [] [(28,[],[1,2,3,5,6,2000,2004],[],[3007,8])] func12 ?_) ⟨_,rfl⟩;have hlen:(M.map Bq.s).length<=1000:=G.len';have q:=Wv (M.map Bq.s) (T.map A4) om G.ok G.tp;have u:=T3 (M.map Bq.s) (T.map A4) om G.ok;rw[<-Nk]at q u;simp only[I8]at q u⊢;by_cases h1:k=Wc
 .have e1:(k==[116,111,112,105,99,115])=true:=by rw[h1];rfl
  have z:B0 (M.map Bq.s) T (Cx M) k=Gn (M.map Bq.s):=by rw[h1];rfl
  rw[z];refine Z1 e1 ?_;refine ae q ?_;rintro r rfl;refine Z0 ?_;have:=K6 G;have:=iQ G;refine HC.wk (ae (Mj _ [44,32] om (by unfold Gn at this;omega)) ?_) (Bl (br _));exact jK
 have e1:(k==[116,111,112,105,99,115])=false:=by simpa[Wc]using h1
 by_cases O:k=Ws
 .have e2:(k==[97,117,116,104,111,114,115])=true:=by rw[O];rfl
  have z:B0 (M.map Bq.s) T (Cx M) k=E7 (M.map Bq.s):=by rw[O];rfl
  rw[z];refine Z2 e1 e2 ?_;refine ae u ?_;rintro r rfl;refine Z0 ?_;have:=K7 G;have:=bQ G;refine HC.wk (ae (Mj _ [44,32] om (by unfold E7 at this;omega)) ?_) (Bl (br _));exact jK
 have e2:(k==[97,117,116,104,111,114,115])=false:=by simpa[Ws]using O
 refine Z2 e1 e2 ?_;refine ae (bR k X1 om oD) ?_;rintro r rfl;cases h3:(Km k X1).2;rotate_left
 .have z:B0 (M.map Bq.s) T (Cx M) k=if(Km k X1).1∈Dd (M.map Bq.s)then[49]else[]:=by
   conv=>lhs;rw[mR h3]
   rw[Aqh]
  rw[z];simp only[str,Af];refine Z0 ?_;have:=K6 G;have:=K7 G;have:=AU G;have:=Qf G;have A:=AbB (M.map Bq.s) (T.map A4) G.len G.ok G.tp G.eo om om (tY G) (λt V=>by obtain⟨s,E,_,h⟩:=Ub.1 V;have:=G.tn s E t h;omega) (λt V=>by obtain⟨s,E,_,rfl⟩:=Uc.1 V;have:=G.an s E;omega) G.en;rw[<-Nk]at A;simp only[I8]at A;generalize (Km k X1).1=t at *;refine ae A ?_;rintro r rfl;refine Z0 ?_;refine ae (AoB _ t om) ?_;rintro r rfl;simp only[Af];by_cases P:t∈Dd (M.map Bq.s)
  .rw[bn P];have W:=decide_eq_true P;refine Z1 W ?_;exact Zx
  .rw[ar P];have W:=decide_eq_false P;refine Z1 W ?_;exact Zx
 have n3:=AZ h3;simp only[str,Af];refine Z0 ?_;refine ae (bR k RR om oD) ?_;rintro r rfl;cases h4:(Km k RR).2;rotate_left
 .have Q:=mR h4;generalize (Km k RR).1=t at *;have z:B0 (M.map Bq.s) T (Cx M) k=H9 T t:=by rw[Q];exact Aqi t
  have X:t.length<=1000000:=by have:=fq List.length Q;simp at this;omega
  have hT:=G.tl;have Y:∀x,T.find? (λx=>decide (x.1=t))=some x->x.2.length<=100000:=λx hx=>G.tt x (i8 hx);rw[z];simp only[str,Af];refine Z0 ?_;refine ae (tT _ T t om) ?_;rintro r rfl
  cases Z:T.find? (λx=>decide (x.1=t))with
  |none=>
   have F:H9 T t=[]:=by unfold H9;rw[Z];split<;>rfl
   rw[F];simp only[nz,mf,str,Af];refine Z0 ?_;exact Zx
  |some x=>
   have hxl:=Y x Z;simp only[jy,ng,str,Af];refine Z0 ?_;refine ae (Tf t om) ?_;rintro r rfl;simp only[Af];cases hn:Bp t
   .have F:H9 T t=[]:=by unfold H9;rw[hn];rfl
    rw[F];refine Z1 hn ?_;exact Zx
   .have F:H9 T t=61::x.2:=by unfold H9;rw[hn,Z];rfl
    rw[F];refine Z1 hn ?_;exact Zx
 have n4:∀t,k≠Pt++47::t:=λt h=>AZ h4 t (by rw[h];rfl);simp only[str,Af];refine Z0 ?_;refine ae (AX k om) ?_;intro r R
 obtain⟨x,y,c,rfl,f,H⟩:∃x y c,r=.a6 [str x,str y,Af c]/\(c=true->N4 k x y)/\(c=false->∀a b,¬N4 k a b):=by
  rcases R with⟨a,b,g,rfl⟩|⟨j,rfl⟩
  .exact⟨a,b,true,rfl,λ_=>g,oS⟩
  .exact⟨[],[],false,rfl,oS,λ_=>j⟩
 clear R;simp only[str,Af];have I:∀v,(Bd v (M.map Bq.s)).length<=1000:=λv=>by have:=Cw v (M.map Bq.s);omega
 refine Z0 ?_;refine Bv (rl [12,105]) [] (λn o=>o=[]/\n=[]/\(c=true->x≠VQ)) ?_ ?_
 .cases c with
  |false=>refine Z0 ?_;exact Im
  |true=>
   by_cases hx:x=VQ
   .have ex:(x==[99,111,117,110,116])=true:=by rw[hx];rfl
    have g:=f rfl;rw[hx]at g;rw[Aqk g];have B:=zH (M.map Bq.s) (T.map A4) y om G.ok;rw[<-Nk]at B;simp only[I8,str]at B;refine Z1 ex ?_;refine ae B ?_;rintro r rfl;have:=I y;simp only[num];refine Z0 ?_;refine ae (Ib _ ⟨om,om⟩) ?_;exact jK
   .have ex:(x==[99,111,117,110,116])=false:=by simpa[VQ]using hx
    exact AhL
 rintro n o ⟨rfl,rfl,J⟩;simp only[PU];refine Z0 ?_;refine Bv (rl [9,108]) [] (λn o=>o=[]/\n=[]/\(c=true->x≠SI)) ?_ ?_
 .cases c with
  |false=>refine Z0 ?_;exact Im
  |true=>
   by_cases hx:x=SI
   .have ex:(x==[98,121])=true:=by rw[hx];rfl
    have g:=f rfl;rw[hx]at g;rw[Aqj g];have B:=AeG (M.map Bq.s) (T.map A4) y om G.ok;rw[<-Nk]at B;simp only[I8,str]at B;refine Z1 ex ?_;refine ae B ?_;rintro r rfl;have:=I [];refine Z0 ?_;refine HC.wk (ae (Np _ (by have:=kh (λs:Ap=>decide (s.au=y)) (Bd [] (M.map Bq.s));simp;omega) (λi hi=>by obtain⟨s,E,rfl⟩:=dm.1 hi;exact G.id s (Pd [] _ s (jq.1 E).1))) ?_) (Bl .nil);exact jK
   .have ex:(x==[98,121])=false:=by simpa[SI]using hx
    exact AhL
 rintro n o ⟨rfl,rfl,K⟩
 have n5:∀a b,N4 k a b->a≠VQ/\a≠SI:=λa b h=>by
  cases c with
  |false=>exact cw h (H rfl a b)
  |true=>have:=(Rx h.2.1 (f rfl).2.1 ((f rfl).1.symm.trans h.1)).1;rw[<-this];exact⟨J rfl,K rfl⟩
 clear f H J K;simp only[PU];refine Z0 ?_;refine Ad (rl [12,105]) [12,13] (λm n o=>o=[]/\∃i,i+m=4/\n=[.sl 1 ([Vy,Vz,V0,Wz].map str),num i]/\∀w∈[Vy,Vz,V0,Wz].take i,∀t a b,N4 t a b->k≠w++47::t) ⟨4,_,_,⟨rfl,0,om,rfl,oS⟩,hent (aa _) ?_⟩ ?_
 .exact Zw
 .rintro m n o ⟨rfl,i,hi,rfl,S⟩;simp only[PU,ev,db,str,Vy,Vz,V0,Wz];by_cases hlt:i<4;rotate_left
  .have ej:=bd (show¬(i:Int)<4 by omega);have hi4:i=4:=om;rw[hi4]at S;rw[Aql h1 O n3 n4 n5 λw L=>S w (by rcases L with rfl|rfl|rfl|rfl<;>simp)];exact eP
  have ej:=bc (show(i:Int)<4 by omega);obtain⟨w,L⟩:∃w,[Vy,Vz,V0,Wz][i]? =some w:=⟨_,ac (by simpa using hlt)⟩;have hg:[str Vy,str Vz,str V0,str Wz].getD i .any=str w:=by have:[str Vy,str Vz,str V0,str Wz]=[Vy,Vz,V0,Wz].map str:=rfl;rw[this,fk,ao,L];rfl
  have l:=cu L;simp only[e9,lv,or_false]at l;have hwl:w.length<=10:=by rcases l with rfl|rfl|rfl|rfl<;>decide
  have N:[Vy,Vz,V0,Wz].take (i+1)=[Vy,Vz,V0,Wz].take i++[w]:=by rw[fc,L];rfl
  have hwi:=wS i;simp only[str,Vy,Vz,V0,Wz]at hg;refine Z2 ej hg ?_;refine ae (bR k (w++[47]) om (by simp;omega)) ?_;rintro r rfl;cases h7:(Km k (w++[47])).2
  .have n7:=AZ h7
   have hn:∀C∈[Vy,Vz,V0,Wz].take (i+1),∀t a b,N4 t a b->k≠C++47::t:=λC d t a b h=>by
    rw[N,ff,ga]at d;rcases d with d|rfl
    .exact S C d t a b h
    .intro e;exact n7 t (by rw[e,ir];rfl)
   simp only[str,Af];refine Z0 ?_;refine ae (AX (Km k (w++[47])).1 (by unfold Km;split<;>simp;omega)) ?_;intro r R
   obtain⟨x,y,c,rfl⟩:∃x y c,r=.a6 [str x,str y,Af c]:=by
    rcases R with⟨a,b,g,rfl⟩|⟨j,rfl⟩
    .exact⟨a,b,true,rfl⟩
    .exact⟨[],[],false,rfl⟩
   exact Aic
  .have Q:=mR h7;generalize (Km k (w++[47])).1=t at *;have D:k=w++47::t:=by rw[Q,ir];rfl
   have X:t.length<=1000000:=by have:=fq List.length D;simp at this;omega
   simp only[str,Af];refine Z0 ?_;refine ae (AX t om) ?_;rintro r (⟨a,b,g,rfl⟩|⟨j,rfl⟩)
   .rw[D,AlE l g];have hpl:=fq List.length g.1;simp at hpl;have p:=AfH M T G hM U w a b l om om;simp only[I8,str]at p;simp only[str,Af];refine Z1 hg ?_;refine ae p ?_;rintro r rfl;refine Z0 ?_;exact Zx
   .have hn:∀C∈[Vy,Vz,V0,Wz].take (i+1),∀t a b,N4 t a b->k≠C++47::t:=λC d t' a b h=>by
     rw[N,ff,ga]at d;rcases d with d|rfl
     .exact S C d t' a b h
     .intro e;have:=List.append_cancel_left (D.symm.trans e);injection this with _ e2;exact j a b (e2▸h)
    exact Aic
def Ry(bf:Ab->Ab->Option Ab)(S:Nc)(l:List Nd)(i:Int)(k:Ξ):Ab×Nat×List Ab:=match Me bf S 2001 l i ⟨[],0,0,k⟩with
 |.ok s=>(s.out,0,s.ks)
 |.bad e s=>([],e,s.ks)
def FZ:∀(a b:Φ),Gw (a++b) a
 |[],b=>λw S c g h=>⟨[],λ_=>0,.nil Al,λ_=>gu _⟩
 |x::a,b=>Gw.cons (bh x) (FZ a b)
section
variable{ad:Addr}{m:Nat}{rv:Φ}{val:Ab->Ab}{S:Nc}{a:Ab->Ab->Option Ab}
def AoD(X:aS ad m rv val S)(Y:Rq a)(l:List Nd)(i:Int)(k)(w:l.length<=1000000)(x:Fw l)(g:Db i):
 QH 114 [.sl 8 (Ka l),.raw (.iface 112 (.pointer (some ad))),num i] (Dr ad m rv val k) (λr o=>r=.a6 [str (Ry a S l i k).1,num (Ry a S l i k).2.1]/\o=Dr ad m rv val (Ry a S l i k).2.2) (λ_ _=>False):=by
 refine HC.weak ?_;refine aP b3 Dc Cl [] [4,6] [] (As:=[_,_]) (ds:=[_,_]) (ss:=[6,7]) [(6,5),(7,4)] func114 rfl oD rfl ntmps114 (fq Array.toList results114) rfl (by simp only[ev,db,Di,Si,Hv,Wd,Sw,My,Y0,List.isEmpty_nil,List.isEmpty_cons,oi,Bool.or_self,px,qn,qo,Bool.and_self,mf,cond_false,cond_true,JD,xS,JA,JB,JC,xR,xB,xY,Nat.reduceBEq,Nat.reduceBNe,xT,Zg,lA,qR,VM,Cn,Dz,F5,fZ,ev,db,Nat.reduceMod,Nat.reduceDiv,El,Oa,pk,List.getElem?_toArray,aw,ba,Py,U2,Fs,fO,Nat.reduceAdd,Nat.reduceEqDiff,Nat.reduceLeDiff,Nat.reduceSub,ne_eq,not_false_eq_true,and_self,reduceIte];rfl) oK sL oK ?_;simp only[KQ,dg,eh,Nat.reduceAdd,Nat.reduceSub,mc,ml,fj,fm,num,str,Af,pt,Dr];have k3:HH.ek 221=some 0:=rfl;refine Zu ?_;simp only[Kb];refine Zu ?_;intro c j d f;have h1:(m=c)=False:=bd λh=>j _ (.tail _ (.head _)) (fq some h);have p:(d=c)=False:=bd λh=>f _ (.head _) (fq some h.symm);have q:(m=d)=False:=bd λh=>f _ (.tail _ (.tail _ (.head _))) (fq some h);refine Zu ?_;refine Vn b3 Dc [15] sL ?_;refine Zu ?_;refine(Abk _).mono ?_ (λ_ _ h=>h.elim);rintro r o ⟨mk,hmk,rfl,rfl⟩;have s:(mk=c)=False:=bd λh=>hmk _ (.tail _ (.head _)) (fq some h.symm);have t:(mk=d)=False:=bd λh=>hmk _ (.head _) (fq some h.symm);refine Zu ?_;simp only[Kb];refine Zu ?_;intro b n;have u:(b=c)=False:=bd λh=>n _ (.tail _ (.tail _ (.head _))) (fq some h.symm);have z:(m=b)=False:=bd λh=>n _ (.tail _ (.tail _ (.tail _ (.tail _ (.head _))))) (fq some h);have v:(b=d)=False:=bd λh=>n _ (.tail _ (.head _)) (fq some h.symm);refine Zu ?_;refine HC.gw (γ':=Rp ad m b mk rv val ⟨[],0,0,k⟩++[.bp d 45 [num 0],.bp c 9 [str []]]) (fy (EH.go (Afq X Y 2001 l i ⟨[],0,0,k⟩ ⟨gu _,gu _,gu _⟩ (gu _) g w x) (λe s' hrun=> ?_) (λs' hrun y=> ?_))) ?_;rotate_left 2
 .refine Gw.trans (Gw.cons (W1.bp (Ju ?_)) (aa _)) (Gw.perm (List.perm_append_comm (l₁:=[_,_,_,_]) (l₂:=[_,_])));exact br _
 .simp only[tN,Rp,Dr,Ng,fj,fm,num,str];refine Zu ?_;unfold ly;refine HD.mono (Abl h1 u s p q v t s' (str []) (num 0) e _ _ _ (.inr ⟨rfl,rfl,rfl⟩)) ?_;exact ϳ
 .simp only[tN,Rp,Dr,Ng,fj,fm,num,str];refine Zu ?_;refine Vn b3 Dc [24] sL ?_;refine Zu ?_;refine⟨rfl,rfl,_,rfl,?_⟩;refine Zu ?_;refine HD.mono (Abl h1 u s p q v t s' (str s'.out) (num 0) 0 _ _ _ (.inl ⟨rfl,rfl,rfl⟩)) ?_;exact ϳ
end
def Jz(k):∀a:Ξ,(k∈a/\∃j,∃h:j<a.length,Bu (Kq k) (a.map Kq)=some j/\a[j]=k)\/(k∉a/\Bu (Kq k) (a.map Kq)=none)
 |[]=>.inr ⟨oS,rfl⟩
 |x::a=>by
  have d:dJ (Kq k) (Kq x)=decide (k=x):=by
   by_cases h:k=x
   .subst h;simp only[decide_true];exact(Go.MapKept.bytes_beq _ _).2 rfl
   .rw[decide_eq_false h,<-Bool.not_eq_true];intro b;have:=(Go.MapKept.bytes_beq _ _).1 b;injection this with this;exact h (by simpa using fq Array.toList this)
  have c:Bu (Kq k) ((x::a).map Kq)=if decide (k=x)then some 0 else(Bu (Kq k) (a.map Kq)).map (·+1):=by simp only[Bu,ev,List.findIdx?_cons,d]
  by_cases h:k=x
  .exact .inl ⟨by simp[h],0,oS,by rw[c];simp[h],by simp[h]⟩
  .rcases Jz k a with⟨h1,j,e,b,f⟩|⟨h1,b⟩
   .exact .inl ⟨by simp[h1],j+1,by simp[e],by rw[c];simp[h,b],by simp[f]⟩
   .exact .inr ⟨by simp[h,h1],by rw[c];simp[h,b]⟩
def Mo(k)(a:Ξ):Rj (HH.kd 9) (Kq k) (a.map Kq)=True:=bc ⟨trivial,λx h=>by obtain⟨y,_,rfl⟩:=dm.1 h;trivial⟩
theorem mV(z:Value)(v:Φ)(j:Nat):M5 true z v (some j)=.a6 [view (v.getD j .any),.raw (.bool true)]:=rfl
theorem mW(z:Value)(v:Φ):M5 true z v none=.a6 [B8 z,.raw (.bool false)]:=rfl
theorem Ud(s):view (.raw (.string s))=.raw (.string s):=rfl
theorem Nq(s):B8 (.string s)=.raw (.string s):=rfl
theorem X2(x)(A:Prop)(K:AV->Prop):hnc (.elt x) A K=A:=rfl
def xi:(true=false->False)=True:=bc oD
attribute [go_sem] mV mW Ud Nq X2 xi
def De(a:Ξ)(k:Ab):Ξ:=if k∈a\/1000000<k.length then a else a++[k]
def tZ{a:Ξ}{k:Ab}(h:k∉a)(b:k.length<=1000000):De a k=a++[k]:=ar λq=>q.elim h om
structure Gb (L:List Ap) (T:List (Ab×Ab)) (val:Ab->Ab):Prop where
 call:∀key:Ab,key.length<=1000000->QA 11 [.agg [.sl 8 (L.map ci),.sl 2 (T.map A4)],str key] (λr=>r=str (val key))
 len':∀key,(val key).length<=900000
def Gb.len{L:List Ap}{T:List (Ab×Ab)}{v:Ab->Ab}(V:Gb L T v)(k):(v k).length<=1000000:=cp (V.len' k) om
structure Gk (a:Ej) (url word:Ab):Prop where
 k:Db a.kind
 n:Db a.n
 name:a.name.length<=1000
 lang:a.lang.length<=1000
 url:url.length<=1000
 word:word.length<=1000
def Dv(L:List Ap)(T:List (Ab×Ab))(a:Ej)(url word:Ab)(m:Nat):Φ:=[.sl 8 (L.map ci),.sl 2 (T.map A4),num a.kind,str a.name,num a.n,str a.lang,str url,str word,.raw (.map (some m))]
def K8(m:Nat)(v:Ab->Ab)(a:Ξ):Φ:=[.bw m (a.map Kq) (a.map λk=>str (v k))]
def E3(a:Ej):Ab:=if a.kind=3\/a.kind=5 then a.name else[]
def Rz(a:Ej)(n:Int):Ab:=[47,116,111,112,105,99,47]++a.name++[47]++itoa n
def Eh(a:Ej):Ab:=[112,97,103,101,47]++a.name++[47]++itoa a.n
def Li(v:Ab->Ab)(a:Ej):Int:=Bi (cut (v (Eh a)) [32,111,102,32]).2.1
def Ei(n)(h:Db n):(itoa n).length<=21:=itoa_length_le n h.1 h.2
section
variable{L:List Ap}{T:List (Ab × Ab)}{b:Ab->Ab}(V:Gb L T b){a:Ej}{url word:Ab}(A:Gk a url word){m:Nat}
include V in
def R0(c:Ab)(l:c.length<=1000000)(d:Ξ):QH 56 [.elt (.agg (Dv L T a url word m)),str c] (K8 m b d) (λr o=>r=str (b c)/\o=K8 m b (De d c)) (λ_ _=>False):=by
 refine G7 [] [] [] func56 ?_;have f:(m=m)=True:=bc rfl;have k1:HH.mp 113=some (9,9):=rfl;have k2:HH.zr 9=some (.string ⟨#[]⟩):=rfl;have k3:HH.kd 9=some .string:=rfl;have h:=Mo c d;rw[k3]at h;simp only[Kq]at h;rcases Jz c d with⟨g,j,p,e,q⟩|⟨g,e⟩
 .have i:De d c=d:=by simp[De,g]
  have n:(d.map λk=>str (b k)).getD j .any=str (b c):=by simp[fk,p,q]
  simp only[Kq]at e;simp only[Dv,K8,num,str,Kq]at n⊢;refine Wq (nA f (nA k1 (nA k2 (nA k3 (nA h (nA e (nA n (nA xi (nA @mV (nA @mW (nA @Ud (nA @Nq @X2)))))))))))) ?_;rw[i];exact Zx
 have i:=tZ g l;simp only[Kq]at e;simp only[Dv,K8,num,str,Kq];refine Wq (nA f (nA k1 (nA k2 (nA k3 (nA h (nA e (nA xi (nA @mV (nA @mW (nA @Ud (nA @Nq @X2))))))))))) ?_;refine ae (V.call c l) ?_;rintro r rfl;simp only[num,str];repeat' first|apply Aq.on<;>intro _|refine gD ?_|simp only[go_sem,f,k1,k2,k3,h,e,mV,mW,Ud,Nq,X2,xi]
 rw[i];simp only[ip,ev,db];exact Zx
end
section
variable{L:List Ap}{T:List (Ab × Ab)}{d:Int->Ab->Ab}(G:An L T)
include G
theorem Mp{s:Ab}{f:Int->Ab}{c:Nat}(h:∀i,(f i).length<=c):(B5 s f).length<=c:=by
 unfold B5;split
 .exact h _
 .simp
theorem BB(t:Ab)(n:Int):(Jm L t n).length<=900000:=by have h1:=Ic (l:=((Bd t L).map (·.id)).take n.toNat) (λi h=>Kl G _ i (i7 h));have a:=Cw t L;have:=G.len';rw[fw,dB]at h1;unfold Jm;omega
theorem AbD(t:Ab)(n:Int):(Q7 L t n).length<=900000:=by
 have h1:=Ic (l:=O5 ((Bd t L).reverse.map (·.id)) n) (λi h=>Kl G t i (by have:=Xz h;simpa using this));have a:=Tn ((Bd t L).reverse.map (·.id)) n;have b:=Cw t L;have:=G.len';have c:=itoa_length_le ((((Bd t L).length+4) / 5:Nat):Int) om om;have e:=Cw t L;try simp only[dB,ni]at a
 unfold Q7;simp only[dc,dg,eh];omega
theorem AlJ(a:Ab):(kO L a).length<=900000:=by have h1:=Ic (l:=((Bd [] L).filter (λs=>decide (s.au=a))).map (·.id)) (λi h=>by obtain⟨s,b,rfl⟩:=dm.1 h;exact Kl G [] _ (dm.2 ⟨s,(jq.1 b).1,rfl⟩));have c:=Cw [] L;have e:=kh (λs:Ap=>decide (s.au=a)) (Bd [] L);have:=G.len';rw[dB]at h1;unfold kO;omega
theorem uA(i j:Int):(F0 L i j).length<=900000:=by
 have h1:=Ic (l:=Kj L i j) (λx h=>bP G h)
 have c:(Kj L i j).length<=10*1000:=by
  unfold Kj;split
  .simp
  .rename_i s a;split
   .have e:=T5 (Bd [] L) s i s.tp.length;have b:=G.tp' s (i8 a);have f:=Cw [] L;have:=G.len';rw[fw];have g:s.tp.length*(Bd [] L).length<=10*1000:=Nat.mul_le_mul b om;omega
   .simp
 unfold F0;omega
theorem ND(t:Ab):(Vw L t).length<=900000:=by have h:=Cw t L;have:=G.len';have a:=itoa_length_le (((Bd t L).length:Nat):Int) om om;unfold Vw;omega
theorem AfO(a:Ab):(H9 T a).length<=900000:=by
 unfold H9;split
 .split
  .rename_i t h;have:=G.tt t (i8 h);exact V6
  .simp
 .simp
theorem NE (h1:(Gn L).length<=900000) (a:(E7 L).length<=900000) (c:∀i b,(d i b).length<=900000) (k:Ab):(B0 L T d k).length<=900000:=by
 unfold B0;split
 ·split<;>simp
 ·split
  ·rename_i f e;have h:=i8 e;simp only[I5,e9,lv,or_false]at h;rcases h with rfl|rfl|rfl|rfl|rfl|rfl|rfl|rfl|rfl
   ·exact AfO G _
   ·exact Mp G (λi=>c i _)
   ·exact Mp G (λi=>BB G _ i)
   ·exact Mp G (λi=>AbD G _ i)
   ·exact AlJ G _
   ·exact Mp G (λi=>Mp G (λj=>uA G i j))
   ·exact h1
   ·exact a
   ·exact ND G _
  ·simp
def val_ok(K:Nn L T d)(h1:(Gn L).length<=900000)(h:(E7 L).length<=900000)(a:∀i b,(d i b).length<=900000):Gb L T (B0 L T d) where
 call:=λk c=>by have:=AfC G K k c;simpa only[stA]using this
 len':=NE G h1 h a
end
def AbE{M:List Bq}{T:List (Ab×Ab)}(a:mF M)(h:mK M)(c:∀i b,(Cx M i b).length<=1000000):Nn (M.map Bq.s) T (Cx M) where
 call i b hi hb:=by rw[<-Nk];exact Af4 M (T.map A4) a h (λd _=>Af6 M (T.map A4) a d) i hi b
 len:=c
def AbF{M:List Bq}{T:List (Ab×Ab)}(G:An (M.map Bq.s) T)(c:mF M)(h:mK M)(a:∀i b,(Cx M i b).length<=900000)(h1:(Gn (M.map Bq.s)).length<=900000)(d:(E7 (M.map Bq.s)).length<=900000):Gb (M.map Bq.s) T (B0 (M.map Bq.s) T (Cx M)):=
 val_ok G (AbE c h λi b=>cp (a i b) om) h1 d a
def z8:Ap:=⟨0,[],[],[],0,[],false,false⟩
def AoE(L:List Ap)(t)(n:L.length<=1000000)(i):QA 28 [.agg [.sl 8 (L.map ci),.sl 2 t],num i] (λr=>∃(s:Ap) (b:Bool),r=.a6 [ci s,Af b]):=by
 refine ai (G7 [] [] [] func28 ?_) ⟨_,z8,true,rfl⟩;simp only[go_sem];refine Ad (rl [7,21]) [6] (λm f g=>g=[]/\∃j:Nat,j+m=L.length/\f=[num j]) ⟨L.length,_,_,⟨rfl,0,om,rfl⟩,hent (aa _) ?_⟩ ?_
 .exact Zw
 .rintro m f g ⟨rfl,j,o,rfl⟩;simp only[PU];rcases cq j L.length with d|hge
  .have e:=eT j L.length;obtain⟨x,l,p⟩:=Bj d;have h:=mE l;have c:=wS j;by_cases k:x.id=i
   .have a:=bc k;simp only[go_sem,e,a,h,c,Ao];refine Z4 e a h c ?_;exact⟨_,_,bh _,rfl,aa _,rfl,x,true,rfl⟩
   have a:=bd k;simp only[go_sem,e,a,h,c,Ao];refine Z4 e a h c ?_;exact nV
  have e:=eU j L.length;simp only[go_sem,e,Ao];refine Zu ?_;exact⟨.a6 [ci z8,Af false],_,eu (Oh (.same (.same (B7 (B7 (.same (B7 (.same (.same .nil)))))))) (.same .nil)),rfl,aa _,rfl,z8,false,rfl⟩
def nN(L:List Ap)(T:List (Ab×Ab)):AV:=.box 27 [.sl 8 (L.map ci),.sl 2 (T.map A4)]
structure WA (n:Nat) (L:List Ap) (T:List (Ab×Ab)):Prop where
 len:L.length<=n
 st:∀s∈L,OU s.id s/\Db s.id
 tl:T.length<=n
 tt:∀t∈T,t.2.length<=100
def AiR(l:List Fc)(S:l.length<=16)(M:∀x∈l,N3 x)(U:∀x∈l,Db x.st):QA 9 [.sl 23 (l.map Qd)] (λr=>∃(L:List Ap) (T:List (Ab×Ab)),r=.agg [.sl 8 (L.map ci),.sl 2 (T.map A4)]/\WA l.length L T):=by
 refine ai (G7 [(1000012,[],[])] [13] [(10,[],[0,1,2002,3,4,5,6,8,12,2007,9,10,2011,2013,14,15],[],[]),(12,[60,10008,10003],[2,4,1000,1003,5],[2001],[3006,7])] func9 ?_) ⟨_,[],[],rfl,oS,oS,oS,oS⟩;simp only[go_sem];refine Ad (rl [5,82]) [3,4] (λm g i=>i=[]/\∃(j:Nat) (L:List Ap) (T:List (Ab×Ab)),j+m=l.length/\WA j L T/\g=[nN L T,num j]) ⟨l.length,_,_,⟨rfl,0,[],[],om,⟨oS,oS,oS,oS⟩,rfl⟩,hent (aa _) ?_⟩ ?_
 .simp only[PU];try simp only[nN,num,str]
  exact Zw
 .rintro m g i ⟨rfl,j,L,T,hm,d,rfl⟩;simp only[PU];try simp only[nN,num,str]
  rcases cq j l.length with w|hge
  .have z:=eT j l.length;obtain⟨x,A,hd⟩:=Bj w;have hgx:=gX A;have hw:=wS j;have B:=M x (cu A);have C:=U x (cu A);have V:=d.len;have W:=d.tl;simp only[go_sem,z,hgx,hw,Ao];refine Zu ?_;refine ae (AoE L (T.map A4) om x.st) ?_;rintro r ⟨s,b,rfl⟩;simp only[ci,Qn,num,str,Af];by_cases N:x.kd=3/\b=false
   .obtain⟨n,rfl⟩:=N;have e3:=bc n;have e7:=eN x.kd 7;simp only[go_sem,hgx,hw,e3,Ao];refine Z3 hgx hw e3 ?_;refine ae (Afe l x.st S M) ?_;rintro r ⟨e,rfl,c⟩;simp only[ci,Qn,num,str,Af];simp only[go_sem,hgx,hw,e3,Ao];refine Z3 hgx hw e3 ?_;refine Bv (rl [6,2,2,77]) [9] (λg i=>i=[]/\∃a:Nat,a<=L.length/\g=[num a]) ?_ ?_;rotate_left
    .rintro g i ⟨rfl,a,X,rfl⟩;simp only[PU];have D:(List.take (L.length-a) (List.drop a (L.map ci)))=(L.drop a).map ci:=by rw[<-pm];exact Are oS
     have E:List.take a (L.map ci)=(L.take a).map ci:=by rw[ol]
     have k:((L.drop a).map ci).length=L.length-a:=oS;have o:((L.take a).map ci).length=a:=by simp;omega
     have F:(L.take a).length=a:=by simp;omega
     have G:=bc (show(a:Int)<=(L.length:Int) by omega);refine Z3 G D k ?_;refine Kh (cs1:= ?c1a) (cs2:= ?c2a) b3 Dc 1 ?z7 ?z6 ?h1a
     case z7=>rfl
     case z6=>rfl
     simp only[py,qx,qw];simp only[go_sem];refine Z0 ?_;apply Qb
     .exact CK
     simp only[go_sem,G,Ao];repeat' first|apply Aq.on<;>intro _|refine gD ?_|simp only[go_sem,G,E,k,o,F,e7,hw,dc,List.length_singleton,jb,Ao]
     have hfin:(L.take a).map ci++ .agg [.raw (.int .i64 e.id),.raw (.string ⟨e.au.toArray⟩),.sl 1 (e.tp.map str),.sl 5 e.ed,.raw (.int .i64 e.pu),.sl 5 e.co,.raw (.bool e.re),.raw (.bool e.tk)]::(L.drop a).map ci=(L.take a++e::L.drop a).map ci:=by simp[ci,Qn,num,str,Af]
     have hB':WA (j+1) (L.take a++e::L.drop a) T:=⟨by simp;omega,λy f=>by
      rcases ff.1 f with f|f
      .exact d.st y (i7 f)
      .rcases e9.1 f with f|f
       .rw[f];have H:=c.id;exact⟨⟨rfl,c.au,c.tp,c.tn,c.ed,c.ef,c.co,c.cf⟩,by rw[H];exact C⟩
       .exact d.st y (mg f),om,d.tt⟩
     try rw[hfin]
     refine Am (m-1) _ _ om ⟨rfl,j+1,_,T,om,hB',rfl⟩ (hent (aa _) ?_);simp only[PU];try simp only[nN,num,str]
     exact Zw;done
    refine Z3 hgx hw e3 ?_;refine Ad (rl [6,2,2,77]) [9] (λI g i=>i=[]/\∃a:Nat,a+I=L.length/\g=[num a]) ⟨L.length,_,_,⟨rfl,0,om,rfl⟩,hent (aa _) ?_⟩ ?_
    .exact Zw
    .rintro I g i ⟨rfl,a,Y,rfl⟩;simp only[PU];rcases cq a L.length with p|mu
     .have v:=eT a L.length;obtain⟨y,f,Z⟩:=Bj p;have q:=mE f;have u:=wS a;by_cases O:y.id<e.id
      .have J:=bc O;simp only[go_sem,v,J,q,u,Ao];refine Zu ?_;exact Zm (I-1) ⟨rfl,a+1,om,rfl⟩;done
      have J:=bd O;simp only[go_sem,v,J,q,u,Ao];exact AhC
     have v:=eU a L.length;simp only[go_sem,v,Ao];exact AhC
   by_cases P:x.kd=7
   .have e7:=bc P;have e3:=eN x.kd 3;simp only[go_sem,hgx,hw,e3,e7,Ao];refine Zu ?_;have Q:=Alq T (x.nm,x.tx) om;simp only[A4,str]at Q;refine ae Q ?_;rintro r ⟨R,rfl,hT1,K⟩;simp only[go_sem,hgx,hw,e3,e7,Ao];refine Zu ?_
    have hB':WA (j+1) L R:=⟨om,d.st,om,λt ht=>by
     rcases K t ht with h|h
     .exact d.tt t h
     .rw[h];exact B.tx⟩
    refine Am (m-1) _ _ om ⟨rfl,j+1,L,R,om,hB',rfl⟩ (hent (aa _) ?_);simp only[PU];try simp only[nN,num,str]
    exact Zw;done
   have e7:=bd P;have hB':WA (j+1) L T:=⟨om,d.st,om,d.tt⟩;by_cases n:x.kd=3
   .have e3:=bc n;have hb:b=true:=by cases b with|true=>rfl|false=>exact cw ⟨n,rfl⟩ N
    subst hb;exact Agr
   have e3:=bd n;exact Agr
  have z:=eU j l.length;simp only[go_sem,z,Ao];refine Zu ?_;exact⟨_,_,bh _,rfl,aa _,rfl,L,T,rfl,by have:=d.len;omega,d.st,by have:=d.tl;omega,d.tt⟩
def X3{b c:Type}{f:b->c}{P:b->Prop}:∀{l:List c},(∀e∈l,∃x,e=f x/\P x)->∃m:List b,l=m.map f/\∀x∈m,P x
 |[],_=>⟨[],rfl,oS⟩
 |a::l,h=>by obtain⟨x,rfl,d⟩:=h a (.head _);obtain⟨m,rfl,g⟩:=X3 (l:=l) λe i=>h e (.tail _ i);exact⟨x::m,rfl,λy j=>by exact(e9.1 j).elim (λh=>h▸d) (g y)⟩
structure TB (t:Bq):Prop where
 au:t.au.length<=20
 tp:t.tp.length<=10
 tn:∀x∈t.tp,x.length<=20
 ed:t.ed.length<=16
 la:∀e∈t.ed,e.1.length<=20
 eb:∀e∈t.ed,fH e.2
 co:t.co.length<=16
 ct:∀c∈t.co,c.tx.length<=100
 id:Db t.id
structure MB (M:List Bq) (T:List (Ab×Ab)):Prop where
 len:M.length<=16
 st:∀t∈M,TB t
 tl:T.length<=16
 tt:∀t∈T,t.2.length<=100
def rk{L:List Ap}{T}(h:WA 16 L T):∃M:List Bq,L=M.map Bq.s/\MB M T:=by
 obtain⟨M,d,j⟩:=X3 (f:=Bq.s) (P:=TB) (l:=L) λs k=>by
  obtain⟨B,m⟩:=h.st s k;obtain⟨n,a,b⟩:=X3 (f:=Mf) (P:=λx=>x.1.length<=20/\fH x.2) (l:=s.ed) B.ef;obtain⟨o,g,c⟩:=X3 (f:=gW) (P:=λx=>x.tx.length<=100) (l:=s.co) B.cf;refine⟨⟨s.id,s.au,s.tp,n,s.pu,o,s.re,s.tk⟩,?_,?_⟩
  .unfold Bq.s;rw[<-a,<-g]
  .have h1:=B.ed;have i:=B.co;rw[a,dB]at h1;rw[g,dB]at i;exact⟨B.au,B.tp,B.tn,h1,λe a=>(b e a).1,λe a=>(b e a).2,i,c,m⟩
 exact⟨M,d,by have:=h.len;rw[d,dB]at this;exact this,j,h.tl,h.tt⟩
section
variable{M:List Bq}{T:List (Ab × Ab)}(B:MB M T)
include B
def MB.ok:mF M where
 len:=by have:=B.len;omega
 tp t ht:=by have:=(B.st t ht).tp;omega
 ed t ht:=by have:=(B.st t ht).ed;omega
 co t ht:=by have:=(B.st t ht).co;omega
 bs t ht e he:=by have:=((B.st t ht).eb e he).2.1;omega
 bk t ht e he b hb:=⟨by have:=(((B.st t ht).eb e he).2.2 b hb).1;omega,by have:=(((B.st t ht).eb e he).2.2 b hb).2;omega⟩
 tx t ht e he b hb:=by have:=(((B.st t ht).eb e he).2.2 b hb).1;omega
 ti t ht e he:=by have:=((B.st t ht).eb e he).1;omega
 ct t ht c hc:=by have:=(B.st t ht).ct c hc;omega
def MB.yn:mK M where
 au t ht:=by have:=(B.st t ht).au;omega
 tp t ht:=by have:=(B.st t ht).tp;omega
 tn t ht x hx:=by have:=(B.st t ht).tn x hx;omega
 ed t ht:=by have:=(B.st t ht).ed;omega
 la t ht e he:=by have:=(B.st t ht).la e he;omega
def MB.g:An (M.map Bq.s) T where
 len':=by have:=B.len;rw[dB];omega
 tp' s hs:=by obtain⟨t,h,rfl⟩:=dm.1 hs;exact(B.st t h).tp
 ed s hs:=by obtain⟨t,h,rfl⟩:=dm.1 hs;have:=(B.st t h).ed;simp only[Bq.s,dB];omega
 id s hs:=by obtain⟨t,h,rfl⟩:=dm.1 hs;exact(B.st t h).id
 tn s hs x a:=by obtain⟨t,h,rfl⟩:=dm.1 hs;have:=(B.st t h).tn x a;omega
 an s hs:=by obtain⟨t,h,rfl⟩:=dm.1 hs;have:=(B.st t h).au;simp only[Bq.s];omega
 eo s hs:=by obtain⟨t,h,rfl⟩:=dm.1 hs;intro e b;obtain⟨x,a,rfl⟩:=dm.1 b;exact⟨x.1,_,_,_,_,rfl⟩
 en s hs:=by
  obtain⟨t,h,rfl⟩:=dm.1 hs;intro e b;obtain⟨x,a,rfl⟩:=dm.1 b;have:=(B.st t h).la x a;have c:U1 (Mf x)=x.1:=by simp[U1,Mf,str]
  rw[c];omega
 tl:=by have:=B.tl;omega
 tt t h:=by have:=B.tt t h;omega
def MB.sf(i:Int)(l):(Cx M i l).length<=900000:=by
 have d:=Vv (M:=M) (c:=2000) (nb:=64) (nc:=16) (cc:=100) (ct:=20) om (by have:=B.len;omega) (λt h e a b g=>(((B.st t h).eb e a).2.2 b g).1) (λt h e a=>((B.st t h).eb e a).2.1) (λt h e a=>((B.st t h).eb e a).1) (λt h=>(B.st t h).co) (λt h=>(B.st t h).ct) i;unfold Cx;split
 .simp
 rename_i t h;have j:=i8 h;have b:=B.st t j;split
 .simp
 rename_i f p a
 have hq:(Ki t.ed l).getD f∈t.ed:=by
  cases hq:Ki t.ed l with
  |none=>rw[a];exact .head _
  |some e=>exact i8 hq
 generalize (Ki t.ed l).getD f=e at hq;have h1:=b.la e hq;have q:=(b.eb e hq).1;have r:=b.au;have k:=Dq (sep:=[44,32]) b.tn;have s:=d e.1
 have w:(if Ff e.1 t.co=0 then[]else itoa (Ff e.1 t.co:Nat):Ab).length<=30:=by
  have:Ff e.1 t.co<=t.co.length:=kh _ _;have:=b.co;split
  .simp
  .exact nR
 have y:(if t.re=true then T8 else[]:Ab).length<=30:=by split<;>simp[T8]
 have m:=Dq (sep:=[32]) (zs:=t.ed.map (·.1)) (c:=20) (by intro z n;obtain⟨x,d,rfl⟩:=dm.1 n;exact b.la x d);have h:=b.tp;have A:=b.ed;simp only[dB,dg,eh]at k m;have C:t.tp.length*(20+(0+1+1))<=220:=om;have o:t.ed.length*(20+(0+1))<=400:=om;unfold Lh Kk;generalize (if Ff e.1 t.co=0 then[]else itoa (Ff e.1 t.co:Nat):Ab)=u at *;generalize (if t.re=true then T8 else[]:Ab)=v at *;simp only[qt,sr,dc,eh];have k1:=Jl e.1 om;have k2:=Jl e.2.ti om;have k3:=Jl t.au om;have k4:=Jl (join t.tp [44,32]) om;have k5:=Jl (Pf M i e.1).1 om;have k6:=Jl u om;have k7:=Jl v om;have k8:=Jl (join (t.ed.map (·.1)) [32]) om;omega
def MB.tf:(Gn (M.map Bq.s)).length<=900000:=by
 have G:=B.g;have h1:=tD (L:=M.map Bq.s) (λs a=>by have:=G.tp' s a;omega) (M.map Bq.s).length;rw[lr,dB]at h1;have b:=Dq (sep:=[44,32]) (zs:=B9 (M.map Bq.s)) (c:=20) λz d=>by obtain⟨s,a,_,h⟩:=Ub.1 d;obtain⟨t,e,rfl⟩:=dm.1 a;exact(B.st t e).tn z h
 have:=B.len;unfold Gn;simp only[dg,eh]at b;omega
def MB.af:(E7 (M.map Bq.s)).length<=900000:=by
 have h1:=tE (M.map Bq.s) (M.map Bq.s).length;rw[lr,dB]at h1;have h:=Dq (sep:=[44,32]) (zs:=C7 (M.map Bq.s)) (c:=20) λz a=>by obtain⟨s,b,_,rfl⟩:=Uc.1 a;obtain⟨t,d,rfl⟩:=dm.1 b;exact(B.st t d).au
 have:=B.len;unfold E7;simp only[dg,eh]at h;omega
def iY(M:List Bq)(T:List (Ab×Ab))(k:Ab):Ab:=if k.length<=1000000 then B0 (M.map Bq.s) T (Cx M) k else[]
def MB.v:Gb (M.map Bq.s) T (iY M T) where
 call key hk:=by have:=(AbF B.g B.ok B.yn B.sf B.tf B.af).call key hk;simp only[iY,bn hk];exact this
 len' key:=by
  unfold iY;split
  .exact(AbF B.g B.ok B.yn B.sf B.tf B.af).len' key
  .simp
end
section
variable{L:List Ap}{T:List (Ab × Ab)}{b:Ab->Ab}{a:Ej}{url word:Ab}{m:Nat}
def Kn(A:Gk a url word):(E3 a).length<=1000:=by have:=A.name;unfold E3;split<;>simp[*]
def uB:QA 428 [.elt (.agg (Dv L T a url word m))] (λr=>r=str (E3 a)):=by
 refine ai (G7 [] [] [] func428 ?_) ⟨_,rfl⟩;simp only[Dv,num,str];unfold E3;by_cases c:a.kind=3
 .have e:=bc c;rw[bn (.inl c)];exact Ze
 have e:=bd c;by_cases d:a.kind=5
 .have f:=bc d;rw[bn (.inr d)];exact Ze
 have f:=bd d;rw[ar (by rintro(h|h)<;>contradiction)];exact Ze
def uC(A:Gk a url word)(n)(h:Db n):QA 424 [.elt (.agg (Dv L T a url word m)),num n] (λr=>r=str (Rz a n)):=by refine G6 [(2000001,[0,1,2,3,7,1004,5,6],[9,10]),(3000001,[],[2008])] func424 ⟨_,rfl⟩ ?_;have c:=A.name;have d:=Ei n h;simp only[Dv,num,str];refine Zu ?_;refine Za (Em n h) ?_;rfl
def bW(A:Gk a url word):QA 412 [.elt (.agg (Dv L T a url word m))] (λr=>r=str (Eh a)):=by refine G6 [(2000001,[0,1,2,3,7,8,9,10,1004,5,6,1011],[13,14]),(3000001,[],[2012])] func412 ⟨_,rfl⟩ ?_;have h:=A.name;have c:=Ei a.n A.n;simp only[Dv,num,str];refine Zu ?_;refine Za (Em a.n A.n) ?_;rfl
def Qh(s c:Ab):(cut s c).2.1.length<=s.length:=by unfold cut;split<;>simp
def bX(s c:Ab):(cut s c).1.length<=s.length:=by unfold cut;split<;>simp;omega
def Ue(A:Gk a url word):(Eh a).length<=2000:=by have:=A.name;have:=Ei a.n A.n;simp only[Eh,dc,dg,eh];omega
def uD(V:Gb L T b)(A:Gk a url word)(k:Ξ):QH 426 [.elt (.agg (Dv L T a url word m))] (K8 m b k) (λr c=>r=num (Li b a)/\c=K8 m b (De k (Eh a))) (λ_ _=>False):=by
 refine G7 [] [] [] func426 ?_;have h:=Ue A;simp only[Dv,num,str];refine Zu ?_;refine Zh (bW A) ?_;refine Zk (R0 V (Eh a) om k) ?_;refine HC.wk (ae (lI (b (Eh a)) [32,111,102,32] (cp (V.len _) om)) ?_) ?_;rotate_left
 .exact Ny
 rintro r rfl;refine Zn ?_;refine HC.wk (ae (P6 (cut (b (Eh a)) [32,111,102,32]).2.1 (cp (Qh _ _) (V.len _))) ?_) ?_;rotate_left
 .exact Ny
 exact Ix
end
def Bn(a:Ej)(i:Int)(name arg:Ab)(n:Int):Ab:=
 if name=[108,97,116,101,115,116]then(if(if arg=[]then E3 a else arg)=[]\/Bp (if arg=[]then E3 a else arg)=true then[108,97,116,101,115,116,47]++(if arg=[]then E3 a else arg)++[47]++itoa (if n=0 then 5 else n)else[])
 else if name=[112,97,103,101]/\a.kind=3 then Eh a
 else if name=[98,121]/\(arg≠[]\/a.kind=4)then(if Bp (if arg=[]then a.name else arg)=true then[98,121,47]++(if arg=[]then a.name else arg)else[])
 else if name=[114,101,108,97,116,101,100]/\i≠0 then[114,101,108,97,116,101,100,47]++itoa i++[47]++itoa (if n=0 then 5 else n)
 else[]
section
variable{L:List Ap}{T:List (Ab × Ab)}{b:Ab->Ab}{a:Ej}{url word:Ab}{m:Nat}
def mX(A:Gk a url word)(i:Int)(name arg:Ab)(n)(h:Db i)(c:Db n)(d:arg.length<=900000):(Bn a i name arg n).length<=1000000:=by
 have h1:=A.name;have e:=Kn A;have f:=Ue A;have g:=Ei i h;have j:=Ei (if n=0 then 5 else n) (by split<;>first|exact⟨om,om⟩|exact c);have k:(if arg=[]then E3 a else arg).length<=900000:=by split<;>omega
 have l:(if arg=[]then a.name else arg).length<=900000:=by split<;>omega
 unfold Bn;generalize (if arg=[]then E3 a else arg)=t1 at *;generalize (if arg=[]then a.name else arg)=t2 at *;generalize itoa (if n=0 then 5 else n)=t3 at *;repeat' split
 all_goals first|omega|(simp only[dc,dg,eh];omega)
def BC(A:Gk a url word)(i:Int)(name arg:Ab)(n)(t:Db i)(M:Db n)(O:arg.length<=900000):QA 416 [.elt (.agg (Dv L T a url word m)),num i,str name,str arg,num n] (λr=>r=str (Bn a i name arg n)):=by
 refine ai (G7 [(1000003,[],[]),(1000008,[],[])] [] [] func416 ?_) ⟨_,rfl⟩;have d:=A.name;have e:=Kn A;have u:=uB (L:=L) (T:=T) (a:=a) (url:=url) (word:=word) (m:=m);have v:=bW (L:=L) (T:=T) (m:=m) A;have f:=Ei i t;have B:=Em i t;have g:=O;simp only[Dv,num,str]at u v⊢;have p:Db (if n=0 then 5 else n):=by split<;>first|exact⟨om,om⟩|exact M
 refine Z4 f d e g ?_;refine Bv (rl [5,85]) [4] (λx w=>w=[]/\x=[num (if n=0 then 5 else n)]) ?_ ?_
 .by_cases l:n=0
  .have C:=bc l;rw[bn l];refine Z5 C f d e g ?_;refine Bw _ [] ⟨rfl,rfl⟩ (hent (aa _) ?_);exact Zw
  .have C:=bd l;rw[ar l];refine Z5 C f d e g ?_;refine Bw _ [] ⟨rfl,rfl⟩ (hent (aa _) ?_);exact Zw
 generalize H:(if n=0 then(5:Int)else n)=N at p⊢;rintro x w ⟨rfl,rfl⟩;simp only[PU,num];repeat' first|apply Aq.on<;>intro _|refine gD ?_|simp only[go_sem,f,d,e,g,dc]
 refine ae (Em N p) ?_;rintro r rfl;simp only[str];have q:=Ei N p;by_cases D:name=[108,97,116,101,115,116]
 .subst D;have E:(([108,97,116,101,115,116]:Ab)==[108,97,116,101,115,116])=true:=oD;refine Zu ?_;refine Bv (rl [5,6,1,78]) [12] (λx w=>w=[]/\x=[str (if arg=[]then E3 a else arg)]) ?_ ?_
  .by_cases c:arg=[]
   .subst c;rw[bn rfl];refine Zu ?_;refine Zh u ?_;refine Bw _ [] ⟨rfl,rfl⟩ (hent (aa _) ?_);exact Zw
   .have P:(arg==[])=false:=by simpa using c
    rw[ar c];refine Zu ?_;refine Bw _ [] ⟨rfl,rfl⟩ (hent (aa _) ?_);exact Zw
  rintro x w ⟨rfl,rfl⟩;have F:(if arg=[]then E3 a else arg).length<=900000:=by split<;>omega
  have Q:Bn a i [108,97,116,101,115,116] arg n=if(if arg=[]then E3 a else arg)=[]\/Bp (if arg=[]then E3 a else arg)=true then[108,97,116,101,115,116,47]++(if arg=[]then E3 a else arg)++[47]++itoa N else[]:=by rw[Bn,bn rfl,H]
  rw[Q];generalize (if arg=[]then E3 a else arg)=tt at *;simp only[PU,str];by_cases o:tt=[]
  .have I:(tt==[])=true:=by simpa using o
   refine Z7 I F f q d e g ?_;rw[bn (.inl o)];try simp only[ir,fj,fm]
   exact Zx
  have I:(tt==[])=false:=by simpa using o
  refine Zu ?_;refine ae (Mc tt) ?_;rintro r rfl
  cases j:Bp tt with
  |true=>
   refine Zn ?_;rw[bn (.inr (by first|trivial|simp))];try simp only[ir,fj,fm]
   exact Zx
  |false=>refine Zn ?_;rw[ar (by simp[o])];exact Zx
 have E:(name==[108,97,116,101,115,116])=false:=by simpa using D
 by_cases h1:name=[112,97,103,101]/\a.kind=3
 .obtain⟨rfl,k⟩:=h1;have ek:=bc k;have e1:(([112,97,103,101]:Ab)==[112,97,103,101])=true:=oD;refine Z8 E e1 ek f q d e g ?_;refine ae v ?_;rintro r rfl;repeat' first|apply Aq.on<;>intro _|refine gD ?_|simp only[go_sem,E,e1,ek,f,q,d,e,g,dc]
  rw[show Bn a i [112,97,103,101] arg n=Eh a from by simp[Bn,k]];exact Zx
 by_cases y:name=[98,121]/\(arg≠[]\/a.kind=4)
 .obtain⟨rfl,k⟩:=y;have e1:(([98,121]:Ab)==[112,97,103,101])=false:=oD;have e2:(([98,121]:Ab)==[98,121])=true:=oD;by_cases c:arg=[]
  .subst c;have s:a.kind=4:=k.resolve_left (λh=>h rfl);have ek:=bc s;refine Zu ?_;refine ae (Mc a.name) ?_;rintro r rfl
   cases j:Bp a.name with
   |true=>
    refine Zn ?_;rw[show Bn a i [98,121] [] n=[98,121,47]++a.name from by simp[Bn,s,j]];try simp only[ir,fj,fm]
    exact Zx
   |false=>refine Zn ?_;rw[show Bn a i [98,121] [] n=[]from by simp[Bn,s,j]];exact Zx
  have P:(arg==[])=false:=by simpa using c
  refine Zu ?_;refine ae (Mc arg) ?_;rintro r rfl
  cases j:Bp arg with
  |true=>
   refine Zn ?_;rw[show Bn a i [98,121] arg n=[98,121,47]++arg from by simp[Bn,c,j]];try simp only[ir,fj,fm]
   exact Zx
  |false=>refine Zn ?_;rw[show Bn a i [98,121] arg n=[]from by simp[Bn,c,j]];exact Zx
 by_cases G:name=[114,101,108,97,116,101,100]/\i≠0
 .obtain⟨rfl,k⟩:=G;have ek:=bd k;have e1:(([114,101,108,97,116,101,100]:Ab)==[112,97,103,101])=false:=oD;have e2:(([114,101,108,97,116,101,100]:Ab)==[98,121])=false:=oD;have z:(([114,101,108,97,116,101,100]:Ab)==[114,101,108,97,116,101,100])=true:=oD;refine Zu ?_;refine Zh B ?_;rw[show Bn a i [114,101,108,97,116,101,100] arg n=[114,101,108,97,116,101,100,47]++itoa i++[47]++itoa N from by simp[Bn,H,k]];try simp only[ir,fj,fm]
  exact Zx
 rw[show Bn a i name arg n=[]from by rw[Bn,ar D,ar h1,ar y,ar G]];by_cases p1:name=[112,97,103,101]
 .subst p1;have k:a.kind≠3:=λh=>h1 ⟨rfl,h⟩;have ek:=bd k;have e1:(([112,97,103,101]:Ab)==[112,97,103,101])=true:=oD;have e2:(([112,97,103,101]:Ab)==[98,121])=false:=oD;have z:(([112,97,103,101]:Ab)==[114,101,108,97,116,101,100])=false:=oD;exact Ze
 have e1:(name==[112,97,103,101])=false:=by simpa using p1
 by_cases J:name=[98,121]
 .subst J;have k:a.kind≠4:=λh=>y ⟨rfl,.inr h⟩;have c:arg=[]:=Classical.byContradiction λh=>y ⟨rfl,.inl h⟩;subst c;have ek:=bd k;have e2:(([98,121]:Ab)==[98,121])=true:=oD;have z:(([98,121]:Ab)==[114,101,108,97,116,101,100])=false:=oD;exact Ze
 have e2:(name==[98,121])=false:=by simpa using J
 by_cases K:name=[114,101,108,97,116,101,100]
 .subst K;have k:i=0:=Classical.byContradiction λh=>G ⟨rfl,h⟩;have ek:=bc k;have z:(([114,101,108,97,116,101,100]:Ab)==[114,101,108,97,116,101,100])=true:=oD;exact Ze
 have z:(name==[114,101,108,97,116,101,100])=false:=by simpa using K
 exact Ze
end
def Ie:Nat->Ab->Ξ
 |0,_=>[]
 |f+1,s=>if s=[]then[]else if K0 (cut s [58]).1=false\/Bi (cut s [58]).1<0\/((cut s [58]).2.1.length:Int)<=Bi (cut s [58]).1 then[]
  else(cut s [58]).2.1.take (Bi (cut s [58]).1).toNat::Ie f ((cut s [58]).2.1.drop ((Bi (cut s [58]).1).toNat+1))
def R1:∀(f:Nat) (s:Ab),∀p∈Ie f s,p.length<=s.length
 |0,s,p,h=>by simp[Ie]at h
 |f+1,s,p,h=>by
  rw[Ie]at h;split at h
  .cases h
  .split at h
   .cases h
   .have:=Qh s [58];rcases e9.1 h with rfl|h
    .simp only[fw];omega
    .have:=R1 f _ p h;simp only[jb]at this;omega
def W0:∀(f g:Nat) (s:Ab),s.length<=f->s.length<=g->Ie f s=Ie g s
 |0,g,s,h1,h2=>by have:s=[]:=kq om;subst this;cases g<;>simp[Ie]
 |f+1,0,s,h1,h2=>by have:s=[]:=kq om;subst this;simp[Ie]
 |f+1,g+1,s,h1,h2=>by
  by_cases h:s=[]
  .simp[Ie,h]
  have a:0<s.length:=oh.2 h;have:=Qh s [58];rw[Ie,Ie,W0 f g _ (by simp only[jb];omega) (by simp only[jb];omega)]
def dw(s:Ab):Ξ:=Ie s.length s
def NF(s)(h:s≠[]):dw s=if K0 (cut s [58]).1=false\/Bi (cut s [58]).1<0\/((cut s [58]).2.1.length:Int)<=Bi (cut s [58]).1 then[]
 else(cut s [58]).2.1.take (Bi (cut s [58]).1).toNat::dw ((cut s [58]).2.1.drop ((Bi (cut s [58]).1).toNat+1)):=by
 unfold dw;have b:0<s.length:=oh.2 h;have:=Qh s [58];obtain⟨f,a⟩:∃f,s.length=f+1:=⟨s.length-1,om⟩;rw[a,Ie,ar h];split
 .rfl
 .rw[W0 f _ _ (by simp only[jb];omega) (bx _)]
def AbH(s:Ab)(A:s.length<=1000000):QA 414 [str s] (λr=>r=.sl 1 ((dw s).map str)):=by
 refine ai (Zt [] [] [] func414 ?_) ⟨_,rfl⟩;refine Ad (rl [4,42]) [0,3] (λm w y=>y=[]/\∃(l:Ξ) (t:Ab) (x:AV),w=[str t,x]/\(x=.own 9 1 (l.map str)\/x=.nil/\l=[])/\t.length<=m/\m<=1000000/\l.length+t.length<=s.length/\dw s=l++dw t) ⟨s.length,_,_,⟨rfl,[],s,.nil,rfl,.inr ⟨rfl,rfl⟩,bx _,A,oS,rfl⟩,hent (aa _) ?_⟩ ?_
 .simp only[PU,str];exact Gq
 .rintro m w y ⟨rfl,l,t,x,rfl,hx,F,G,H,c⟩;simp only[PU,str];by_cases f:t=[]
  .have q:dw []=[]:=rfl;subst f;rw[q,gy]at c;rw[c];rcases hx with rfl|⟨rfl,rfl⟩
   .refine Wp ?_;exact⟨_,_,dy _ _ _,rfl,aa _,rfl,rfl⟩
   .refine Wp ?_;exact CL
  have B:(t==[])=false:=by simpa using f
  have I:0<t.length:=oh.2 f;have C:=bX t [58];have D:=Qh t [58];have a:=NF t f;refine Z1 B ?_;refine ae (lI t [58] om) ?_;rintro r rfl;try simp only[num,str,Af]
  repeat' first|apply Aq.on<;>intro _|refine gD ?_|simp only[go_sem]
  generalize (cut t [58]).1=c1 at *;generalize (cut t [58]).2.1=c2 at *;refine ae (ZT c1 om) ?_;rintro r ⟨e,rfl,u,v⟩;simp only[num];have k5:HH.ek 151=some 0:=rfl;have b:∀(h:K0 c1=false\/Bi c1<0\/(c2.length:Int)<=Bi c1),dw s=l:=λh=>by rw[c,a,bn h,gy]
  cases g:K0 c1 with
  |false=>obtain⟨q1,J,rfl⟩:=v g;rw[b (.inl g)];exact YS
  |true=>
   have:=u g;subst this;by_cases j:Bi c1<0
   .have n:=bc j;rw[b (.inr (.inl j))];exact YS
   have n:=bd j;by_cases o:(c2.length:Int)<=Bi c1
   .have p:=bc o;rw[b (.inr (.inr o))];exact YS
   have p:=bd o;rw[g,ar (by rintro(h|h|h)<;>first|cases h;done|omega)]at a;obtain⟨k,E⟩:∃k:Nat,Bi c1=(k:Int):=⟨(Bi c1).toNat,om⟩;rw[E]at a j o n p⊢;have z:=wS k;have K:=jb (i:=k+1) (l:=c2);have d:List.take (c2.length-(k+1)) (List.drop (k+1) c2)=c2.drop (k+1):=Are om;simp only[pq]at a;rcases hx with rfl|⟨rfl,rfl⟩
   .refine Z6 k5 n p z d @Int.toNat_natCast ?_;refine Am (m-1) _ _ om ⟨rfl,l++[c2.take k],c2.drop (k+1),_,rfl,.inl rfl,om,om,by simp only[dc,dg,eh];omega,by rw[c,a];simp⟩ (hent (aa _) ?_);simp only[PU,str,ip,ev,db,fm];exact Gq
   .refine Z6 k5 n p z d @Int.toNat_natCast ?_;refine Am (m-1) _ _ om ⟨rfl,[]++[c2.take k],c2.drop (k+1),_,rfl,.inl rfl,om,om,by simp only[dc,dg,eh];omega,by rw[c,a];simp⟩ (hent (aa _) ?_);simp only[PU,str,ip,ev,db,fm];exact Gq
section
variable{L:List Ap}{T:List (Ab × Ab)}{b:Ab->Ab}{a:Ej}{url word:Ab}{m:Nat}
def Mq(s:Ab):AV:=.ee 419 [.elt (.agg [str s])]
def Ge(L:List Ap)(T:List (Ab×Ab))(a:Ej)(url word:Ab)(m:Nat)(s:Ab):AV:=.ee 421 [.elt (.agg [.elt (.agg (Dv L T a url word m))]),.elt (.agg [str s])]
def bY(s):QA 418 [str s] (λr=>r=Mq s):=by refine G6 [(1,[1],[])] func418 ⟨_,rfl⟩ ?_;unfold Mq;exact Ze
def AbI(s):QA 419 [.elt (.agg [str s])] (λr=>r=str s):=by refine G6 [] func419 ⟨_,rfl⟩ ?_;exact Ze
def BD(s):QA 420 [str s,.elt (.agg [.elt (.agg (Dv L T a url word m))])] (λr=>r=Ge L T a url word m s):=by refine G6 [(1,[2],[])] func420 ⟨_,rfl⟩ ?_;unfold Ge;simp only[Dv,num,str];exact Ze
def AlK(V:Gb L T b)(s:Ab)(h:s.length<=1000000)(k:Ξ):QH 421 [.elt (.agg [.elt (.agg (Dv L T a url word m))]),.elt (.agg [str s])] (K8 m b k) (λr c=>r=str (b s)/\c=K8 m b (De k s)) (λ_ _=>False):=by refine G7 [] [] [] func421 ?_;simp only[Dv,num,str];refine Zu ?_;refine Zk (R0 V s h k) ?_;exact Zx
def AfP(A:Gk a url word):QA 423 [.elt (.agg [.elt (.agg (Dv L T a url word m))])] (λr=>r=str (if a.n<=1 then[]else Rz a (a.n-1))):=by
 have c:=A.n;obtain⟨d,f⟩:=A.n;refine G6 [(2000003,[2000,2001,2,3,4,2005,6],[3007,8])] func423 ⟨_,rfl⟩ ?_;simp only[Dv,num,str];by_cases h:a.n<=1
 .have e:=bc h;rw[bn h];exact Ze
 have e:=bd h;have g:i64.wrap (a.n-1)=a.n-1:=Aw om om;rw[ar h];refine Zu ?_;refine((uC (L:=L) (T:=T) (m:=m) A (a.n-1) ⟨om,om⟩).wk ?_).mono ?_
 .try simp only[num,str,Dv]
  exact Zw
 exact Ix
def AbJ(V:Gb L T b)(A:Gk a url word)(k:Ξ):QH 425 [.elt (.agg [.elt (.agg (Dv L T a url word m))])] (K8 m b k) (λr c=>r=str (itoa (Li b a))/\c=K8 m b (De k (Eh a))) (λ_ _=>False):=by refine G7 [] [] [] func425 ?_;simp only[Dv,num,str];refine Zu ?_;refine Zk (uD V A k) ?_;refine Zh (Em (Li b a) (Fb _)) ?_;exact Zx
def AfQ(V:Gb L T b)(A:Gk a url word)(k:Ξ):QH 427 [.elt (.agg [.elt (.agg (Dv L T a url word m))])] (K8 m b k) (λr c=>r=str (if Li b a<=a.n then[]else Rz a (a.n+1))/\c=K8 m b (De k (Eh a))) (λ_ _=>False):=by
 have f:=A.n;obtain⟨g,i⟩:=A.n;have d:Db (Li b a):=Fb _;obtain⟨p1,p⟩:=d;refine G7 [] [] [(1,[],[1000,1,2,3,1004,1005],[2006],[7]),(3,[],[2000,2001,2,3,4,2005,6],[],[3007,8])] func427 ?_;simp only[Dv,num,str];refine Zu ?_;refine b7 (uD V A k) ?_ (λ_ _ h=>h.elim);rintro r c ⟨rfl,rfl⟩;simp only[num,str];by_cases h:Li b a<=a.n
 .have e:=bc h;rw[bn h];exact Ze
 have e:=bd h;have j:i64.wrap (a.n+1)=a.n+1:=Aw om om;rw[ar h];refine Zu ?_;refine Zh (uC A (a.n+1) ⟨om,om⟩) ?_;exact Zx
end
section
variable{L:List Ap}{T:List (Ab × Ab)}{b:Ab->Ab}{a:Ej}{url word:Ab}{m:Nat}
def Ns(g:Nat)(c:Φ):QA 422 [.ee g c,.elt (.agg [.elt (.agg (Dv L T a url word m))]),.elt (.agg [.raw (.func (.func 418) #[] #[])])] (λr=>r=if a.kind=3 then .ee g c else Mq []):=by
 refine G6 [] func422 ⟨_,rfl⟩ ?_;simp only[Dv,num,str];by_cases h:a.kind=3
 .have e:=bc h;rw[bn h];repeat' first|apply Aq.on<;>intro _|refine gD ?_|simp only[go_sem,e]
 have e:=bd h;rw[ar h];simp only[Mq,num,str];repeat' first|apply Aq.on<;>intro _|refine gD ?_|simp only[go_sem,e]
 refine((bY []).wk ?_).mono ?_
 .try simp only[num,str]
  exact Zw
 rintro r rfl;try simp only[Mq,num,str,Af]
 repeat' first|apply Aq.on<;>intro _|refine gD ?_|simp only[go_sem]
 try rfl
def R2(L:List Ap)(T:List (Ab×Ab))(a:Ej)(url word:Ab)(m:Nat):Φ:=[.agg [str [107,105,110,100],Mq word],.agg [str [117,114,108],Mq url],.agg [str [110,97,109,101],Mq a.name],
 .agg [str [110,117,109,98,101,114],if a.kind=3 then Mq (itoa a.n)else Mq []],
 .agg [str [112,114,101,118,105,111,117,115],if a.kind=3 then .ee 423 [.elt (.agg [.elt (.agg (Dv L T a url word m))])]else Mq []],
 .agg [str [112,97,103,101,115],if a.kind=3 then .ee 425 [.elt (.agg [.elt (.agg (Dv L T a url word m))])]else Mq []],
 .agg [str [110,101,120,116],if a.kind=3 then .ee 427 [.elt (.agg [.elt (.agg (Dv L T a url word m))])]else Mq []],
 .agg [str [99,111,117,110,116],Ge L T a url word m ([99,111,117,110,116,47]++E3 a)],.agg [str [116,111,112,105,99,115],Ge L T a url word m [116,111,112,105,99,115]],.agg [str [97,117,116,104,111,114,115],Ge L T a url word m [97,117,116,104,111,114,115]]]
def NG(A:Gk a url word):QA 413 [.elt (.agg (Dv L T a url word m))] (λr=>r=.own 425 2 (R2 L T a url word m)):=by
 refine G6 [(2000004,[22,33,34,37,38,41,42,45,51,54,1000,1001,2,3,1004,1007,1008,9,10,1011,1014,1015,16,17,18,1019,1023,1024,25,26,27,1028,1046],[3047,48,3049,50,3052,53,3055,56,3057,58]),(3000004,[],[2005,6,2012,13,2020,21,2029,2030,2031,32,2035,36,2039,40,2043,44]),(2,[1],[]),(3,[3],[])] func413 ⟨_,rfl⟩ ?_;have f:=Kn A;simp only[Dv,num,str];repeat' first|apply Aq.on<;>intro _|refine gD ?_|simp only[go_sem]
 refine((bY word).wk ?_).mono ?_
 .try simp only[Mq,Ge,Dv,num,str]
  exact Zw
 rintro r rfl;try simp only[Mq,Ge,Dv,num,str,Af]
 refine Z0 ?_;refine((bY url).wk ?_).mono ?_
 .try simp only[Mq,Ge,Dv,num,str]
  exact Zw
 rintro r rfl;try simp only[Mq,Ge,Dv,num,str,Af]
 refine Z0 ?_;refine((bY a.name).wk ?_).mono ?_
 .try simp only[Mq,Ge,Dv,num,str]
  exact Zw
 rintro r rfl;try simp only[Mq,Ge,Dv,num,str,Af]
 refine Z0 ?_;refine((Em a.n A.n).wk ?_).mono ?_
 .try simp only[Mq,Ge,Dv,num,str]
  exact Zw
 rintro r rfl;try simp only[Mq,Ge,Dv,num,str,Af]
 refine Z0 ?_;refine((bY (itoa a.n)).wk ?_).mono ?_
 .try simp only[Mq,Ge,Dv,num,str]
  exact Zw
 rintro r rfl;try simp only[Mq,Ge,Dv,num,str,Af]
 refine Z0 ?_;refine((Ns (L:=L) (T:=T) (a:=a) (url:=url) (word:=word) (m:=m) 419 [.elt (.agg [str (itoa a.n)])]).wk ?_).mono ?_
 .try simp only[Mq,Ge,Dv,num,str]
  exact Zw
 rintro r h1;obtain⟨g1,c1,rfl⟩:∃g c,r=.ee g c:=by rw[h1];split<;>exact⟨_,_,rfl⟩
 try simp only[Mq,Ge,Dv,num,str,Af]
 refine Z0 ?_;refine((Ns (L:=L) (T:=T) (a:=a) (url:=url) (word:=word) (m:=m) 423 [.elt (.agg [.elt (.agg (Dv L T a url word m))])]).wk ?_).mono ?_
 .try simp only[Mq,Ge,Dv,num,str]
  exact Zw
 rintro r h;obtain⟨g2,c2,rfl⟩:∃g c,r=.ee g c:=by rw[h];split<;>exact⟨_,_,rfl⟩
 try simp only[Mq,Ge,Dv,num,str,Af]
 refine Z0 ?_;refine((Ns (L:=L) (T:=T) (a:=a) (url:=url) (word:=word) (m:=m) 425 [.elt (.agg [.elt (.agg (Dv L T a url word m))])]).wk ?_).mono ?_
 .try simp only[Mq,Ge,Dv,num,str]
  exact Zw
 rintro r d;obtain⟨g3,i,rfl⟩:∃g c,r=.ee g c:=by rw[d];split<;>exact⟨_,_,rfl⟩
 try simp only[Mq,Ge,Dv,num,str,Af]
 refine Z0 ?_;refine((Ns (L:=L) (T:=T) (a:=a) (url:=url) (word:=word) (m:=m) 427 [.elt (.agg [.elt (.agg (Dv L T a url word m))])]).wk ?_).mono ?_
 .try simp only[Mq,Ge,Dv,num,str]
  exact Zw
 rintro r e;obtain⟨g4,j,rfl⟩:∃g c,r=.ee g c:=by rw[e];split<;>exact⟨_,_,rfl⟩
 try simp only[Mq,Ge,Dv,num,str,Af]
 refine Z0 ?_;refine((uB (L:=L) (T:=T) (a:=a) (url:=url) (word:=word) (m:=m)).wk ?_).mono ?_
 .try simp only[Mq,Ge,Dv,num,str]
  exact Zw
 rintro r rfl;try simp only[Mq,Ge,Dv,num,str,Af]
 refine Z0 ?_;refine((BD (L:=L) (T:=T) (a:=a) (url:=url) (word:=word) (m:=m) ([99,111,117,110,116,47]++E3 a)).wk ?_).mono ?_
 .try simp only[Mq,Ge,Dv,num,str]
  exact Zw
 rintro r rfl;try simp only[Mq,Ge,Dv,num,str,Af]
 refine Z0 ?_;refine((BD (L:=L) (T:=T) (a:=a) (url:=url) (word:=word) (m:=m) [116,111,112,105,99,115]).wk ?_).mono ?_
 .try simp only[Mq,Ge,Dv,num,str]
  exact Zw
 rintro r rfl;try simp only[Mq,Ge,Dv,num,str,Af]
 refine Z0 ?_;refine((BD (L:=L) (T:=T) (a:=a) (url:=url) (word:=word) (m:=m) [97,117,116,104,111,114,115]).wk ?_).mono ?_
 .try simp only[Mq,Ge,Dv,num,str]
  exact Zw
 rintro r rfl;try simp only[Mq,Ge,Dv,num,str,Af]
 refine Z0 ?_;simp only[Mq,Ge,Dv,num,str]at h1 h d e;rw[h1,h,d,e];simp only[R2,Mq,Ge,Dv,num,str];rfl
def BE(A:Gk a url word):QA 413 [.elt (.agg (Dv L T a url word m))] (λr=>r=.sl 2 (R2 L T a url word m)):=by refine(NG A).lf ?_;rintro r rfl;exact⟨_,dy _ _ _,rfl,rfl⟩
end
def NH(l:Ξ)(v)(o:l.length<=9223372036854775807):QA 205 [.sl 1 (l.map str),str v] (λr=>∃i:Int,r=num i/\(i= -1/\v∉l\/∃j:Nat,i=j/\l[j]? =some v)):=by
 refine Zs [] func205 (by
  by_cases h:v∈l
  .obtain⟨j,f⟩:=List.mem_iff_getElem?.1 h;exact⟨_,_,rfl,.inr ⟨j,rfl,f⟩⟩
  .exact⟨_,-1,rfl,.inl ⟨rfl,h⟩⟩) ?_
 refine Ak (rl [5,1,2,11]) [8] (λn y=>∃(j:Nat),j<=l.length/\j+n=l.length/\v∉l.take j/\y=[num j]) ⟨l.length,_,⟨0,om,om,oS,rfl⟩,?_⟩ ?_
 .exact Zw
 .rintro n y ⟨j,g,p,b,rfl⟩;simp only[PU];rcases cq j l.length with c|hge
  .have e:=eT j l.length;obtain⟨x,d,q⟩:=Bj c;have k:=Cd d;have s:=wS j;by_cases a:v=x
   .have m:(v==x)=true:=by simp[a]
    refine Zu ?_;exact⟨_,rfl,.inr ⟨j,rfl,a▸d⟩⟩
   .have m:(v==x)=false:=by simp[a]
    refine Zu ?_;refine Av (n-1) [num ((j+1:Nat):Int)] om ⟨j+1,om,om,?_,rfl⟩ ?_
    .rw[fc,d];simp only[oe,ff,ga,not_or];exact⟨b,a⟩
    .exact Zw
  .have e:=eU j l.length;rw[Are hge]at b;refine Z1 e ?_;exact⟨_,rfl,.inl ⟨rfl,b⟩⟩
def uE:Ξ:=[[107,105,110,100],[117,114,108],[110,97,109,101],[110,117,109,98,101,114],[112,114,101,118,105,111,117,115],[112,97,103,101,115],[110,101,120,116],[99,111,117,110,116],[116,111,112,105,99,115],[97,117,116,104,111,114,115]]
def Uf:Ξ:=[[108,97,110,103],[116,105,116,108,101],[97,117,116,104,111,114],[116,111,112,105,99,115],[116,101,120,116],[99,111,114,114,101,99,116,105,111,110,115],[114,101,116,114,97,99,116,101,100],[108,97,110,103,117,97,103,101,115]]
def Jn(v:Ab->Ab)(a:Ej)(url word n:Ab)(k:Ξ):Option Ab×List Ab:=
 if n=[107,105,110,100]then(some (word),k)else
 if n=[117,114,108]then(some (url),k)else
 if n=[110,97,109,101]then(some (a.name),k)else
 if n=[110,117,109,98,101,114]then(some (if a.kind=3 then itoa a.n else[]),k)else
 if n=[112,114,101,118,105,111,117,115]then(some (if a.kind=3 then(if a.n<=1 then[]else Rz a (a.n-1))else[]),k)else
 if n=[112,97,103,101,115]then(some (if a.kind=3 then itoa (Li v a)else[]),if a.kind=3 then De k (Eh a)else k)else
 if n=[110,101,120,116]then(some (if a.kind=3 then(if Li v a<=a.n then[]else Rz a (a.n+1))else[]),if a.kind=3 then De k (Eh a)else k)else
 if n=[99,111,117,110,116]then(some (v (99::111::117::110::116::47::E3 a)),De k (99::111::117::110::116::47::E3 a))else
 if n=[116,111,112,105,99,115]then(some (v [116,111,112,105,99,115]),De k [116,111,112,105,99,115])else
 if n=[97,117,116,104,111,114,115]then(some (v [97,117,116,104,111,114,115]),De k [97,117,116,104,111,114,115])else
 (none,k)
def Pn(a:Ej)(i:Int):Ab:=[115,116,111,114,121,47]++itoa i++[47]++a.lang
def Ug(v:Ab->Ab)(a:Ej)(i:Int)(n:Ab):Option Ab:=
 if(dw (v (Pn a i))).length=8 then
  (if n=[105,100]then some (itoa i)
  else if n=[117,114,108]then some ([47,115,116,111,114,121,47]++itoa i++[47]++(dw (v (Pn a i))).getD 0 [])
  else if n=[98,111,100,121]then some (cut ((dw (v (Pn a i))).getD 4 []) [10]).2.1
  else if n∈Uf then some ((dw (v (Pn a i))).getD (Uf.idxOf n) [])else none)
 else none
def Gl(v:Ab->Ab)(a:Ej)(url word:Ab)(i:Int)(n:Ab)(k:Ξ):Option Ab×List Ab:=
 if i=0 then Jn v a url word n k else(Ug v a i n,De k (Pn a i))
def AbK{n j}(h:Uf[j]? =some n):j<8/\n∈Uf/\Uf.idxOf n=j:=by
 have a:j<8:=by have:=(ab.1 h).1;exact this
 refine⟨a,cu h,?_⟩;rcases(show j=0\/j=1\/j=2\/j=3\/j=4\/j=5\/j=6\/j=7 by omega)with rfl|rfl|rfl|rfl|rfl|rfl|rfl|rfl<;>(injection h with h;subst h;decide)
def BF(p:Ξ)(i:Nat)(h:i<p.length):(p.map str).getD i .any=str (p.getD i []):=by simp[fk,h]
section
variable{L:List Ap}{T:List (Ab × Ab)}{b:Ab->Ab}{a:Ej}{url word:Ab}{m:Nat}
def AoF(V:Gb L T b)(A:Gk a url word)(c){i:Nat}{n:Ab}(h:uE[i]? =some n):∃g j,(R2 L T a url word m).getD i .any=.agg [str n,.ee g j]/\QH g j (K8 m b c) (λr d=>∃v k,Gl b a url word 0 n c=(some v,k)/\r=str v/\d=K8 m b k) (λ_ _=>False):=by
 have l:=Kn A;have o:=(ab.1 h).1;have G {g:Nat} {j:Φ} {v:Ab} {k:Ξ} {n:Ab} (h:QH g j (K8 m b c) (λr d=>r=str v/\d=K8 m b k) λ_ _=>False) (e:Gl b a url word 0 n c=(some v,k)):QH g j (K8 m b c) (λr d=>∃v k,Gl b a url word 0 n c=(some v,k)/\r=str v/\d=K8 m b k) (λ_ _=>False):=h.mono (λ_ _ h=>⟨v,k,e,h⟩) λ_ _ h=>h;have N (s:Ab):QH 419 [.elt (.agg [str s])] (K8 m b c) (λr d=>r=str s/\d=K8 m b c) (λ_ _=>False):=ae (AbI s) λ_ e=>⟨e,rfl⟩;have Q (s:Ab) (h:s.length<=1000000):=AlK (m:=m) (url:=url) (word:=word) (a:=a) V s h c;rcases(show i=0\/i=1\/i=2\/i=3\/i=4\/i=5\/i=6\/i=7\/i=8\/i=9 by have:uE.length=10:=rfl;omega)with rfl|rfl|rfl|rfl|rfl|rfl|rfl|rfl|rfl|rfl<;>injection h with h<;>subst h
 case inr.inr.inr.inr.inr.inr.inr.inl=>exact⟨_,_,rfl,G (Q _ (by simp only[dc,dg,eh];omega)) rfl⟩
 case inr.inr.inr.inr.inr.inr.inr.inr.inl=>exact⟨_,_,rfl,G (Q _ oD) rfl⟩
 case inr.inr.inr.inr.inr.inr.inr.inr.inr=>exact⟨_,_,rfl,G (Q _ oD) rfl⟩
 case inl=>exact⟨_,_,rfl,G (N _) rfl⟩
 case inr.inl=>exact⟨_,_,rfl,G (N _) rfl⟩
 case inr.inr.inl=>exact⟨_,_,rfl,G (N _) rfl⟩
 all_goals by_cases f:a.kind=3
 all_goals try exact⟨_,_,by simp only[R2,ar f];rfl,G (N _) (by simp[Gl,Jn,f])⟩
 all_goals refine⟨_,_,by simp only[R2,bn f];rfl,?_⟩
 .exact G (N _) (by simp[Gl,Jn,f])
 .exact G (ae (AfP A) λ_ e=>⟨e,rfl⟩) (by simp[Gl,Jn,f])
 .exact G (AbJ V A c) (by simp[Gl,Jn,f])
 .exact G (AfQ V A c) (by simp[Gl,Jn,f])
def AbL(V:Gb L T b)(A:Gk a url word)(f:Int)(c:Ab)(o)(x:Db f)(hnl:c.length<=900000):QH 409 [.elt (.agg (Dv L T a url word m)),num f,str c] (K8 m b o) (λr w=>r=.a6 [str ((Gl b a url word f c o).1.getD []),Af (Gl b a url word f c o).1.isSome]/\w=K8 m b (Gl b a url word f c o).2) (λ_ _=>False):=by
 refine G7 [] [] [] func409 ?_;have htl:=Kn A;have C:=A.lang;simp only[Dv,num,str];have l:(R2 L T a url word m).length=10:=rfl;by_cases D:f=0
 .subst D;refine Zu ?_;refine ae (BE A) ?_;rintro r rfl;repeat' first|apply Aq.on<;>intro _|refine gD ?_|simp only[go_sem,l]
  refine Ad (rl [9,1,12,12]) [22] (λE R w=>w=K8 m b o/\∃i,i+E=10/\R=[num i]/\c∉uE.take i) ⟨10,_,_,⟨rfl,0,om,rfl,oS⟩,hent (aa _) ?_⟩ ?_
  .exact Zw
  .rintro E R w ⟨rfl,i,z,rfl,F⟩;simp only[PU];rcases cq i 10 with S|S
   .have B:=bc (show(i:Int)<((10:Nat):Int) by omega);have U:=wS i;obtain⟨n,W⟩:∃n,uE[i]? =some n:=⟨_,ac S⟩;obtain⟨g,cs,q,hc⟩:=AoF (m:=m) V A o W;simp only[str]at q;by_cases G:n=c
    .subst G;have H:(n==n)=true:=oS;repeat' first|apply Aq.on<;>intro _|refine gD ?_|simp only[go_sem,B,q,l,H,U]
     refine b7 hc ?_ (λ_ _ h=>h.elim);rintro r w ⟨v,k,I,rfl,rfl⟩;simp only[str];rw[I];exact Ze
    have H:(n==c)=false:=by simpa using G
    repeat' first|apply Aq.on<;>intro _|refine gD ?_|simp only[go_sem,B,q,l,H,U]
    refine Am (E-1) _ _ om ⟨rfl,i+1,om,rfl,?_⟩ (hent (aa _) ?_)
    .rw[fc,W];simp only[oe,ff,ga,not_or];exact⟨F,λh=>G h.symm⟩
    .exact Zw
   .have B:=bd (show¬(i:Int)<((10:Nat):Int) by omega);obtain rfl:i=10:=om;simp only[uE,qv,gx,e9,lv,or_false,not_or]at F;have I:Gl b a url word 0 c o=(none,o):=by simp[Gl,Jn,F]
    repeat' first|apply Aq.on<;>intro _|refine gD ?_|simp only[go_sem,B,l]
    rw[I];exact Zx
 have J:=Ei f x;have e:=bd D;have K:Gl b a url word f c o=(Ug b a f c,De o (115::116::111::114::121::47::(itoa f++[47]++a.lang))):=by rw[Gl,ar D];rfl
 refine Z2 e l ?_;refine ae (Em f x) ?_;rintro r rfl;try simp only[num,str,Af]
 repeat' first|apply Aq.on<;>intro _|refine gD ?_|simp only[go_sem,C,J,dc]
 repeat (refine gO ?_)
 repeat' first|apply Aq.on<;>intro _|refine gD ?_|simp only[go_sem,l]
 refine b7 (R0 V (115::116::111::114::121::47::(itoa f++[47]++a.lang)) (by simp only[dc,dg,eh];omega) o) ?_ (λ_ _ h=>h.elim);rintro r w ⟨rfl,rfl⟩;simp only[num,str];repeat' first|apply Aq.on<;>intro _|refine gD ?_|simp only[go_sem,l]
 refine ae (AbH (b (115::116::111::114::121::47::(itoa f++[47]++a.lang))) (V.len _)) ?_;rintro r rfl;have y:∀p∈dw (b (115::116::111::114::121::47::(itoa f++[47]++a.lang))),p.length<=900000:=λp hp=>cp (R1 _ _ p hp) (V.len' _)
 have d:Ug b a f c=if(dw (b (115::116::111::114::121::47::(itoa f++[47]++a.lang)))).length=8 then
  (if c=[105,100]then some (itoa f)
  else if c=[117,114,108]then some ([47,115,116,111,114,121,47]++itoa f++[47]++(dw (b (115::116::111::114::121::47::(itoa f++[47]++a.lang)))).getD 0 [])
  else if c=[98,111,100,121]then some (cut ((dw (b (115::116::111::114::121::47::(itoa f++[47]++a.lang)))).getD 4 []) [10]).2.1
  else if c∈Uf then some ((dw (b (115::116::111::114::121::47::(itoa f++[47]++a.lang)))).getD (Uf.idxOf c) [])else none)
  else none:=rfl
 rw[K];generalize dw (b (115::116::111::114::121::47::(itoa f++[47]++a.lang)))=ps at *;by_cases X:ps.length=8;rotate_left
 .have Y:=bd (show¬((ps.length:Int)=8) by omega);rw[ar X]at d;rw[d];exact Ze
 have Y:=bc (show((ps.length:Int)=8) by omega);rw[bn X]at d;have hp0:=BF ps 0 om;have M:=BF ps 4 om
 have hb0:(ps.getD 0 []).length<=900000:=by
  have N:ps.getD 0 []∈ps:=by rw[fk,ac om];exact ko _
  exact y _ N
 have hb4:(ps.getD 4 []).length<=900000:=by
  have N:ps.getD 4 []∈ps:=by rw[fk,ac om];exact ko _
  exact y _ N
 simp only[str]at hp0 M;have q0:=bc (show 0<ps.length by omega);have q1:=bc (show(0:Int)<(ps.length:Int) by omega);have q4:=bc (show 4<ps.length by omega);have q5:=bc (show(4:Int)<(ps.length:Int) by omega);by_cases s:c=[105,100]
 .subst s;have Z:(([105,100]:Ab)==[105,100])=true:=oD;rw[d];exact Ze
 have Z:(c==[105,100])=false:=by simpa using s
 rw[ar s]at d;by_cases t:c=[117,114,108]
 .subst t;have n2:(([117,114,108]:Ab)==[117,114,108])=true:=oD;rw[d];refine Zu ?_;try simp only[ir,fj,fm]
  exact Zx
 have n2:(c==[117,114,108])=false:=by simpa using t
 rw[ar t]at d;by_cases u:c=[98,111,100,121]
 .subst u;have n3:(([98,111,100,121]:Ab)==[98,111,100,121])=true:=oD;rw[d];refine Zu ?_;refine Zh (lI (ps.getD 4 []) [10] om) ?_;exact Zx
 have n3:(c==[98,111,100,121])=false:=by simpa using u
 rw[ar u]at d;refine Z4 Y Z n2 n3 ?_;refine HC.wk (ae (NH Uf c oD) ?_) ?_;rotate_left
 .simp only[Uf,ev,db,num,str];exact Zw
 rintro r ⟨i,rfl,z⟩;simp only[num];rcases z with⟨rfl,z⟩|⟨j,rfl,hj⟩
 .rw[ar z]at d;rw[d];have gm:=bd (show¬(0:Int)<= -1 by decide);exact Ze
 obtain⟨hj8,O,P⟩:=AbK hj;rw[bn O,P]at d;rw[d];have Q:=BF ps j om;simp only[str]at Q;have g1:=bc (show(0:Int)<=(j:Int) by omega);have g2:=eT j ps.length;have g3:=bc (show j<ps.length by omega);exact Ze
end
def R3(s:Ab)(a:Ab):Ξ:=splitK a 0 (countB (Bo s) (Bo a)) s
def bZ(s a:Ab)(h1:1<=a.length):(R3 s a).length<=s.length+1:=by
 have b:(Bo s).size=s.length:=by simp[Bo,ByteArray.size]
 have h:(Bo a).size=a.length:=by simp[Bo,ByteArray.size]
 have c:=countB_le (Bo a) om _ (Bo s) (bx _);have d:=Rw a (countB (Bo s) (Bo a)) s;unfold R3;omega
def AbM(s a:Ab)(H:s.length<=1000000)(h1:1<=a.length):QA 417 [str s,str a] (λr=>r=.own 9 1 ((R3 s a).map str)):=by
 refine⟨⟨_,_,func417,rfl,oD⟩,⟨_,rfl⟩,λw S I c hz t J=> ?_⟩;obtain⟨v,rfl,j⟩:=Bz t;obtain⟨v,rfl,k⟩:=Bz j;obtain⟨rfl,_⟩:=k.zero;obtain⟨z,m,A⟩:=hz.g _ lH;have B:(Bo s).size=s.length:=by simp[Bo,ByteArray.size]
 have q:(Bo a).size=a.length:=by simp[Bo,ByteArray.size]
 refine(Tryz.strings_Split (Bo s) (Bo a) m w om A om).mono ?_;rintro e K ⟨rfl,rfl⟩;have h:=splitB_all (Bo a) om 0 _ (Bo s) rfl;have C:=countB_le (Bo a) om _ (Bo s) (bx _);have d:=splitB_data (Bo a) 0 (countB (Bo s) (Bo a)) (Bo s);rw[Bm,Bm]at d;unfold R3;rw[<-d];generalize D:splitB (Bo a) 0 (countB (Bo s) (Bo a)) (Bo s)=ys at *;rw[<-h];have L:=Wh;rw[<-cellsOf_full ys];have M:ys.length<=4294967282:=om;have O:ys.length<=ys.length:=bx _;have n:∃N,N=ys.length:=⟨_,rfl⟩;obtain⟨N,o⟩:=n;rw[show Lib.cellsOf ys ys.length=Lib.cellsOf ys N from by rw[o]];have E:ys.length<=N:=om;have hlen:((ys.map (·.data.toList)).map str).length=ys.length:=oS;have hb:=Below.alloc (Below.refl w.heap.size w) (bx _) (.cells (Lib.cellsOf ys N) 9);have F:S w.heap.size=0:=hz _ (bx _);have f:Stp w S c (w.alloc (.cells (Lib.cellsOf ys N) 9)) (upd S w.heap.size ys.length) (λb=>if b=w.heap.size then 1 else 0)/\Sz (w.alloc (.cells (Lib.cellsOf ys N) 9)) (upd S w.heap.size ys.length):=by exact ϸ
 refine⟨_,_,_,_,rfl,rfl,rfl,?_,λb=>by split<;>omega,f.2,f.1⟩;rw[<-hlen];have hlist:(Lib.cellsOf ys N).toList=(ys.map Value.string)++List.replicate (N-ys.length) (Value.string ByteArray.empty):=rfl;have i:(Lib.cellsOf ys N).toList.take (((ys.map (·.data.toList)).map str).length*1)=(ys.map (·.data.toList)).map λl=>Value.string (Bo l):=by exact Ag9
 refine Ac.own (c0:=λ_=>0) (c2:=λ_=>0) (cur:=Lib.cellsOf ys N) (by rw[hlen];omega) (by unfold maxLen;omega) (λx hx=> ?_) (by show(w.heap.push _)[w.heap.size]? =_;simp) (by rw[cellsOf_size om,md];omega) (by rw[hlen];simp[upd]) ?_ Al ?_ (.nil Al) (λx=>rfl)
 .obtain⟨y,_,rfl⟩:=dm.1 hx;rfl
 .rw[i,P4];exact Zy _
 .rw[i];intro u G;obtain⟨y,_,rfl⟩:=dm.1 G;rfl
def Uh(v:Ab->Ab)(a:Ej)(i:Int)(n arg:Ab)(c:Int)(k:Ξ):List Int×List Ab:=
 if Bn a i n arg c=[]then([],k)
 else(if(cut (v (Bn a i n arg c)) [32,111,102,32]).1=[]then[]else(R3 (cut (v (Bn a i n arg c)) [32,111,102,32]).1 [44]).map Bi,De k (Bn a i n arg c))
section
variable{L:List Ap}{T:List (Ab × Ab)}{b:Ab->Ab}{a:Ej}{e d:Ab}{m:Nat}
def AfR(V:Gb L T b)(A:Gk a e d)(f:Int)(name arg:Ab)(c:Int)(k)(j:Db f)(D:name.length<=900000)(l:arg.length<=900000)(z:Db c):QH 411 [.elt (.agg (Dv L T a e d m)),num f,str name,str arg,num c] (K8 m b k) (λr q=>r=.sl 1 (Ar (Uh b a f name arg c k).1)/\q=K8 m b (Uh b a f name arg c k).2) (λ_ _=>False):=by
 refine G7 [] [] [] func411 ?_;have u:=mX A f name arg c j z l;have n:Uh b a f name arg c k=_:=rfl
 conv at n=>rhs;unfold Uh
 simp only[Dv,num,str];refine Z0 ?_;refine ae (BC (L:=L) (T:=T) (m:=m) A f name arg c j z l) ?_;rintro r rfl;rw[n];generalize Bn a f name arg c=key at *;simp only[num,str];by_cases s:key=[]
 .have ek:(key==[])=true:=by simpa using s
  rw[bn s];refine Zu ?_;exact CL
 have ek:(key==[])=false:=by simpa using s
 rw[ar s];refine Zu ?_;refine Zk (R0 V key u k) ?_;refine ae (lI (b key) [32,111,102,32] (cp (V.len _) om)) ?_;rintro r rfl;have o:(cut (b key) [32,111,102,32]).1.length<=1000000:=cp (bX _ _) (V.len _);generalize (cut (b key) [32,111,102,32]).1=s1 at *;simp only[num,str,Af];by_cases h1:s1=[]
 .have e1:(s1==[])=true:=by simpa using h1
  rw[bn h1];refine Zu ?_;exact CL
 have e1:(s1==[])=false:=by simpa using h1
 rw[ar h1];refine Zu ?_;refine ae (AbM s1 [44] o oD) ?_;rintro r rfl;have E:=bZ s1 [44] oD;have h:∀p∈R3 s1 [44],p.length<=1000000:=λp F=>cp (Nb _ _ _ p F) o;generalize R3 s1 [44]=ps at *;refine Zu ?_;refine Ad (rl [17,3,22,13]) [15,41] (λt B q=>q=K8 m b (De k key)/\∃i x,i+t=ps.length/\B=[x,num i]/\(i=0/\x=.nil\/x=.own 3 1 (Ar ((ps.take i).map Bi)))) ⟨ps.length,_,_,⟨rfl,0,.nil,om,rfl,.inl ⟨rfl,rfl⟩⟩,hent (aa _) ?_⟩ ?_
 .exact Zw
 .rintro t B q ⟨rfl,i,x,M,rfl,v⟩;simp only[PU];by_cases g:i<ps.length;rotate_left
  .have C:=bd (show¬((i:Int)<(ps.length:Int)) by omega);rw[Are om]at v;rcases v with⟨rfl,rfl⟩|rfl
   .have G:ps=[]:=kq om;have w:=bd (show¬((0:Int)<(ps.length:Int)) by omega);have y:ps.map Bi=[]:=by rw[G];rfl
    rw[y];refine Z2 C w ?_;exact CL
   .refine Zu ?_;exact⟨_,_,dy _ _ _,rfl,aa _,rfl,rfl⟩
  have C:=bc (show((i:Int)<(ps.length:Int)) by omega);have H:=bc g;have I:(ps.map str).getD i .any=str ps[i]:=by simp[fk,g]
  have J:ps[i].length<=1000000:=h _ (ko _);have N:=wS i;have htk:(ps.take (i+1)).map Bi=(ps.take i).map Bi++[Bi ps[i]]:=by rw[nk g,ip];rfl
  have K:(ps.take i).length<=1000001:=by rw[fw];omega
  simp only[str]at I;rcases v with⟨rfl,rfl⟩|rfl
  .refine Zu ?_;refine Zh (P6 ps[0] (h _ (ko _))) ?_;refine Am (t-1) _ _ om ⟨rfl,0+1,_,om,rfl,.inr rfl⟩ (hent (aa _) ?_);exact Ahs
  .refine Zu ?_;refine Zh (P6 ps[i] (h _ (ko _))) ?_;refine Am (t-1) _ _ om ⟨rfl,i+1,_,om,rfl,.inr rfl⟩ (hent (aa _) ?_);exact Ahs
end
end Go.Proofs.YtobhohikfmlccaaGreatDoor
