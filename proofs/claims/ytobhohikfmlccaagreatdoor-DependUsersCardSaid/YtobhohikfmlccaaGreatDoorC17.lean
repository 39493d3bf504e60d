/- Small predicates of the lexers. -/
import Derived.Shelf.Utf8.RuneCount
import Derived.Shelf.Strings.SplitShaped
import Derived.Shelf.Unicode.Decode
import Derived.Shelf.Strings.RuneCount
import Derived.Shelf.Strings.Explode
import Derived.Shelf.Unicode.DecodeLast
import Derived.Shelf.SlSortCmp.Insertion
import Derived.Shelf.SlSortCmp.SiftDown1
import Derived.Shelf.SlSortCmp.HeapSort1
import Derived.Shelf.SlSortCmp.Insertion1
import Derived.Shelf.SlSortCmp.Median1
import Derived.Shelf.SlSortCmp.Pivot1
import Derived.Shelf.SlSortCmp.ReverseRange1
import Derived.Shelf.SlSortCmp.PartialInsertion1
import Derived.Shelf.SlSortCmp.PartitionEqual1
import Derived.Shelf.SlSortCmp.Partition1
import Derived.Shelf.SlSortCmp.Pdq1
import Derived.Shelf.SlSortCmp.Whole1
import Derived.Test.YtobhohikfmlccaaGreatDoorC16
set_option linter.all false
set_option maxRecDepth 100000
set_option maxHeartbeats 4000000
open Go.RowKit Go.Proofs Go.Shelf Go.Sort Go.Lib Tryz Go.IntKind Go.Region
namespace Go.Proofs.YtobhohikfmlccaaGreatDoor
namespace Lx
def u8(x:Int):AV:=.raw (.int .u8 x)
def mY(x:Int):Bool:=decide (97<=x)&&decide (x<=122)
def Po(x:Int):Bool:=decide (48<=x)&&decide (x<=57)
def NI(x:Int):Bool:=decide (32<=x)&&decide (x<=126)
def OC(x:Int):Bool:=mY x||Po x||decide (x=45)
def W8(x:Int):Bool:=NI x&& !decide (x=34)
def kv{b}(h:b=false):AV.raw (.bool false)=Af b:=by rw[h];rfl
def m0{b}(h:b=true):AV.raw (.bool true)=Af b:=by rw[h];rfl
def gr{a b:Bool}(h:a=b):AV.raw (.bool a)=Af b:=by rw[h];rfl
def W2(x):QA 348 [u8 x] (λr=>r=Af (NI x)):=by
 refine G6 [] func348 ⟨_,rfl⟩ ?_;simp only[go_sem,u8];repeat' first|apply Aq.on<;>intro _|refine gD ?_|simp only[go_sem]
 all_goals (refine gr ?_;simp[NI, *])
def uF(x):QA 349 [u8 x] (λr=>r=Af (mY x)):=by
 refine G6 [] func349 ⟨_,rfl⟩ ?_;simp only[go_sem,u8];repeat' first|apply Aq.on<;>intro _|refine gD ?_|simp only[go_sem]
 all_goals (refine gr ?_;simp[mY, *])
def mZ(x):QA 352 [u8 x] (λr=>r=Af (Po x)):=by
 refine G6 [] func352 ⟨_,rfl⟩ ?_;simp only[go_sem,u8];repeat' first|apply Aq.on<;>intro _|refine gD ?_|simp only[go_sem]
 all_goals (refine gr ?_;simp[Po, *])
def AfS(x):QA 351 [u8 x] (λr=>r=Af (OC x)):=by
 refine G6 [] func351 ⟨_,rfl⟩ ?_;simp only[go_sem,u8];repeat' first|apply Aq.on<;>intro _|refine gD ?_|simp only[go_sem]
 refine(uF x).mono ?_;rintro r rfl;simp only[Af];cases h1:mY x
 .repeat' first|apply Aq.on<;>intro _|refine gD ?_|simp only[go_sem]
  refine(mZ x).mono ?_;rintro r rfl;simp only[Af];cases h2:Po x
  .exact Ahd
  .exact Ahd
 .repeat' first|apply Aq.on<;>intro _|refine gD ?_|simp only[go_sem]
  refine gr ?_;simp[OC,h1]
def AfT(x):QA 353 [u8 x] (λr=>r=Af (W8 x)):=by
 refine G6 [] func353 ⟨_,rfl⟩ ?_;simp only[go_sem,u8];repeat' first|apply Aq.on<;>intro _|refine gD ?_|simp only[go_sem]
 refine(W2 x).mono ?_;rintro r rfl;simp only[Af];cases h1:NI x
 .exact Ahh
 .exact Ahh
def Jo(p:Int->Bool):Ϟ->Nat
 |[]=>0
 |c::r=>if p (c.toNat:Int)then Jo p r+1 else 0
def v_(s:Ϟ)(i g:Nat)(p:Int->Bool)(e:∀x,QA g [u8 x] (λr=>r=Af (p x)))(f:i<=s.length)(t:s.length<=1000000):QA 350 [str s,num i,.raw (.func (.func g) #[] #[])] (λr=>r=num ((i+Jo p (s.drop i):Nat):Int)):=by
 refine G6 [] func350 ⟨_,rfl⟩ ?_;simp only[go_sem,str,num];refine Ak (rl [1,1,5,14]) [1] (λn b=>∃j:Nat,i<=j/\j<=s.length/\j+n=s.length/\b=[num j]/\i+Jo p (s.drop i)=j+Jo p (s.drop j)) ⟨s.length-i,_,⟨i,om,f,om,rfl,rfl⟩,?_⟩ ?_
 .exact Zw
 .rintro n b ⟨j,k,l,u,rfl,a⟩;simp only[PU];simp only[go_sem];repeat' first|apply Aq.on<;>intro _|refine gD ?_|simp only[go_sem]
  .rename_i m;have h:j<s.length:=om;have o:=wS j;have c:s.drop j=s.getD j 0::s.drop (j+1):=by rw[j0 h];simp[h]
   refine(e _).mono ?_;rintro r rfl;simp only[Af];cases d:p ((s.getD j 0).toNat:Int)
   .repeat' first|apply Aq.on<;>intro _|refine gD ?_|simp only[go_sem]
    have:Jo p (s.drop j)=0:=by rw[c,Jo,d];rfl
    rw[a,this];rfl
   .refine Z1 o ?_;refine Av (n-1) [num ((j+1:Nat):Int)] om ⟨j+1,om,om,om,rfl,?_⟩ ?_
    .rw[a,c,Jo,d];simp only[if_true];omega
    .exact Zw
  .rename_i q;have:s.drop j=[]:=by simp;omega
   rw[a,this];rfl
end Lx
namespace Lx
def uG(s p:Ϟ)(a:s.length<=1000000)(b:p.length<=1000000):QA 71 [str s,str p] (λr=>r=Af (decide (p.length<=s.length)&&(s.take p.length==p))):=by
 refine G6 [] func71 ⟨_,rfl⟩ ?_;simp only[go_sem,str];repeat' first|apply Aq.on<;>intro _|refine gD ?_|simp only[go_sem]
 .refine gr ?_;rename_i h;have:p.length<=s.length:=om;simp[this]
 .refine gr ?_;rename_i h;have:¬p.length<=s.length:=om;simp[this]
def uH(s p:Ϟ)(h:s.length<=1000000)(a:p.length<=1000000):QA 31 [str s,str p] (λr=>r=Af (decide (p.length<=s.length)&&(s.take p.length==p))):=by
 refine G6 [] func31 ⟨_,rfl⟩ ?_;simp only[go_sem,str];repeat' first|apply Aq.on<;>intro _|refine gD ?_|simp only[go_sem]
 refine(uG s p h a).mono ?_;rintro r rfl;simp only[Af];exact BR
def lb(c:UInt8):Bool:=decide (((c.toNat:Nat):Int)=123)
def BG{c}:lb c=true↔c=123:=by
 simp only[lb,i6];constructor
 .intro h;have:c.toNat=123:=om;exact UInt8.toNat_inj.1 this
 .rintro rfl;rfl
def Xf:Ϟ->Bool
 |[]=>false
 |[c]=>lb c
 |c::d::_=>lb c&& !lb d
def Ig{s:Ϟ}{i:Nat}(h:i<s.length):∃c,s.getD i 0=c/\s.drop i=c::s.drop (i+1):=⟨_,rfl,by rw[j0 h];simp[h]⟩
def AlL(c r)(h:lb c=true):(!(decide (2<=(c::r).length)&&((c::r).take 2==[123,123])))=Xf (c::r):=by
 have a:=BG.1 h;subst a
 cases r with
 |nil=>simp[Xf,h]
 |cons d r=>
  simp only[Xf,h,ph]
  cases hd2:lb d with
  |true=>rw[BG.1 hd2];simp
  |false=>
   have:d≠123:=λe=>by rw[BG.2 e]at hd2;cases hd2
   simp[this]
def AoG{c r}(h:lb c=false):Xf (c::r)=false:=by cases r<;>simp[Xf,h]
def GA(s:Ϟ)(i)(e:i<s.length)(f:s.length<=1000000):QA 296 [str s,num i] (λr=>r=Af (Xf (s.drop i))):=by
 refine G6 [] func296 ⟨_,rfl⟩ ?_;simp only[go_sem,str,num];have e1:(s.drop i).take (s.length-i)=s.drop i:=Are oS;obtain⟨c,a,d⟩:=Ig e;repeat' first|apply Aq.on<;>intro _|refine gD ?_|simp only[go_sem,e1,a]
 .rename_i h;have b:lb c=true:=by simp only[lb,i6];first|exact h|(rw[<-a];exact h)
  refine(uH (s.drop i) [123,123] (by simp;omega) oD).mono ?_;rintro r rfl;have k:=AlL c (s.drop (i+1)) b;rw[<-d]at k;simp only[Af,dg,eh,jp,Nat.reduceAdd];repeat' first|apply Aq.on<;>intro _|refine gD ?_|simp only[go_sem,k]
 .rename_i h;have b:lb c=false:=by simp only[lb,decide_eq_false_iff_not];first|exact h|(rw[<-a];exact h)
  refine kv ?_;rw[d];exact AoG b
end Lx
namespace Lx
def g0(k:Int)(t:Ϟ)(a:Int):AV:=.agg [num k,str t,num a]
section
variable{T:Br}{K:AV->Prop}
def t6(o:Γ)(T:Br):Prop:=match o with
 |some e=>(match T e with
  |some j=>j.td.ik=some .u8
  |none=>False)
 |none=>False
def ow(o:Option TI):Prop:=match o with
 |some j=>j.td.ik=some .u8
 |none=>False
theorem j3(e):t6 (some e) T=ow (T e):=(rfl)
theorem jc(j:TI):ow (some j)=(j.td.ik=some .u8):=(rfl)
def im(s d:TI)(e:Nat)(l:Ϟ):J2 T s d (.own e 1 (Aj l)) K=(d.td.str=true/\t6 s.td.elem T/\K (.raw (.string ⟨l.toArray⟩))):=by exact AgH
end
def gc(l:Ϟ):(Aj l).length=l.length:=by simp[Aj]
attribute [go_sem] j3 jc im Ea gc
def V1(c:UInt8):Bool:= !decide (((c.toNat:Nat):Int)=10)&& !NI (c.toNat:Int)
def dl:Ϟ->List UInt8×Nat×Bool
 |[]=>([],0,false)
 |[c]=>if lb c then([],0,false)else if V1 c then([],0,true)else([c],1,false)
 |c::d::r=>
  if lb c&& !lb d then([],0,false)else if V1 c then([],0,true)
  else if lb c then(c::(dl r).1,(dl r).2.1+2,(dl r).2.2)
  else(c::(dl (d::r)).1,(dl (d::r)).2.1+1,(dl (d::r)).2.2)
def uI{u}(h:Xf u=true):dl u=([],0,false):=by
 match u with
 |[]=>rfl
 |[c]=>simp only[Xf]at h;simp[dl,h]
 |c::d::r=>simp only[Xf]at h;simp only[dl,h,if_true]
def cA{c r}(h:Xf (c::r)=false)(a:V1 c=true):dl (c::r)=([],0,true):=by
 match r with
 |[]=>simp only[Xf]at h;simp[dl,h,a]
 |d::r=>simp only[Xf]at h;simp only[dl,h,a,f0,if_false,if_true]
def cB{c r}(h:Xf (c::r)=false)(a:V1 c=false)(b:lb c=false):dl (c::r)=(c::(dl r).1,(dl r).2.1+1,(dl r).2.2):=by
 match r with
 |[]=>simp only[Xf]at h;simp[dl,h,a]
 |d::r=>simp only[Xf]at h;simp only[dl,b,rg,a,f0,if_false]
def cC{c d:UInt8}{r}(h:Xf (c::d::r)=false)(b:V1 c=false)(a:lb c=true):dl (c::d::r)=(c::(dl r).1,(dl r).2.1+2,(dl r).2.2):=by simp only[Xf,a,ph]at h;simp only[dl,a,ph,h,b,f0,if_false,if_true]
def NJ(i:Nat)(x:List UInt8×Nat×Bool):AV:=if x.2.2 then .a6 [g0 0 [] (i+x.2.1:Nat),num 0]else .a6 [g0 1 x.1 i,num (i+x.2.1:Nat)]
def NK(s:Ϟ)(i:Nat)(o:i<=s.length)(p:s.length<=1000000):QA 297 [str s,num i] (λr=>r=NJ i (dl (s.drop i))):=by
 refine G6 [] func297 ⟨_,rfl⟩ ?_;simp only[go_sem,str,num];refine Ak (rl [6,36]) [6,7] (λn x=>∃(j:Nat) (t:Ϟ),i<=j/\j<=s.length/\j+n=s.length/\t.length<=j/\x=[.own 5 1 (Aj t),num j]/\dl (s.drop i)=(t++(dl (s.drop j)).1,(j-i)+(dl (s.drop j)).2.1,(dl (s.drop j)).2.2)) ⟨s.length-i,_,⟨i,[],om,o,om,oS,rfl,oS⟩,?_⟩ ?_
 .simp only[PU];simp only[Re];exact Zw
 .rintro n x ⟨j,t,q,u,A,v,rfl,he⟩;simp only[PU];simp only[go_sem];repeat' first|apply Aq.on<;>intro _|refine gD ?_|simp only[go_sem]
  .rename_i w;have a:j<s.length:=om;obtain⟨c,f,hd⟩:=Ig a;have l:=wS j;have g:i64.wrap (((j+1:Nat):Int)+1)=((j+2:Nat):Int):=by rw[Aw om om];omega
   refine(GA s j a p).mono ?_;rintro r rfl;simp only[Af];cases ho:Xf (s.drop j)
   .rw[hd]at ho;have e:=Ea t c;repeat' first|apply Aq.on<;>intro _|refine gD ?_|simp only[go_sem,f,l,e]
    .rename_i h;refine(W2 _).mono ?_;rintro r rfl;simp only[Af];cases m:NI (c.toNat:Int)
     .repeat' first|apply Aq.on<;>intro _|refine gD ?_|simp only[go_sem]
      have hb:V1 c=true:=by simp[V1,m,h]
      rw[hd,cA ho hb]at he;rw[he];simp only[NJ,if_true,g0,str,num];have:i+(j-i+0)=j:=om;rw[this]
     .have hb:V1 c=false:=by simp[V1,m]
      repeat' first|apply Aq.on<;>intro _|refine gD ?_|simp only[go_sem,l,e]
      .rename_i o9;have hl:lb c=true:=by simp only[lb,i6];exact o9
       obtain⟨d,r,b⟩:∃d r,s.drop (j+1)=d::r:=by
        cases b:s.drop (j+1)with
        |nil=>rw[b]at ho;simp only[Xf]at ho;rw[hl]at ho;cases ho
        |cons d r=>exact⟨d,r,rfl⟩
       have k:s.drop (j+2)=r:=by have:=fq (List.drop 1) b;simpa[ob,Nat.add_comm,Nat.add_left_comm]using this
       have y:j+2<=s.length:=by have:=fq List.length b;simp at this;omega
       refine Z1 g ?_;refine Av (n-2) [.own 5 1 (Aj (t++[c])),num ((j+2:Nat):Int)] om ⟨j+2,t++[c],om,om,om,by simp;omega,rfl,?_⟩ ?_
       .rw[he,hd,b,cC (by rw[<-b];exact ho) hb hl,k];simp only[ir,fj,fm];congr 2;omega
       .exact Zw
      .rename_i o9;exact Ϭ
    .exfalso;rename_i h o9;omega
    .rename_i h o9;have hb:V1 c=false:=by simp only[V1,h,decide_true,oi,rg]
     exact Ϭ
   .repeat' first|apply Aq.on<;>intro _|refine gD ?_|simp only[go_sem]
    rw[uI ho]at he;rw[he];simp only[NJ,f0,if_false,g0,str,num,gy];have:i+(j-i+0)=j:=om;rw[this]
  .rename_i z;have B:j=s.length:=om;have:s.drop j=[]:=by simp;omega
   rw[this]at he;rw[he];simp only[NJ,dl,f0,if_false,g0,str,num,gy];have:i+(j-i+0)=j:=om;rw[this]
end Lx
namespace Lx
def Qi(p:Int->Bool):∀l:Ϟ,Jo p l<=l.length
 |[]=>bx _
 |c::r=>by have:=Qi p r;simp only[Jo,dg];split<;>omega
def gt:Ϟ->Option (Int×List UInt8×Nat)
 |[]=>none
 |c::r=>
  if mY (c.toNat:Int)then(if 20<Jo OC (c::r)then none else some (2,(c::r).take (Jo OC (c::r)),Jo OC (c::r)))
  else if Po (c.toNat:Int)then(if 6<Jo Po (c::r)\/(1<Jo Po (c::r)/\((c.toNat:Nat):Int)=48)then none else some (3,(c::r).take (Jo Po (c::r)),Jo Po (c::r)))
  else if((c.toNat:Nat):Int)=34 then(match r.drop (Jo W8 r)with
   |d::_=>if((d.toNat:Nat):Int)=34 then some (4,r.take (Jo W8 r),Jo W8 r+2)else none
   |[]=>none)
  else if((c.toNat:Nat):Int)=124 then some (5,[124],1)
  else if((c.toNat:Nat):Int)=125 then some (7,[125],1)
  else none
theorem k1:mY 34=false:=oD
theorem k2:Po 34=false:=oD
theorem k3:mY 124=false:=oD
theorem k4:Po 124=false:=oD
theorem k5:mY 125=false:=oD
def k6:Po 125=false:=oD
def k7:((124:Int)=34)=False:=oD
def k8:((125:Int)=34)=False:=oD
def k9:((125:Int)=124)=False:=oD
def Pp(i:Nat)(o:Option (Int×List UInt8×Nat)):AV:=match o with
 |some (k,t,n)=>.a6 [g0 k t i,num (i+n:Nat)]
 |none=>.a6 [g0 0 [] i,num 0]
def AlM(s:Ϟ)(i:Nat)(A:i<s.length)(p:s.length<=1000000):QA 298 [str s,num i] (λr=>r=Pp i (gt (s.drop i))):=by
 refine G6 [] func298 ⟨_,rfl⟩ ?_;simp only[go_sem,str,num];obtain⟨c,q,hd⟩:=Ig A;have B:=ob (i:=1) (j:=i) (l:=s);refine Z1 q ?_;refine(uF _).mono ?_;rintro r rfl;simp only[Af];cases h1:mY (c.toNat:Int)
 .repeat' first|apply Aq.on<;>intro _|refine gD ?_|simp only[go_sem]
  refine(mZ _).mono ?_;rintro r rfl;simp only[Af];cases h2:Po (c.toNat:Int)
  .repeat' first|apply Aq.on<;>intro _|refine gD ?_|simp only[go_sem]
   .rename_i h;have b:=wS i;rw[b];refine(v_ s (i+1) 353 W8 AfT om p).mono ?_;rintro r rfl;obtain⟨n,hn⟩:∃n,Jo W8 (s.drop (i+1))=n:=⟨_,rfl⟩;have g:n<=s.length-(i+1):=by have:=Qi W8 (s.drop (i+1));simp at this;omega
    have e1:i+1+n-(i+1)=n:=om;have k:(s.drop (i+1)).drop n=s.drop (i+1+n):=by rw[ob]
    have t:i64.wrap (((i+1+n:Nat):Int)+1)=((i+1+n+1:Nat):Int):=Da om;simp only[hn,num];repeat' first|apply Aq.on<;>intro _|refine gD ?_|simp only[go_sem,e1,b,t]
    .rename_i m;have:s.drop (i+1+n)=[]:=by simp;omega
     rw[hd];simp only[k1,k2,k3,k4,k5,k6,k7,k8,k9,gt,h1,h2,h,hn,k,this,if_true,f0,if_false,Pp,g0,str,num]
    all_goals (
     rename_i m f;obtain⟨e,u,v⟩:=Ig (s:=s) (i:=i+1+n) om;rw[u]at f;rw[hd];simp only[k1,k2,k3,k4,k5,k6,k7,k8,k9,gt,h1,h2,h,hn,k,v,f,if_true,f0,if_false,Pp,g0,str,num]
     try (have:i+1+n+1=i+(n+2):=om
          rw[this]))
   .rename_i h a;have b:=wS i;rw[hd];simp only[k1,k2,k3,k4,k5,k6,k7,k8,k9,gt,h1,h2,h,a,if_true,f0,if_false,Pp,g0,str,num,b]
   .rename_i h a d;have b:=wS i;rw[hd];simp only[k1,k2,k3,k4,k5,k6,k7,k8,k9,gt,h1,h2,h,a,d,if_true,f0,if_false,Pp,g0,str,num,b]
   .rename_i h a d;rw[hd];simp only[k1,k2,k3,k4,k5,k6,k7,k8,k9,gt,h1,h2,h,a,d,f0,if_false,Pp,g0,str,num]
  .repeat' first|apply Aq.on<;>intro _|refine gD ?_|simp only[go_sem]
   refine(v_ s i 352 Po mZ om p).mono ?_;rintro r rfl;obtain⟨n,hn⟩:∃n,Jo Po (s.drop i)=n:=⟨_,rfl⟩;have g:n<=s.length-i:=by have:=Qi Po (s.drop i);simp at this;omega
   have w:i64.wrap (((i+n:Nat):Int)-(i:Int))=(n:Int):=by rw[Aw om om];omega
   have e1:i+n-i=n:=om;simp only[hn,num];repeat' first|apply Aq.on<;>intro _|refine gD ?_|simp only[go_sem,w,e1]
   .rename_i x;have hc:6<n\/(1<n/\((c.toNat:Nat):Int)=48):=om;exact ya
   .rename_i x o y;have hc:6<n\/(1<n/\((c.toNat:Nat):Int)=48):=om;exact ya
   .rename_i x o y;have hc:¬(6<n\/(1<n/\((c.toNat:Nat):Int)=48)):=om;exact ya
   .rename_i x o;have hc:¬(6<n\/(1<n/\((c.toNat:Nat):Int)=48)):=om;exact ya
 .repeat' first|apply Aq.on<;>intro _|refine gD ?_|simp only[go_sem]
  refine(v_ s i 351 OC AfS om p).mono ?_;rintro r rfl;obtain⟨n,hn⟩:∃n,Jo OC (s.drop i)=n:=⟨_,rfl⟩;have g:n<=s.length-i:=by have:=Qi OC (s.drop i);simp at this;omega
  have w:i64.wrap (((i+n:Nat):Int)-(i:Int))=(n:Int):=by rw[Aw om om];omega
  have e1:i+n-i=n:=om;simp only[hn,num];repeat' first|apply Aq.on<;>intro _|refine gD ?_|simp only[go_sem,w,e1]
  .rename_i z;rw[hd]at hn⊢;have:20<n:=om;simp only[gt,h1,hn,this,if_true,Pp,g0,str,num]
  .rename_i z;have:¬20<n:=om;rw[hd]at hn⊢;simp only[gt,h1,hn,this,if_true,if_false,Pp,g0,str,num]
end Lx
namespace Lx
structure Tk where
 k:Int
 t:Ϟ
 a:Nat
def tk(t:Tk):AV:=g0 t.k t.t t.a
def HK(c:UInt8):Bool:=decide (((c.toNat:Nat):Int)=32)||decide (((c.toNat:Nat):Int)=10)
def dj:Nat->Ϟ->Nat->Γ->List Tk
 |0,_,_,_=>[]
 |f+1,[],at_,none=>[]
 |f+1,c::r,at_,none=>if Xf (c::r)then⟨6,[123],at_⟩::dj f r (at_+1) (some at_)
  else if(dl (c::r)).2.2 then[⟨0,[],at_+(dl (c::r)).2.1⟩]else⟨1,(dl (c::r)).1,at_⟩::dj f ((c::r).drop (dl (c::r)).2.1) (at_+(dl (c::r)).2.1) none
 |f+1,[],at_,some g=>[⟨0,[],g⟩]
 |f+1,c::r,at_,some g=>if HK c then dj f r (at_+1) (some g)
  else match gt (c::r)with
   |none=>[⟨0,[],at_⟩]
   |some (k,t,n)=>⟨k,t,at_⟩::dj f ((c::r).drop n) (at_+n) (if k=7 then none else some g)
def toks(s:Ϟ):List Tk:=dj (s.length+1) s 0 none
def Aqn(s:Ϟ)(k:Nat)(a:Φ):Prop:=∃t,(toks s)[k]? =some t/\a=[tk t]
def E1:Γ->Int
 |none=> -1
 |some g=>(g:Int)
theorem NL:E1 none= -1:=rfl
theorem NM(g):E1 (some g)=(g:Int):=rfl
def cD{s}{p r:List Tk}{t k}(h:toks s=p++t::r)(a:p.length=k):(toks s)[k]? =some t:=by rw[h];subst a;simp
def Ui{s}{p r:List Tk}{t}(h:toks s=p++t::r):toks s=(p++[t])++r:=by rw[h];simp
def AbO{s}{p:List Tk}{t k}(h:toks s=p++[t])(a:p.length=k):k+1=(toks s).length:=by rw[h];subst a;simp
def AbP:∀{u:Ϟ} {c:UInt8} {r:Ϟ},u=c::r->Xf u=false->(dl u).2.2=false->0<(dl u).2.1:=by
 intro u c r f a e;subst f
 cases h:V1 c with
 |true=>rw[cA a h]at e;cases e
 |false=>
  cases b:lb c with
  |false=>rw[cB a h b];simp
  |true=>
   cases r with
   |nil=>simp only[Xf]at a;rw[a]at b;cases b
   |cons d r=>rw[cC a h b];simp
def nB:∀(n:Nat) (u:Ϟ),u.length<=n->(dl u).2.1<=u.length/\(dl u).1.length<=(dl u).2.1
 |_,[],_=>by simp[dl]
 |0,c::r,h=>by simp at h
 |n+1,c::r,h=>by
  cases a:Xf (c::r)with
  |true=>rw[uI a];simp
  |false=>
   cases e:V1 c with
   |true=>rw[cA a e];simp
   |false=>
    cases b:lb c with
    |false=>rw[cB a e b];have:=nB n r (by simp at h;omega);simp;omega
    |true=>
     cases r with
     |nil=>simp only[Xf]at a;rw[a]at b;cases b
     |cons d r=>rw[cC a e b];have:=nB n r (by simp at h;omega);simp;omega
def BH{u:Ϟ}{k t n}(h:gt u=some (k,t,n)):0<n/\n<=u.length/\k≠0/\k≠6/\k≠1:=by
 cases u with
 |nil=>cases h
 |cons c r=>
  simp only[gt]at h;split at h
  .rename_i a;split at h
   .cases h
   .injection h with h;simp only[Prod.mk.injEq]at h;obtain⟨rfl,rfl,rfl⟩:=h;have:=Qi OC (c::r);refine⟨?_,this,oD,oD,oD⟩;have:OC (c.toNat:Int)=true:=by simp[OC,a]
    simp[Jo,this]
  .split at h
   .rename_i a;split at h
    .cases h
    .injection h with h;simp only[Prod.mk.injEq]at h;obtain⟨rfl,rfl,rfl⟩:=h;have:=Qi Po (c::r);refine⟨?_,this,oD,oD,oD⟩;simp[Jo,a]
   .split at h
    .split at h
     .rename_i d e b;split at h
      .injection h with h;simp only[Prod.mk.injEq]at h;obtain⟨rfl,rfl,rfl⟩:=h;have:=fq List.length b;simp at this;exact⟨om,by simp;omega,oD,oD,oD⟩
      .cases h
     .cases h
    .split at h
     .exact AgT
     .split at h
      .exact AgT
      .cases h
def AlO(s:Ϟ)(u:s.length<=1000000):Oo prog 295 [.elt (.agg [str s])] (toks s).length (Aqn s):=by
 refine M8 [] [(15,2)] [] b3 Cl func295 oD oK (by simp only[go_sem,reduceIte,reduceCtorEq];rfl) ntmps295 results295 rfl ?_;intro l;simp only[LS,Nat.reduceAdd,Nat.reduceSub];simp only[go_sem];refine F7 (rl [3,74]) [3,4] (λn y z=>∃(k j:Nat) (p:Γ) (pre:List Tk),y=some k/\j<=s.length/\s.length-j<n/\toks s=pre++dj n (s.drop j) j p/\pre.length=k/\z=[num j,num (E1 p)]) ⟨s.length+1,_,⟨0,0,none,[],rfl,om,om,rfl,rfl,rfl⟩,?_⟩ ?_
 .exact Zw
 .rintro n y z ⟨k,j,p,pre,rfl,v,F,he,hk,rfl⟩;obtain⟨m,rfl⟩:∃m,n=m+1:=⟨n-1,om⟩;have hw1:=wS j;simp only[PU]
  cases p with
  |none=>
   simp only[NL];repeat' first|apply Aq.on<;>intro _|refine gD ?_|simp only[go_sem,Int.reduceEq,Int.reduceNeg,eq_self]
   .rename_i e;refine .inl ?_;have:j=s.length:=om;subst this;rw[he,List.drop_length,dc,hk];simp[dj]
   .rename_i e;have hj':j<s.length:=om;obtain⟨c,hc,hd⟩:=Ig hj';refine(GA s j hj' u).mono ?_;rintro r rfl
    cases hop:Xf (s.drop j)with
    |true=>
     simp only[Af];repeat' first|apply Aq.on<;>intro _|refine gD ?_|simp only[go_sem,Int.reduceEq,Int.reduceNeg,eq_self,hw1]
     have he2:toks s=pre++⟨6,[123],j⟩::dj m (s.drop (j+1)) (j+1) (some j):=by rw[he,hd];rw[hd]at hop;simp only[dj,hop,if_true]
     refine Kx ⟨_,cD he2 hk,rfl⟩ ?_ ?_
     .refine Z1 hw1 ?_;refine Ch m _ om ⟨k+1,j+1,some j,_,rfl,om,om,Ui he2,by simp[hk],rfl⟩ ?_;exact Zw
     .repeat' first|apply Aq.on<;>intro _|refine gD ?_|simp only[go_sem,Int.reduceEq,Int.reduceNeg,eq_self,hw1]
      exact X9
    |false=>
     simp only[Af];repeat' first|apply Aq.on<;>intro _|refine gD ?_|simp only[go_sem,Int.reduceEq,Int.reduceNeg,eq_self,hw1]
     refine(NK s j v u).mono ?_;rintro r rfl;rw[hd]at hop;have h1:=nB (s.drop j).length (s.drop j) (bx _);rw[jb]at h1;obtain⟨⟨A,b,f⟩,d⟩:∃x,dl (s.drop j)=x:=⟨_,rfl⟩;rw[d]at h1⊢;have G:b<=s.length-j:=h1.1;clear h1
     cases f with
     |true=>
      simp only[NJ,if_true,g0,str,num];refine Z1 hw1 ?_;have he2:toks s=pre++[⟨0,[],j+b⟩]:=by rw[he,hd];rw[hd]at d;simp only[dj,hop,d,if_true,f0,if_false]
      exact i_
     |false=>
      simp only[NJ,f0,if_false,g0,str,num];have w:0<b:=by have:=AbP hd (by rw[hd];exact hop);rw[d]at this;exact this rfl
      refine Z1 hw1 ?_;have he2:toks s=pre++⟨1,A,j⟩::dj m (s.drop (j+b)) (j+b) none:=by rw[he,hd];rw[hd]at d;simp only[dj,hop,d,if_true,f0,if_false];rw[<-hd,ob]
      refine Kx ⟨_,cD he2 hk,rfl⟩ ?_ ?_
      .refine Z1 hw1 ?_;refine Ch m _ om ⟨k+1,j+b,none,_,rfl,om,om,Ui he2,by simp[hk],rfl⟩ ?_;exact Zw
      .repeat' first|apply Aq.on<;>intro _|refine gD ?_|simp only[go_sem,Int.reduceEq,Int.reduceNeg,eq_self,hw1]
       exact X9
  |some g=>
   simp only[NM];have a:((g:Int)= -1)=False:=oS;repeat' first|apply Aq.on<;>intro _|refine gD ?_|simp only[go_sem,Int.reduceEq,Int.reduceNeg,eq_self,hw1,a,Ae]
   .rename_i e;have:j=s.length:=om;subst this;have he2:toks s=pre++[⟨0,[],g⟩]:=by rw[he,List.drop_length];simp only[dj]
    exact i_
   .rename_i e hw32;exact ϫ
   .rename_i e i hw32;exact ϫ
   .rename_i e i hw1;have hj':j<s.length:=om;obtain⟨c,hc,hd⟩:=Ig hj';have hws:HK c=false:=by simp only[HK,<-hc,i,hw1,decide_false,Bool.or_false]
    refine(AlM s j hj' u).mono ?_;rintro r rfl;obtain⟨o,ho⟩:∃o,gt (s.drop j)=o:=⟨_,rfl⟩;rw[ho]
    cases o with
    |none=>
     simp only[Pp,g0,str,num];repeat' first|apply Aq.on<;>intro _|refine gD ?_|simp only[go_sem,Int.reduceEq,Int.reduceNeg,eq_self,hw1,a,Ae]
     have he2:toks s=pre++[⟨0,[],j⟩]:=by rw[he,hd];rw[hd]at ho;simp only[dj,hws,ho,f0,if_false]
     exact i_
    |some x=>
     obtain⟨q,t,n⟩:=x;have w:=BH ho;rw[jb]at w;obtain⟨B,C,h,D,E⟩:=w;simp only[Pp,g0,str,num]
     replace h:(q=0)=False:=by simp[h]
     repeat' first|apply Aq.on<;>intro _|refine gD ?_|simp only[go_sem,Int.reduceEq,Int.reduceNeg,eq_self,hw1,a,Ae]
     .rename_i h7;have he2:toks s=pre++⟨q,t,j⟩::dj m (s.drop (j+n)) (j+n) none:=by exact Ahq
      refine Kx ⟨_,cD he2 hk,rfl⟩ ?_ ?_
      .refine Z3 hw1 a h ?_;refine Ch m _ om ⟨k+1,j+n,none,_,rfl,om,om,Ui he2,by simp[hk],rfl⟩ ?_;exact Zw
      .repeat' first|apply Aq.on<;>intro _|refine gD ?_|simp only[go_sem,Int.reduceEq,Int.reduceNeg,eq_self,hw1,a,Ae,h]
       exact X9
     .rename_i h7;have he2:toks s=pre++⟨q,t,j⟩::dj m (s.drop (j+n)) (j+n) (some g):=by exact Ahq
      refine Kx ⟨_,cD he2 hk,rfl⟩ ?_ ?_
      .refine Z3 hw1 a h ?_;refine Ch m _ om ⟨k+1,j+n,(some g),_,rfl,om,om,Ui he2,by simp[hk],rfl⟩ ?_;exact Zw
      .repeat' first|apply Aq.on<;>intro _|refine gD ?_|simp only[go_sem,Int.reduceEq,Int.reduceNeg,eq_self,hw1,a,Ae,h]
       exact X9
end Lx
namespace Lx
def AlP(s:Ϟ)(h:s.length<=1000000):QA 220 [str s] (λr=>r=.ee 295 [.elt (.agg [str s])]):=by refine G6 [(1,[1],[])] func220 ⟨_,rfl⟩ ?_;simp only[go_sem];repeat' first|apply Aq.on<;>intro _|refine gD ?_|simp only[go_sem]
def tl:List Tk->AV
 |[]=>.nil
 |a::l=>.own 268 3 ((a::l).map tk)
def js(s:Ϟ):AV:=if 1000<s.length then .a6 [.nil,num 1000,num 90]else
 match(toks s).find? (λt=>decide (t.k=0))with
 |some t=>.a6 [.nil,num (t.a:Nat),num 90]
 |none=>.a6 [tl (toks s),num 0,num 0]
def Mr:∀(f:Nat) (u:Ϟ) (a:Nat) (g:Γ),(dj f u a g).length<=f
 |0,_,_,_=>by simp[dj]
 |f+1,[],_,none=>by simp[dj]
 |f+1,[],_,some g=>by simp[dj]
 |f+1,c::r,a,none=>by
  have h1:=Mr f r (a+1) (some a);have h:=Mr f ((c::r).drop (dl (c::r)).2.1) (a+(dl (c::r)).2.1) none;simp only[dj];split
  .exact V6
  .split
   .simp
   .exact V6
 |f+1,c::r,a,some g=>by
  have h1:=Mr f r (a+1) (some g);simp only[dj];split
  .omega
  .split
   .simp
   .rename_i k t n _;have h:=Mr f ((c::r).drop n) (a+n) (if k=7 then none else some g);exact V6
def lx(s:Ϟ):(toks s).length<=s.length+1:=Mr _ _ _ _
def cE{l:List Tk}{k}{t:Tk}(h:l[k]? =some t)(a:∀u∈l.take k,u.k≠0)(b:t.k=0):l.find? (λt=>decide (t.k=0))=some t:=by
 have c:k<l.length:=(ab.1 h).1;have d:l=l.take k++t::l.drop (k+1):=by have:=(ab.1 h).2;rw[<-this,List.getElem_cons_drop,ki]
 rw[d,List.find?_append];have:(l.take k).find? (λt=>decide (t.k=0))=none:=by rw[List.find?_eq_none];intro u e;simpa using a u e
 rw[this];simp[b]
def iZ{l:List Tk}{k t}(h:l[k]? =some t):l.take (k+1)=l.take k++[t]:=by rw[fc,h];rfl
theorem nC:tl []=.nil:=rfl
theorem nD(a)(l:List Tk):tl (a::l)=.own 268 3 (tk a::l.map tk):=rfl
def AfU(l:List Tk)(t):tl (l++[t])=.own 268 3 (l.map tk++[tk t]):=by cases l<;>simp[tl]
def oz(s:Ϟ)(c:s.length<=1000000):QA 173 [str s] (λr=>r=js s):=by
 refine Ed [(2000007,[0,1001],[3003,3004]),(3000007,[13,16,10006],[2002])] [] [6,12,13,14,15,16,17,18,19,20,21] b3 Cl func173 oD oK (by simp only[go_sem,reduceIte,reduceCtorEq];rfl) ntmps173 results173 ⟨_,rfl⟩ rfl ?_;simp only[LS,Nat.reduceAdd,Nat.reduceSub];repeat' first|apply Aq.on<;>intro _|refine gD ?_|simp only[go_sem]
 .rename_i h;have h1:1000<s.length:=om;simp only[js,h1,if_true,num]
 .rename_i h;have h1:¬1000<s.length:=om;simp only[js,h1,if_false];refine Za (AlP s c) ?_;refine Ft (rl [5,2,5,10]) [5] (λk x=>x=[.box 211 [tl ((toks s).take k)]]/\∀t∈(toks s).take k,t.k≠0) (bx 23) ?_ (AlO s c) ?_ ?_ ?_
  .exact J1
  .refine⟨_,⟨rfl,oS⟩,?_⟩;simp only[PU];simp only[gx,nC];exact Zw
  .rintro k d x ⟨t,hk,rfl⟩ ⟨rfl,ha⟩;refine⟨rfl,rfl,?_⟩;simp only[PU];have hlk:k<(toks s).length:=(ab.1 hk).1;have e:=lx s;have b:((toks s).take k).length=k:=by simp;omega
   simp only[tk,g0,str,num];rcases hp:(toks s).take k with _|⟨p0,pr⟩<;>simp only[nC,nD]
   .repeat' first|apply Aq.on<;>intro _|refine gD ?_|simp only[go_sem]
    .rw[cE hk ha (by assumption)]
    .exact ϧ
   .simp only[hp,dg]at b;repeat' first|apply Aq.on<;>intro _|refine gD ?_|simp only[go_sem]
    .rw[cE hk ha (by assumption)]
    .exact ϧ
  .rintro x ⟨rfl,ha⟩;rw[lr]at ha;have f:(toks s).find? (λt=>decide (t.k=0))=none:=by rw[List.find?_eq_none];intro u hu;simpa using ha u hu
   simp only[PU];simp only[lr,f,num]
   cases g:toks s with
   |nil=>simp only[nC,nD];exact BR
   |cons a l=>simp only[nC,nD];exact BR
end Lx
def uJ(s)(a e:Nat)(b:e≠0)(h:QA 173 [str s] (λr=>r=.a6 [.nil,num a,num e])):
 QA 113 [str s] (λr=>r=.a6 [.sl 8 [],num a,num e]):=by
 refine ai (HC.weak ?_) ⟨_,rfl⟩;refine aP b3 Dc Cl [] [3,6] [(3,[10003,10004],[1000,1001],[2002,2003],[3004])] (As:=[_,_,_]) (ds:=[_,_,_]) (ss:=[2,3,4]) [(2,3),(3,2),(4,1)] func113 rfl oD rfl ntmps113 (fq Array.toList results113) rfl (by simp only[ev,db,Di,Si,Hv,Wd,Sw,My,Y0,List.isEmpty_nil,List.isEmpty_cons,oi,Bool.or_self,px,qn,qo,Bool.and_self,mf,cond_false,cond_true,JD,xS,JA,JB,JC,xR,xB,xY,Nat.reduceBEq,Nat.reduceBNe,xT,Zg,lA,qR,VM,Cn,Dz,F5,fZ,ev,db,Nat.reduceMod,Nat.reduceDiv,El,Oa,pk,List.getElem?_toArray,aw,ba,Py,U2,Fs,fO,Nat.reduceAdd,Nat.reduceEqDiff,Nat.reduceLeDiff,Nat.reduceSub,ne_eq,not_false_eq_true,and_self,reduceIte];rfl) oK sL oK ?_;simp only[KQ,dg,eh,Nat.reduceAdd,Nat.reduceSub,mc,ml,fj,fm,num,str,Af,pt];refine Zu ?_;refine ae h ?_;rintro r rfl;simp only[num];have c:=bd (show¬((e:Int)=0) by omega);refine Zu ?_;refine eF b3 Dc Cl (λ_=>True) (λ_:Unit=>[(0,15,num a),(1,16,num e),(2,2,.box 154 [.nil]),(3,3,.box 3 [num a]),(4,4,.box 45 [num e])]) [(0,[],[3]),(1,[],[4]),(2,[],[]),(3,[0],[]),(4,[1],[])] () trivial oK (λ_=>rfl) pM (by rfl) ?_ ?_
 .simp only[Sk];exact⟨Dt,Dt,Dt,Dt,Dt,trivial⟩
 intro x hx;simp only[cond_true];exact OY
def cF:∀u:Ab,(Lx.dl u).1.length<=u.length
 |[]=>by simp[Lx.dl]
 |[c]=>by unfold Lx.dl;split<;>(try split)<;>simp
 |c::d::r=>by
  have h1:=cF r;have h:=cF (d::r);simp only[dg]at h;unfold Lx.dl;repeat' split
  all_goals simp only[dg,eh]
  all_goals omega
def AbQ{u t:Ab}{k n}(h:Lx.gt u=some (k,t,n)):0<=k/\t.length<=u.length+1:=by
 cases u with
 |nil=>cases h
 |cons c r=>
  simp only[Lx.gt]at h;repeat' split at h
  all_goals first|cases h;done|(injection h with h;injection h with h1 a;injection a with a b;subst h1;subst a;refine⟨om,?_⟩;simp only[fw,dg,eh]at *;(first|omega|(split<;>omega)|skip))
def Pq:∀(f:Nat) (u:Ab) (a:Nat) (g:Γ),∀t∈Lx.dj f u a g,0<=t.k/\t.t.length<=u.length+1
 |0,_,_,_,t,h=>by simp[Lx.dj]at h
 |f+1,[],_,none,t,h=>by simp[Lx.dj]at h
 |f+1,c::r,a,none,t,h=>by
  have b:=cF (c::r);unfold Lx.dj at h;split at h
  .rcases e9.1 h with rfl|h
   .simp
   .have:=Pq f _ _ _ t h;exact V6
  .split at h
   .simp at h;subst h;simp
   .rcases e9.1 h with rfl|h
    .exact⟨(by decide:(0:Int)<=1),Nat.le_succ_of_le b⟩
    .exact Aia
 |f+1,[],a,some g,t,h=>by simp[Lx.dj]at h;subst h;simp
 |f+1,c::r,a,some g,t,h=>by
  unfold Lx.dj at h;split at h
  .have:=Pq f _ _ _ t h;exact V6
  .split at h
   .simp at h;subst h;simp
   .rename_i k x n d;rcases e9.1 h with rfl|h
    .exact AbQ d
    .exact Aia
def Z_(t:Lx.Tk):Tk:=⟨t.k.toNat,t.t,t.a⟩
def Q8(s:Ab):List Tk:=(Lx.toks s).map Z_
def jA(s:Ab):(Q8 s).length<=s.length+1:=by simp only[Q8,dB];exact Lx.lx s
def cG(s:Ab):∀t∈Q8 s,t.text.length<=s.length+1:=λt h=>by obtain⟨u,a,rfl⟩:=dm.1 h;exact(Pq _ _ _ _ u a).2
def AoH(s):(Q8 s).map Xr=(Lx.toks s).map Lx.tk:=by rw[Q8,lq];refine te λt h=> ?_;have:=(Pq _ _ _ _ t h).1;simp only[Function.comp_apply,Xr,Z_,Lx.tk,Lx.g0];rw[Int.toNat_of_nonneg this]
def Cy(s:Ab):List Nd×Nat×Nat:=if 1000<s.length then([],1000,90)else match(Lx.toks s).find? (λt=>decide (t.k=0))with
 |some t=>([],t.a,90)
 |none=>O3 Bi (Q8 s) s.length
def AlQ(s:Ab)(a:s.length<=1000):xv Bi (Q8 s) where
 atoi:=λt h=>P6 t.text (by have:=cG s t h;omega)
 cont:=λl x b=>by have:=M9 l x om;rwa [show decide (x∈l)=l.contains x from by simp]at this
def Uj(s:Ab)(d:s.length<=1000000):QA 113 [str s] (λr=>r=dQ (Cy s)):=by
 have b:=Lx.oz s d;unfold Cy;unfold Lx.js at b;split at b
 .rename_i h;rw[bn h];exact uJ s 1000 90 oD b
 .rename_i h;rw[ar h];split at b
  .rename_i t c;try rw[c]
   exact uJ s t.a 90 oD b
  .rename_i c;try rw[c]
   have e:=jA s;refine AeF (AlQ s om) s 0 om d (b.lf ?_);rintro r rfl;refine⟨_,eu (ys:=[.sl 3 ((Q8 s).map Xr),num 0,num 0]) ?_,rfl,rfl⟩;rw[AoH]
   cases Lx.toks s with
   |nil=>exact B7 (br _)
   |cons a l=>exact Bl (br _)
theorem jB:∀{l:List Nd} {x:Nd},Fw l->Xd x->Fw (l++[x])
 |[],x,_,h=>by simp only[fm,Fw];exact⟨h,trivial⟩
 |y::l,x,h1,h2=>by simp only[fj,Fw]at h1⊢;exact⟨h1.1,jB h1.2 h2⟩
section
variable{g:Ab->Int}{b:List Tk}{e:Nat}(H:∀ t ∈ b, t.text.length <= 900000)(i:b.length <= 2000)(j:∀ s, Db (g s))
include H i
theorem jC:∀{m:Nat} {c x:Ξ} {n d:Nat},n<=b.length->(∀f∈c,f.length<=1000000)->c.length<=n->Hi b e m c n=.ok x d->(∀f∈x,f.length<=1000000)/\x.length<=d
 |0,c,x,n,d,hn,h1,h2,h=>by injection h with o p;subst o;subst p;exact⟨h1,h2⟩
 |m+1,c,x,n,d,hn,h1,h2,h=>by
  unfold Hi at h
  cases r:Gj b n 5 with
  |false=>rw[r]at h;injection h with o p;subst o;subst p;exact⟨h1,h2⟩
  |true=>
   rw[r]at h;simp only[cond_true]at h
   cases l:C6 b e (n+1) 2 with
   |bad q=>rw[l]at h;cases h
   |ok t k=>
    rw[l]at h;have u:=Bg l;refine jC u.2 (λf a=> ?_) (by simp;omega) h;rcases ff.1 a with a|a
    .exact h1 f a
    .rw[ga]at a;subst a;exact cp (H _ (P8 l)) om
theorem NN {n d:Nat} {w:Ab} {x:Nd} (f:w.length<=900000) (a:n<=b.length) (h:Na b e w n=.ok x d):Xd x:=by
 have l:=P9 a h;unfold Na at h
 cases h1:Hi b e b.length [] n with
 |bad q=>rw[h1]at h;cases h
 |ok fs k=>
  rw[h1]at h;simp only at h;have m:=jC H i a oS oS h1;have p:=Vf a h1
  cases c:C6 b e k 7 with
  |bad q=>rw[c]at h;cases h
  |ok u k2=>rw[c]at h;injection h with o r;subst o;simp only[Xd];exact⟨oS,f,oS,⟨om,om⟩,om,m.1,oS,oS,trivial,trivial⟩
omit H i in
theorem AfV(H:∀t∈b,t.text.length<=900000){n d:Nat}{a:Ab}(l:n<=b.length)(h:dP b e n=.ok a d):a.length<=900000/\d<=b.length:=by
 unfold dP at h
 cases f:Gj b n 4 with
 |false=>rw[f]at h;injection h with h1 c;subst h1;subst c;exact⟨oS,l⟩
 |true=>rw[f]at h;simp only[cond_true]at h;obtain⟨t,k,h1,h⟩:=az h;injection h with c m;subst c;subst m;exact⟨H _ (P8 h1),(Bg h1).2⟩
omit H i in
theorem AfW(j:∀s,Db (g s)){n d:Nat}{c:Int}(l:n<=b.length)(h:cntF g b e n=.ok c d):Db c/\d<=b.length:=by
 unfold cntF at h
 cases f:Gj b n 3 with
 |false=>rw[f]at h;injection h with h1 a;subst h1;subst a;exact⟨⟨om,om⟩,l⟩
 |true=>rw[f]at h;simp only[cond_true]at h;obtain⟨t,k,h1,h⟩:=az h;injection h with a m;subst a;subst m;exact⟨j _,(Bg h1).2⟩
include j
theorem cH:∀{f d:Nat} {A:Ξ} {n p:Nat} {l:List Nd} {x:List Nd×Ab},n<=b.length->Fw l->l.length<=n->Cb g b e f d A n l=.ok x p->Fw x.1/\x.1.length<=p/\p<=b.length
 |0,_,_,_,_,_,_,_,_,_,h=>by cases h
 |f+1,d,A,n,p,l,x,B,ho,hl,h=>by
  have C:∀{A n p x},n<=b.length->Cb g b e f (d+1) A n []=.ok x p->Fw x.1/\x.1.length<=p/\p<=b.length:=λB h=>cH (l:=[]) B (show Fw []from trivial) (gu _) h;have q:∀{n k p:Nat} {t:Tk},C6 b e n k=.ok t p->t.text.length<=900000/\n<p/\p<=b.length:=λh=>⟨H _ (P8 h),Bg h⟩;have r:Db 0:=⟨om,om⟩;have D:∀{y:Nd} {k:Nat},Xd y->n<k->k<=b.length->Cb g b e f d A k (l++[y])=.ok x p->Fw x.1/\x.1.length<=p/\p<=b.length:=λS h1 L h=>cH L (jB ho S) (by simp;omega) h;unfold Cb at h
  cases E:decide (n<b.length)with
  |false=>
   simp only[E,cond_false]at h;split at h
   .injection h with v w;subst v;subst w;exact⟨ho,hl,B⟩
   .cases h
  |true=>
   simp only[E,cond_true]at h
   cases E:Gj b n 1 with
   |true=>simp only[E,cond_true]at h;obtain⟨t,T,h1,h⟩:=az h;have g1:=q h1;exact D (by simp only[Xd];exact⟨om,oS,oS,r,oS,oS,oS,oS,trivial,trivial⟩) g1.2.1 g1.2.2 h
   |false=>
    simp only[E,cond_false]at h;obtain⟨o,T,h1,h⟩:=az h;obtain⟨t,Y,L,h⟩:=az h;have g1:=q h1;have g2:=q L;split at h
    .cases R:A.contains t.text with
     |true=>simp only[R,cond_true]at h;obtain⟨u,I,m,h⟩:=az h;injection h with v w;subst v;subst w;have g3:=q m;exact⟨ho,by simp only;omega,g3.2.2⟩
     |false=>simp only[R,cond_false]at h;cases h
    .split at h
     .split at h
      .cases h
      .split at h
       .obtain⟨M,I,m,h⟩:=az h;have J:=aM (λA n x p _ B h=>Fv B h) m;unfold Q0 at m;obtain⟨U,k1,q1,m⟩:=az m;obtain⟨a,k2,N,m⟩:=az m;obtain⟨c,k3,O,m⟩:=az m;obtain⟨_,k4,P,m⟩:=az m;obtain⟨y,k5,V,m⟩:=az m;injection m with v w;subst v;subst w;have F:=q q1;have K:=AfV H F.2.2 N;have G:=AfW j K.2 O;have Q:=q P;have W:=C Q.2.2 V;exact D (by simp only[Xd];exact⟨oS,F.1,K.1,G.1,oS,oS,om,oS,W.1,trivial⟩) om J.2 h
       .obtain⟨M,I,m,h⟩:=az h;have J:=aN (λA n x p _ B h=>Fv B h) m;unfold Q3 at m;obtain⟨U,k1,q1,m⟩:=az m;obtain⟨_,k2,N,m⟩:=az m;obtain⟨y,k3,O,m⟩:=az m;have F:=q q1;have K:=q N;have G:=C K.2.2 O;split at m
        .obtain⟨z,k4,P,m⟩:=az m;injection m with v w;subst v;subst w;have Q:=C G.2.2 P;exact D (by simp only[Xd];exact⟨oS,F.1,oS,r,oS,oS,om,om,G.1,Q.1⟩) om J.2 h
        .injection m with v w;subst v;subst w;exact D (by simp only[Xd];exact⟨oS,F.1,oS,r,oS,oS,om,oS,G.1,trivial⟩) om J.2 h
     .split at h
      .obtain⟨M,I,m,h⟩:=az h;obtain⟨y,Z,X,h⟩:=az h;have g3:=q m;have g4:=q X;exact D (by simp only[Xd];exact⟨oS,g3.1,oS,r,oS,oS,oS,oS,trivial,trivial⟩) om g4.2.2 h
      .obtain⟨M,I,m,h⟩:=az h;have g3:=P9 g2.2.2 m;exact D (NN H i g2.1 g2.2.2 m) om g3.2 h
end
def jD(s):(Cy s).1.length<=1000000/\Fw (Cy s).1:=by
 unfold Cy;split
 .exact⟨oS,trivial⟩
 .rename_i c;split
  .exact⟨oS,trivial⟩
  .have h1:=jA s;have h:=cG s;unfold O3
   cases a:Cb Bi (Q8 s) s.length ((Q8 s).length+1) 0 [] 0 []with
   |bad m=>exact⟨oS,trivial⟩
   |ok x n=>have:=cH (λt b=>by have:=h t b;omega) om Fb (gu _) (show Fw []from trivial) (gu _) a;exact⟨by simp only;omega,this.1⟩
def W3(v:Ab->Ab)(n:Ab)(k:Ξ):Option (List Nd)×List Ab:=
 (if v ([116,101,109,112,108,97,116,101,47]++n)=[]then none else if(Cy ((v ([116,101,109,112,108,97,116,101,47]++n)).drop 1)).2.2=0 then some (Cy ((v ([116,101,109,112,108,97,116,101,47]++n)).drop 1)).1 else none,De k ([116,101,109,112,108,97,116,101,47]++n))
def uK(v:Ab->Ab)(a:Ej)(url word:Ab):Nc:=⟨Gl v a url word,Uh v a,W3 v⟩
section
variable{L:List Ap}{T:List (Ab × Ab)}{b:Ab->Ab}{a:Ej}{e d:Ab}{m:Nat}
def BI(V:Gb L T b)(n:Ab)(k)(l:n.length<=900000):QH 410 [.elt (.agg (Dv L T a e d m)),str n] (K8 m b k) (λr g=>r=.a6 [.sl 8 (Ka ((W3 b n k).1.getD [])),Af (W3 b n k).1.isSome]/\g=K8 m b (W3 b n k).2) (λ_ _=>False):=by
 refine G7 [] [] [] func410 ?_;have i:W3 b n k=_:=rfl
 conv at i=>rhs;unfold W3
 have f:([116,101,109,112,108,97,116,101,47]++n).length<=1000000:=by simp only[dc,dg,eh];omega
 simp only[Dv,num,str];refine Z0 ?_;repeat (refine And.intro om ?_)
 refine b7 (R0 V ([116,101,109,112,108,97,116,101,47]++n) f k) ?_ (λ_ _ h=>h.elim);rintro r g ⟨rfl,rfl⟩;rw[i];have o:=V.len ([116,101,109,112,108,97,116,101,47]++n);generalize ([116,101,109,112,108,97,116,101,47]++n)=key at *;generalize b key=v at *;simp only[num,str];by_cases c:v=[]
 .have p:(v==[])=true:=by simpa using c
  rw[bn c];exact OY
 have p:(v==[])=false:=by simpa using c
 have q:0<v.length:=oh.2 c;have s:List.take (v.length-1) (List.drop 1 v)=v.drop 1:=Are oS;have h1:=bc (show(1:Int)<=(v.length:Int) by omega);rw[ar c];refine Zu ?_;by_cases j:(Cy (v.drop 1)).2.2=0
 .have e1:=bc (show(((Cy (v.drop 1)).2.2:Nat):Int)=0 by omega);rw[bn j];refine ae (Uj (v.drop 1) (by simp;omega)) ?_;rintro r rfl;try simp only[dQ,num,str,Af]
  exact Ze
 have e1:=bd (show¬(((Cy (v.drop 1)).2.2:Nat):Int)=0 by omega);rw[ar j];refine ae (Uj (v.drop 1) (by simp;omega)) ?_;rintro r rfl;try simp only[dQ,num,str,Af]
 exact OY
def NO(V:Gb L T b)(A:Gk a e d)(c:Int)(n:Ab)(q)(x:Ab)(f:Db c)(h:(Gl b a e d c n q).1=some x):x.length<=1000000:=by
 have h1:=A.name;have u:=A.url;have v:=A.word;have w:=Ei a.n A.n;have y:=Ei c f;have z:=Ei (Li b a) (Fb _);have l:=V.len';have o:∀k,Db k->(Rz a k).length<=2000:=λk r=>by have:=Ei k r;simp only[Rz,dc,dg,eh];omega
 obtain⟨B,C⟩:=A.n;obtain⟨p1,D⟩:Db (Li b a):=Fb _;unfold Gl at h;split at h
 .unfold Jn at h;repeat' split at h
  all_goals first
   |cases h;done
   |(injection h with h;subst h;first|omega|exact gu _|exact cp (l _) om|exact cp (o _ ⟨om,om⟩) om|(split<;>first|(simp only[eh];omega)|omega|(split<;>first|(simp only[eh];omega)|exact cp (o _ ⟨om,om⟩) om)))
 .simp only[Ug]at h;have g:∀p∈dw (b (Pn a c)),p.length<=900000:=λp s=>cp (R1 _ _ p s) (l _)
  have j:∀i,((dw (b (Pn a c))).getD i []).length<=900000:=λi=>by
   rw[fk]
   cases t:(dw (b (Pn a c)))[i]? with
   |none=>simp
   |some p=>exact g p (cu t)
  repeat' split at h
  all_goals first
   |cases h;done
   |(injection h with h;subst h;first|omega|exact cp (j _) om|exact cp (Qh _ _) (cp (j _) om)|(simp only[dc,dg,eh];have:=j 0;omega))
def J0(c:Addr)(m:Nat)(rv:Φ)(b:Ab->Ab)(k):(Dr c m rv b k).Perm (K8 m b k++[.fu c (.agg rv)]):=by show([AV.fu c (.agg rv)]++K8 m b k).Perm _;exact List.perm_append_comm
def src_ok(V:Gb L T b)(A:Gk a e d)(g:Addr):aS g m (Dv L T a e d m) b (uK b a e d) where
 ja:=λf n k h1 s=>HC.weak (HC.sg 0 rfl (HC.perm (γ':=K8 m b k++[.fu g (.agg (Dv L T a e d m))]) (fy (b7 (AbL V A f n k h1 s) (λr u o=>by obtain⟨rfl,rfl⟩:=o;exact⟨_,Dr g m (Dv L T a e d m) b (Gl b a e d f n k).2,bh _,rfl,Gw.perm (J0 _ _ _ _ _).symm,rfl,rfl⟩) (λ_ _ h=>h.elim))) (J0 _ _ _ _ _)))
 vn:=λf n k x t h=>NO V A f n k x t h
 j6:=λf n j c k h1 s v w=>HC.weak (HC.sg 0 rfl (HC.perm (γ':=K8 m b k++[.fu g (.agg (Dv L T a e d m))]) (fy (b7 (AfR V A f n j c k h1 s v w) (λr u o=>by obtain⟨rfl,rfl⟩:=o;exact⟨_,Dr g m (Dv L T a e d m) b (Uh b a f n j c k).2,bh _,rfl,Gw.perm (J0 _ _ _ _ _).symm,rfl,rfl⟩) (λ_ _ h=>h.elim))) (J0 _ _ _ _ _)))
 ue:=λf n j c k=>by
  have y:=V.len' (Bn a f n j c);have z:=bX (b (Bn a f n j c)) [32,111,102,32];have B:=bZ (cut (b (Bn a f n j c)) [32,111,102,32]).1 [44] oD;simp only[uK,Uh];split
  .exact⟨oS,λi q=>by cases q⟩
  .split
   .exact⟨oS,λi q=>by cases q⟩
   .refine⟨by rw[dB];omega,λi q=> ?_⟩;obtain⟨p,_,rfl⟩:=dm.1 q;exact Fb p
 inl:=λn k h=>HC.weak (HC.sg 0 rfl (HC.perm (γ':=K8 m b k++[.fu g (.agg (Dv L T a e d m))]) (fy (b7 (BI V n k h) (λr u o=>by obtain⟨rfl,rfl⟩:=o;exact⟨_,Dr g m (Dv L T a e d m) b (W3 b n k).2,bh _,rfl,Gw.perm (J0 _ _ _ _ _).symm,rfl,rfl⟩) (λ_ _ h=>h.elim))) (J0 _ _ _ _ _)))
 uh:=λn k l h=>by
  simp only[uK,W3]at h;split at h
  .cases h
  .split at h
   .injection h with h;subst h;exact jD _
   .cases h
end
def Bh(k:Int):Ab×Ab:=if k=1 then([102,114,111,110,116],[70,114,111,110,116,32,112,97,103,101,10,123,102,111,114,32,108,97,116,101,115,116,32,53,125,123,116,105,116,108,101,124,115,104,111,114,116,125,10,123,101,110,100,125])else if k=2 then([115,116,111,114,121],[123,116,101,120,116,125,123,102,111,114,32,114,101,108,97,116,101,100,32,51,125,83,101,101,32,97,108,115,111,58,32,123,116,105,116,108,101,125,10,123,101,110,100,125])else if k=3 then([116,111,112,105,99],[123,110,97,109,101,125,44,32,112,97,103,101,32,123,110,117,109,98,101,114,125,32,111,102,32,123,112,97,103,101,115,125,10,123,102,111,114,32,112,97,103,101,125,123,116,105,116,108,101,125,10,123,101,110,100,125,123,105,102,32,110,101,120,116,125,78,101,120,116,58,32,123,110,101,120,116,125,10,123,101,110,100,125])else if k=4 then([97,117,116,104,111,114],[123,110,97,109,101,125,10,123,102,111,114,32,98,121,125,123,116,105,116,108,101,125,10,123,101,110,100,125])else if k=5 then([102,101,101,100],[123,102,111,114,32,108,97,116,101,115,116,32,49,48,125,123,117,114,108,125,32,123,116,105,116,108,101,124,101,115,99,97,112,101,125,10,123,101,110,100,125])else([109,97,112],[123,116,111,112,105,99,115,125,10,123,97,117,116,104,111,114,115,125,10,123,102,111,114,32,108,97,116,101,115,116,32,54,52,125,123,117,114,108,125,10,123,101,110,100,125])
def BJ(k):QA 55 [num k] (λr=>r=.a6 [str (Bh k).1,str (Bh k).2]):=by
 refine ai (G7 [] [] [] func55 ?_) ⟨_,rfl⟩;by_cases h:k=1
 .have e:=bc h;rw[show Bh k=_ from by unfold Bh;rw[bn h]];exact Ze
 have e:=bd h;by_cases h1:k=2
 .have e1:=bc h1;rw[show Bh k=_ from by unfold Bh;rw[ar h,bn h1]];exact Ze
 have e1:=bd h1;by_cases a:k=3
 .have e2:=bc a;rw[show Bh k=_ from by unfold Bh;rw[ar h,ar h1,bn a]];exact Ze
 have e2:=bd a;by_cases b:k=4
 .have d:=bc b;rw[show Bh k=_ from by unfold Bh;rw[ar h,ar h1,ar a,bn b]];exact Ze
 have d:=bd b;by_cases c:k=5
 .have f:=bc c;rw[show Bh k=_ from by unfold Bh;rw[ar h,ar h1,ar a,ar b,bn c]];exact Ze
 have f:=bd c;rw[show Bh k=_ from by unfold Bh;rw[ar h,ar h1,ar a,ar b,ar c]];exact Ze
def Nx:K5->Prop
 |.ok _=>True
 |.bad e _=>e<=200
def R4{o:K5}{f:EvS->K5}(h1:Nx o)(h:∀s,Nx (f s)):Nx (o.bind f):=by
 cases o with
 |ok s=>exact h s
 |bad e s=>exact h1
def V2{f:Nd->EvS->K5}(h:∀x s,Nx (f x s)):∀(l:List Nd) (s:EvS),Nx (O8 f l s)
 |[],s=>trivial
 |x::l,s=>by
  unfold O8;split
  .exact(by decide:111<=200)
  .exact R4 (h _ _) λs=>V2 h l s
def cI{g:Int->EvS->K5}(h:∀x s,Nx (g x s)):∀(l:List Int) (s:EvS),Nx (Kf g l s)
 |[],s=>trivial
 |x::l,s=>by unfold Kf;exact R4 (h _ _) λs=>cI h l s
def NQ(x:Ab)(s):Nx (Nf x s):=by
 unfold Nf;split
 .exact(by decide:111<=200)
 .trivial
def BK{f:Ab->Ab->Option Ab}{S:Nc}{r:List Nd->Int->EvS->K5}(h:∀l i s,Nx (r l i s))(x:Nd)(i:Int)(s):Nx (Eg f S r x i s):=by
 unfold Eg;repeat' split
 all_goals first
  |exact NQ _ _
  |exact(by decide:110<=200)
  |exact(by decide:111<=200)
  |trivial
  |exact h _ _ _
  |exact cI (λ_ _=>h _ _ _) _ _
  |exact R4 (h _ _ _) λ_=>trivial
def cJ{bf:Ab->Ab->Option Ab}{S:Nc}:∀(f:Nat) (l:List Nd) (i:Int) (s:EvS),Nx (Me bf S f l i s)
 |0,l,i,s=>V2 (λ_ s=>(show Nx (.bad 111 s)from(by decide:111<=200))) l s
 |f+1,l,i,s=>V2 (λx s=>BK (λl i s=>cJ f l i s) x i s) l s
def AbR(bf:Ab->Ab->Option Ab)(S:Nc)(l:List Nd)(i:Int)(k):(Ry bf S l i k).2.1<=200:=by
 unfold Ry;have:=cJ (bf:=bf) (S:=S) 2001 l i ⟨[],0,0,k⟩;split
 .exact gu _
 .rename_i e s h;rw[h]at this;exact this
def BL(s):(Cy s).2.2<=200:=by
 unfold Cy;split
 .exact(by decide:90<=200)
 .split
  .exact(by decide:90<=200)
  .unfold O3;split
   .exact gu _
   .exact(by decide:100<=200)
def V3(f:Ab->Ab->Option Ab)(S:Nc)(s:Ab)(i:Int)(k:Ξ):Ab×List Ab:=
 if(Cy s).2.2=0 then(if(Ry f S (Cy s).1 i k).2.1=0 then(Ry f S (Cy s).1 i k).1 else[116,101,109,112,108,97,116,101,32,101,114,114,111,114,32]++itoa (Ry f S (Cy s).1 i k).2.1,(Ry f S (Cy s).1 i k).2.2)
 else([116,101,109,112,108,97,116,101,32,101,114,114,111,114,32]++itoa (Cy s).2.2,k)
section
variable{L:List Ap}{T:List (Ab × Ab)}{val:Ab->Ab}{a:Ej}{url word:Ab}{m:Nat}{b:Ab->Ab->Option Ab}
def AoI(V:Gb L T val)(A:Gk a url word)(Y:Rq b)(s:Ab)(j:s.length<=1000000)(i:Int)(c:Db i)(k):QH 57 [.elt (.agg (Dv L T a url word m)),str s,num i] (K8 m val k) (λr l=>r=str (V3 b (uK val a url word) s i k).1/\l=K8 m val (V3 b (uK val a url word) s i k).2) (λ_ _=>False):=by
 refine G7 [] [] [] func57 ?_;have d:V3 b (uK val a url word) s i k=_:=rfl
 conv at d=>rhs;unfold V3
 have q:=BL s;obtain⟨e,f⟩:=jD s;have k1:HH.cn 112=true:=rfl;simp only[Dv,num,str];refine Z0 ?_;by_cases n:(Cy s).2.2=0;rotate_left
 .have e1:=bd (show¬(((Cy s).2.2:Nat):Int)=0 by omega);rw[d,ar n];refine ae (Uj s j) ?_;rintro r rfl;try simp only[dQ,num,str,Af]
  refine Zu ?_;refine Zh (Em (((Cy s).2.2:Nat):Int) ⟨om,om⟩) ?_;have g:=Ei (((Cy s).2.2:Nat):Int) ⟨om,om⟩;repeat (refine gO ?_)
  exact Ze
 have e1:=bc (show(((Cy s).2.2:Nat):Int)=0 by omega);rw[d,bn n];refine ae (Uj s j) ?_;rintro r rfl;try simp only[dQ,num,str,Af]
 refine Zu ?_;intro t;refine b7 (AoD (src_ok (m:=m) V A t) Y (Cy s).1 i k e f c) ?_ (λ_ _ h=>h.elim);rintro r l ⟨rfl,rfl⟩;have u:=AbR b (uK val a url word) (Cy s).1 i k;generalize Ry b (uK val a url word) (Cy s).1 i k=o at *;simp only[num,str,Dr];by_cases p:o.2.1=0
 .have e2:=bc (show((o.2.1:Nat):Int)=0 by omega);rw[bn p];exact AhN
 have e2:=bd (show¬((o.2.1:Nat):Int)=0 by omega);rw[ar p];refine Zu ?_;refine Zh (Em ((o.2.1:Nat):Int) ⟨om,om⟩) ?_;have g:=Ei ((o.2.1:Nat):Int) ⟨om,om⟩;repeat (refine gO ?_)
 exact AhN
end
def qy(a:Ξ):Prop:=a.Nodup/\∀k∈a,k.length<=1000000
def GB(a k:Ξ):Prop:=(qy a->qy k)/\k.length<=a.length+1
def cK(k:Ξ):GB k k:=⟨id,Nat.le_succ _⟩
def Jp(b:Ξ)(k):GB b (De b k):=by
 unfold De;split
 .exact cK b
 .rename_i c;refine⟨λh=>⟨List.nodup_append.2 ⟨h.1,oS,λx d y a e=> ?_⟩,λy a=> ?_⟩,oS⟩
  .rw[ga]at a;subst a;subst e;exact c (.inl d)
  .rcases ff.1 a with a|a
   .exact h.2 y a
   .rw[ga.1 a];exact Nat.le_of_not_lt λq=>c (.inr q)
def GC(c:Nat)(a s:EvS):Prop:=(qy a.ks->qy s.ks)/\s.ks.length+a.steps<=a.ks.length+s.steps+c/\(a.steps<=2000->s.steps<=2000)
def Iw(c:Nat)(s:EvS):GC c s s:=⟨id,om,id⟩
def GC.trans{a b:Nat}{s c d:EvS}(h1:GC a s c)(h:GC b c d):GC (a+b) s d:=
 ⟨h.1∘h1.1,by have:=h1.2.1;have:=h.2.1;omega,h.2.2∘h1.2.2⟩
def Uk{s a:EvS}(h:GB s.ks a.ks)(b:a.steps=s.steps):GC 1 s a:=⟨h.1,by have:=h.2;omega,λh=>om⟩
def cL(c:Nat)(a:EvS):K5->Prop
 |.ok s=>GC c a s
 |.bad _ s=>GC c a s
def cL.from{a b:Nat}{c d:EvS}{o}(h1:GC a c d)(h:cL b d o):cL (a+b) c o:=by
 cases o with
 |ok s=>exact h1.trans h
 |bad e s=>exact h1.trans h
def cM{a b:Nat}{c:EvS}{o:K5}{f:EvS->K5}(h1:cL a c o)(h:∀s,cL b s (f s)):cL (a+b) c (o.bind f):=by
 cases o with
 |ok s=>exact cL.from h1 (h s)
 |bad e s=>exact⟨h1.1,by have:=h1.2.1;omega,h1.2.2⟩
def nF{f:Nd->EvS->K5}(h:∀x s,cL 1 s (f x s)):∀(l:List Nd) (s:EvS),cL 0 s (O8 f l s)
 |[],s=>Iw 0 s
 |x::l,s=>by
  unfold O8;split
  .exact Iw 0 s
  .rename_i c;refine cM (a:=0) (b:=0) ?_ λs=>nF h l s;have:=h x {s with steps:=s.steps+1};revert this;generalize f x {s with steps:=s.steps+1}=o;intro this
   cases o with
   |ok s1=>exact⟨this.1,by have:=this.2.1;simp only at this;omega,λ_=>this.2.2 (by show s.steps+1<=2000;omega)⟩
   |bad e s1=>exact⟨this.1,by have:=this.2.1;simp only at this;omega,λ_=>this.2.2 (by show s.steps+1<=2000;omega)⟩
def uL{g:Int->EvS->K5}(h:∀x s,cL 0 s (g x s)):∀(l:List Int) (s:EvS),cL 0 s (Kf g l s)
 |[],s=>Iw 0 s
 |x::l,s=>by unfold Kf;exact cM (a:=0) (b:=0) (h _ _) λs=>uL h l s
def GD(x:Ab)(s:EvS):cL 0 s (Nf x s):=by
 unfold Nf;split
 .exact Iw 0 s
 .exact⟨id,oS,id⟩
structure HO (S:Nc):Prop where
 f:∀id n ks,GB ks (S.ja id n ks).2
 l:∀id n a c ks,GB ks (S.j6 id n a c ks).2
 i:∀n ks,GB ks (S.inl n ks).2
def AbS{e:Ab->Ab->Option Ab}{S:Nc}(H:HO S){r:List Nd->Int->EvS->K5}(h:∀l d s,cL 0 s (r l d s))(x:Nd)(d:Int)(s:EvS):cL 1 s (Eg e S r x d s):=by
 have kf:∀d n,GC 1 s {s with ks:=(S.ja d n s.ks).2}:=λd n=>Uk (H.f d n s.ks) rfl;have g:∀d n a c,GC 1 s {s with ks:=(S.j6 d n a c s.ks).2}:=λd n a c=>Uk (H.l d n a c s.ks) rfl;have j:∀n,GC 1 s {s with ks:=(S.inl n s.ks).2}:=λn=>Uk (H.i n s.ks) rfl;have k:∀n,GC 1 s {s with ks:=(S.inl n s.ks).2,inc:=s.inc+1}:=λn=>Uk (H.i n s.ks) rfl;have m:cL 1 s (.bad 110 s):=Iw 1 s;have o:cL 1 s (.bad 111 s):=Iw 1 s;have p:∀t,cL 1 s (Nf t s):=λt=>cL.from (a:=1) (b:=0) (Iw 1 s) (GD t s)
 unfold Eg;repeat' split
 all_goals first
  |exact m
  |exact o
  |exact p _
  |exact kf _ _
  |exact g _ _ _ _
  |exact j _
  |exact cL.from (b:=0) (kf _ _) (GD _ _)
  |exact cL.from (b:=0) (kf _ _) (h _ _ _)
  |exact cL.from (b:=0) (g _ _ _ _) (uL (λ_ _=>h _ _ _) _ _)
  |exact cL.from (b:=0) (k _) (cM (a:=0) (b:=0) (h _ _ _) λ_=>(⟨λh=>h,oS,λh=>h⟩:GC 0 _ _))
def uM{bf:Ab->Ab->Option Ab}{S:Nc}(H:HO S):∀(f:Nat) (l:List Nd) (i:Int) (s:EvS),cL 0 s (Me bf S f l i s)
 |0,l,i,s=>nF (f:=λ_ s=>.bad 111 s) (λ_ s=>Iw 1 s) l s
 |f+1,l,i,s=>nF (λx s=>AbS H (λl i s=>uM H f l i s) x i s) l s
def AfX(bf:Ab->Ab->Option Ab){S:Nc}(H:HO S)(l:List Nd)(i:Int)(k:Ξ):(qy k->qy (Ry bf S l i k).2.2)/\(Ry bf S l i k).2.2.length<=k.length+2000:=by
 unfold Ry;have:=uM (bf:=bf) H 2001 l i ⟨[],0,0,k⟩;split
 .rename_i s h;exact AgL
 .rename_i e s h;exact AgL
def GE{a}{k:Ξ}{c:Prop}[Decidable c]{x y:a×List Ab}(h1:GB k x.2)(h:GB k y.2):GB k (if c then x else y).2:=by split<;>assumption
def AlR{k:Ξ}{c:Prop}[Decidable c]{x y:Ξ}(h1:GB k x)(h:GB k y):GB k (if c then x else y):=by split<;>assumption
def AlS(v:Ab->Ab)(a:Ej)(u w:Ab):HO (uK v a u w) where
 f id n ks:=by show GB ks (Gl v a u w id n ks).2;unfold Gl Jn;repeat' first|exact cK ks|exact Jp ks _|refine GE ?_ ?_|refine AlR ?_ ?_
 l id n x c ks:=by show GB ks (Uh v a id n x c ks).2;unfold Uh;repeat' first|exact cK ks|exact Jp ks _|refine GE ?_ ?_
 i n ks:=Jp ks _
def GF(f:Ab->Ab->Option Ab)(v:Ab->Ab)(a:Ej)(url word s:Ab)(i:Int)(k:Ξ):(qy k->qy (V3 f (uK v a url word) s i k).2)/\(V3 f (uK v a url word) s i k).2.length<=k.length+2000:=by
 unfold V3;split
 .exact AfX f (AlS v a url word) _ i k
 .exact⟨λh=>h,qu _ _⟩
section
variable[Env]
def Ko(x y:Ab):Int:=if x<y then -1 else if y<x then 1 else 0
def Gp{x y:Ab}:Ko x y<0↔x<y:=by
 unfold Ko;by_cases h:x<y
 .rw[bn h];exact⟨λ_=>h,λ_=>om⟩
 .rw[ar h];split<;>exact⟨λh=>om,λa=>cw a h⟩
def uN(x):QA 123 [str x] (λr=>r=Af false):=by refine G6 [] func123 ⟨_,rfl⟩ ?_;have e:(x != x)=false:=oS;have a:(x==x)=true:=oS;exact Ze
def V4(x y:Ab):QA 65 [str x,str y] (λr=>r=num (Ko x y)):=by
 refine Zs [] func65 ⟨_,rfl⟩ ?_;refine Za (uN x) ?_;refine(uN y).mono ?_;rintro r rfl;simp only[Af];by_cases a:x<y
 .have c:Op.bytesLess x y=true:=by rw[bytesLess_eq];simpa using a
  have e:Ko x y= -1:=by unfold Ko;rw[bn a]
  exact Ze
 have c:Op.bytesLess x y=false:=by rw[bytesLess_eq];simpa using a
 by_cases b:y<x
 .have d:Op.bytesLess y x=true:=by rw[bytesLess_eq];simpa using b
  have e:Ko x y=1:=by unfold Ko;rw[ar a,bn b]
  have q:(x==y)=false:=by rw[beq_eq_false_iff_ne];intro h;exact a (h▸b)
  exact Ze
 have d:Op.bytesLess y x=false:=by rw[bytesLess_eq];simpa using b
 have e:Ko x y=0:=by unfold Ko;rw[ar a,ar b]
 have q:(x==y)=true:=by
  rw[beq_iff_eq];rcases Std.lt_trichotomy x y with h|h|h
  .exact cw h a
  .exact h
  .exact cw h b
 exact Ze
def AfY(x y:Ab)(a b:Int):QA 116 [.agg [str x,num a],.agg [str y,num b]] (λr=>r=num (Ko x y)):=by
 refine G6 [] func116 ⟨_,rfl⟩ ?_;repeat' first|apply Aq.on<;>intro _|refine gD ?_|simp only[go_sem]
 refine(V4 x y).mono ?_;rintro r rfl;simp only[num];exact BR
end
def GG(v:Ab->Ab)(k:Ab):AV:=.agg [str k,num (Qq (v k))]
def eH(v:Ab->Ab)(k:Ξ):Φ:=(dst k).map (GG v)
def AlT(v:Ab->Ab)(k:Ξ)(a:k.Nodup)(c:k.length<=1000000):Cm prog 115 (.row 52 2 (k.map (GG v))) [.raw (.func (.func 116) #[] #[])] (λr y=>r=.a6 []/\y=.row 52 2 (eH v k)):=by
 refine Lf Tryz.j9 2 oD Tryz.isAgg52 Tryz.sizeOf52 ⟨_,_,func115,rfl,oD⟩ (enters_of func116 (by kernel_rfl) rfl) k (dst k) (GG v) Ko (λx _=>⟨_,rfl,rfl⟩) c ?_ ?_ ?_ a ?_ ?_ ?_
 .intro x _;rw[Gp];exact F8 x
 .intro x _ y _ z _ h1 b;rw[Gp]at h1 b⊢;exact Ci x y z h1 b
 .intro x _ y _;rw[Gp,Gp];rcases Std.lt_trichotomy x y with h|h|h
  .exact .inl h
  .exact .inr (.inl h)
  .exact R7
 .intro x _ y _;exact @AfY ⟨True,Env.globs⟩ x y _ _
 .exact(vt ((Cv k).1.imp λ{x y} h e=>by subst e;exact F8 x h) a).2 (Cv k).2
 .exact(Cv k).1.imp λh=>Gp.2 h
def X4:Value->Ab
 |.string b=>b.data.toList
 |_=>[]
def uO{w:World}{S:Δ}(f:Ab->Ab):∀(l:Ξ) (v:ϴ) (d:Δ),Ac w S (l.map λk=>str (f k)) v d->v=l.map λk=>Value.string ⟨(f k).toArray⟩
 |[],v,d,h=>by cases h;rfl
 |k::l,v,d,h=>by
  change Ac w S (.raw (.string ⟨(f k).toArray⟩)::l.map λk=>str (f k)) v d at h
  cases h with
  |raw h1 h=>rw[uO f l _ _ h];rfl
def jE(f:Ab->Ab)(w:World)(S:Δ):∀l:Ξ,Ac w S (l.map λk=>str (f k)) (l.map λk=>Value.string ⟨(f k).toArray⟩) (λ_=>0)
 |[]=>.nil Al
 |k::l=>.raw rfl (jE f w S l)
def AbT(v:Ab->Ab):∀(l:List MapEntry) (a:Ξ),l.map (·.key)=a.map Kq->(l.map (·.val))=a.map (λk=>Value.string ⟨(v k).toArray⟩)->l.map (λe=>X4 e.key)=a/\∀e∈l,e.key=Kq (X4 e.key)/\e.val=Value.string ⟨(v (X4 e.key)).toArray⟩
 |[],[],_,_=>⟨rfl,oS⟩
 |[],k::a,h,_=>by simp at h
 |e::l,[],h,_=>by simp at h
 |e::l,k::a,h1,h2=>by
  simp only[ev,b5]at h1 h2;obtain⟨g1,g2⟩:=AbT v l a h1.2 h2.2;have c:X4 e.key=k:=by rw[h1.1];rfl
  refine⟨by simp only[ev,c,g1],λx b=> ?_⟩;rcases e9.1 b with rfl|b
  .rw[c];exact⟨h1.1,h2.1⟩
  .exact g2 x b
def born_inj:∀{l:List MapEntry},(l.map (·.born)).Nodup->∀x∈l,∀y∈l,x.born=y.born->x=y
 |[],_,x,hx,_,_,_=>by simp at hx
 |e::l,h,x,hx,y,hy,he=>by
  simp only[ev,qp]at h;rcases e9.1 hx with h1|h1<;>rcases e9.1 hy with a|a
  .rw[h1,a]
  .exact cw (dm.2 ⟨y,a,by rw[<-he,h1]⟩) h.1
  .exact cw (dm.2 ⟨x,h1,by rw[he,a]⟩) h.1
  .exact born_inj h.2 x h1 y a he
def NR{c:Array MapEntry}{s:Array Nat}{l:List MapEntry}(g:(c.toList.map (·.born)).Nodup)(o:(leftOf c s).size=0)(h1:l.map (·.born)=s.toList)(i:∀e∈l,e∈c.toList)(p:(l.map (·.born)).Nodup):l.Perm c.toList:=by
 have n:∀{l:List MapEntry},(l.map (·.born)).Nodup->l.Nodup:=λ{l} h=>by have:=List.Pairwise.of_map (f:=(·.born)) (R:=λa b:MapEntry=>a≠b) (S:=(·≠ ·)) (λa b h e=>h (by rw[e])) h;exact this
 refine(vt (n p) (n g)).2 λe=>⟨i e,λj=> ?_⟩;have q:=all_seen c s o e j;have k:e.born∈s.toList:=by simpa using q
 rw[<-h1]at k;obtain⟨x,m,d⟩:=dm.1 k;rw[<-born_inj g x (i x m) e j d];exact m
def AiU:∀(l m:Θ),l.Nodup->(∀x∈l,x∈m)->l.length<=m.length
 |[],_,_,_=>gu _
 |x::l,m,h,hs=>by rw[qp]at h;have a:x∈m:=hs x oS;have:=AiU l (m.erase x) h.2 λy b=>(List.mem_erase_of_ne λe=>h.1 (by rw[<-e];exact b)).2 (hs y (by simp[b]));rw[List.length_erase_of_mem a]at this;have:=List.length_pos_of_mem a;simp only[dg];omega
def Xg(a:AV)(r:Nat)(b:Φ)(c d x:AV):Φ:=.elt a:: .any:: .nil:: .mine 52 2 b::c::d:: .any:: .any:: .any:: .any:: .raw (.pointer (some ⟨r,0,none⟩)):: .any::x::List.replicate 13 .any
def GH(e:Array MapEntry)(r:Nat)(w:World):Nat:=match w.heap[r]? with
 |some (.mapIter _ _ seen _)=>(leftOf e seen).size
 |_=>0
section
variable{L:List Ap}{T:List (Ab × Ab)}{b:Ab->Ab}{a:Ej}{url word:Ab}{m:Nat}
def HI.left{d:Ϙ}{g:World}{i j:Δ}{m r:Nat}{e:Array MapEntry}{c:Nat}{s:Array Nat}{l:Φ}{a:Act}{w}(h:HI d g i j m r e c s l a w):GH e r w=(leftOf e s).size:=by obtain⟨S,k,n,u,h1,v,x,y,z,A,o,p,hrw,q,t,f⟩:=h;unfold GH;rw[f]
def HI.raw{d:Ϙ}{f:World}{g i:Δ}{m r:Nat}{j:Array MapEntry}{c:Nat}{s:Array Nat}{e:Φ}{a:Act}{w}{t:Nat}{v}(h:HI d f g i m r j c s e a w)(l:e.getD t .any=.raw v):a.eval (.tmp t)=v:=by obtain⟨S,k,h1,_⟩:=h.open;exact h1.raw l
def AfZ(V:Gb L T b)(k:Ξ)(hnd:k.Nodup)(hlk:k.length<=100000):QH 58 [.elt (.agg (Dv L T a url word m))] (K8 m b k) (λr o=>r=.sl 2 (eH b k)/\o=K8 m b k) (λ_ _=>False):=by
 refine HC.weak (Alo b3 Dc Cl func58 (by simp only[f58];rfl) oD (by rfl) ntmps58 (fq Array.toList results58) ?_);simp only[LS,Nat.reduceAdd,Nat.reduceSub];simp only[Dv,num,str];refine lZ (mA b3 Dc Cl [] [] [] sL oK ?_);refine Z0 ?_;refine lZ (mA b3 Dc Cl [] [] [] sL oK ?_);refine Z0 ?_;refine lZ ?_;refine λj w0 S0 c0 a0 w F=>wp_seq (wp_region ?_);refine Nj b3 Dc (Rr _) [4] (fz:=[]) (K:=λo f=>o=K8 m b k/\Wk f (.elt (.agg (Dv L T a url word m)):: .any:: .nil:: .mine 52 2 []:: .any:: .any:: .any:: .any:: .any:: .raw (.map (some m))::List.replicate 16 .any)) (E:=λ_ _ _=>False) [0,1,2,3] [_,_,_,_] _ _ _ a0 w rfl sL F ?_ ?_ (λ_ _ _ _ _ h _=>h.elim)
 .simp only[py,qx,qw];refine Z0 ?_;simp only[Dv,num,str];exact Wi.h
 rintro o f a1 w1 G ⟨rfl,hw⟩;unfold wpOps;simp only[List.getElem?_toArray,aw,ba];rw[bn (by simp[wanted])];refine .inl (Ba ?_ (HI.start (P:=prog) rfl (kt:=9) (et:=9) (by kernel_rfl) rfl (G.wk hw)));clear G hw F;rintro a2 w2 ⟨r,g,p,hI,hk,hb,⟨S,d,hv⟩,hm0⟩;have J:=uO b k _ _ hv;obtain⟨M,hent⟩:=AbT b g.toList k hk J;have hbn:(g.toList.map (·.born)).Nodup:=hb.1.imp λh=>Nat.ne_of_lt h;have hI0:HI j w0 S0 c0 m r g p #[] (Xg (.agg (Dv L T a url word m)) r [] .any .any .any) a2 w2:=by refine hI.wk ?_;simp only[Xg,go_sem];exact Wi.h
 clear hI hv;unfold wpOps;refine wp_block (wp_loop (I:=λN q=>∃s l,HI j w0 S0 c0 m r g p s (Xg (.agg (Dv L T a url word m)) r (l.map λe=>GG b (X4 e.key)) .any .any .any) N q/\l.map (·.born)=s.toList/\(∀e∈l,e∈g.toList)/\(l.map (·.born)).Nodup) (λ_ q=>GH g r q) ⟨#[],[],hI0,rfl,oS,oS⟩ ?_);rintro a3 w3 ⟨s,l,O,u,v,z⟩;rw[O.left];refine wp_seq (wp_region ?_);show wpOps prog _ _ [0,1] a3 w3;unfold wpOps;simp only[List.getElem?_toArray,aw,ba];rw[bn (by simp[wanted])];refine .inl (Ba ?_ (HI.next (P:=prog) rfl rfl O hb.2));rintro a4 w4 (⟨h0,A⟩|⟨e,R,A⟩)
 .refine HI.ops b3 Dc [1] [_] _ (K:=λf=>Wk f (Xg (.agg (Dv L T a url word m)) r (l.map λe=>GG b (X4 e.key)) .any .any (.raw (.bool false)))) rfl sL A ?_ ?_
  .exact AgJ
  rintro wi N q B C;have c:=C.wk B;refine wp_seq (wp_cond_false (c.raw (t:=12) rfl) (wp_exit ?_));show Zi j w0 S0 c0 _ .normal N q;have hp:(l.map λe=>X4 e.key).Perm k:=by have:=(NR hbn h0 u v z).map λe:MapEntry=>X4 e.key;rw[M]at this;exact this
  have hkm:(l.map λe=>GG b (X4 e.key))=(l.map λe=>X4 e.key).map (GG b):=by rw[lq];rfl
  rw[hkm]at c;refine⟨K8 m b k,_,?_,c.stop hm0 hk hb (λw S=>by rw[J];exact jE b w S k)⟩;have hkd:eH b (l.map λe=>X4 e.key)=eH b k:=by unfold eH;rw[AkS λx=>hp.mem_iff]
  have hnk:=hp.nodup_iff.2 hnd;have hlk2:=hp.length_eq;generalize (l.map λe=>X4 e.key)=kl at *;show Cp prog TT HH (.ext _) _ _ _;refine mA b3 Dc Cl [(6,[100003],[]),(7,[3],[])] [] [] sL oK ?_;simp only[Xg,str,mc,ml];refine Z0 ?_;refine Cm.mono (AlT b kl hnk om) ?_;rintro r y ⟨rfl,rfl⟩;refine Z0 ?_;exact⟨_,_,dy _ 2 _,rfl,aa _,by rw[hkd],rfl⟩
 refine HI.ops b3 Dc [1] [_] _ (K:=λf=>Wk f (Xg (.agg (Dv L T a url word m)) r (l.map λe=>GG b (X4 e.key)) .any .any (.raw (.bool true)))) rfl sL A ?_ ?_
 .exact AgJ
 rintro wi N q B C;have c:=C.wk B;obtain⟨D,U⟩:=mem_left R;obtain⟨W,X⟩:=hent e D;refine wp_seq (wp_cond_true (c.raw (t:=12) rfl) (wp_skip ?_));refine wp_block (wp_seq (wp_region ?_));show wpOps prog _ _ [0,1,2,3,4] N q;unfold wpOps;simp only[List.getElem?_toArray,aw,ba];rw[bn (by simp[wanted])];refine .inl (Ba ?_ (HI.entry (P:=prog) rfl rfl c D hbn (by rw[W];rfl) (by rw[X];rfl)));intro a7 w7 Y;rw[W,X]at Y;refine HI.ops b3 Dc [1,2,3,4] [_,_,_,_] _ (K:=λf=>Wk f (Xg (.agg (Dv L T a url word m)) r (l.map λe=>GG b (X4 e.key)) (str (X4 e.key)) (str (b (X4 e.key))) .any)) rfl sL Y ?_ ?_
 .simp only[Xg,py,qx,qw,Kq,str,mc,ml];refine Z0 ?_;exact Wi.h
 rintro σ8 a8 w8 hK8 hI8;have hI9:=hI8.wk hK8;refine wp_mono (HI.run (T:=TT) (H:=HH) (Q:=λex o f=>ex=.normal/\o=[]/\Wk f (Xg (.agg (Dv L T a url word m)) r ((l++[e]).map λe=>GG b (X4 e.key)) .any .any .any)) hI9 (mA b3 Dc Cl [] [] [] sL oK ?_)) ?_
 .simp only[Xg,str,mc,ml];refine Z0 ?_;refine ae (AiJ (b (X4 e.key)) (V.len _)) ?_;rintro rr rfl;simp only[num];have hln:(l.map λe=>GG b (X4 e.key)).length<=100000:=by have:=AiU (l.map (·.born)) (g.toList.map (·.born)) z (λx i=>by obtain⟨y,hy,rfl⟩:=dm.1 i;exact dm.2 ⟨y,v y hy,rfl⟩);have h2:=fq List.length M;simp only[dB]at this h2⊢;omega
  have hln2:l.length<=100000:=by simpa using hln
  have hsn:(l.map λe=>GG b (X4 e.key))++[.agg [.raw (.string ⟨(X4 e.key).toArray⟩),.raw (.int .i64 (Qq (b (X4 e.key))))]]=(l++[e]).map λe=>GG b (X4 e.key):=by rw[ip];rfl
  refine Z1 hsn ?_;exact Wi.h
 rintro ex a10 Z ⟨o,f,⟨rfl,rfl,hK⟩,zw⟩;have n:=(zw rfl).wk hK;show(∃(s:Array Nat) (l:List MapEntry),HI j w0 S0 c0 m r g p s (Xg (.agg (Dv L T a url word m)) r (l.map λe=>GG b (X4 e.key)) .any .any .any) a10 Z/\l.map (·.born)=s.toList/\(∀e∈l,e∈g.toList)/\(l.map (·.born)).Nodup)/\GH g r Z<_;refine⟨⟨s.push e.born,l++[e],n,?_,?_,?_⟩,?_⟩
 .simp[u]
 .intro x i;rcases ff.1 i with i|i
  .exact v x i
  .rw[ga]at i;rw[i];exact D
 .rw[ip,ev,db];refine List.nodup_append.2 ⟨z,oS,λx i y hy exy=> ?_⟩;rw[ga]at hy;subst hy;subst exy;rw[u]at i;have:s.contains e.born=true:=by simpa using i
  rw[this]at U;cases U
 .rw[n.left];exact left_shrinks g s e R
end
def eI(v:Ab->Ab)(k:Int):Ab:=if v ([116,101,109,112,108,97,116,101,47]++(Bh k).1)=[]then(Bh k).2 else(v ([116,101,109,112,108,97,116,101,47]++(Bh k).1)).drop 1
def Il(f:Ab->Ab->Option Ab)(v:Ab->Ab)(url:Ab):Option (Ab×List Ab):=match Gv url with
 |none=>none
 |some a=>if v ([97,100,100,114,101,115,115]++url)=[]then none
  else some (V3 f (uK v a url (Bh a.kind).1) (eI v a.kind) (if a.kind=2 then a.n else 0) (De (De [] ([97,100,100,114,101,115,115]++url)) ([116,101,109,112,108,97,116,101,47]++(Bh a.kind).1)))
def u_(v:Ab->Ab)(url:Ab):Option (Ab×List Ab)->AV
 |none=>.a6 [.agg [str [],str [],.sl 2 []],num 130]
 |some x=>.a6 [.agg [str url,str x.1,.sl 2 (eH v x.2)],num 0]
section
variable{L:List Ap}{T:List (Ab × Ab)}{b:Ab->Ab}{url:Ab}{c:Ab->Ab->Option Ab}
def jF(k):(Bh k).1.length<=1000/\(Bh k).2.length<=1000:=by
 unfold Bh;repeat' split
 all_goals exact⟨oD,oD⟩
def nG(V:Gb L T b)(Y:Rq c)(G:url.length<=1000)(C:∀a,Gv url=some a->Gk a url (Bh a.kind).1):
 QA 20 [.agg [.sl 8 (L.map ci),.sl 2 (T.map A4)],str url] (λr=>r=u_ b url (Il c b url)):=by
 refine ai (HC.weak ?_) ⟨_,rfl⟩;refine Cc [(1000011,[],[]),(1000014,[],[])] [5] [] b3 Dc Cl func20 oD oK (by simp only[go_sem,reduceIte];rfl) ntmps20 results20 rfl ?_;simp only[LS,Nat.reduceAdd,Nat.reduceSub];repeat' first|apply Aq.on<;>intro _|refine gD ?_|simp only[go_sem]
 refine ae (FC url om) ?_;rintro r rfl;have e:Il c b url=_:=rfl
 conv at e=>rhs;unfold Il
 cases w:Gv url with
 |none=>
  rw[w]at e;simp only at e;rw[e];simp only[Ro,num,str,Fe,rM];have l:=bd (show¬((120:Int)=0) by decide);repeat' first|apply Aq.on<;>intro _|refine gD ?_|simp only[go_sem,l]
  exact⟨_,_,eu (Oh (c9 (c9 (B7 (br _)))) (br _)),rfl,aa _,rfl,rfl⟩
 |some a=>
  rw[w]at e;simp only at e;have A:=C a w;obtain⟨H,I⟩:=jF a.kind;simp only[Ro,num,str,Fe];repeat' first|apply Aq.on<;>intro _|refine gD ?_|simp only[go_sem]
  refine ae (BJ a.kind) ?_;rintro r rfl;simp only[num,str];repeat' first|apply Aq.on<;>intro _|refine gD ?_|simp only[go_sem]
  refine Tu b3 Dc (Rr _) [34] sL ?_;repeat' first|apply Aq.on<;>intro _|refine gD ?_|simp only[go_sem]
  intro m J;repeat' first|apply Aq.on<;>intro _|refine gD ?_|simp only[go_sem]
  refine b7 (R0 (a:=a) (url:=url) (word:=(Bh a.kind).1) (m:=m) V (97::100::100::114::101::115::115::url) (by simp only[dg];omega) []) ?_ (λ_ _ h=>h.elim);rintro r d ⟨rfl,rfl⟩;simp only[num,str];by_cases v:b (97::100::100::114::101::115::115::url)=[]
  .have j:(b (97::100::100::114::101::115::115::url)==[])=true:=by simpa using v
   rw[e,bn (show b ([97,100,100,114,101,115,115]++url)=[]from v)];repeat' first|apply Aq.on<;>intro _|refine gD ?_|simp only[go_sem,j]
   exact⟨_,[],eu (Oh (c9 (c9 (B7 (br _)))) (br _)),rfl,Gw.none _,rfl,rfl⟩
  have j:(b (97::100::100::114::101::115::115::url)==[])=false:=by simpa using v
  rw[e,ar (show¬b ([97,100,100,114,101,115,115]++url)=[]from v)];repeat' first|apply Aq.on<;>intro _|refine gD ?_|simp only[go_sem,j]
  have D:=V.len (116::101::109::112::108::97::116::101::47::(Bh a.kind).1);have p:∀(s:Ab) (k:Int),s.length<=1000000->Db k->QH 57 [.elt (.agg (Dv L T a url (Bh a.kind).1 m)),str s,num k] (K8 m b (De (De [] (97::100::100::114::101::115::115::url)) (116::101::109::112::108::97::116::101::47::(Bh a.kind).1))) (λr d=>r=str (V3 c (uK b a url (Bh a.kind).1) s k (De (De [] (97::100::100::114::101::115::115::url)) (116::101::109::112::108::97::116::101::47::(Bh a.kind).1))).1/\d=K8 m b (V3 c (uK b a url (Bh a.kind).1) s k (De (De [] (97::100::100::114::101::115::115::url)) (116::101::109::112::108::97::116::101::47::(Bh a.kind).1))).2) (λ_ _=>False):=λs k h1 f=>AoI V A Y s h1 k f _;have g:=λE h1 f=>AfZ (L:=L) (T:=T) (a:=a) (url:=url) (word:=(Bh a.kind).1) (m:=m) V E h1 f;simp only[num,str,Dv]at p g⊢;have q:Db (if a.kind=2 then a.n else 0):=by split<;>first|exact A.n|exact⟨om,om⟩
  have z:b (116::101::109::112::108::97::116::101::47::(Bh a.kind).1)=[]->eI b a.kind=(Bh a.kind).2:=λh=>bn h;have B:b (116::101::109::112::108::97::116::101::47::(Bh a.kind).1)≠[]->eI b a.kind=(b (116::101::109::112::108::97::116::101::47::(Bh a.kind).1)).drop 1:=λh=>ar h
  have y:(eI b a.kind).length<=1000000:=by
   by_cases h:b (116::101::109::112::108::97::116::101::47::(Bh a.kind).1)=[]
   .rw[z h];omega
   .rw[B h,jb];omega
  refine Bv (rl [13,50]) [9] (λx d=>d=K8 m b (De (De [] (97::100::100::114::101::115::115::url)) (116::101::109::112::108::97::116::101::47::(Bh a.kind).1))/\x=[str (eI b a.kind)]) ?_ ?_
  .repeat' first|apply Aq.on<;>intro _|refine gD ?_|simp only[go_sem,j]
   refine b7 (R0 (a:=a) (url:=url) (word:=(Bh a.kind).1) (m:=m) V (116::101::109::112::108::97::116::101::47::(Bh a.kind).1) (by simp only[dg];omega) (De [] (97::100::100::114::101::115::115::url))) ?_ (λ_ _ h=>h.elim);rintro r d ⟨rfl,rfl⟩;try simp only[num,str,Dv]
   by_cases h1:b (116::101::109::112::108::97::116::101::47::(Bh a.kind).1)=[]
   .have e1:(b (116::101::109::112::108::97::116::101::47::(Bh a.kind).1)==[])=true:=by simpa using h1
    rw[z h1];repeat' first|apply Aq.on<;>intro _|refine gD ?_|simp only[go_sem,j,e1]
    refine Bw _ _ ⟨rfl,rfl⟩ (hent (aa _) ?_);simp only[PU,num,str];first|exact Wi.h|exact br _
   .have e1:(b (116::101::109::112::108::97::116::101::47::(Bh a.kind).1)==[])=false:=by simpa using h1
    rw[B h1];have F:0<(b (116::101::109::112::108::97::116::101::47::(Bh a.kind).1)).length:=oh.2 h1;have g1:=bc (show(1:Int)<=((b (116::101::109::112::108::97::116::101::47::(Bh a.kind).1)).length:Int) by omega);have g2:List.take ((b (116::101::109::112::108::97::116::101::47::(Bh a.kind).1)).length-1) (List.drop 1 (b (116::101::109::112::108::97::116::101::47::(Bh a.kind).1)))=(b (116::101::109::112::108::97::116::101::47::(Bh a.kind).1)).drop 1:=Are oS;repeat' first|apply Aq.on<;>intro _|refine gD ?_|simp only[go_sem,j,e1,g1,g2]
    refine Bw _ _ ⟨rfl,rfl⟩ (hent (aa _) ?_);simp only[PU,num,str];first|exact Wi.h|exact br _
  rintro x d ⟨rfl,rfl⟩;simp only[PU,str];repeat' first|apply Aq.on<;>intro _|refine gD ?_|simp only[go_sem]
  refine Bv (rl [13,50]) [12] (λx d=>d=K8 m b (De (De [] (97::100::100::114::101::115::115::url)) (116::101::109::112::108::97::116::101::47::(Bh a.kind).1))/\x=[num (if a.kind=2 then a.n else 0)]) ?_ ?_
  .by_cases f:a.kind=2
   .have e2:=bc f;rw[bn f];repeat' first|apply Aq.on<;>intro _|refine gD ?_|simp only[go_sem,e2]
    refine Bw _ _ ⟨rfl,rfl⟩ (hent (aa _) ?_);simp only[PU,num,str];first|exact Wi.h|exact br _
   .have e2:=bd f;rw[ar f];repeat' first|apply Aq.on<;>intro _|refine gD ?_|simp only[go_sem,e2]
    refine Bw _ _ ⟨rfl,rfl⟩ (hent (aa _) ?_);simp only[PU,num,str];first|exact Wi.h|exact br _
  rintro x d ⟨rfl,rfl⟩;simp only[PU,num];repeat' first|apply Aq.on<;>intro _|refine gD ?_|simp only[go_sem]
  refine b7 (p _ _ y q) ?_ (λ_ _ h=>h.elim);rintro r d ⟨rfl,rfl⟩;try simp only[num,str]
  have i:=GF c b a url (Bh a.kind).1 (eI b a.kind) (if a.kind=2 then a.n else 0) (De (De [] (97::100::100::114::101::115::115::url)) (116::101::109::112::108::97::116::101::47::(Bh a.kind).1));have t:=(i.1 ((Jp _ _).1 ((Jp [] _).1 ⟨List.nodup_nil,oS⟩))).1;have u:=cp i.2 (Nat.add_le_add_right (cp (Jp _ _).2 (Nat.succ_le_succ (Jp [] (97::100::100::114::101::115::115::url)).2)) 2000);clear i;generalize V3 c (uK b a url (Bh a.kind).1) (eI b a.kind) (if a.kind=2 then a.n else 0) (De (De [] (97::100::100::114::101::115::115::url)) (116::101::109::112::108::97::116::101::47::(Bh a.kind).1))=o at *;repeat' first|apply Aq.on<;>intro _|refine gD ?_|simp only[go_sem]
  refine b7 (g _ t (by simp at u;omega)) ?_ (λ_ _ h=>h.elim);rintro r d ⟨rfl,rfl⟩;repeat' first|apply Aq.on<;>intro _|refine gD ?_|simp only[go_sem]
  exact⟨_,[],bh _,rfl,Gw.none _,rfl,rfl⟩
end
def cN{s:Ab}(h:Bp s=true):s.length<=1000:=by unfold Bp at h;simp only[gk,i6]at h;omega
def BM{url:Ab}{a:Ej}(d:url.length<=1000)(h:Gv url=some a):Gk a url (Bh a.kind).1:=by
 have b:=(aC h).1;have e:=(jF a.kind).1;unfold Be at b
 have g:Db a.kind/\Db a.n/\a.name.length<=1000/\a.lang.length<=1000:=by
  have z:Db 0:=⟨om,om⟩;have f:∀n,Ox n=true->Db n:=λn c=>by unfold Ox at c;simp only[gk,i6]at c;exact⟨om,om⟩
  repeat' split at b
  all_goals first
   |cases b;done
   |(simp only[gk,i6]at b
     refine⟨⟨om,om⟩,?_,?_,?_⟩
     .first|exact f _ b.1|(rw[b.2.1];exact z)
     .first|exact cN b.1|exact cN b.2.1|(rw[b.1];simp)|(rw[b.2.2];simp)
     .first|exact cN b.2.1|(rw[b.2.2];simp)|(rw[b.2];simp))
 exact⟨g.1,g.2.1,g.2.2.1,g.2.2.2,d,e⟩
section
variable[Env]
section
variable{α:Type}{enc:α->Value}
def nH [Inhabited α] {P:Program} {F:Ren} (L:SlLaysF.n6 P F) {e g:Nat} (G:Hr P (F.f 6)) (Y:∀i w,(callFunc g i).run P w=.ok (.enter g i) w) (ho:∀a,(enc a).oneCell'=true)
 (j:α->α->Int) (Z:SWO (ltOf j)) (hT:∀x y,(ltOf j) x y=false->(ltOf j) y x=false->x=y)
 (l:∀x y:α,@Aa ⟨True,Env.globs⟩ P g [.raw (enc x),.raw (enc y)] (λr=>r=num (j x y))) (zs:List α) (hl:zs.length<=1000000):
 Cm P (F.f 6) (.row e 1 (Eo enc zs)) [.raw (.func (.func g) #[] #[])] (λr y=>r=.a6 []/\y=.row e 1 (Eo enc (zs.mergeSort λx y=> !(ltOf j) y x))):=by
 refine⟨G,⟨_,_,rfl,rfl⟩,λw S v vs c s N hc=> ?_⟩;obtain⟨v',us,O,d2,H,h1,Q,R⟩:=N.bu;injection H with e1 e2;subst e1;subst e2;obtain⟨fv,E_,T,d4,rfl,U,V,hd2⟩:=Q.bu;obtain⟨rfl,t⟩:=V.zero;have I:fv=.func (.func g) #[] #[]/\Zc T:=by cases U with|raw ho h=>cases h with|nil s=>exact⟨rfl,s⟩
 obtain⟨rfl,u⟩:=I;have z:∀b,c b=O b:=λb=>by rw[R,hd2,u b,t b];omega
 have o:Ac w S [.row e 1 (Eo enc zs)] [v] c:=h1.congr z;by_cases A:zs=[]
 .subst A;have hv:∃p d,v=.slice p 0 d:=by exact nS
  obtain⟨p,d,rfl⟩:=hv;refine(AnyF.slices_SortFunc_none {L with} p d _ w).mono ?_;rintro e' w' ⟨rfl,rfl⟩;refine⟨_,_,_,S,c,rfl,⟨rfl,rfl⟩,rfl,.inr ⟨_,_,_,rfl⟩,?_,hc,s,bt _ _ _⟩;rw[List.mergeSort_nil];exact fh (.nil Al) o (c1:=λ_=>0) (c2:=c) (λb=>oS)
 .have J:Eo enc zs≠[]:=by simpa[Eo]using A
  clear h1 Q U V N R hd2 u t z O d2 T d4;generalize B:Eo enc zs=es at o
  cases o with
  |ge h=>exact cw B J
  |row hn hcap hk hb hs hS h1 h0 ho' hnil' hcc=>
   rename_i b d cur c0 c2;obtain⟨_,hz2⟩:=hnil'.zero;subst B;have hlen:=Ir (enc:=enc) zs;rw[Jy]at h1;have W:=Ti h1;rw[hlen,md]at W;have K:b<w.heap.size:=(ah.1 hb).1;rw[hlen];have C:0<c b:=by rw[hcc];simp;omega
   have hu:upd S b 0=S:=by
    funext x;unfold upd;split
    .rename_i h;subst h;rw[hS]
    .rfl
   have D:CmpLays1 P g #[] enc j b 0 zs.toArray.size w:=λm os X hdk x y=>by obtain⟨hst,hsz⟩:=Xq (enc:=enc) (n:=m) (os:=os) X s hb C hS 0;rw[hu]at hst hsz;have q:Ac (sortWorld enc w b 0 m X os) S [.raw (enc x),.raw (enc y)] [enc x,enc y] (λ_=>0):=.raw (ho x) (.raw (ho y) (.nil Al));have E:=EX (l x y) hsz q;rw[Array.append_empty];exact E
   have k:=Any.slices_SortFunc_total L enc ho j Z g #[] b 0 d zs.toArray w Y D (Ve hb W) K (by simp;omega) hT;rw[List.size_toArray]at k;refine k.mono ?_;rintro e' w' ⟨rfl,n,os,rfl⟩;generalize M:(zs.mergeSort λx y=> !(ltOf j) y x)=ss;have qd:ss.length=zs.length:=by rw[<-M,tg]
   obtain⟨hst,hsz⟩:=Xq (enc:=enc) (n:=n) (os:=os) ss.toArray s hb C hS 0;exact Ϻ
end
section
abbrev Pr(x:Ξ):={s:Ϟ // s∈x}
def eJ {P:Program} {J:Ren} (L:SlLaysF.n6 P J) {e g:Nat} (H:Hr P (J.f 6)) (Z:∀E w,(callFunc g E).run P w=.ok (.enter g E) w)
 (X:Ξ) (hlen:X.length<=1000000) (d:Ϟ->Ϟ->Int)
 (A:∀x∈X,¬d x x<0) (t:∀x∈X,∀y∈X,∀z∈X,d x y<0->d y z<0->d x z<0) (n:∀x∈X,∀y∈X,d x y<0\/x=y\/d y x<0)
 (q:∀x∈X,∀y∈X,@Aa ⟨True,Env.globs⟩ P g [str x,str y] (λr=>r=num (d x y))):
 Cm P (J.f 6) (.row e 1 (X.map str)) [.raw (.func (.func g) #[] #[])] (λr y=>r=.a6 []/\∃D:Ξ,D.Perm X/\D.Pairwise (λx y=>d x y<0\/x=y)/\y=.row e 1 (D.map str)):=by
 have K:∀(Y:Ξ) [Inhabited (Pr Y)],(∀x∈Y,¬d x x<0)->(∀x∈Y,∀y∈Y,∀z∈Y,d x y<0->d y z<0->d x z<0)->(∀x∈Y,∀y∈Y,d x y<0\/x=y\/d y x<0)->
  (∀x∈Y,∀y∈Y,@Aa ⟨True,Env.globs⟩ P g [str x,str y] (λr=>r=num (d x y)))->∀G:List (Pr Y),G.length<=1000000->
  Cm P (J.f 6) (.row e 1 ((G.map (·.1)).map str)) [.raw (.func (.func g) #[] #[])] (λr y=>r=.a6 []/\∃D:Ξ,D.Perm (G.map (·.1))/\D.Pairwise (λx y=>d x y<0\/x=y)/\y=.row e 1 (D.map str)):=by
  intro Y _ A t n q G M;have B:∀x y:Pr Y,ltOf (λx y:Pr Y=>d x.1 y.1) x y=true↔d x.1 y.1<0:=λx y=>by simp[ltOf]
  have m:∀x y:Pr Y,ltOf (λx y:Pr Y=>d x.1 y.1) x y=false↔¬d x.1 y.1<0:=λx y=>by rw[<-B x y];simp
  have hO:SWO (ltOf (λx y:Pr Y=>d x.1 y.1)):=by
   refine⟨λi=>(m i i).2 (A _ i.2),λi j k h1 o=>(B i k).2 (t _ i.2 _ j.2 _ k.2 ((B i j).1 h1) ((B j k).1 o)),λi j k h1 o=>(m i k).2 λC=> ?_⟩;have h1:=(m i j).1 h1;have o:=(m j k).1 o;rcases n _ j.2 _ k.2 with h|h|h
   .exact o h
   .rw[<-h]at C;exact h1 C
   .exact h1 (t _ i.2 _ k.2 _ j.2 C h)
  have hT:∀i j:Pr Y,ltOf (λx y:Pr Y=>d x.1 y.1) i j=false->ltOf (λx y:Pr Y=>d x.1 y.1) j i=false->i=j:=λi j h1 o=>by
   rcases n _ i.2 _ j.2 with h|h|h
   .exact cw h ((m i j).1 h1)
   .exact Subtype.ext h
   .exact cw h ((m j i).1 o)
  have h:=nH (e:=e) (g:=g) (α:=Pr Y) (enc:=λs=>.string ⟨s.1.toArray⟩) L H Z (λ_=>rfl) (λx y=>d x.1 y.1) hO hT (λx y=>q _ x.2 _ y.2) G M;have W:∀l:List (Pr Y),Eo (λs:Pr Y=>Value.string ⟨s.1.toArray⟩) l=(l.map (·.1)).map str:=λl=>by simp[Eo,str]
  rw[W]at h;refine Cm.mono h ?_;rintro r y ⟨rfl,rfl⟩;rw[W];refine⟨rfl,_,(List.mergeSort_perm _ _).map _,?_,rfl⟩;have u:∀i j:Pr Y,(!(ltOf (λx y:Pr Y=>d x.1 y.1)) j i)=true↔¬d j.1 i.1<0:=λi j=>by rw[<-m j i];simp
  have:=List.pairwise_mergeSort (le:=λx y=> !(ltOf (λx y:Pr Y=>d x.1 y.1)) y x) (λi j k h1 o=> ?_) (λi j=> ?_) G
  .refine List.pairwise_map.2 (this.imp λ{a b} h=> ?_);have h1:=(u a b).1 h;rcases n _ a.2 _ b.2 with h|h|h
   .exact .inl h
   .exact .inr h
   .exact cw h h1
  .have h1:=(u i j).1 h1;have o:=(u j k).1 o;refine(u i k).2 λC=> ?_;rcases n _ i.2 _ j.2 with h|h|h
   .exact o (t _ k.2 _ i.2 _ j.2 C h)
   .rw[h]at C;exact o C
   .exact h1 h
  .rw[n8];by_cases h:d j.1 i.1<0
   .exact .inr ((u j i).2 λo=>A _ i.2 (t _ i.2 _ j.2 _ i.2 o h))
   .exact .inl ((u i j).2 h)
 cases I:X with
 |nil=>
  refine⟨H,⟨_,_,rfl,[],.refl _,.nil,rfl⟩,λw S v vs c N hr hc=> ?_⟩;obtain⟨v',us,d1,d2,O,h1,o,hd⟩:=hr.bu;injection O with e1 e2;subst e1;subst e2;obtain⟨fv,E_,d3,d4,rfl,C,h4,hd2⟩:=o.bu;obtain⟨rfl,Q⟩:=h4.zero;have R:fv=.func (.func g) #[] #[]/\Zc d3:=by cases C with|raw ho h=>cases h with|nil N=>exact⟨rfl,N⟩
  obtain⟨rfl,T⟩:=R;have U:∀b,c b=d1 b:=λb=>by rw[hd,hd2,T b,Q b];omega
  have V:=h1.congr U;have hv:∃p F,v=.slice p 0 F:=by exact nS
  obtain⟨p,F,rfl⟩:=hv;refine(AnyF.slices_SortFunc_none {L with} p F _ w).mono ?_;rintro e' w' ⟨rfl,rfl⟩;exact⟨_,_,_,S,c,rfl,⟨rfl,[],.refl _,.nil,rfl⟩,rfl,.inr ⟨_,_,_,rfl⟩,fh (.nil Al) V (c1:=λ_=>0) (c2:=c) (λb=>oS),hc,N,bt _ _ _⟩
 |cons x0 xr=>
  rw[<-I]
  haveI:Inhabited (Pr X):=⟨⟨x0,by rw[I];simp⟩⟩
  have h:=K X A t n q X.attach (by simpa using hlen);rw[List.attach_map_subtype_val]at h;exact h
end
end
end Go.Proofs.YtobhohikfmlccaaGreatDoor
namespace Go.Proofs
def Tryz.jf:Go.Shelf.Ren:=⟨λ|6=>120|15=>180|14=>185|28=>240|29=>241|20=>251|21=>252|22=>253|23=>254|24=>255|25=>256|26=>257|27=>258|46=>310|47=>303|48=>304|49=>311|50=>312|57=>361|n=>n,λ|22=>38|24=>9|25=>123|3=>3|39=>127|0=>0|53=>126|55=>289|4=>4|46=>282|45=>281|50=>142|5=>5|9=>9|66=>343|70=>347|76=>380|77=>381|n=>n,λ|n=>n⟩
def Tryz.kn:Go.Proofs.SlLaysF.n6 prog Tryz.jf:=Tryz.lw
end Go.Proofs
namespace Go.Proofs.YtobhohikfmlccaaGreatDoor
def jG(a:Ej):QA 122 [Fe a] (λr=>r=num (if Be a=true then wc a else -1)):=by
 simp only[Fe];refine G6 [] func122 ⟨_,rfl⟩ ?_;cases hv:Be a
 .refine Zu ?_;refine Zb (J9 a) ?_;rintro r rfl;try simp only[Af,num,str]
  exact Ag6
 .refine Zu ?_;refine Zb (J9 a) ?_;rintro r rfl;try simp only[Af,num,str]
  repeat' first|apply Aq.on<;>intro _|refine gD ?_|simp only[go_sem,DT,Int.reduceEq,hv]
  refine((Td a hv).wk ?_).mono ?_
  .exact CP
  rintro r rfl;simp only[num];exact Ag6
def N5(s:Ab):Int:=match Gv s with
 |some a=>if Be a=true then wc a else -1
 |none=> -1
def cO(s:Ab)(b:s.length<=1000000):QA 64 [str s] (λr=>r=num (N5 s)):=by
 refine Zs [] func64 ⟨_,rfl⟩ ?_;refine Zb (FC s b) ?_;rintro r rfl;try simp only[Ro]
 refine Zu ?_;have h:Be rM=false:=oD;unfold N5
 cases c:Gv s with
 |none=>
  simp only[Fe,num,str];refine Zu ?_;refine((jG rM).wk ?_).mono ?_
  .simp only[Fe,num,str];exact Zw
  rintro r rfl;simp only[h,f0,if_false,num];exact Ze
 |some a=>
  simp only[Fe,num,str];refine Zu ?_;refine((jG a).wk ?_).mono ?_
  .simp only[Fe,num,str];exact Zw
  exact Ix
def cP(x y:Ab):Int:=yQ [L6 (N5 x) (N5 y),Ko x y]
def NS(x y:Ab)(h:x.length<=1000000)(a:y.length<=1000000):QA 61 [str x,str y] (λr=>r=num (cP x y)):=by
 refine Zs [] func61 ⟨_,rfl⟩ ?_;refine Za (cO x h) ?_;refine Za (cO y a) ?_;refine Za (L8 (N5 x) (N5 y)) ?_;refine Za (V4 x y) ?_;refine((PB [L6 (N5 x) (N5 y),Ko x y] oS).wk ?_).mono ?_
 .exact QB
 exact Ix
def Ul{x y:Ab}:cP x y<0↔N5 x<N5 y\/N5 x=N5 y/\x<y:=by
 unfold cP yQ yQ yQ;by_cases h:L6 (N5 x) (N5 y)=0
 .have a:=Ji.1 h;simp only[h,ne_eq,not_true_eq_false,if_false];rw[a,<-Gp];simp only[Int.lt_irrefl,false_or,true_and];by_cases b:Ko x y=0<;>simp[b]
 .have a:N5 x≠N5 y:=λe=>h (Ji.2 e);simp only[ne_eq,h,not_false_eq_true,if_true,a,false_and,or_false];exact To
def uP{c:Ab->Ab->Int}{X D:Ξ}(b:∀x∈X,∀y∈X,∀z∈X,c x y<0->c y z<0->c x z<0)(e:D.Perm X)(g:D.Pairwise λx y=>c x y<0\/x=y):
 ((compact D).Pairwise λx y=>c x y<0)/\∀x,x∈compact D↔x∈X:=by
 have f:∀x∈D,x∈X:=λx d=>e.mem_iff.1 d
 obtain⟨h1,a⟩:=Nv (R:=λx y:Ab=>(x∈X/\y∈X)/\c x y<0) (zs:=D) (λx y z h1 a=>⟨⟨h1.1.1,a.1.2⟩,b x h1.1.1 y h1.1.2 z a.1.2 h1.2 a.2⟩)
  (g.imp_of_mem λ{x y} d i h=>h.imp (λh=>⟨⟨f x d,f y i⟩,h⟩) id)
 exact⟨h1.imp λh=>h.2,λx=>(a x).trans e.mem_iff⟩
def uQ (g:Nat) (c:Ab->Ab->Int) (X:Ξ) (k:X.length<=1000000) (l:∀a w,(callFunc g a).run prog w=.ok (.enter g a) w)
 (f:∀x∈X,¬c x x<0) (h:∀x∈X,∀y∈X,∀z∈X,c x y<0->c y z<0->c x z<0) (d:∀x∈X,∀y∈X,c x y<0\/x=y\/c y x<0)
 (b:∀x∈X,∀y∈X,QA g [str x,str y] (λr=>r=num (c x y))):
 QA 60 [.mine 9 1 (X.map str),.raw (.func (.func g) #[] #[])] (λr=>∃D:Ξ,r=.own 9 1 (D.map str)/\(D.Pairwise λx y=>c x y<0)/\∀x,x∈D↔x∈X):=by
 have H:=eJ (e:=9) Tryz.kn ⟨_,_,func120,rfl,oD⟩ l X k c f h d b;obtain⟨_,_,_,m,hp0,i,_⟩:=H.2.1;refine Zs [(1,[100000],[]),(2,[5,100000],[])] func60 ⟨_,compact m,rfl,uP h hp0 i⟩ ?_;refine Cm.mono H ?_;rintro r y ⟨rfl,D,j,n,rfl⟩;refine Zu ?_;refine Za (Vr D (by rw[j.length_eq];omega)) ?_;exact⟨_,rfl,uP h j n⟩
end Go.Proofs.YtobhohikfmlccaaGreatDoor
