/- strings.Builder, beside blocks. -/
import Derived.Shelf.Sort.Plain
import Derived.Shelf.Unicode.DecodeAny
import Derived.Shelf.Slices.CompactS
import Derived.Shelf.Slices.SearchI
import Derived.Shelf.Slices.Cells
import Derived.Shelf.Slices.In.SortNone
import Derived.Ground.SlgnProg
import Derived.Shelf.SlicesE.Clone
import Derived.Test.YtobhohikfmlccaaGreatDoorC11
set_option linter.all false
set_option maxRecDepth 100000
set_option maxHeartbeats 4000000
open Go.RowKit Go.Proofs Go.Shelf Tryz Go.Lib Go.IntKind
namespace Go.Proofs.YtobhohikfmlccaaGreatDoor
def pB(b:Nat):Value:=.pointer (some ⟨b,0,none⟩)
def aW{w:World}{S c1:Δ}{b T:Nat}{y x:AV}{g:ϴ}(f:Ac w S [.bp b T [y,x]] g c1):∃v a u e1 e2,g=[v]/\w.heap[b]? =some (.cells #[a,u] T (0,0))/\S b=0/\Ac w S [y] [a] e1/\Ac w S [x] [u] e2/\a.oneCell'=true/\u.oneCell'=true/\∀z,c1 z=(if z=b then 1 else 0)+(e1 z+e2 z):=by
 obtain⟨v,i,q,r,rfl,h1,j,k⟩:=f.bu;obtain⟨rfl,l⟩:=j.zero
 cases h1 with
 |bp hb hS hcs hoc h hcc=>
  rename_i cur f1 f2;obtain⟨_,d⟩:=h.zero;obtain⟨a,i,m,s,e1,g1,g2,g3⟩:=hcs.bu;obtain⟨u,n,o,t,e2,g4,g5,g6⟩:=g2.bu.imp λ_ h=>h;obtain⟨p,e⟩:=g5.zero;subst e2;subst p;have c:cur= #[a,u]:=by apply Array.ext';simp[e1]
  subst c;refine⟨v,a,u,m,o,rfl,hb,hS,g1,g4,hoc a oS,hoc u oS,λz=> ?_⟩;have:=k z;have:=l z;have:=hcc z;have:=g3 z;have:=g6 z;have:=d z;have:=e z;omega
def Tz(b:Nat)(p:Option Addr)(A:p=none\/p=some ⟨b,0,none⟩)(x:AV):QH 207 [.raw (pB b)] [.bp b 199 [.raw (.pointer p),x]] (λr B=>r=.a6 []/\B=[.bp b 199 [.raw (pB b),x]]) (λ_ _=>False):=by
 refine⟨⟨_,_,func207,rfl,oD⟩,λw S G H c c1 t C y i=> ?_⟩;obtain⟨I,rfl,h⟩:=Bz C;obtain⟨rfl,D⟩:=h.zero;obtain⟨v,J,u,e1,e2,rfl,a,j,g1,g2,K,E,d⟩:=aW y;obtain⟨rfl,_,k⟩:=Az g1;have l:c b+c1 b≠0:=by have:=d b;simp at this;omega
 rcases A with rfl|rfl
 .refine(Any.Builder_copyCheck_fresh {Tryz.iw with} Tryz.da.toX72 b w (by rw[cell_of_heap a];rfl) (by unfold World.shape?;rw[a];rfl) (frozen_of_heap a 0)).mono ?_;rintro e F ⟨rfl,rfl⟩;rw[setCell_eq_setRow w b 0 _ 199 (0,0) _ a];rw[show(#[Value.pointer none,u]:Array Value).setIfInBounds 0 (.pointer (some ⟨b,0,none⟩))= #[pB b,u]from rfl];have m:=fl (S:=S) (c:=λx=>c x+c1 x) (s:=0) (new:= #[pB b,u]) a l (λo n=>by rw[j]at n;omega) om;have f:upd S b 0=S:=by funext x;unfold upd;split<;>simp_all
  rw[f]at m;have g:=fl (S:=S) (c:=λx=>if x=b then 1 else 0) (s:=0) (new:= #[pB b,u]) a oS (λo n=>by rw[j]at n;omega) om;rw[f]at g;have q:=g2.step g (λz=>by have:=i z;have:=d z;omega);refine .inl ⟨_,.a6 [],[.bp b 199 [.raw (pB b),x]],S,λ_=>0,c1,[v],rfl,⟨rfl,rfl⟩,rfl,.a6 (.nil Al) (.nil Al) (λ_=>rfl),?_,λz=>by have:=i z;show 0+c1 z<=1;omega,t.row a m (λ_ _=>rfl),m.drop λz=>by show 0+c1 z<=c z+c1 z;omega⟩;exact .bp (cur:= #[pB b,u]) (c1:=e2) (c2:=λ_=>0) (setRow_heap w b _ _ 199 (0,0) a) j (show Ac _ _ _ [pB b,u] _ from .raw rfl q) (by simp[E,pB];rfl) (.nil Al) (λz=>by have:=d z;have:=k z;omega)
 .refine(Any.Builder_copyCheck_used {Tryz.iw with} Tryz.da.toX72 b w (by rw[cell_of_heap a];rfl)).mono ?_;rintro e F ⟨rfl,rfl⟩;exact .inl ⟨_,.a6 [],[.bp b 199 [.raw (pB b),x]],S,λ_=>0,c1,[v],rfl,⟨rfl,rfl⟩,rfl,.a6 (.nil Al) (.nil Al) (λ_=>rfl),y,λz=>by have:=i z;show 0+c1 z<=1;omega,t,(bt _ _ _).drop λz=>by show 0+c1 z<=c z+c1 z;omega⟩
def gY(b:Nat)(p:Option Addr)(f:p=none\/p=some ⟨b,0,none⟩)(a s:Ab)(x:AV)(g:x=.own 5 1 (Aj a)\/(x=.nil/\a=[]))(j:a.length+s.length<=100000000000000):
 QH 158 [.raw (pB b),str s] [.bp b 199 [.raw (.pointer p),x]] (λr i=>r=.a6 [num s.length,.raw .nilIface]/\i=[.bp b 199 [.raw (pB b),.own 5 1 (Aj (a++s))]]) (λ_ _=>False):=by
 have h:(Aj a).length=a.length:=by simp[Aj]
 have d:(b=b)=True:=bc rfl;have e:=Tz b p f x;simp only[pB]at e⊢;refine Zt [] [] [] func158 ?_;refine Zk e ?_;have c:Aj (a++s)=Aj a++Aj s:=by simp[Aj]
 rcases g with rfl|⟨rfl,rfl⟩
 .refine Z2 h d ?_;rw[c];exact Zx
 .refine Z2 h d ?_;exact Zx
def gZ(b:Nat)(p:Option Addr)(g:p=none\/p=some ⟨b,0,none⟩)(a:Ab)(x:AV)(d:UInt8)(i:x=.own 5 1 (Aj a)\/(x=.nil/\a=[]))(k:a.length<=100000000000000):
 QH 196 [.raw (pB b),.raw (.int .u8 (d.toNat:Int))] [.bp b 199 [.raw (.pointer p),x]] (λr j=>r=.raw .nilIface/\j=[.bp b 199 [.raw (pB b),.own 5 1 (Aj (a++[d]))]]) (λ_ _=>False):=by
 have h:(Aj a).length=a.length:=by simp[Aj]
 have e:(b=b)=True:=bc rfl;have f:=Tz b p g x;simp only[pB]at f⊢;refine Zt [] [] [] func196 ?_;refine Zk f ?_;have c:=Ea a d;rcases i with rfl|⟨rfl,rfl⟩
 .refine Z2 h e ?_;rw[<-c];exact Zx
 .refine Z2 h e ?_;exact Zx
section
variable{P:Program}{a:Ren}
def AaW (L:Lays.n169 P a) (X:Builder.Extra P a) (b g cap:Nat) (p:Value) (cur:Array Value) (l:Ϟ) (w:World) (h0:l≠[]) (hbk:w.heap[b]? =some (.cells #[p,.slice (some ⟨g,0,none⟩) l.length cap] (a.t 72) (0,0)))
 (hg:w.heap[g]? =some (.cells cur (a.t 5) (0,0))) (hnc:l.length<=cap) (hcm:cap<=maxLen) (hcs:cur.size=cap*1) (htake:∀j x,l[j]? =some x->w.cell? ⟨g,j,none⟩=some (.int .u8 x.toNat)):
 Calls P (a.f 169) #[.pointer (some ⟨b,0,none⟩)] w λe w'=>e=.returned (.string ⟨l.toArray⟩)/\w'=w.drew.freeze ⟨g,0,none⟩ l.length:=by
 have hl0:l.length≠0:=by simpa using h0
 have c1:w.drew.cell? ⟨b,1,none⟩=some (.slice (some ⟨g,0,none⟩) l.length cap):=by have:w.drew.heap[b]? =some (.cells #[p,.slice (some ⟨g,0,none⟩) l.length cap] (a.t 72) (0,0)):=hbk;rw[cell_of_heap this];rfl
 have hSD:(Builtin.unsafeSliceData_ #[(a.t 37)] (a.t 127) #[.slice (some ⟨g,0,none⟩) l.length cap]).run P w.drew=.ok (.pointer (some ⟨g,0,none⟩)) w.drew:=
  run_unsafeSliceData_row _ _ _ _ _ _ om
 have hUS:(Builtin.unsafeString_ #[(a.t 127),(a.t 3)] (a.t 9) #[.pointer (some ⟨g,0,none⟩),.int .i64 l.length]).run P w.drew=.ok (.string ⟨l.toArray⟩) (w.drew.freeze ⟨g,0,none⟩ l.length):=
  run_unsafeString_row w.drew (a.t 127) (a.t 3) (a.t 9) (a.t 5) L.t127 X.cellsByte g cur.size (by have hg':w.drew.heap[g]? =some (.cells cur (a.t 5) (0,0)):=hg;simp[World.shape?,hg']) l h0 om (by unfold maxLen at hcm;omega) (λj x h=>by rw[show(⟨g,0,none⟩:Addr).add j=⟨g,j,none⟩from by unfold Addr.add;split<;>simp_all];exact htake j x h)
 have mixed:=L.mixed;have t72:=L.t72;have a72:=L.a72;have z72:=L.z72;have v72:=L.v72;have u72:=fp L.t72;have t70:=L.t70;have a70:=L.a70;have z70:=L.z70;have v70:=L.v70;have u70:=fp L.t70;have t37:=L.t37;have a37:=L.a37;have z37:=L.z37;have v37:=L.v37;have u37:=fp L.t37;have t127:=L.t127;have a127:=L.a127;have z127:=L.z127;have v127:=L.v127;have u127:=fp L.t127;have t3:=L.t3;have a3:=L.a3;have z3:=L.z3;have v3:=L.v3;have u3:=fp L.t3;have t9:=L.t9;have a9:=L.a9;have z9:=L.z9;have v9:=L.v9;have u9:=fp L.t9;have t5:=X.t5;have a5:=X.a5;have z5:=X.z5;have v5:=X.v5;have u5:=fp X.t5;clear hnc hcm hcs htake hl0
 go_enter L.f169,Body.n169_ntmps a
 go_wp2
 go_region_o
 all_goals (go_wp2;go_ret;exact⟨rfl,rfl⟩)
def AaX(L:Lays.n169 P a)(X:Builder.Extra P a)(b:Nat)(p:Value)(w:World)(hbk:w.heap[b]? =some (.cells #[p,.slice none 0 0] (a.t 72) (0,0))):
 Calls P (a.f 169) #[.pointer (some ⟨b,0,none⟩)] w λe w'=>e=.returned (.string ⟨#[]⟩)/\w'=w.drew:=by
 have hUS:=Any.unsafeString_none L X;have c1:w.drew.cell? ⟨b,1,none⟩=some (.slice none 0 0):=by have:w.drew.heap[b]? =some (.cells #[p,.slice none 0 0] (a.t 72) (0,0)):=hbk;rw[cell_of_heap this];rfl
 have hSD:(Builtin.unsafeSliceData_ #[(a.t 37)] (a.t 127) #[.slice none 0 0]).run P w.drew=.ok (.pointer none) w.drew:=rfl;have mixed:=L.mixed;have t72:=L.t72;have a72:=L.a72;have z72:=L.z72;have v72:=L.v72;have u72:=fp L.t72;have t70:=L.t70;have a70:=L.a70;have z70:=L.z70;have v70:=L.v70;have u70:=fp L.t70;have t37:=L.t37;have a37:=L.a37;have z37:=L.z37;have v37:=L.v37;have u37:=fp L.t37;have t127:=L.t127;have a127:=L.a127;have z127:=L.z127;have v127:=L.v127;have u127:=fp L.t127;have t3:=L.t3;have a3:=L.a3;have z3:=L.z3;have v3:=L.v3;have u3:=fp L.t3;have t9:=L.t9;have a9:=L.a9;have z9:=L.z9;have v9:=L.v9;have u9:=fp L.t9;have t5:=X.t5;have a5:=X.a5;have z5:=X.z5;have v5:=X.v5;have u5:=fp X.t5
 go_enter L.f169,Body.n169_ntmps a
 go_wp2
 go_region_o
 all_goals (go_wp2;go_ret;exact⟨rfl,rfl⟩)
end
def AF(b:Nat)(y:AV):QH 159 [.raw (pB b)] [.bp b 199 [y,.nil]] (λr a=>r=str []/\a=[]) (λ_ _=>False):=by
 refine⟨⟨_,_,func159,rfl,oD⟩,λw S m n c c1 d f g o=> ?_⟩;obtain⟨p,rfl,h⟩:=Bz f;obtain⟨rfl,i⟩:=h.zero;obtain⟨v,j,u,e1,e2,rfl,k,q,g1,g2,s,t,l⟩:=aW g;cases g2 with|gn g2=>
 refine(AaX {Tryz.iw with} Tryz.da b j w k).mono ?_;rintro e x ⟨rfl,rfl⟩;exact .inl ⟨_,str [],[],S,λ_=>0,λ_=>0,[],rfl,⟨rfl,rfl⟩,rfl,.raw rfl (.nil Al),.nil Al,λ_=>by show 0+0<=1;omega,d.drew,Stp.drew.drop λz=>by show 0+0<=c z+c1 z;omega⟩
def Stp.freeze{w:World}{S c:Δ}{g n:Nat}{cur:Array Value}{e:Nat}{f:Nat×Nat}(a:w.heap[g]? =some (.cells cur e f))(d:c g≠0):Stp w S c (w.freeze ⟨g,0,none⟩ n) S c:=by
 unfold World.freeze;split
 .exact bt _ _ _
 .have i:=(ah.1 a).1;refine⟨rfl,rfl,⟨rfl,λ_=>bx _⟩,oS,λb k j=>⟨?_,rfl⟩,λb o l=> ?_,λ_=>bx _,λ_ _=>bx _⟩
  .have h:b≠g:=by rintro rfl;exact d j
   simp[er,Ne.symm h]
  .unfold World.cell?;by_cases h:b=g
   .subst h;simp[er,a]
   .simp[er,Ne.symm h]
def LK(b:Nat)(y:AV)(a:Ab)(i:a≠[]):QH 159 [.raw (pB b)] [.bp b 199 [y,.own 5 1 (Aj a)]] (λr A=>r=str a/\A=[]) (λ_ _=>False):=by
 refine⟨⟨_,_,func159,rfl,oD⟩,λw S G H c c1 q B C I=> ?_⟩;obtain⟨J,rfl,h⟩:=Bz B;obtain⟨rfl,D⟩:=h.zero;obtain⟨v,E,u,e1,e2,rfl,f,K,g1,g2,L,M,k⟩:=aW C;have l:(Aj a).length=a.length:=by simp[Aj]
 generalize d:Aj a=es at g2
 cases g2 with
 |g9 g2=>rw[List.map_eq_nil_iff.1 d]at i;exact cw rfl i
 |own hn hcap hk hbg hs hSg h1 hz1 ho h2 hc2=>
  rename_i g m o N O;subst d;rw[l]at f hn h1;have F:=Ux a h1;have hcg:c g+c1 g≠0:=by have:=k g;have:=hc2 g;simp at this;omega
  refine(AaW {Tryz.iw with} Tryz.da b g m E o a w i f hbg hn hcap hs λj x s=> ?_).mono ?_
  .rw[cell_of_heap hbg];have:=fq (·[j]?) F;simp only[md,ao,s,pj]at this;rw[b9,bn (ab.1 s).1,ak]at this;exact Qs
  rintro e P ⟨rfl,rfl⟩;have t:Stp w S (λz=>c z+c1 z) w.drew S (λz=>c z+c1 z):=Stp.drew;have p:Stp w.drew S (λz=>c z+c1 z) (w.drew.freeze ⟨g,0,none⟩ a.length) S (λz=>c z+c1 z):=Stp.freeze (n:=a.length) (show w.drew.heap[g]? =_ from hbg) hcg;exact .inl ⟨_,str a,[],S,λ_=>0,λ_=>0,[],rfl,⟨rfl,rfl⟩,rfl,.raw rfl (.nil Al),.nil Al,λ_=>by show 0+0<=1;omega,q.drew.nn p (λb f=>q.z b (cp (cp t.size p.size) f)),(t.trans p).drop λz=>by show 0+0<=c z+c1 z;omega⟩
def OB(b:Nat)(a:Ab):AV:=.bp b 199 [.raw (pB b),.own 5 1 (Aj a)]
def kG(b:Nat):AV:=.bp b 199 [.raw (.pointer none),.nil]
def vN(b:Nat)(a:Ab)(y:AV):Prop:=y=OB b a\/(y=kG b/\a=[])
def SG(b:Nat)(a:Ab)(y:AV):Prop:=(y=OB b a/\a≠[])\/(y=kG b/\a=[])
def SG.a{b:Nat}{c:Ab}{y:AV}(h:SG b c y):vN b c y:=h.imp (·.1) id
def Hm(b:Nat)(a s:Ab)(y:AV)(f:vN b a y)(d:a.length+s.length<=100000000000000)(e:Φ):QH 158 [.raw (pB b),str s] (y::e) (λr c=>r=.a6 [num s.length,.raw .nilIface]/\c=OB b (a++s)::e) (λ_ _=>False):=by
 have h:QH 158 [.raw (pB b),str s] [y] (λr c=>r=.a6 [num s.length,.raw .nilIface]/\c=[OB b (a++s)]) (λ_ _=>False):=by
  rcases f with rfl|⟨rfl,rfl⟩
  .exact gY b _ (.inr rfl) a s _ (.inl rfl) d
  .exact gY b none (.inl rfl) [] s _ (.inr ⟨rfl,rfl⟩) d
 exact OT
def Qe(b:Nat)(a:Ab)(c:UInt8)(y:AV)(g:vN b a y)(e:a.length<=100000000000000)(f:Φ):QH 196 [.raw (pB b),.raw (.int .u8 (c.toNat:Int))] (y::f) (λr d=>r=.raw .nilIface/\d=OB b (a++[c])::f) (λ_ _=>False):=by
 have h:QH 196 [.raw (pB b),.raw (.int .u8 (c.toNat:Int))] [y] (λr d=>r=.raw .nilIface/\d=[OB b (a++[c])]) (λ_ _=>False):=by
  rcases g with rfl|⟨rfl,rfl⟩
  .exact gZ b _ (.inr rfl) a _ c (.inl rfl) e
  .exact gZ b none (.inl rfl) [] _ c (.inr ⟨rfl,rfl⟩) e
 exact OT
def Xu(b:Nat)(a:Ab)(y:AV)(e:SG b a y)(d:Φ):QH 159 [.raw (pB b)] (y::d) (λr c=>r=str a/\c=d) (λ_ _=>False):=by
 have h:QH 159 [.raw (pB b)] [y] (λr c=>r=str a/\c=[]) (λ_ _=>False):=by
  rcases e with⟨rfl,h⟩|⟨rfl,rfl⟩
  .exact LK b _ a h
  .exact AF b _
 exact OT
section
variable{f:Addr}{m b mk:Nat}{rv:Φ}{d:Ab->Ab}{S:Nc}{bf:Ab->Ab->Option Ab}
def mG(X:aS f m rv d S)(o:List Nd->Int->EvS->K5)(G:Nat)(R:FE f m b mk rv d o G)(t n a:Ab)(c:Int)(z:Ξ)(k g:List Nd)(i:Int)(s:EvS)(J:Qp s)(M:G<=s.steps)(u:Db i)(K:n.length<=900000)(H:k.length<=1000000/\Fw k)(y:g.length<=1000000/\Fw g):
 EH f m b mk rv d 229 [.raw (.pointer (some ⟨b,0,none⟩)),.agg (dO (.mk 4 t n a c z k g)),num i] s (Eg bf S o (.mk 4 t n a c z k g) i s):=by
 unfold EH;refine HC.si ⟨_,_,func229,rfl,oD⟩ λL=> ?_;obtain⟨A,B,C⟩:=Nh L;rw[RJ];generalize l:(⟨s.out,s.steps,s.inc,(S.ja i n s.ks).2⟩:EvS)=s1;have D:s1.ks=(S.ja i n s.ks).2:=by rw[<-l]
 have v:Qp s1:=by rw[<-l];exact J
 have E:Ng f b mk s=Ng f b mk s1:=by rw[<-l];rfl
 have dp:s1.steps=s.steps:=by rw[<-l]
 have I:s1.inc=s.inc:=by rw[<-l]
 have F:Eg bf S o (.mk 4 t n a c z k g) i s=if(S.ja i n s.ks).1.getD []=[]then o g i s1 else o k i s1:=by rw[<-l];rfl
 rw[F];refine G7 [] [] [(1,[],[0,1,2,4,5,2003,2006],[],[3007,8,9,10,11,12])] func229 ?_;simp only[Rp,Dr,Ng,fj,fm,num,str];refine Zu ?_;refine fy (jr:=Dr f m rv d s.ks) (j2:=[Ng f b mk s,.bw mk E2 Xc]) (b7 (X.ja i n s.ks u K) ?_ (λ_ _ h=>h.elim));rintro r N ⟨rfl,rfl⟩;rw[<-D,E]
 cases j:(S.ja i n s.ks).1 with
 |none=>
  simp only[nz,mf,Dr,Ng,fj,fm,num,str,Af];refine Z3 A B C ?_;refine EH.go (s:=s1) (R g i s1 v om u y.1 y.2) (λe p j=> ?_) (λp j q=> ?_)
  .refine Z0 ?_;exact⟨_,aa _,e,p,by first|exact j|(simp only[if_true];exact j),rfl,rfl⟩
  refine Z0 ?_;exact⟨_,_,bh _,rfl,aa _,p,by first|exact j|(simp only[if_true];exact j),q,rfl,rfl⟩
 |some x=>
  simp only[jy,ng,Dr,Ng,fj,fm,num,str,Af];by_cases w:x=[]
  .have e1:(x==([]:Ab))=true:=by simp[w]
   refine Z4 A B C e1 ?_;refine EH.go (s:=s1) (R g i s1 v om u y.1 y.2) (λe p j=> ?_) (λp j q=> ?_)
   .refine Z0 ?_;exact⟨_,aa _,e,p,by simp only[w,if_true];exact j,rfl,rfl⟩
   refine Z0 ?_;exact⟨_,_,bh _,rfl,aa _,p,by simp only[w,if_true];exact j,q,rfl,rfl⟩
  .have e1:(x==([]:Ab))=false:=by simpa using w
   refine Z4 A B C e1 ?_;refine EH.go (s:=s1) (R k i s1 v om u H.1 H.2) (λe p j=> ?_) (λp j q=> ?_)
   .refine Z0 ?_;exact⟨_,aa _,e,p,by simp only[w,if_false];exact j,rfl,rfl⟩
   refine Z0 ?_;exact⟨_,_,bh _,rfl,aa _,p,by simp only[w,if_false];exact j,q,rfl,rfl⟩
def AG(X:aS f m rv d S)(i:List Nd->Int->EvS->K5)(D:Nat)(R:FE f m b mk rv d i D)(u:∀l o s j,i l o s=.ok j->j.inc=s.inc)(t n a:Ab)(c:Int)(E:Ξ)(k p:List Nd)(o:Int)(s:EvS)(M:Qp s)(T:D<=s.steps)(F:Db o)(N:n.length<=900000):
 EH f m b mk rv d 230 [.raw (.pointer (some ⟨b,0,none⟩)),.agg (dO (.mk 5 t n a c E k p)),num o] s (Eg bf S i (.mk 5 t n a c E k p) o s):=by
 unfold EH;refine HC.si ⟨_,_,func230,rfl,oD⟩ λO=> ?_;obtain⟨w,x,y⟩:=Nh O;rw[fF];generalize g:(⟨s.out,s.steps,s.inc,(S.inl n s.ks).2⟩:EvS)=s1;have G:s1.ks=(S.inl n s.ks).2:=by rw[<-g]
 have z:Qp s1:=by rw[<-g];exact M
 have H:Ng f b mk s=Ng f b mk s1:=by rw[<-g];rfl
 have dp:s1.steps=s.steps:=by rw[<-g]
 have A:s1.inc=s.inc:=by rw[<-g]
 have I:Eg bf S i (.mk 5 t n a c E k p) o s=if 3<=s.inc then .bad 111 s else(match(S.inl n s.ks).1 with
  |none=>.bad 110 s1
  |some l=>(i l o {s1 with inc:=s.inc+1}).bind λs=>.ok {s with inc:=s.inc-1}):=by rw[<-g];rfl
 rw[I];refine G7 [] [] [(3,[],[0,1,2,4,2003,2005],[],[3006,7,8,9,10,11])] func230 ?_;simp only[Rp,Dr,Ng,fj,fm,num,str];by_cases C:3<=s.inc
 .have e1:=bc (show(3:Int)<=(s.inc:Int) by omega);refine Z4 w x y e1 ?_;refine(Ni 111 _).mono (λ_ _ h=>h.elim) ?_;rintro v K ⟨rfl,rfl⟩;refine Z0 ?_;exact⟨_,aa _,111,s,by simp only[C,if_true],rfl,rfl⟩
 have e1:=bd (show¬(3:Int)<=(s.inc:Int) by omega);refine Z5 w x y e1 ApR ?_;refine fy (jr:=Dr f m rv d s.ks) (j2:=[Ng f b mk s,.bw mk E2 Xc]) (b7 (X.inl n s.ks N) ?_ (λ_ _ h=>h.elim));rintro r K ⟨rfl,rfl⟩;rw[<-G,H]
 cases q:(S.inl n s.ks).1 with
 |none=>simp only[nz,mf,Dr,Ng,fj,fm,num,str,Af];refine Z3 w x y ?_;refine(Ni 110 _).mono (λ_ _ h=>h.elim) ?_;rintro v K ⟨rfl,rfl⟩;refine Z0 ?_;exact⟨_,aa _,110,s1,by simp only[C,if_false],rfl,rfl⟩
 |some l=>
  have L:=X.uh _ _ _ q;have P:i64.wrap ((s1.inc:Int)+1)=((s.inc+1:Nat):Int):=by rw[A];exact Da om
  simp only[jy,ng,Dr,Ng,fj,fm,num,str,Af];refine Z4 w x y P ?_;refine EH.go (s:={s1 with inc:=s.inc+1}) (R l o {s1 with inc:=s.inc+1} ⟨z.1,z.2.1,by show s.inc+1<=3;omega⟩ (by show D<=s1.steps;omega) F L.1 L.2) (λe j q=> ?_) (λj q B=> ?_)
  .refine Z0 ?_;exact⟨_,aa _,e,j,by simp only[C,if_false,q,K5.bind],rfl,rfl⟩
  have Q:j.inc=s.inc+1:=u _ _ _ _ q;have J:i64.wrap ((j.inc:Int)-1)=((j.inc-1:Nat):Int):=by rw[Aw om om];omega
  simp only[Rp,Dr,Ng,fj,fm,num,str];refine Z4 w x y J ?_;refine⟨_,_,bh _,rfl,aa _,{j with inc:=j.inc-1},by simp only[C,if_false,q,K5.bind],⟨B.1,B.2.1,by show j.inc-1<=3;omega⟩,rfl,rfl⟩
end
end Go.Proofs.YtobhohikfmlccaaGreatDoor
namespace Go.Proofs
def Tryz.l4:Go.Shelf.Ren:=⟨λ|190=>118|125=>180|258=>184|128=>240|129=>241|302=>242|303=>243|304=>244|305=>245|306=>246|307=>247|308=>248|309=>249|310=>250|333=>307|329=>303|330=>304|334=>308|335=>309|336=>123|344=>360|n=>n,λ|31=>38|9=>9|3=>3|46=>127|0=>0|51=>126|53=>289|4=>4|183=>282|182=>281|131=>142|5=>5|218=>343|222=>347|228=>380|229=>381|n=>n,λ|n=>n⟩
def Tryz.m8:Go.Proofs.Lays.n190 prog Tryz.l4:=Tryz.lw
def Tryz.l0:Go.Shelf.Ren:=⟨λ|194=>119|n=>n,λ|31=>38|9=>9|3=>3|4=>4|0=>0|n=>n,λ|n=>n⟩
def Tryz.m7:Go.Proofs.Lays.n194 prog Tryz.l0:=Tryz.lw
def Tryz.i0:Go.Shelf.Ren:=⟨λ|35=>142|n=>n,λ|22=>177|23=>180|3=>3|4=>4|0=>0|n=>n,λ|n=>n⟩
def Tryz.jn:Go.Proofs.SlLaysE0.n35 prog Tryz.i0:=Tryz.lw
open Go.Sort Go.RowKit in
def Tryz.slices_Sort_string(b off cap:Nat)(ss:List (List UInt8))(w:World)(c:Holds encStr w b off ss.toArray)(h:b<w.heap.size)(a:ss.length<4611686018427387904):
 Calls prog 118 #[.slice (some ⟨b,off,none⟩) ss.length cap] w λe d=>
  e=.returned (.tuple #[])/\∃n os,d=grow (putRow encStr (Sort.ahead w n) b off (ss.mergeSort λx y=>decide (x<=y)).toArray) os:=Any.slices_Sort_string Tryz.m8 b off cap ss w c h a
open Go.RowKit Go.Lib Go.Sort in
def Tryz.slices_Compact_string(b off cap:Nat)(zs:List (List UInt8))(w:World)(c:Holds encStr w b off zs.toArray)(a:zs.length<=9223372036854775807)(h:zs.length<=cap):
 Calls prog 119 #[.slice (some ⟨b,off,none⟩) zs.length cap] w λe d=>e=.returned (.slice (some ⟨b,off,none⟩) (compact zs).length cap)/\∃q,d=putRow encStr (Sort.ahead w q) b off (compact zs++List.replicate (zs.length-(compact zs).length) []).toArray:=Any.slices_Compact_string Tryz.m7 b off cap zs w c a h
open Go.RowKit Go.Lib Go.Sort in
def Tryz.slices_Compact_string_empty(a:Option Addr)(cap:Nat)(w:World):
 Calls prog 119 #[.slice a 0 cap] w λe b=>e=.returned (.slice a 0 cap)/\b=w:=Any.slices_Compact_string_empty Tryz.m7 a cap w
open Go.RowKit Go.Sort in
def Tryz.slices_Sort_string_none(p:Option Addr)(cap:Nat)(w:World):
 Calls prog 118 #[.slice p 0 cap] w λe a=>e=.returned (.tuple #[])/\a=w:=Any.slices_Sort_string_none Tryz.m8 p cap w
end Go.Proofs
namespace Go.Proofs.YtobhohikfmlccaaGreatDoor
def Gc(s x:Ab):Bool:=Op.bytesLess s x||s==x
def Xv{s x:Ab}:Gc s x=true↔s<=x:=by simp only[Gc,n8,bytesLess_eq,i6,beq_iff_eq];exact yM.symm
def Iv(s:Ab)(o:List Ab×Bool)(x:Ab):List Ab×Bool:=((o.1++if !o.2&&Gc s x then[s]else[])++(if x=s then[]else[x]),o.2||Gc s x)
def Ia(s:Ab)(l:Ξ):List Ab×Bool:=l.foldl (Iv s) ([],false)
def Hn(l:Ξ)(s:Ab):Ξ:=(Ia s l).1++if (Ia s l).2 then[]else[s]
def iA{s:Ab}{l:Ξ}{j:Nat}{x:Ab}(h:l[j]? =some x):Ia s (l.take (j+1))=Iv s (Ia s (l.take j)) x:=by rw[fc,h];simp[Ia,mw]
def AaZ(s:Ab):Gc s s=true:=Xv.2 (List.le_refl _)
def Aba(s x:Ab)(o:Ξ)(d:Bool):(Iv s (o,d) x).1.length+(if(Iv s (o,d) x).2=true then 0 else 1)<=o.length+(if d=true then 0 else 1)+1:=by
 by_cases h:x=s
 .subst h;cases d<;>simp[Iv,AaZ]
 .cases d<;>cases a:Gc s x<;>simp[Iv,a,h]
def iB(s:Ab):∀(l:Ξ) (o:Ξ) (d:Bool),(l.foldl (Iv s) (o,d)).1.length+(if(l.foldl (Iv s) (o,d)).2=true then 0 else 1)<=o.length+(if d=true then 0 else 1)+l.length
 |[],o,d=>bx _
 |x::l,o,d=>by have h1:=iB s l (Iv s (o,d) x).1 (Iv s (o,d) x).2;have h:=Aba s x o d;simp only[lc,dg];refine cp h1 ?_;omega
def aX(s:Ab)(l:Ξ):(Ia s l).1.length+(if(Ia s l).2=true then 0 else 1)<=l.length+1:=by have:=iB s l [] false;unfold Ia;simp only[eh,f0,if_false]at this;omega
def aY(l:Ξ)(s:Ab):(Hn l s).length<=l.length+1:=by have:=aX s l;unfold Hn;rw[dc];split<;>rename_i h<;>simp[h]at this⊢<;>omega
def Afi{a b c:Prop}:((a\/b)\/c)\/b↔a\/c\/b:=by
 constructor
 .rintro(((h|h)|h)|h)
  .exact .inl h
  .exact R7
  .exact .inr (.inl h)
  .exact R7
 .rintro(h|h|h)
  .exact .inl (.inl (.inl h))
  .exact .inl (.inr h)
  .exact .inr h
def iC{s:Ab}:∀{l:Ξ},l.Pairwise (·< ·)->∀(o:Ξ) (d:Bool),(o.Pairwise (·< ·))->(∀x∈o,∀y∈l,x<y\/x=y/\x=s)->(d=true->s∈o)->(d=false->∀x∈o,x<s)->
 ((l.foldl (Iv s) (o,d)).1++if (l.foldl (Iv s) (o,d)).2 then[]else[s]).Pairwise (·< ·)/\∀x,x∈((l.foldl (Iv s) (o,d)).1++if (l.foldl (Iv s) (o,d)).2 then[]else[s])↔x∈o\/x∈l\/x=s
 |[],_,o,d,ho,_,h1,h2=>by
  cases d with
  |true=>refine⟨by simpa using ho,λx=> ?_⟩;simp;intro h;subst h;exact h1 rfl
  |false=>refine⟨?_,λx=>oS⟩;simp only[oq,f0,if_false];exact rj.2 ⟨ho,oS,λx hx y hy=>by rw[ga]at hy;subst hy;exact h2 rfl x hx⟩
 |y::l,hl,o,d,ho,hol,h1,h2=>by
  rw[mh]at hl
  have f:∀x∈o,x≠s->x<y:=λx hx m=>by rcases hol x hx y oS with h|h
                                    .exact h
                                    .exact cw h.2 m
  have k:∀(g:Ξ) (i:Bool),Iv s (o,d) y=(g,i)->g.Pairwise (·< ·)->(∀x∈g,∀z∈l,x<z\/x=z/\x=s)->(i=true->s∈g)->(i=false->∀x∈g,x<s)->(∀x,x∈g\/x=s↔x∈o\/x=y\/x=s)->
   (((y::l).foldl (Iv s) (o,d)).1++if ((y::l).foldl (Iv s) (o,d)).2 then[]else[s]).Pairwise (·< ·)/\∀x,x∈(((y::l).foldl (Iv s) (o,d)).1++if ((y::l).foldl (Iv s) (o,d)).2 then[]else[s])↔x∈o\/x∈y::l\/x=s:=by
   intro g i n g1 g2 g3 g4 g5;rw[lc,n];obtain⟨k1,k2⟩:=iC hl.2 g i g1 g2 g3 g4;refine⟨k1,λx=> ?_⟩;have:=g5 x;rw[k2];simp only[e9];constructor
   .rintro(h|h|h)
    .rcases this.1 (.inl h)with h|h|h
     .exact .inl h
     .exact .inr (.inl (.inl h))
     .exact R7
    .exact .inr (.inl (.inr h))
    .exact R7
   .rintro(h|(h|h)|h)
    .rcases this.2 (.inl h)with h|h
     .exact .inl h
     .exact R7
    .rcases this.2 (.inr (.inl h))with h|h
     .exact .inl h
     .exact R7
    .exact .inr (.inl h)
    .exact R7
  have hy:∀z∈l,y<z:=λz hz=>hl.1 z hz;by_cases b:y=s
  .subst b;have a:Gc y y=true:=Xv.2 (List.le_refl _)
   cases d with
   |true=>
    refine k o true (by simp[Iv]) ho (λx hx z hz=> ?_) (λ_=>h1 rfl) (λh=>by cases h) (λx=>oS);rcases hol x hx y oS with h|h
    .exact .inl (Ci _ _ _ h (hy z hz))
    .rw[h.1];exact .inl (hy z hz)
   |false=>
    refine k (o++[y]) true (by simp[Iv,a]) (rj.2 ⟨ho,oS,λx hx z hz=> ?_⟩) (λx hx z hz=> ?_) (λ_=>oS) (λh=>by cases h) (λx=>oS)
    .rw[ga]at hz;subst hz;exact h2 rfl x hx
    .rcases ff.1 hx with hx|hx
     .exact .inl (Ci _ _ _ (h2 rfl x hx) (hy z hz))
     .exact CI
  .cases a:Gc s y with
   |true=>
    have c:s<y:=by rcases yM.1 (Xv.1 a)with h|h
                   .exact h
                   .exact cw h.symm b
    cases d with
    |true=>
     refine k (o++[y]) true (by simp[Iv,b]) (rj.2 ⟨ho,oS,λx hx z hz=> ?_⟩) (λx hx z hz=> ?_) (λ_=>by simp[h1 rfl]) (λh=>by cases h) (λx=>by simp only[ff,ga,or_assoc])
     .rw[ga]at hz;subst hz;by_cases e:x=s
      .subst e;exact c
      .exact f x hx e
     .rcases ff.1 hx with hx|hx
      .by_cases e:x=s
       .subst e;exact .inl (Ci _ _ _ c (hy z hz))
       .exact .inl (Ci _ _ _ (f x hx e) (hy z hz))
      .exact CI
    |false=>
     refine k (o++[s]++[y]) true (by simp[Iv,a,b]) (rj.2 ⟨rj.2 ⟨ho,oS,λx hx z hz=> ?_⟩,oS,λx hx z hz=> ?_⟩) (λx hx z hz=> ?_) (λ_=>oS) (λh=>by cases h) (λx=>by simp only[ff,ga];exact Afi)
     .rw[ga]at hz;subst hz;exact h2 rfl x hx
     .rw[ga]at hz;subst hz;rcases ff.1 hx with hx|hx
      .exact Ci _ _ _ (h2 rfl x hx) c
      .rw[ga]at hx;subst hx;exact c
     .rcases ff.1 hx with hx|hx
      .rcases ff.1 hx with hx|hx
       .exact .inl (Ci _ _ _ (Ci _ _ _ (h2 rfl x hx) c) (hy z hz))
       .rw[ga]at hx;subst hx;exact .inl (Ci _ _ _ c (hy z hz))
      .exact CI
   |false=>
    have j:y<s:=by
     have:¬s<=y:=λh=>by rw[Xv.2 h]at a;cases a
     exact List.not_le.1 this
    have p:d=false:=by
     cases d with
     |false=>rfl
     |true=>
      rcases hol s (h1 rfl) y oS with h|h
      .exact cw (Ci _ _ _ h j) (F8 _)
      .exact cw h.1.symm b
    subst p;refine k (o++[y]) false (by simp[Iv,a,b]) (rj.2 ⟨ho,oS,λx hx z hz=> ?_⟩) (λx hx z hz=> ?_) (λh=>by cases h) (λ_ x hx=> ?_) (λx=>by simp[or_assoc])
    .rw[ga]at hz;subst hz;exact f x hx (λh=>by subst h;exact cw (h2 rfl _ hx) (F8 _))
    .rcases ff.1 hx with hx|hx
     .exact .inl (Ci _ _ _ (f x hx (λh=>by subst h;exact cw (h2 rfl _ hx) (F8 _))) (hy z hz))
     .exact CI
    .rcases ff.1 hx with hx|hx
     .exact h2 rfl x hx
     .rw[ga]at hx;subst hx;exact j
def iD{l:Ξ}(s:Ab)(h:l.Pairwise (·< ·)):(Hn l s).Pairwise (·< ·)/\∀x,x∈Hn l s↔x∈l\/x=s:=by obtain⟨h1,a⟩:=iC (s:=s) h [] false oS oS oS oS;refine⟨h1,λx=> ?_⟩;have:=(a x).trans (show x∈[]\/x∈l\/x=s↔x∈l\/x=s by simp);exact this
def aZ:∀(m:Ξ) {l:Ξ},l.Pairwise (·< ·)->(m.foldl Hn l).Pairwise (·< ·)/\∀x,x∈m.foldl Hn l↔x∈l\/x∈m
 |[],l,h=>⟨h,oS⟩
 |s::m,l,h=>by obtain⟨h1,a⟩:=iD s h;obtain⟨b,c⟩:=aZ m h1;refine⟨b,λx=> ?_⟩;rw[lc,c,a,e9,or_assoc]
def tA(m:Ξ):m.foldl Hn []=dst m:=by obtain⟨h1,h⟩:=aZ m (l:=[]) oS;exact(lG h1 (λx=>by rw[h];simp)).symm
def Vq:∀(m l:Ξ),(m.foldl Hn l).length<=l.length+m.length
 |[],l=>by simp
 |s::m,l=>by have:=Vq m (Hn l s);have:=aY l s;exact nU
def bA{a c:Type}{f:c->a->c}{l:List a}{j:Nat}{x:a}{b:c}(h:l[j]? =some x):(l.take (j+1)).foldl f b=f ((l.take j).foldl f b) x:=by rw[fc,h];simp[mw]
def AiK(l:Ξ)(s:Ab)(w:l.length<=10000000):QA 101 [.sl 1 (l.map str),str s] (λr=>r=.own 9 1 ((Hn l s).map str)):=by
 refine Zs [] func101 ⟨_,rfl⟩ ?_;refine Ak (rl [5,36]) [5,6,7] (λn t=>∃j:Nat,j<=l.length/\j+n=l.length/\t=[.own 9 1 ((Ia s (l.take j)).1.map str),Af (Ia s (l.take j)).2,num j]) ⟨l.length,_,⟨0,om,om,rfl⟩,?_⟩ ?_
 .exact Aim
 .rintro n t ⟨j,v,y,rfl⟩;have c:=aX s (l.take j);rw[fw]at c;simp only[PU];rcases cq j l.length with p|hge
  .have f:=eT j l.length;obtain⟨x,u,i⟩:=Bj p;have b:=Cd u;have g:=wS j;have hstep:=iA (s:=s) u;obtain⟨o,m⟩:∃o,(Ia s (l.take j)).1=o:=⟨_,rfl⟩;obtain⟨d,i⟩:∃d,(Ia s (l.take j)).2=d:=⟨_,rfl⟩;rw[show Ia s (l.take j)=(o,d)from Prod.ext m i]at c hstep⊢;simp only[Iv]at hstep;simp only[Af]at *;have k:o.length<=l.length+1:=cp (qu _ _) (cp c om);rcases Bool.eq_false_or_eq_true (Gc s x)with hle|hle
   .have h:(Op.bytesLess s x||s==x)=true:=hle;by_cases a:x=s
    .have hxe:=bc a;have e:(x==s)=true:=by simp[a]
     cases d
     .repeat' first|apply Aq.on<;>intro _|refine gD ?_|simp only[go_sem,DT,Int.reduceEq,Int.cast_ofNat_Int,f,b,g,h,e,dc]
      exact uX
     .repeat' first|apply Aq.on<;>intro _|refine gD ?_|simp only[go_sem,DT,Int.reduceEq,Int.cast_ofNat_Int,f,b,g,h,e,dc]
      exact uX
    .have hxe:=bd a;have e:(x==s)=false:=by simp[a]
     cases d
     .repeat' first|apply Aq.on<;>intro _|refine gD ?_|simp only[go_sem,DT,Int.reduceEq,Int.cast_ofNat_Int,f,b,g,h,e,dc]
      exact uX
     .repeat' first|apply Aq.on<;>intro _|refine gD ?_|simp only[go_sem,DT,Int.reduceEq,Int.cast_ofNat_Int,f,b,g,h,e,dc]
      exact uX
   .have h:(Op.bytesLess s x||s==x)=false:=hle;by_cases a:x=s
    .have hxe:=bc a;have e:(x==s)=true:=by simp[a]
     cases d
     .repeat' first|apply Aq.on<;>intro _|refine gD ?_|simp only[go_sem,DT,Int.reduceEq,Int.cast_ofNat_Int,f,b,g,h,e,dc]
      exact uX
     .repeat' first|apply Aq.on<;>intro _|refine gD ?_|simp only[go_sem,DT,Int.reduceEq,Int.cast_ofNat_Int,f,b,g,h,e,dc]
      exact uX
    .have hxe:=bd a;have e:(x==s)=false:=by simp[a]
     cases d
     .repeat' first|apply Aq.on<;>intro _|refine gD ?_|simp only[go_sem,DT,Int.reduceEq,Int.cast_ofNat_Int,f,b,g,h,e,dc]
      exact uX
     .repeat' first|apply Aq.on<;>intro _|refine gD ?_|simp only[go_sem,DT,Int.reduceEq,Int.cast_ofNat_Int,f,b,g,h,e,dc]
      exact uX
  .have f:=eU j l.length;rw[Are hge]at c⊢;obtain⟨o,m⟩:∃o,(Ia s l).1=o:=⟨_,rfl⟩;obtain⟨d,i⟩:∃d,(Ia s l).2=d:=⟨_,rfl⟩;have q:Hn l s=o++if d then[]else[s]:=by rw[Hn,m,i]
   rw[show Ia s l=(o,d)from Prod.ext m i]at c⊢;rw[q];have k:o.length<=l.length+1:=cp (qu _ _) (cp c om);simp only[Af];cases d
   .refine Zu ?_;simp only[f0,if_false,ip,ev,db,str]
   .repeat' first|apply Aq.on<;>intro _|refine gD ?_|simp only[go_sem,DT,Int.reduceEq,Int.cast_ofNat_Int,f,dc]
    all_goals simp only[if_true,gy]
def dW(o:Ξ)(s:Ap):Ξ:=if Ee s then s.tp.foldl Hn o else o
def B9(L:List Ap):Ξ:=L.foldl dW []
def dX(o:Ξ)(s:Ap):Ξ:=if Ee s then Hn o s.au else o
def C7(L:List Ap):Ξ:=L.foldl dX []
def tB:∀(L:List Ap) (o:Ξ),(∀s∈L,s.tp.length<=1000)->(L.foldl dW o).length<=o.length+1000*L.length
 |[],o,_=>by simp
 |s::L,o,h=>by
  have h1:=tB L (dW o s) (λy a=>h y (by simp[a]))
  have b:(dW o s).length<=o.length+1000:=by
   unfold dW;split
   .have:=Vq s.tp o;have:=h s oS;omega
   .omega
  exact nU
def tC:∀(L:List Ap) (o:Ξ),(L.foldl dX o).length<=o.length+L.length
 |[],o=>by simp
 |s::L,o=>by
  have h1:=tC L (dX o s)
  have h:(dX o s).length<=o.length+1:=by
   unfold dX;split
   .exact aY _ _
   .omega
  exact nU
def tD{L:List Ap}(h:∀s∈L,s.tp.length<=1000)(i:Nat):(B9 (L.take i)).length<=1000*i:=by have:=tB (L.take i) [] (λs a=>h s (i7 a));rw[fw]at this;simp only[eh]at this;unfold B9;omega
def tE(L:List Ap)(i:Nat):(C7 (L.take i)).length<=i:=by have:=tC (L.take i) [];rw[fw]at this;simp only[eh]at this;unfold C7;omega
def Wv(L:List Ap)(z:Φ)(J:L.length<=10000)(A:∀s∈L,Hj s)(y:∀s∈L,s.tp.length<=1000):QA 36 [stA L z] (λr=>r=.own 9 1 ((B9 L).map str)):=by
 simp only[stA];refine G6 [] func36 ⟨_,rfl⟩ ?_;repeat' first|apply Aq.on<;>intro _|refine gD ?_|simp only[go_sem,DT,Int.reduceEq,Int.cast_ofNat_Int]
 refine Ak (rl [3,36]) [3,4] (λn x=>∃i:Nat,i<=L.length/\i+n=L.length/\x=[.own 9 1 ((B9 (L.take i)).map str),num i]) ⟨L.length,_,⟨0,om,om,rfl⟩,?_⟩ ?_
 .simp only[gx,B9,oq,db];exact Zw
 .rintro n x ⟨i,B,K,rfl⟩;have m:=tD y i;simp only[PU];rcases cq i L.length with p|hge
  .have ej:=eT i L.length;obtain⟨s,l,M⟩:=Bj p;have q:=A s (cu l);have C:=y s (cu l);have b:=H5 l;simp only[num,str,Af]at b;have e:=wS i;have a:B9 (L.take (i+1))=dW (B9 (L.take i)) s:=bA l;obtain⟨o,D⟩:∃o,B9 (L.take i)=o:=⟨_,rfl⟩;rw[D]at m a⊢;refine Z3 ej b e ?_;refine((S7 s q.2).wk ?_).mono ?_
   .exact nX
   rintro r rfl;simp only[Af];cases f:Ee s
   .have h:B9 (L.take (i+1))=o:=by rw[a,dW,f];rfl
    refine Z3 ej b e ?_;refine Ak (rl [3,1,3,1,14,17]) [3,7] (λg x=>x=[.own 9 1 (o.map str),num 0]) ⟨0,_,rfl,?_⟩ ?_
    .exact Zw
    .rintro g x rfl;simp only[PU];repeat' first|apply Aq.on<;>intro _|refine gD ?_|simp only[go_sem,DT,Int.reduceEq,Int.cast_ofNat_Int,ej,b,e,dc]
     refine Av (n-1) [.own 9 1 ((B9 (L.take (i+1))).map str),num ((i+1:Nat):Int)] om ⟨i+1,om,om,rfl⟩ ?_;rw[h];exact Zw
   .have h:B9 (L.take (i+1))=s.tp.foldl Hn o:=by rw[a,dW,f];rfl
    refine Z3 ej b e ?_;refine Ak (rl [3,1,3,1,14,17]) [3,7] (λg x=>∃k:Nat,k<=s.tp.length/\k+g=s.tp.length/\x=[.own 9 1 (((s.tp.take k).foldl Hn o).map str),num k]) ⟨s.tp.length,_,⟨0,om,om,rfl⟩,?_⟩ ?_
    .simp only[gx,oq];exact Zw
    .rintro g x ⟨k,E,F,rfl⟩;have c:=Vq (s.tp.take k) o;rw[fw]at c;simp only[PU];rcases cq k s.tp.length with u|hkg
     .have ek:=eT k s.tp.length;obtain⟨t,j,G⟩:=Bj u;have H:=Cd j;have I:=wS k;have d:(s.tp.take (k+1)).foldl Hn o=Hn ((s.tp.take k).foldl Hn o) t:=bA j;obtain⟨v,w⟩:∃v,(s.tp.take k).foldl Hn o=v:=⟨_,rfl⟩;rw[w]at c d⊢;refine Zu ?_;refine Za (AiK v t om) ?_;refine Av (g-1) [.own 9 1 (((s.tp.take (k+1)).foldl Hn o).map str),num ((k+1:Nat):Int)] om ⟨k+1,om,om,rfl⟩ ?_;rw[d];exact Zw
     .have ek:=eU k s.tp.length;rw[Are hkg,<-h];refine Z4 ek ej b e ?_;refine Av (n-1) [.own 9 1 ((B9 (L.take (i+1))).map str),num ((i+1:Nat):Int)] om ⟨i+1,om,om,rfl⟩ ?_;exact Nu
  .exact PS
def T3(L:List Ap)(t:Φ)(m:L.length<=10000)(j:∀s∈L,Hj s):QA 37 [stA L t] (λr=>r=.own 9 1 ((C7 L).map str)):=by
 simp only[stA];refine Zs [] func37 ⟨_,rfl⟩ ?_;refine Ak (rl [3,25]) [3,4] (λn x=>∃i:Nat,i<=L.length/\i+n=L.length/\x=[.own 9 1 ((C7 (L.take i)).map str),num i]) ⟨L.length,_,⟨0,om,om,rfl⟩,?_⟩ ?_
 .simp only[gx,C7,oq,db];exact Zw
 .rintro n x ⟨i,k,p,rfl⟩;have c:=tE L i;simp only[PU];rcases cq i L.length with d|hge
  .have ej:=eT i L.length;obtain⟨s,e,q⟩:=Bj d;have f:=j s (cu e);have a:=H5 e;simp only[num,str,Af]at a;have g:=wS i;have h:C7 (L.take (i+1))=dX (C7 (L.take i)) s:=bA e;obtain⟨o,l⟩:∃o,C7 (L.take i)=o:=⟨_,rfl⟩;rw[l]at c h⊢;refine Z3 ej a g ?_;refine((S7 s f.2).wk ?_).mono ?_
   .exact nX
   rintro r rfl;simp only[Af];cases b:Ee s
   .have hstep2:C7 (L.take (i+1))=o:=by rw[h,dX,b];rfl
    refine Z3 ej a g ?_;exact AgO
   .have hstep2:C7 (L.take (i+1))=Hn o s.au:=by rw[h,dX,b];rfl
    refine Z3 ej a g ?_;refine Za (AiK o s.au om) ?_;exact AgO
  .exact PS
def Ho(b:Ξ):Ξ->Ξ->Nat
 |_,[]=>0
 |seen,x::r=>(if x∉seen/\x∈b then 1 else 0)+Ho b (seen++[x]) r
def iE(b:Ξ):∀(l s:Ξ) (x:Ab),Ho b s (l++[x])=Ho b s l+if x∉s++l/\x∈b then 1 else 0
 |[],s,x=>by simp[Ho]
 |y::l,s,x=>by have:=iE b l (s++[y]) x;simp only[fj,Ho,this,ir,fm];omega
def Abb{b l:Ξ}{j:Nat}{x:Ab}(h:l[j]? =some x):Ho b [] (l.take (j+1))=Ho b [] (l.take j)+if x∉l.take j/\x∈b then 1 else 0:=by rw[fc,h];exact iE b (l.take j) [] x
def tF(b:Ξ):∀(l s:Ξ),Ho b s l<=l.length
 |[],_=>by simp[Ho]
 |x::l,s=>by have:=tF b l (s++[x]);simp only[Ho,dg];split<;>omega
def cmn(s t:Ap):Nat:=Ho t.tp [] s.tp
def Abc(s t:Ap)(f:Hj s)(g:Hj t):QA 164 [ci s,ci t] (λr=>r=num (cmn s t:Nat)):=by
 simp only[ci,Qn];refine G6 [(2000005,[0,2,4,6,2001,3,2005,7,2008],[3009,10]),(2000006,[0,2,4,2001,2003,5,2006],[3007,8])] func164 ⟨_,rfl⟩ ?_;refine Zu ?_;refine Ak (rl [5,36]) [5,6] (λn d=>∃i:Nat,i<=s.tp.length/\i+n=s.tp.length/\d=[num (Ho t.tp [] (s.tp.take i):Nat),num i]) ⟨s.tp.length,_,⟨0,om,om,rfl⟩,?_⟩ ?_
 .simp only[gx,Ho,Int.cast_ofNat_Int];exact Zw
 .rintro n d ⟨i,j,v,rfl⟩;have a:=tF t.tp (s.tp.take i) [];rw[fw]at a;simp only[PU];have k:=f.1;rcases cq i s.tp.length with c|hge
  .have l:=eT i s.tp.length;obtain⟨x,e,w⟩:=Bj c;have o:=Cd e;have y:=wS i;have hstep:=Abb (b:=t.tp) e;obtain⟨m,p⟩:∃m,Ho t.tp [] (s.tp.take i)=m:=⟨_,rfl⟩;rw[p]at a hstep⊢;have q:=wS m;have u:List.take i (s.tp.map str)=(s.tp.take i).map str:=List.map_take.symm;refine Zu ?_;refine Za (PA (s.tp.take i) x (by rw[fw];omega)) ?_;refine Zb (PA t.tp x g.1) ?_;rintro r rfl;simp only[Af];by_cases h1:x∈s.tp.take i
   .by_cases h:x∈t.tp
    .have hi1:x∈s.tp.take i:=h1;have hi2:x∈t.tp:=h;have e1:decide (x∈List.take i s.tp)=true:=by simp[h1]
     have e2:decide (x∈t.tp)=true:=by simp[h]
     exact ye
    .have hi1:x∈s.tp.take i:=h1;have hi2:x∉t.tp:=h;have e1:decide (x∈List.take i s.tp)=true:=by simp[h1]
     have e2:decide (x∈t.tp)=false:=by simp[h]
     exact ye
   .by_cases h:x∈t.tp
    .have hi1:x∉s.tp.take i:=h1;have hi2:x∈t.tp:=h;have e1:decide (x∈List.take i s.tp)=false:=by simp[h1]
     have e2:decide (x∈t.tp)=true:=by simp[h]
     exact ye
    .have hi1:x∉s.tp.take i:=h1;have hi2:x∉t.tp:=h;have e1:decide (x∈List.take i s.tp)=false:=by simp[h1]
     have e2:decide (x∈t.tp)=false:=by simp[h]
     exact ye
  .have l:=eU i s.tp.length;rw[Are hge];exact Ze
def tG:∀a:Ab,(encStr a).oneCell'=true:=λ_=>rfl
def Abd(z:Ξ)(h:z.length<=10000000):Cm prog 118 (.row 9 1 (z.map str)) [] (λr y=>r=.a6 []/\y=.row 9 1 ((z.mergeSort λx y=>decide (x<=y)).map str)):=
 Aal ⟨_,_,func118,rfl,oD⟩ tG (λl=>l.mergeSort λx y=>decide (x<=y)) (λl=>tg l) z Tryz.slices_Sort_string_none
  (λb c w a d=>Tryz.slices_Sort_string b 0 c z w a d om)
def Vr(z:Ξ)(h:z.length<=10000000):QA 119 [.mine 9 1 (z.map str)] (λr=>r=.own 9 1 ((compact z).map str)):=
 rX ⟨_,_,func119,rfl,oD⟩ tG compact (λl=>compact_length_le l) [] z Tryz.slices_Compact_string_empty
  (λb c w a d=>Tryz.slices_Compact_string b 0 c z w a om d)
def Abe(z:Ξ)(h:z.length<=1000000000):QA 203 [.sl 1 (z.map str)] (λr=>r=.nil/\z=[]\/r=.mine 9 1 (z.map str)):=by
 refine Zs [] func203 ⟨_,.inr rfl⟩ ?_;refine⟨λa=> ?_,?_⟩
 .have b:z=[]:=kq a;refine Z0 ?_;exact .inl b
 .refine Zu ?_;first|exact .inr rfl|exact .inr trivial
def Afj(z:Ξ)(h:z.length<=1000000000):QA 203 [.sl 1 (z.map str)] (λr=>r=.mine 9 1 (z.map str)):=by
 refine(Abe z h).lf ?_;rintro r (⟨rfl,rfl⟩|rfl)
 .exact⟨_,W1.lh 9 1,rfl,rfl⟩
 .exact⟨_,bh _,rfl,rfl⟩
def Rt(z:Ξ)(h:z.length<=10000000):QA 148 [.sl 1 (z.map str)] (λr=>r=.own 9 1 ((dst z).map str)):=by
 refine Zs [(2,[100003],[]),(3,[100003],[])] func148 ⟨_,rfl⟩ ?_;refine Za (Afj z om) ?_;refine Cm.mono (Abd z h) ?_;rintro r y ⟨rfl,rfl⟩;refine Z0 ?_;refine(Vr _ (by rw[tg];exact h)).mono ?_;rintro r rfl;repeat' first|apply Aq.on<;>intro _|refine gD ?_|simp only[go_sem,DT,Int.reduceEq,Int.cast_ofNat_Int]
 rfl
def LL(X:List (Ap×Nat))(h:X.length<=1000000):Cm prog 142 (.row 180 9 (X.map qY)) [] (λr y=>r=.a6 []/\y=.row 180 9 (X.reverse.map qY)):=by rw[List.map_reverse];refine rZ Tryz.jn 9 oD Tryz.isAgg180 Tryz.sizeOf180 ⟨_,_,func142,rfl,oD⟩ (X.map qY) (λx a=> ?_) (by simpa using h);obtain⟨y,_,rfl⟩:=dm.1 a;exact⟨_,rfl,rfl⟩
def LM(L:List Ap)(t:Φ)(a:List OA)(b:L.length<=1000000)(d:∀s∈L,Hj s)(h:a.length<=1000000)(e:∀c∈a,x_ c):QA 136 [stA L t,.sl 1 (a.map dR)] (λr=>r=.mine 180 9 ((Ma (Cq (C5 a) 0 L)).map qY)):=by
 simp only[stA];refine Zs [(2,[100005],[]),(3,[100005],[])] func136 ⟨_,rfl⟩ ?_;refine((Vi L t a).wk ?_).mono ?_
 .simp only[stA];exact Zw
 rintro r rfl;simp only[stA];refine Z0 ?_;refine Za (gM (Cq (C5 a) 0 L) (by have:=E6 (p:=C5 a) L 0;omega) (Vh L t a b d h e)) ?_;refine Cm.mono (Aax (Cq (C5 a) 0 L) (by have:=E6 (p:=C5 a) L 0;omega) (Mb L 0)) ?_;rintro r y ⟨rfl,rfl⟩;exact OE
def Afk(L:List Ap)(t:Φ)(v:Ϟ)(p:Int)(l:Db p)(u:L.length<=100000)(m:∀s∈L,Hj s):QA 85 [stA L t,str v,num p] (λr=>r=.a6 [.nil,num (((Bd v L).length+4) / 5:Nat)]/\O5 ((Bd v L).reverse.map (·.id)) p=[]\/r=.a6 [.own 3 1 (Ar (O5 ((Bd v L).reverse.map (·.id)) p)),num (((Bd v L).length+4) / 5:Nat)]):=by
 simp only[stA];refine Zs [(1,[4],[]),(2,[100008],[]),(3,[8],[])] func85 ⟨_,.inr rfl⟩ ?_;refine((LM L t [sN v 141] om m oS (λc j s a o=> ?_)).wk ?_).mono ?_
 .rw[ga]at j;subst j;exact AkW s a v o.1
 .exact PC
 rintro r rfl;rw[Vm];have d:(Ma (Cq (λs _=>hasB s v) 0 L)).length<=L.length:=by rw[Tp];exact E6 L 0
 have b:=O6 v L;obtain⟨x,q⟩:∃x,Ma (Cq (λs _=>hasB s v) 0 L)=x:=⟨_,rfl⟩;rw[q]at d b⊢;obtain⟨M,e⟩:∃M,Bd v L=M:=⟨_,rfl⟩;rw[e]at b⊢;have f:M.length=x.length:=by rw[<-b,dB]
 refine Z0 ?_;refine Cm.mono (LL x om) ?_;rintro r y ⟨rfl,rfl⟩;have h:M.reverse.map (·.id)=x.reverse.map (·.1.id):=by rw[<-b,List.map_reverse,List.map_reverse,lq];rfl
 rw[h];obtain⟨O,k⟩:∃O,x.reverse=O:=⟨_,rfl⟩;have g:O.length=M.length:=by rw[<-k,ni,f]
 rw[k,<-g];obtain⟨p1,w⟩:=l;have hq:(O.length:Int).tdiv 5=((O.length / 5:Nat):Int):=(Int.ofNat_tdiv O.length 5).symm;have hm:(O.length:Int).tmod 5=((O.length % 5:Nat):Int):=L5 (n:=5) om;have hwq:i64.wrap ((O.length / 5:Nat):Int)=((O.length / 5:Nat):Int):=Aw om om;have yu:i64.wrap ((O.length % 5:Nat):Int)=((O.length % 5:Nat):Int):=Aw om om;obtain⟨np,i⟩:∃np,(O.length+4) / 5=np:=⟨_,rfl⟩;rw[i];by_cases z:0<O.length % 5
 .have e5:=bc (show(0:Int)<((O.length % 5:Nat):Int) by omega);have hwp:i64.wrap (((O.length / 5:Nat):Int)+1)=(np:Int):=by rw[Aw om om];omega
  exact ϝ
 .have e5:=bd (show¬(0:Int)<((O.length % 5:Nat):Int) by omega);have hwp:((O.length / 5:Nat):Int)=(np:Int):=om;exact ϝ
def Abf(L:List Ap)(t:Φ)(v:Ϟ)(p:Int)(a:Db p)(b:L.length<=100000)(c:∀s∈L,Hj s):QA 85 [stA L t,str v,num p] (λr=>r=.a6 [.own 3 1 (Ar (O5 ((Bd v L).reverse.map (·.id)) p)),num (((Bd v L).length+4) / 5:Nat)]):=by
 refine(Afk L t v p a b c).lf ?_;rintro r (⟨rfl,h⟩|rfl)
 .refine⟨_,eu (Ju (e:=3) (k:=1) (.same .nil)),rfl,by rw[h];rfl⟩
 .exact⟨_,bh _,rfl,rfl⟩
def holds_nil:C5 []=λ_ _=>true:=by funext s a;simp[C5]
def bB:∀(L:List Ap) (i:Nat),(Cq (λ_ _=>true) i L).map (·.1)=L.filter Ee
 |[],i=>rfl
 |s::L,i=>by
  have:=bB L (i+1);unfold Cq;by_cases h:Ee s=true
  .rw[bn (by simp[h]),ou,bn h,ev,this]
  .rw[ar (by simp[h]),ou,ar h,this]
def iF:∀(L:List Ap) (o:Ξ),L.foldl dW o=((L.filter Ee).flatMap (·.tp)).foldl Hn o
 |[],o=>rfl
 |s::L,o=>by
  rw[lc,iF L,dW];by_cases h:Ee s=true
  .rw[bn h,ou,bn h,qt,mw]
  .rw[ar h,ou,ar h]
def bC(L:List Ap):B9 L=dst ((L.filter Ee).flatMap (·.tp)):=by rw[B9,iF,tA]
def iG:∀(L:List Ap) (o:Ξ),L.foldl dX o=((L.filter Ee).map (·.au)).foldl Hn o
 |[],o=>rfl
 |s::L,o=>by
  rw[lc,iG L,dX];by_cases h:Ee s=true
  .rw[bn h,ou,bn h,ev,lc]
  .rw[ar h,ou,ar h]
def bD(L:List Ap):C7 L=dst ((L.filter Ee).map (·.au)):=by rw[C7,iG,tA]
def T4{X:List (Ap×Nat)}(h:∀x∈X,x.1.tp.length<=1000)(k:Nat):((X.take k).flatMap (·.1.tp)).length<=1000*k:=by
 induction k with
 |zero=>simp
 |succ k ih=>
  rw[fc,pi,dc]
  have a:((X[k]?.toList).flatMap (·.1.tp)).length<=1000:=by
   cases b:X[k]? with
   |none=>simp
   |some x=>simpa using h x (cu b)
  omega
def tH(L:List Ap)(t:Φ)(y:L.length<=10000)(q:∀s∈L,Hj s)(u:∀s∈L,s.tp.length<=1000):QA 95 [stA L t] (λr=>r=.own 9 1 ((B9 L).map str)):=by
 have hlen:=E6 (p:=λ_ _=>true) L 0;simp only[stA];refine Ed [] [] [4,7,8,9,10,11,12] b3 Cl func95 oD oK (by simp only[go_sem,reduceIte,reduceCtorEq];rfl) ntmps95 results95 ⟨_,rfl⟩ rfl ?_;skip;simp only[LS,Nat.reduceAdd,Nat.reduceSub];refine Z0 ?_;refine((Vi L t []).wk ?_).mono ?_
 .simp only[stA,db];exact Zw
 rintro r rfl;refine Z0 ?_;have f:=Vh L t [] om q oS (λc v=>by simp at v);rw[holds_nil]at f;obtain⟨X,g⟩:∃X,Cq (λ_ _=>true) 0 L=X:=⟨_,rfl⟩;have b:∀x∈X,x.1.tp.length<=1000:=λx o=>u x.1 (by rw[<-g]at o;exact(Xt L 0 x o).2);have e:X.flatMap (·.1.tp)=(L.filter Ee).flatMap (·.tp):=by rw[<-bB L 0,g,List.flatMap_map]
 have j:zG (λ_ _=>true) L=λk a=>∃x,X[k]? =some x/\a=[qY x]:=by funext k a;simp only[zG,g]
 rw[j]at f;rw[g]at f hlen;refine Ft (rl [3,2,2,6]) [3] (λk l=>l=[.box 38 [.own 9 1 (((X.take k).flatMap (·.1.tp)).map str)]]) (bx 15) ?_ f ?_ ?_ ?_
 .exact J1
 .refine⟨_,rfl,?_⟩;simp only[PU];simp only[gx,sr,db];exact GP
 .rintro k a l ⟨x,m,rfl⟩ rfl;refine⟨rfl,rfl,?_⟩;have hlk:k<X.length:=(ab.1 m).1;have d:=T4 b k;have n:=b x (cu m);have h:((X.take k).flatMap (·.1.tp)).map str++x.1.tp.map str=((X.take (k+1)).flatMap (·.1.tp)).map str:=by rw[fc,m];simp
  obtain⟨s,i⟩:=x;simp only at h n;obtain⟨F,w⟩:∃F,(X.take k).flatMap (·.1.tp)=F:=⟨_,rfl⟩;rw[w]at d h⊢;simp only[qY,iz,num,str,Af]at h⊢;simp only[PU];repeat' first|apply Aq.on<;>intro _|refine gD ?_|simp only[go_sem,DT,Int.reduceEq,Int.cast_ofNat_Int,h]
  refine Ij _ rfl ?_;simp only[PU];exact GP
 .rintro l rfl;simp only[PU];simp only[lr,e];have d:=T4 b X.length;rw[lr,e]at d;refine Z0 ?_;refine Zb (Rt ((L.filter Ee).flatMap (·.tp)) om) ?_;rintro r rfl;rw[bC];exact OE
def iH(L:List Ap)(t:Φ)(q:L.length<=10000)(m:∀s∈L,Hj s):QA 97 [stA L t] (λr=>r=.own 9 1 ((C7 L).map str)):=by
 have hlen:=E6 (p:=λ_ _=>true) L 0;simp only[stA];refine Ed [] [] [4,7,8,9,10,11,12,13] b3 Cl func97 oD oK (by simp only[go_sem,reduceIte,reduceCtorEq];rfl) ntmps97 results97 ⟨_,rfl⟩ rfl ?_;skip;simp only[LS,Nat.reduceAdd,Nat.reduceSub];refine Z0 ?_;refine((Vi L t []).wk ?_).mono ?_
 .simp only[stA,db];exact Zw
 rintro r rfl;refine Z0 ?_;have d:=Vh L t [] om m oS (λc n=>by simp at n);rw[holds_nil]at d;obtain⟨X,e⟩:∃X,Cq (λ_ _=>true) 0 L=X:=⟨_,rfl⟩;have b:X.map (·.1.au)=(L.filter Ee).map (·.au):=by rw[<-bB L 0,e,lq];rfl
 have f:zG (λ_ _=>true) L=λk a=>∃x,X[k]? =some x/\a=[qY x]:=by funext k a;simp only[zG,e]
 rw[f]at d;rw[e]at d hlen;refine Ft (rl [3,2,2,7]) [3] (λk g=>g=[.box 38 [.own 9 1 (((X.take k).map (·.1.au)).map str)]]) (bx 16) ?_ d ?_ ?_ ?_
 .exact J1
 .refine⟨_,rfl,?_⟩;simp only[PU];simp only[gx,db];exact GP
 .rintro k a g ⟨x,l,rfl⟩ rfl;refine⟨rfl,rfl,?_⟩;have hlk:k<X.length:=(ab.1 l).1;have h:((X.take k).map (·.1.au)).map str++[str x.1.au]=((X.take (k+1)).map (·.1.au)).map str:=by rw[fc,l];simp
  have j:((X.take k).map (·.1.au)).length=k:=by simp;omega
  obtain⟨s,i⟩:=x;simp only at h;obtain⟨F,o⟩:∃F,(X.take k).map (·.1.au)=F:=⟨_,rfl⟩;rw[o]at j h⊢;simp only[qY,iz,num,str,Af]at h⊢;simp only[PU];repeat' first|apply Aq.on<;>intro _|refine gD ?_|simp only[go_sem,DT,Int.reduceEq,Int.cast_ofNat_Int,h]
  refine Ij _ rfl ?_;simp only[PU];exact GP
 .rintro g rfl;simp only[PU];simp only[lr,b];refine Z0 ?_;refine Zb (Rt ((L.filter Ee).map (·.au)) (by rw[<-b,dB];omega)) ?_;rintro r rfl;rw[bD];exact OE
def Hu(s:Ap)(i:Int)(k:Nat)(y:Ap):Bool:=decide (y.id≠i)&&decide (cmn s y=k)
def Pb(M:List Ap)(s0:Ap)(id:Int):Nat->List Int
 |0=>[]
 |k+1=>(M.filter (Hu s0 id (k+1))).map (·.id)++Pb M s0 id k
def Kj(L:List Ap)(id n:Int):List Int:=match L.find? (λs=>decide (s.id=id))with
 |none=>[]
 |some s0=>if Ee s0 then(Pb (Bd [] L) s0 id s0.tp.length).take n.toNat else[]
def T5(M:List Ap)(s:Ap)(i:Int):∀k,(Pb M s i k).length<=k*M.length
 |0=>by simp[Pb]
 |k+1=>by have:=T5 M s i k;have h:=kh (Hu s i (k+1)) M;simp only[Pb,dc,dB,jx];omega
def LN{a:Type}{X:List a}{k:Nat}{y:a}(h:(X.take k).length<k):X.take k++[y]=(X++[y]).take k:=by rw[fw]at h;rw[Are om,Are (by simp;omega)]
def LO{a:Type}{X Y:List a}{k:Nat}(h:k<=(X.take k).length):(X++Y).take k=X.take k:=by rw[fw]at h;rw[sw om]
def FM{L:List Ap}{a:Int}{i:Nat}{s:Ap}(b:L[i]? =some s)(h:∀y∈L.take i,¬y.id=a)(c:s.id=a):L.find? (λs=>decide (s.id=a))=some s:=by have d:=(ab.1 b).1;rw[<-ki i L,List.find?_append,List.find?_eq_none.2 (by simpa using h),j0 d,(ab.1 b).2];simp[c]
def LP{L:List Ap}{i:Int}(h:∀y∈L,¬y.id=i):L.find? (λs=>decide (s.id=i))=none:=List.find?_eq_none.2 (by simpa using h)
def bF{x y:Ap}:∀{l:List Ap},y∈H6 l x->y=x\/y∈l
 |[],h=>by simp[H6]at h;exact .inl h
 |z::r,h=>by
  simp only[H6]at h;split at h
  .rcases e9.1 h with h|h
   .exact .inl h
   .exact .inr h
  .rcases e9.1 h with h|h
   .exact .inr (by simp[h])
   .rcases bF h with h|h
    .exact .inl h
    .exact .inr (by simp[h])
def tI(v:Ϟ):∀(L a:List Ap),∀y∈L.foldl (dS v) a,y∈a\/y∈L
 |[],a,y,h=>.inl h
 |s::L,a,y,h=>by
  rcases tI v L _ y h with h|h
  .unfold dS at h;split at h
   .rcases bF h with h|h
    .exact .inr (by simp[h])
    .exact .inl h
   .exact .inl h
  .exact .inr (by simp[h])
def Pd(v:Ϟ)(L:List Ap):∀y∈Bd v L,y∈L:=λy h=>by
 rcases tI v L [] y h with h|h
 .simp at h
 .exact h
def dY(L:List Ap)(V:Φ)(id m:Int)(hl:L.length<=10000)(H:∀s∈L,Hj s)(Z:∀s∈L,s.tp.length<=1000):QA 106 [stA L V,num id,num m] (λr=>r=.nil/\Kj L id m=[]\/r=.own 3 1 (Ar (Kj L id m))):=by
 simp only[stA];refine G6 [(2000015,[0,1,2,3,5,2004,6,7,8,10,13,14,15,18,2009,11,2012,2016],[3017,19,20]),(13,[],[10])] func106 ⟨_,.inr rfl⟩ ?_;refine Z0 ?_;refine Ak (rl [7,1,5,17]) [7] (λn x=>∃i:Nat,i<=L.length/\i+n=L.length/\(∀y∈L.take i,¬y.id=id)/\x=[num i]) ⟨L.length,_,⟨0,om,om,oS,rfl⟩,?_⟩ ?_
 .exact Zw
 .rintro n x ⟨i,hil,hn,a,rfl⟩;simp only[PU];rcases cq i L.length with I|hge
  .have p:=eT i L.length;have d:=bd (show¬(i:Int)=(L.length:Int) by omega);obtain⟨s,q,hd⟩:=Bj I;have t:=H s (cu q);have J:=Z s (cu q);have h:=H5 q;simp only[num,str,Af]at h;have u:=wS i;by_cases b:s.id=id
   .have e:=bc b;refine Z5 d p h u e ?_;refine((S7 s t.2).wk ?_).mono ?_
    .simp only[ci,Qn,num,str,Af];exact vC
    rintro r rfl;simp only[Af];cases v:Ee s
    .refine Z5 d p h u e ?_;refine .inl ?_;rw[Kj,FM q a b];simp only[v,f0,if_false]
    .have g:Kj L id m=(Pb (Bd [] L) s id s.tp.length).take m.toNat:=by
      rw[Kj,FM q a b];simp only[v,if_true]
     refine Z4 p h u e ?_;refine((O4 L V [] om H).wk ?_).mono ?_
     .simp only[stA,str];exact vC
     rintro r rfl;obtain⟨M,D⟩:∃M,Bd [] L=M:=⟨_,rfl⟩;have hMl:M.length<=L.length:=by rw[<-D];exact Cw [] L
     have K:∀y∈M,y∈L:=by rw[<-D];exact Pd [] L
     rw[D]at g;simp only[D];have N:i64.wrap ((M.length:Int)-1)=(M.length:Int)-1:=Aw om om;refine Z4 p h u e ?_;refine Ak (rl [10,3,41,46]) [10,11] (λn x=>∃(k:Nat) (B:List Int),k=n/\k<=s.tp.length/\B++Pb M s id k=Pb M s id s.tp.length/\x=[.own 3 1 (Ar (B.take m.toNat)),num (k:Nat)]) ⟨s.tp.length,_,⟨s.tp.length,[],rfl,om,rfl,rfl⟩,?_⟩ ?_
     .simp only[List.take_nil,Ar,db];exact AgI
     .rintro n x ⟨k,B,rfl,hk,E,rfl⟩;simp only[PU];have O:(Pb M s id s.tp.length).length<=1000*10000:=cp (T5 M s id _) (Nat.mul_le_mul J om);rw[<-E,dc]at O
      cases k with
      |zero=>
       have P:=bd (show¬(0:Int)<((0:Nat):Int) by omega);repeat' first|apply Aq.on<;>intro _|refine gD ?_|simp only[go_sem,DT,Int.reduceEq,Int.cast_ofNat_Int,P]
       all_goals try (exfalso;omega)
       rw[g,<-E,Pb,gy];exact .inr rfl
      |succ k=>
       have P:=bc (show(0:Int)<((k+1:Nat):Int) by omega);have hwk:i64.wrap (((k+1:Nat):Int)-1)=(k:Int):=by rw[Aw om om];omega
       repeat' first|apply Aq.on<;>intro _|refine gD ?_|simp only[go_sem,DT,Int.reduceEq,Int.cast_ofNat_Int,P,N,ni]
       refine Ak (rl [10,1,1,1,48,39,1]) [10,12] (λn2 x=>∃j:Nat,j<=M.length/\j+n2=M.length/\x=[.own 3 1 (Ar ((B++((M.take j).filter (Hu s id (k+1))).map (·.id)).take m.toNat)),num ((M.length:Int)-1-(j:Int))]) ⟨M.length,_,⟨0,om,om,rfl⟩,?_⟩ ?_
       .simp only[gx,po,db,gy,Int.natCast_zero,Int.sub_zero];exact AgI
       .rintro n2 x ⟨j,hjl,hn2,rfl⟩;simp only[PU];have Q:=kh (Hu s id (k+1)) (M.take j);rw[fw]at Q;rcases cq j M.length with w|mu
        .have F:=bc (show(0:Int)<=(M.length:Int)-1-(j:Int) by omega);obtain⟨y,l⟩:∃y,M[j]? =some y:=⟨_,ac w⟩;have R:=K y (cu l);have f:(M.reverse.map ci).getD (((M.length:Int)-1-(j:Int)).toNat) .any=.agg [num y.id,str y.au,.sl 1 (y.tp.map str),.sl 5 y.ed,num y.pu,.sl 5 y.co,Af y.re,Af y.tk]:=by refine H5 ?_;rw[List.getElem?_reverse om];rw[show M.length-1-((M.length:Int)-1-(j:Int)).toNat=j by omega];exact l
         simp only[num,str,Af]at f;have o:i64.wrap ((M.length:Int)-1-(j:Int)-1)=(M.length:Int)-1-((j+1:Nat):Int):=by rw[Aw om om];omega
         have hft:(M.take (j+1)).filter (Hu s id (k+1))=(M.take j).filter (Hu s id (k+1))++if Hu s id (k+1) y then[y]else[]:=by rw[fc,l,Ast,oe,ou,po]
         have hft:(B++((M.take (j+1)).filter (Hu s id (k+1))).map (·.id))=(B++((M.take j).filter (Hu s id (k+1))).map (·.id))++(if Hu s id (k+1) y then[y]else[]).map (·.id):=by rw[hft,ip,ir]
         have S:(B++((M.take j).filter (Hu s id (k+1))).map (·.id)).length<=10010000:=by rw[dc,dB];omega
         obtain⟨X,W⟩:∃X,(B++((M.take j).filter (Hu s id (k+1))).map (·.id))=X:=⟨_,rfl⟩;rw[W]at S hft⊢;have hXt:(X.take m.toNat).length<=X.length:=by rw[fw];omega
         by_cases T:(X.take m.toNat).length<m.toNat
         .have z:=bc (show(((Ar (X.take m.toNat)).length:Nat):Int)<m by rw[Ao];omega);rw[Ao]at z;by_cases c:y.id=id
          .have G:=bc c;have hq:Hu s id (k+1) y=false:=by simp[Hu,c]
           repeat' first|apply Aq.on<;>intro _|refine gD ?_|simp only[go_sem,DT,Int.reduceEq,Int.cast_ofNat_Int,F,z,f,o,G,h,Ao,ni]
           exact ϥ
          .have G:=bd c;repeat' first|apply Aq.on<;>intro _|refine gD ?_|simp only[go_sem,DT,Int.reduceEq,Int.cast_ofNat_Int,F,z,f,o,G,h,Ao,ni]
           refine((Abc s y t (H y R)).wk ?_).mono ?_
           .simp only[ci,Qn,num,str,Af];exact vC
           rintro r rfl;simp only[num];by_cases A:cmn s y=k+1
           .have Y:=bc (show((cmn s y:Nat):Int)=((k+1:Nat):Int) by omega);have hq:Hu s id (k+1) y=true:=by simp[Hu,c,A]
            have U:Ar (X.take m.toNat)++[AV.raw (.int .i64 y.id)]=Ar ((X++[y.id]).take m.toNat):=by rw[<-LN om];simp[Ar,num]
            repeat' first|apply Aq.on<;>intro _|refine gD ?_|simp only[go_sem,DT,Int.reduceEq,Int.cast_ofNat_Int,F,z,f,o,G,Y,h,U,Ao,ni]
            refine Av (n2-1) [.own 3 1 (Ar ((B++((M.take (j+1)).filter (Hu s id (k+1))).map (·.id)).take m.toNat)),num ((M.length:Int)-1-((j+1:Nat):Int))] om ⟨j+1,om,om,rfl⟩ ?_;rw[hft,hq];simp only[if_true,ev,db];exact Zw
           .have Y:=bd (show¬((cmn s y:Nat):Int)=((k+1:Nat):Int) by omega);have hq:Hu s id (k+1) y=false:=by simp[Hu,c,A]
            refine Zu ?_;exact ϥ
         .have z:=bd (show¬((X.take m.toNat).length:Int)<m by omega)
          have C:(B++(M.filter (Hu s id (k+1))).map (·.id)).take m.toNat=X.take m.toNat:=by
           have h1:M.filter (Hu s id (k+1))=(M.take j).filter (Hu s id (k+1))++(M.drop j).filter (Hu s id (k+1)):=by rw[<-Ast,ki]
           rw[h1,ip,<-ir,W];exact LO om
          refine Zu ?_;refine Av k [.own 3 1 (Ar ((B++(M.filter (Hu s id (k+1))).map (·.id)).take m.toNat)),num ((k:Nat):Int)] om ⟨k,B++(M.filter (Hu s id (k+1))).map (·.id),rfl,om,by rw[<-E,Pb,ir],rfl⟩ ?_;rw[C];exact Zw
        .have F:=bd (show¬(0:Int)<=(M.length:Int)-1-(j:Int) by omega);rw[Are mu];refine Zu ?_;exact Zl k ⟨k,B++(M.filter (Hu s id (k+1))).map (·.id),rfl,om,by rw[<-E,Pb,ir],rfl⟩
   .have e:=bd b;refine Z5 d p h u e ?_;refine Av (n-1) [num ((i+1:Nat):Int)] om ⟨i+1,om,om,?_,rfl⟩ ?_
    .intro y c;rw[fc,q]at c;simp only[oe,ff,ga]at c;rcases c with c|rfl
     .exact a y c
     .exact b
    .exact Zw
  .have p:=eU i L.length;have d:=bc (show(i:Int)=(L.length:Int) by omega);rw[Are hge]at a;refine Zu ?_;refine .inl ?_;rw[Kj,LP a]
def mH(L:List Ap)(t:Φ)(i m:Int)(h:L.length<=10000)(a:∀s∈L,Hj s)(b:∀s∈L,s.tp.length<=1000):QA 106 [stA L t,num i,num m] (λr=>r=.own 3 1 (Ar (Kj L i m))):=by refine(dY L t i m h a b).lf ?_;exact Ahx
def bG(p:Ap->Bool)(L:List Ap):Int:=if L.findIdx p<L.length then(L.findIdx p:Int)else -1
def Alu{p:Ap->Bool}{L:List Ap}{i:Nat}{s:Ap}(b:L[i]? =some s)(a:∀y∈L.take i,p y=false)(h:p s=true):L.findIdx p=i:=by have c:=(ab.1 b).1;have d:=(ab.1 b).2;rw[List.findIdx_eq c];refine⟨by rw[d];exact h,λj e=> ?_⟩;have:=a L[j] (by rw[List.mem_take_iff_getElem];exact⟨j,om,rfl⟩);exact Qs
def Abg{p:Ap->Bool}{L:List Ap}(a:∀y∈L,p y=false):¬L.findIdx p<L.length:=by rw[List.findIdx_lt_length];rintro⟨x,b,h⟩;rw[a x b]at h;cases h
def tJ(L:List Ap)(g:Nat)(k:Φ)(p:Ap->Bool)(q:L.length<=1000000)(m:∀s∈L,QA g (ci s::k) (λr=>r=Af (p s))):QA 145 [.sl 8 (L.map ci),.ee g k] (λr=>r=num (bG p L)):=by
 refine Zs [] func145 ⟨_,rfl⟩ ?_;refine Ak (rl [5,1,2,11]) [8] (λn x=>∃i:Nat,i<=L.length/\i+n=L.length/\(∀y∈L.take i,p y=false)/\x=[num i]) ⟨L.length,_,⟨0,om,om,oS,rfl⟩,?_⟩ ?_
 .exact Zw
 .rintro n x ⟨i,o,t,a,rfl⟩;simp only[PU];rcases cq i L.length with c|hge
  .have e:=eT i L.length;obtain⟨s,f,u⟩:=Bj c;have b:=H5 f;simp only[num,str,Af]at b;have j:=wS i;refine Z3 e b j ?_;refine((m s (cu f)).wk ?_).mono ?_
   .exact nX
   rintro r rfl;simp only[Af];cases l:p s
   .refine Z3 e b j ?_;refine Av (n-1) [num ((i+1:Nat):Int)] om ⟨i+1,om,om,?_,rfl⟩ ?_
    .intro y d;rw[fc,f]at d;simp only[oe,ff,ga]at d;rcases d with d|rfl
     .exact a y d
     .exact l
    .exact Zw
   .have h:bG p L=(i:Int):=by rw[bG,Alu f a l,bn c]
    refine Z3 e b j ?_;rw[h]
  .have e:=eU i L.length;rw[Are hge]at a;have h:bG p L= -1:=by rw[bG,ar (Abg a)]
   refine Z1 e ?_;rw[h]
abbrev LQ:=(Ap×Nat)×Nat
def rY(x:LQ):AV:=Fi x.1.1 (x.1.2:Nat) (x.2:Nat)
def Aoj{l:List LQ}{j:Nat}{s:Ap}{i c:Nat}(h:l[j]? =some ((s,i),c)):(l.map rY).getD j .any=.agg [num s.id,str s.au,.sl 1 (s.tp.map str),.sl 5 s.ed,num s.pu,.sl 5 s.co,Af s.re,Af s.tk,num (i:Int),num (c:Int)]:=by simp[h,rY,Fi]
def LR(X:List LQ)(n:Int)(o:X.length<=1000000):QA 155 [.mine 192 10 (X.map rY),num n,.raw (.func (.func 156) #[] #[])] (λr=>r=.own 3 1 (Ar ((X.map (·.1.1.id)).take n.toNat))):=by
 refine Zs [(1,[100000],[]),(2,[0],[])] func155 ⟨_,rfl⟩ ?_;refine Ak (rl [0,1,6,22]) [0,7,8] (λk b=>∃(j:Nat),j<=X.length/\j<=n.toNat/\j+k=X.length/\b=[.sl 10 (X.map rY),.own 3 1 (Ar ((X.map (·.1.1.id)).take j)),num j]) ⟨X.length,_,⟨0,om,om,om,rfl⟩,?_⟩ ?_
 .simp only[gx,Ar,db];exact Zw
 .rintro k b ⟨j,d,e,p,rfl⟩;have f:((X.map (·.1.1.id)).take j).length=j:=by simp;omega
  simp only[PU];rcases cq j n.toNat with g|qi
  .have en:=bc (show(j:Int)<n by omega);rcases cq j X.length with h|hge
   .have l:=eT j X.length;obtain⟨x,hx⟩:∃x,X[j]? =some x:=⟨_,ac h⟩;obtain⟨⟨s,i⟩,c⟩:=x;have a:=Aoj hx;simp only[num,str,Af]at a;have q:=wS j;have m:Ar ((X.map (·.1.1.id)).take j)++[AV.raw (.int .i64 s.id)]=Ar ((X.map (·.1.1.id)).take (j+1)):=by exact PX
    refine Zu ?_;refine((KH s i c).wk ?_).mono ?_
    .simp only[Fi,num,str,Af];exact Zw
    exact AhZ
   .have l:=eU j X.length;exact OQ
  .exact OS
def Ww(x y:LQ):Int:=Pc x.1.1 x.1.2 x.2 y.1.1 y.1.2 y.2
def Mg{x y:LQ}:Ww x y<0↔y.2<x.2\/y.2=x.2/\Qo x.1 y.1<0:=by
 unfold Ww Pc;show yQ [L6 y.2 x.2,Qo x.1 y.1]<0↔_;simp only[yQ];split
 .rename_i h1;have h1:=Ji.1 h1;split
  .rename_i b;omega
  .omega
 .rename_i h1;have a:¬(y.2:Int)=x.2:=λh=>h1 (Ji.2 h);have:= @To y.2 x.2;omega
def dZ(NP:List (Ap×Nat))(c:Ap->Nat):Nat->List LQ
 |0=>[]
 |k+1=>(NP.filter λx=>decide (c x.1=k+1)).map (λx=>(x,k+1))++dZ NP c k
def bH{NP:List (Ap×Nat)}{c:Ap->Nat}{x:LQ}:∀k,x∈dZ NP c k↔x.1∈NP/\x.2=c x.1.1/\1<=x.2/\x.2<=k
 |0=>by simp[dZ];omega
 |k+1=>by
  have i:=bH (NP:=NP) (c:=c) (x:=x) k;rw[dZ,ff,i];simp only[dm,jq,i6];constructor
  .rintro(⟨y,⟨h1,a⟩,rfl⟩|⟨h1,a,b,d⟩)
   .exact⟨h1,a.symm,om,oS⟩
   .exact⟨h1,a,b,om⟩
  .rintro⟨h1,a,b,d⟩;by_cases h:x.2=k+1
   .exact .inl ⟨x.1,⟨h1,om⟩,by rw[<-h]⟩
   .exact .inr ⟨h1,a,b,om⟩
def Wx{n:List (Ap×Nat)}{c:Ap->Nat}(h:n.Pairwise λa b=>Qo a b<0):∀k,(dZ n c k).Pairwise λa b=>Ww a b<0
 |0=>by simp[dZ]
 |k+1=>by
  rw[dZ];refine rj.2 ⟨?_,Wx h k,λx e y f=> ?_⟩
  .rw[List.pairwise_map];exact List.Pairwise.imp (R:=λa b=>Qo a b<0) (S:=λa b=>Ww (a,k+1) (b,k+1)<0) (λ{a b} d=>Mg.2 (.inr ⟨rfl,d⟩)) (h.filter _)
  .obtain⟨z,g,rfl⟩:=dm.1 e;obtain⟨_,_,_,i⟩:=(bH k).1 f;exact Mg.2 (.inl (by simp;omega))
def tK{n:List (Ap×Nat)}{c:Ap->Nat}{M:List Ap}{s0:Ap}{id:Int}(h:n.map (·.1)=M.filter (λy=>decide (y.id≠id)))(a:∀y∈M,c y=cmn s0 y):∀k,(dZ n c k).map (·.1.1.id)=Pb M s0 id k
 |0=>rfl
 |k+1=>by
  rw[dZ,ip,tK h a k,Pb];congr 1;have h1:(n.filter λx=>decide (c x.1=k+1)).map (·.1)=(n.map (·.1)).filter λy=>decide (c y=k+1):=by rw[List.filter_map];rfl
  have b:((n.filter λx=>decide (c x.1=k+1)).map (λx=>((x,k+1):LQ))).map (·.1.1.id)=((n.filter λx=>decide (c x.1=k+1)).map (·.1)).map (·.id):=by rw[lq,lq];rfl
  rw[b,h1,h,List.filter_filter];congr 1;apply List.filter_congr;intro y d;rw[a y d,Hu,Bool.and_comm]
def Alv(X:List LQ)(c:List LQ)(f:X.length<=1000000)(e:X.Nodup)(g:X.Perm c)(i:c.Pairwise λa b=>Ww a b<0)(h:∀x∈X,∀y∈X,x.1.2=y.1.2->x=y):Cm prog 152 (.row 192 10 (X.map rY)) [.raw (.func (.func 153) #[] #[])] (λr y=>r=.a6 []/\y=.row 192 10 (c.map rY)):=by
 refine Lf Tryz.j8 10 oD Tryz.isAgg192 Tryz.sizeOf192 ⟨_,_,func152,rfl,oD⟩ (enters_of func153 (by kernel_rfl) rfl) X c rY Ww (λx _=>⟨_,rfl,rfl⟩) f ?_ ?_ ?_ e ?_ ?_ ?_
 .intro x _;rw[Mg,Ik];omega
 .intro x _ y _ z _ h1 d;rw[Mg,Ik]at h1 d⊢;omega
 .intro x j y k;by_cases h1:Ww x y<0
  .exact .inl h1
  by_cases d:Ww y x<0
  .exact .inr (.inr d)
  refine .inr (.inl (h x j y k ?_));rw[Mg,Ik]at h1 d;omega
 .intro x _ y _;exact @KI ⟨True,Env.globs⟩ x.1.1 y.1.1 x.1.2 y.1.2 x.2 y.2
 .exact g.symm
 .exact i
def LU:Ξ->Ξ->Ξ
 |_,[]=>[]
 |seen,x::r=>if x∈seen then LU (seen++[x]) r else x::LU (seen++[x]) r
def mI{y:Ab}:∀(l s:Ξ),y∈LU s l↔y∈l/\y∉s
 |[],s=>by simp[LU]
 |x::l,s=>by
  have i:=mI (y:=y) l (s++[x]);by_cases h:x∈s
  .rw[LU,bn h,i];simp only[ff,e9,lv,or_false,not_or];constructor
   .rintro⟨h1,a,b⟩;exact⟨.inr h1,a⟩
   .rintro⟨h1|h1,a⟩
    .subst h1;exact cw h a
    .exact⟨h1,a,λb=>a (by rw[b];exact h)⟩
  .rw[LU,ar h,e9,i];simp only[ff,e9,lv,or_false,not_or];constructor
   .rintro(h1|⟨h1,a,b⟩)
    .subst h1;exact⟨.inl rfl,h⟩
    .exact⟨.inr h1,a⟩
   .rintro⟨h1|h1,a⟩
    .exact .inl h1
    .by_cases b:y=x
     .exact .inl b
     .exact .inr ⟨h1,a,b⟩
def iI:∀(l s:Ξ),(LU s l).Nodup
 |[],_=>by simp[LU]
 |x::l,s=>by
  have i:=iI l (s++[x]);by_cases h:x∈s
  .rw[LU,bn h];exact i
  .rw[LU,ar h];refine qp.2 ⟨λa=> ?_,i⟩;exact((mI l _).1 a).2 oS
def iJ(b:Ξ):∀(l s:Ξ),Ho b s l=((LU s l).filter λx=>decide (x∈b)).length
 |[],_=>rfl
 |x::l,s=>by
  have i:=iJ b l (s++[x]);by_cases h:x∈s
  .rw[LU,bn h,Ho,i];simp[h]
  .rw[LU,ar h,Ho,i,ou];by_cases a:x∈b
   .simp[h,a];omega
   .simp[a]
def Afl(a b:Ξ):Ho b [] a=((dst a).filter λx=>decide (x∈b)).length:=by
 rw[iJ];refine List.Perm.length_eq (List.Perm.filter _ ?_);refine(vt (iI a []) ?_).2 λx=> ?_
 .exact List.Pairwise.imp (λh e=>by subst e;exact F8 _ h) (Cv a).1
 .rw[mI,(Cv a).2];simp
def gl(D:Ξ)(s:Ap):Nat:=(D.filter λx=>decide (x∈s.tp)).length
def Ru(D:Ξ)(X:List (Ap×Nat)):List LQ:=(X.map λx=>(x,gl D x.1)).filter λx=>decide (0<x.2)
def Afm{D:Ξ}{X:List (Ap×Nat)}{k:Nat}{x:Ap×Nat}(h:X[k]? =some x):Ru D (X.take (k+1))=Ru D (X.take k)++if 0<gl D x.1 then[(x,gl D x.1)]else[]:=by rw[fc,h];simp only[Ru,oe,ip,ev,db,Ast,ou,po,i6]
def tL(D:Ξ)(X:List (Ap×Nat))(k:Nat):(Ru D (X.take k)).length<=k:=by have:=kh (λx:LQ=>decide (0<x.2)) ((X.take k).map λx=>(x,gl D x.1));rw[dB,fw]at this;unfold Ru;omega
def bI{D:Ξ}{X:List (Ap×Nat)}{x:LQ}:x∈Ru D X↔x.1∈X/\x.2=gl D x.1.1/\0<x.2:=by
 simp only[Ru,jq,dm,i6];constructor
 .rintro⟨⟨y,h1,rfl⟩,h⟩;exact⟨h1,rfl,h⟩
 .rintro⟨h1,h,a⟩;exact⟨⟨x.1,h1,by rw[<-h]⟩,a⟩
def Afn{p:Ap->Bool}{L:List Ap}(h:¬bG p L<0):∃(i:Nat) (s:Ap),bG p L=(i:Int)/\L[i]? =some s/\p s=true/\L.find? p=some s:=by
 unfold bG at h⊢;by_cases a:L.findIdx p<L.length
 .rw[bn a];refine⟨_,L[L.findIdx p],rfl,ac a,List.findIdx_getElem,?_⟩;rw[List.find?_eq_some_iff_getElem];exact⟨List.findIdx_getElem,L.findIdx p,a,rfl,λj b=>by simpa using List.not_of_lt_findIdx b⟩
 .rw[ar a]at h;omega
def Abh{p:Ap->Bool}{L:List Ap}(h:bG p L<0):L.find? p=none:=by
 unfold bG at h;by_cases a:L.findIdx p<L.length
 .rw[bn a]at h;omega
 .rw[List.find?_eq_none];intro x b c;exact a (List.findIdx_lt_length.2 ⟨x,b,c⟩)
def vO(id:Int):OA:=(150,[.elt (.agg [num id])],λs _=>decide (s.id≠id))
def Abi(id:Int):C5 [vO id]=λs _=>decide (s.id≠id):=by funext s a;simp[C5,vO]
def Afo(id:Int)(L:List Ap):(Ma (Cq (λs _=>decide (s.id≠id)) 0 L)).map (·.1)=(Bd [] L).filter (λy=>decide (y.id≠id)):=by have h:=O7 (λs _=>decide (s.id≠id)) (λs _=>hasB s []) L 0;simp only[Tq,ph]at h;rw[h,Wr _ _ (Mb L 0),<-O6];simp only[Tq,List.filter_map];rfl
def AH(L:List Ap)(tm:Φ)(id m:Int)(hl:L.length<=10000)(Y:∀s∈L,Hj s)(ht:∀s∈L,s.tp.length<=1000):QA 92 [stA L tm,num id,num m] (λr=>r=.nil/\Kj L id m=[]\/r=.own 3 1 (Ar (Kj L id m))):=by
 simp only[stA];refine Ed [(1,[4],[]),(20,[200010],[])] [] [11,12,13,14,39,40,41,42,43,44,45,46,47,48,49,50,51,52,53,54,55,56,57,58,59,60,61,62,63,64,65] b3 Cl func92 oD oK (by simp only[go_sem,reduceIte,reduceCtorEq];rfl) ntmps92 results92 ⟨_,.inr rfl⟩ rfl ?_;skip;simp only[LS,Nat.reduceAdd,Nat.reduceSub];refine Z0 ?_;refine Zb (tJ L 146 [.elt (.agg [num id])] (λs=>decide (s.id=id)) om (λs Y=>KF s id)) ?_;rintro r rfl;simp only[num];by_cases f:bG (λs=>decide (s.id=id)) L<0
 .have d:=bc f;have hfn:=Abh f;refine Zu ?_;refine .inl ?_;rw[Kj,hfn]
 have d:=bd f;obtain⟨i,s,hi,w,H,I⟩:=Afn f;have H:s.id=id:=by simpa using H
 rw[hi]at d⊢;have hso:=Y s (cu w);have hst:=ht s (cu w);have l:=H5 w;simp only[num,str,Af]at l;have hil:=(ab.1 w).1;refine Z2 d l ?_;refine((rL s i hso.2).wk ?_).mono ?_
 .simp only[iz,num,str,Af];exact Gq
 rintro r rfl;simp only[Af];cases J:Ee s
 .refine Z2 d l ?_;refine .inl ?_;rw[Kj,I];simp only[J,f0,if_false]
 have K:Kj L id m=(Pb (Bd [] L) s id s.tp.length).take m.toNat:=by rw[Kj,I];simp only[J,if_true]
 refine Z2 d l ?_;refine Zb (Rt s.tp om) ?_;rintro r rfl;have hDl:=P5 s.tp;obtain⟨D,hD⟩:∃D,dst s.tp=D:=⟨_,rfl⟩;rw[hD]at hDl⊢;refine Z2 d l ?_;refine((Vi L tm [vO id]).wk ?_).mono ?_
 .simp only[stA,ev,db,dR,vO,num,str,Af];exact Gq
 rintro r rfl;refine Z2 d l ?_;have u:=Vh L tm [vO id] om Y oS (λc Z s a ho=>by rw[ga]at Z;subst Z;exact KG s a id);rw[Abi]at u;have hlen:=E6 (p:=λs _=>decide (s.id≠id)) L 0;have N:=Afo id L;have O:∀x∈Cq (λs _=>decide (s.id≠id)) 0 L,x.1∈L:=λx w=>(Xt L 0 x w).2;have g:=Mb (p:=λs _=>decide (s.id≠id)) L 0;obtain⟨X,hX⟩:∃X,Cq (λs _=>decide (s.id≠id)) 0 L=X:=⟨_,rfl⟩;have hYX:zG (λs _=>decide (s.id≠id)) L=λk o=>∃x,X[k]? =some x/\o=[qY x]:=by funext k o;simp only[zG,hX]
 rw[hYX]at u;rw[hX]at u hlen N O g;refine Ft (rl [9,6,24,27]) [9,10] (λk E=>E=[.box 38 [.sl 1 (D.map str)],.box 187 [.mine 192 10 ((Ru D (X.take k)).map rY)]]) (bx 71) ?_ u ?_ ?_ ?_
 .exact J1
 .refine⟨_,rfl,?_⟩;simp only[PU];simp only[gx,Ru,db,po];exact GP
 .rintro k o E ⟨x,hk,rfl⟩ rfl;refine⟨rfl,rfl,?_⟩;have hlk:k<X.length:=(ab.1 hk).1;have b:=Afm (D:=D) hk;have A:=tL D X k;have P:=O x (cu hk);obtain⟨t,a⟩:=x;simp only at b P;have hto:=Y t P;obtain⟨F,hF⟩:∃F,Ru D (X.take k)=F:=⟨_,rfl⟩;rw[hF]at A b⊢;simp only[qY,iz,num,str,Af];simp only[PU];repeat' first|apply Aq.on<;>intro _|refine gD ?_|simp only[go_sem,DT,Int.reduceEq,Int.cast_ofNat_Int]
  refine Ak (rl [12,1,1,1,29,15,12]) [12,44] (λn E=>∃j:Nat,j<=D.length/\j+n=D.length/\E=[.box 192 [num t.id,str t.au,.sl 1 (t.tp.map str),.sl 5 t.ed,num t.pu,.sl 5 t.co,Af t.re,Af t.tk,num a,num (gl (D.take j) t:Nat)],num j]) ⟨D.length,_,⟨0,om,om,rfl⟩,?_⟩ ?_
  .simp only[gx,gl,po,eh,num,str,Af,Int.cast_ofNat_Int];simp only[PU];exact GP
  .rintro n E ⟨j,hjl,hn,rfl⟩;simp only[str,Af];simp only[PU];have v:=kh (λx=>decide (x∈t.tp)) (D.take j);rw[fw]at v;have v:gl (D.take j) t<=j:=by unfold gl;omega
   rcases cq j D.length with hlt|hge
   .have ej:=eT j D.length;obtain⟨y,Q,hyd⟩:=Bj hlt;have vd:=Cd Q;have hw:=wS j;have B:gl (D.take (j+1)) t=gl (D.take j) t+if y∈t.tp then 1 else 0:=by simp only[gl];rw[fc,Q,Ast,dc,oe,ou,po];by_cases h:y∈t.tp<;>simp[h]
    obtain⟨c,Z⟩:∃c,gl (D.take j) t=c:=⟨_,rfl⟩;rw[Z]at v B⊢;have hwc:=wS c;refine Zu ?_;refine Zb (M9 t.tp y hto.1) ?_;rintro r rfl;simp only[Af];by_cases G:y∈t.tp
    .have ey:decide (y∈t.tp)=true:=by simp[G]
     refine Zu ?_;refine Av (n-1) [.box 192 [num t.id,str t.au,.sl 1 (t.tp.map str),.sl 5 t.ed,num t.pu,.sl 5 t.co,Af t.re,Af t.tk,num a,num (gl (D.take (j+1)) t:Nat)],num ((j+1:Nat):Int)] om ⟨j+1,om,om,rfl⟩ ?_;rw[B];simp only[G,if_true,if_false,nj,num,str,Af];simp only[PU];exact GP
    .have ey:decide (y∈t.tp)=false:=by simp[G]
     refine Zu ?_;refine Av (n-1) [.box 192 [num t.id,str t.au,.sl 1 (t.tp.map str),.sl 5 t.ed,num t.pu,.sl 5 t.co,Af t.re,Af t.tk,num a,num (gl (D.take (j+1)) t:Nat)],num ((j+1:Nat):Int)] om ⟨j+1,om,om,rfl⟩ ?_;rw[B];simp only[G,if_true,if_false,nj,num,str,Af];simp only[PU];exact GP
   .have ej:=eU j D.length;rw[Are hge]at v⊢;by_cases h0:0<gl D t
    .have e0:=bc (show(0:Int)<(gl D t:Nat) by omega);rw[bn h0]at b;refine Zu ?_;refine Ij _ rfl ?_;rw[b];simp only[ip,ev,db,gy,rY,Fi,num,str,Af];simp only[PU];exact GP
    .have e0:=bd (show¬(0:Int)<(gl D t:Nat) by omega);rw[ar h0]at b;refine Zu ?_;refine Ij _ rfl ?_;rw[b];simp only[ip,ev,db,gy,rY,Fi,num,str,Af];simp only[PU];exact GP
 .rintro E rfl;simp only[PU];simp only[lr];obtain⟨C,hC⟩:∃C,gl D=C:=⟨_,rfl⟩;have A:=tL D X X.length;rw[lr]at A;have hNP:=Hk X [] oS g oS;have R:∀z,z∈Ma X↔z∈X:=λz=>by have:=(H7 X []).mem_iff (a:=z);rw[gy]at this;exact this
  have S:∀y:Ap,gl D y<=s.tp.length:=λy=>by have:=kh (λx=>decide (x∈y.tp)) D;unfold gl;omega
  have T:(Ru D X).Nodup:=by refine List.Pairwise.filter _ ?_;exact List.Pairwise.map _ (λx y h e=>h (by injection e)) (gQ g)
  have U:∀x∈Ru D X,∀y∈Ru D X,x.1.2=y.1.2->x=y:=λx w y G h=>by obtain⟨g1,g2,_⟩:=bI.1 w;obtain⟨k1,k2,_⟩:=bI.1 G;have:=lT g x.1 g1 y.1 k1 h;exact Prod.ext this (by rw[g2,k2,this])
  have V:=Wx (c:=gl D) hNP s.tp.length
  have q:(Ru D X).Perm (dZ (Ma X) (gl D) s.tp.length):=by
   refine(vt T ?_).2 λx=> ?_
   .exact List.Pairwise.imp (λh e=>by subst e;rw[Mg,Ik]at h;omega) V
   .rw[bI,bH,R];constructor
    .rintro⟨h1,h2,h3⟩;exact⟨h1,h2,h3,by rw[h2];exact S _⟩
    .rintro⟨h1,h2,h3,_⟩;exact⟨h1,h2,h3⟩
  have W:=tK (c:=gl D) (M:=Bd [] L) (s0:=s) (id:=id) N (λy _=>by rw[cmn,Afl,hD];rfl) s.tp.length;refine Z0 ?_;refine Cm.mono (Alv (Ru D X) _ om T q V U) ?_;rintro r y ⟨rfl,rfl⟩;refine Z0 ?_;refine((LR _ m (by rw[<-q.length_eq];omega)).wk ?_).mono ?_
  .simp only[num];exact Gq
  rintro r rfl;rw[W,<-K];repeat' first|apply Aq.on<;>intro _|refine gD ?_|simp only[go_sem,DT,Int.reduceEq,Int.cast_ofNat_Int]
  all_goals first|exact .inr rfl|exact .inr trivial|trivial
def LV(L:List Ap)(t:Φ)(i m:Int)(h:L.length<=10000)(a:∀s∈L,Hj s)(b:∀s∈L,s.tp.length<=1000):QA 92 [stA L t,num i,num m] (λr=>r=.own 3 1 (Ar (Kj L i m))):=by refine(AH L t i m h a b).lf ?_;exact Ahx
def LW(z:List Int)(h:z.length<=1000000000):QA 301 [.sl 1 (Ar z)] (λr=>r=.nil/\z=[]\/r=.mine 3 1 (Ar z)):=by
 refine Zs [] func301 ⟨_,.inr rfl⟩ ?_;refine⟨λa=> ?_,?_⟩
 .have b:z=[]:=kq a;refine Z1 @Kd ?_;exact .inl b
 .refine Zu ?_;first|exact .inr rfl|exact .inr trivial
def LX(z:List Int)(h:z.length<=1000000000):QA 301 [.sl 1 (Ar z)] (λr=>r=.mine 3 1 (Ar z)):=by
 refine(LW z h).lf ?_;rintro r (⟨rfl,rfl⟩|rfl)
 .exact⟨_,W1.lh 3 1,rfl,rfl⟩
 .exact⟨_,bh _,rfl,rfl⟩
def Abj(z:List Int)(h:z.length<=1000000000):QA 301 [.sl 1 (Ar z)] (λr=>r=.own 3 1 (Ar z)):=
 Aa.freeze (LX z h)
section
variable{f:Addr}{m b mk:Nat}{rv:Φ}{d:Ab->Ab}{S:Nc}{bf:Ab->Ab->Option Ab}
def Afp(X:aS f m rv d S)(j:List Nd->Int->EvS->K5)(J:Nat)(R:FE f m b mk rv d j J)(z:∀l o s q,j l o s=.ok q->s.steps<=q.steps)(y:∀o s,j [] o s=.ok s)(t n a:Ab)(c:Int)(K:Ξ)(g A:List Nd)(o:Int)(s:EvS)(hs:Qp s)(h0:J<=s.steps)(G:Db o)(hn:n.length<=900000)(ha:a.length<=900000)(hc:Db c)(hk:g.length<=1000000/\Fw g):
 EH f m b mk rv d 228 [.raw (.pointer (some ⟨b,0,none⟩)),.agg (dO (.mk 3 t n a c K g A)),num o] s (Eg bf S j (.mk 3 t n a c K g A) o s):=by
 unfold EH;refine HC.si ⟨_,_,func228,rfl,oD⟩ λhd=> ?_;obtain⟨B,C,D⟩:=Nh hd;rw[RI];generalize u:(⟨s.out,s.steps,s.inc,(S.j6 o n a c s.ks).2⟩:EvS)=s1;have L:s1.ks=(S.j6 o n a c s.ks).2:=by rw[<-u]
 have x:Qp s1:=by rw[<-u];exact hs
 have M:Ng f b mk s=Ng f b mk s1:=by rw[<-u];rfl
 have dp:s1.steps=s.steps:=by rw[<-u]
 have hin1:s1.inc=s.inc:=by rw[<-u]
 have N:Eg bf S j (.mk 3 t n a c K g A) o s=if(S.j6 o n a c s.ks).1=[]then .ok s1 else if g=[]then .ok s1 else Kf (λi s=>j g i s) ((S.j6 o n a c s.ks).1.take 2001) s1:=by rw[<-u];rfl
 rw[N];refine G7 [] [] [(1,[],[0,1,2,4,5,7,9,2003,2006,2008,2010],[],[3011,12])] func228 ?_;simp only[Rp,Dr,Ng,fj,fm,num,str];refine Wq (nA B (nA C (nA D ApQ))) ?_;refine fy (jr:=Dr f m rv d s.ks) (j2:=[Ng f b mk s,.bw mk E2 Xc]) (b7 (X.j6 o n a c s.ks G hn ha hc) ?_ (λ_ _ h=>h.elim));rintro r O ⟨rfl,rfl⟩;rw[<-L,M];obtain⟨hil,P⟩:=X.ue o n a c s.ks;generalize (S.j6 o n a c s.ks).1=ids at *;simp only[Dr,Ng,fj,fm,num,str,Af];by_cases p:ids=[]
 .subst p;have e1:((Ar []).length:Int)=0:=rfl;have e2:=bc (show((0:Nat):Int)=0 by omega);refine Wq (nA B (nA C (nA D (nA e2 @Kd)))) ?_;refine HC.wk (args:=[.raw (.pointer (some ⟨b,0,none⟩)),.sl 8 (Ka []),num o]) (EH.go (s:=s1) (R [] o s1 x om G oS trivial) (λe q v=> ?_) (λq v E=> ?_)) ?_;rotate_left 2
  .simp only[num,Ka];exact Gq
  .rw[y]at v;cases v
  .rw[y]at v;injection v with v;subst v;refine Wp ?_;exact⟨_,_,bh _,rfl,aa _,_,rfl,x,rfl,rfl⟩
 have hpos:0<ids.length:=oh.2 p;have e2:=bd (show¬((ids.length:Nat):Int)=0 by omega);by_cases w:g=[]
 .subst w;have Q:=bc (show((0:Nat):Int)=0 by omega);repeat' first|apply Aq.on<;>intro _|refine gD ?_|simp only[go_sem,B,C,D,Kd,e2,Q,Ka]
  exact⟨_,_,bh _,rfl,aa _,s1,by simp only[p,if_false,if_true],x,rfl,rfl⟩
 have hkp:0<g.length:=oh.2 w;have Q:=bd (show¬((g.length:Nat):Int)=0 by omega);have e4:∀k:Nat,(Ar ids).take k=Ar (ids.take k):=λk=>by simp[Ar,ol]
 generalize F:ids.take 2001=tk at *
 have e6:List.take (min (ids.length:Int) 2001).toNat (Ar ids)=Ar tk:=by
  rw[e4,<-F];have:(min (ids.length:Int) 2001).toNat=min ids.length 2001:=om;rw[this];by_cases hm:ids.length<=2001
  .rw[Are om,Are hm]
  .rw[Nat.min_eq_right om]
 have htl:tk.length<=2001:=by rw[<-F];simp;omega
 have T:∀i∈tk,Db i:=λi U=>P i (by rw[<-F]at U;exact i7 U);have V:(if ids=[]then K5.ok s1 else if g=[]then K5.ok s1 else Kf (λi s=>j g i s) tk s1)=Kf (λi s=>j g i s) tk s1:=by simp only[p,w,if_false]
 rw[V];refine Wq (nA B (nA C (nA D (nA e2 (nA Q (nA e6 (nA @Kd @Es))))))) ?_;refine ae (Abj tk om) ?_;rintro r rfl;repeat' first|apply Aq.on<;>intro _|refine gD ?_|simp only[go_sem,B,C,D,Kd]
 refine Ad (rl [8,1,33,9]) [41] (λk xs O=>∃i q,i+k=tk.length/\Qp q/\J<=q.steps/\O=Rp f m b mk rv d q/\xs=[num i]/\Kf (λi s=>j g i s) tk s1=Kf (λi s=>j g i s) (tk.drop i) q) ⟨tk.length,_,_,⟨0,s1,om,x,om,rfl,rfl,rfl⟩,hent (aa _) ?_⟩ ?_
 .simp only[PU];exact Gq
 rintro k xs O ⟨i,q,U,E,W,rfl,rfl,H⟩;simp only[PU];rw[H];simp only[Rp,Dr,Ng,fj,fm,num,str];by_cases I:i<tk.length;rotate_left
 .have Y:=bd (show¬(i:Int)<(tk.length:Int) by omega);rw[n9 om];refine Wq (nA Y @Kd) ?_;exact⟨_,_,bh _,rfl,aa _,q,rfl,E,rfl,rfl⟩
 have Y:=bc (show(i:Int)<(tk.length:Int) by omega);have hg:(Ar tk).getD i .any=num tk[i]:=by simp[Ar,fk,I]
 simp only[num]at hg;rw[j0 I];refine Wq (nA Y (nA hg (nA B (nA C (nA D @Kd))))) ?_;refine EH.go (s:=q) (R g tk[i] q E W (T _ (ko _)) hk.1 hk.2) (λe Z v=> ?_) (λZ v hs2=> ?_)
 .refine Wp ?_;exact⟨_,aa _,e,Z,by simp only[Kf,v,K5.bind],rfl,rfl⟩
 have hw:i64.wrap ((i:Int)+1)=((i+1:Nat):Int):=Da om;have ka:=z _ _ _ _ v;simp only[Rp,Dr,Ng,fj,fm,num,str];refine Wq (nA hw (nA B (nA C D))) ?_;refine Am (k-1) _ _ om ⟨i+1,Z,om,hs2,om,rfl,rfl,by first|(rw[H];simp only[Kf,v,K5.bind];done)|(simp only[Kf,v,K5.bind];done)⟩ (hent (aa _) ?_);simp only[PU];exact Gq
end
end Go.Proofs.YtobhohikfmlccaaGreatDoor
