/- Lists of nodes are evaluated. -/
import Derived.Test.YtobhohikfmlccaaGreatDoorC12
import Derived.Test.YtobhohikfmlccaaGreatDoorC13
set_option linter.all false
set_option maxRecDepth 100000
set_option maxHeartbeats 4000000
open Go.RowKit Go.Proofs Tryz Go.Lib Go.IntKind Go.Region
namespace Go.Proofs.YtobhohikfmlccaaGreatDoor
def Inv(s a:EvS):Prop:=a.inc=s.inc/\s.steps<=a.steps
def Inv.trans{s s1 a:EvS}(h:Inv s s1)(k:Inv s1 a):Inv s a:=⟨k.1.trans h.1,cp h.2 k.2⟩
def bJ{o:K5}{g:EvS->K5}{s:EvS}(h:o.bind g=.ok s):∃s1,o=.ok s1/\g s1=.ok s:=by
 cases o with
 |ok s1=>exact⟨s1,rfl,h⟩
 |bad e s1=>cases h
def iK{g:Int->EvS->K5}(b:∀i s a,g i s=.ok a->Inv s a):∀(l:List Int) (s a:EvS),Kf g l s=.ok a->Inv s a
 |[],s,a,h=>by injection h with h;subst h;exact⟨rfl,bx _⟩
 |i::l,s,a,h=>by obtain⟨d,h1,c⟩:=bJ h;exact(b _ _ _ h1).trans (iK b l _ _ c)
def bK{g:Nd->EvS->K5}(b:∀x s a,g x s=.ok a->Inv s a):∀(l:List Nd) (s a:EvS),O8 g l s=.ok a->Inv s a
 |[],s,a,h=>by injection h with h;subst h;exact⟨rfl,bx _⟩
 |x::l,s,a,h=>by
  unfold O8 at h;split at h
  .cases h
  .obtain⟨s1,h1,d⟩:=bJ h;have c:=b _ _ _ h1;exact Inv.trans (s1:=s1) ⟨c.1,by have:=c.2;simp only at this;omega⟩ (bK b l _ _ d)
def tM{x:Ab}{s a:EvS}(h:Nf x s=.ok a):Inv s a:=by
 unfold Nf at h;split at h
 .cases h
 .exact Gx
section
variable{g:Addr}{m b mk:Nat}{rv:Φ}{d:Ab->Ab}{S:Nc}{bf:Ab->Ab->Option Ab}
def Vs{r:List Nd->Int->EvS->K5}(f:∀l j s e,r l j s=.ok e->Inv s e):∀(x:Nd) (j:Int) (s e:EvS),Eg bf S r x j s=.ok e->Inv s e:=by
 intro x j s e h;obtain⟨k,t,n,a,c,y,p,u⟩:=x;unfold Eg at h;split at h
 .exact tM h
 .split at h
  .cases h
  .split at h
   .cases h
   .have:=tM h;exact⟨this.1,this.2⟩
 .split at h
  .exact Gx
  .split at h
   .exact Gx
   .have:=iK (λi s e h=>f _ _ _ _ h) _ _ _ h;exact⟨this.1,this.2⟩
 .split at h
  .have:=f _ _ _ _ h;exact⟨this.1,this.2⟩
  .have:=f _ _ _ _ h;exact⟨this.1,this.2⟩
 .split at h
  .cases h
  .split at h
   .cases h
   .obtain⟨v,h1,o⟩:=bJ h;have q:=f _ _ _ _ h1;injection o with o;subst o;have w:=q.1;simp only at w;exact⟨by show v.inc-1=s.inc;omega,q.2⟩
 .cases h
def Vt:∀(f:Nat) (l:List Nd) (i:Int) (s a:EvS),Me bf S f l i s=.ok a->Inv s a
 |0,l,i,s,a,h=>bK (λx s a h=>by cases h) l s a h
 |f+1,l,i,s,a,h=>bK (λx s a h=>Vs (λl i s a h=>Vt f l i s a h) x i s a h) l s a h
def LY(f:Nat)(i:Int)(s:EvS):Me bf S f [] i s=.ok s:=by cases f<;>rfl
def nd0(k:Nat)(t n a:Ab)(c:Int)(f:Ξ)(e h:List Nd)(i:k≠2)(j:k≠3)(l:k≠4):dO (.mk k t n a c f e h)=[num k,str t,str n,str a,num c,.nil,.nil,.nil]:=by unfold dO fA kA eA;simp only
def FN:∀(l:List Nd) (i:Nat) (h:i<l.length),(Ka l).getD i .any=.agg (dO l[i])
 |x::l,0,h=>by simp[Ka]
 |x::l,i+1,h=>by simpa[Ka]using FN l i (by simpa using h)
def iL:∀{l:List Nd} (h:Fw l) (i:Nat) (a:i<l.length),Xd l[i]
 |x::l,h,0,a=>by unfold Fw at h;exact h.1
 |x::l,h,i+1,a=>by unfold Fw at h;simpa using iL h.2 i (by simpa using a)
theorem LZ:HH.mp 226=some (3,278):=rfl
theorem MA:HH.zr 278=some .nilFunc:=rfl
def Mh(x:Int):Rj (HH.kd 3) (.int .i64 x) E2=True:=bc ⟨by trivial,by intro y h;simp[E2]at h;rcases h with rfl|rfl|rfl|rfl|rfl<;>trivial⟩
theorem ApY:M5 true .nilFunc Xc (Bu (.int .i64 1) E2)=.a6 [.raw (.func (.func 226) #[] #[]),.raw (.bool true)]:=rfl
theorem ApZ:M5 true .nilFunc Xc (Bu (.int .i64 2) E2)=.a6 [.raw (.func (.func 227) #[] #[]),.raw (.bool true)]:=rfl
theorem Aqa:M5 true .nilFunc Xc (Bu (.int .i64 3) E2)=.a6 [.raw (.func (.func 228) #[] #[]),.raw (.bool true)]:=rfl
theorem Aqb:M5 true .nilFunc Xc (Bu (.int .i64 4) E2)=.a6 [.raw (.func (.func 229) #[] #[]),.raw (.bool true)]:=rfl
theorem Aqc:M5 true .nilFunc Xc (Bu (.int .i64 5) E2)=.a6 [.raw (.func (.func 230) #[] #[]),.raw (.bool true)]:=rfl
def Aqd(k:Nat)(h1:k≠1)(h:k≠2)(f:k≠3)(i:k≠4)(j:k≠5):M5 true .nilFunc Xc (Bu (.int .i64 (k:Int)) E2)=.a6 [.raw .nilFunc,.raw (.bool false)]:=by
 have e1:((k:Int)=1)=False:=bd om;have e2:((k:Int)=2)=False:=bd om;have e:((k:Int)=3)=False:=bd om;have a:((k:Int)=4)=False:=bd om;have c:((k:Int)=5)=False:=bd om;have:Bu (.int .i64 (k:Int)) E2=none:=by simp[Bu,E2,List.findIdx?_cons,dJ,e1,e2,e,a,c]
 rw[this];rfl
def Afq(X:aS g m rv d S)(Y:Rq bf):∀(f:Nat),FE g m b mk rv d (Me bf S f) (2001-f):=by
 intro f
 induction f with
 |zero=>intro l id s N h0;exact cw N.2.1 om
 |succ f ih=>
 intro l id s N h0 q hll O;have R:=ih;have hinc:∀l id s s',Me bf S f l id s=.ok s'->s'.inc=s.inc:=λl id s s' h=>(Vt f l id s s' h).1;have hmono:∀l id s s',Me bf S f l id s=.ok s'->s.steps<=s'.steps:=λl id s s' h=>(Vt f l id s s' h).2;have G:∀id s,Me bf S f [] id s=.ok s:=LY f;have P:Me bf S (f+1) l id s=O8 (λx s=>Eg bf S (Me bf S f) x id s) l s:=rfl;rw[P];generalize Me bf S f=rec at *;unfold EH;refine HC.si ⟨_,_,func178,rfl,oD⟩ λhd=> ?_;obtain⟨n1,n2,n3⟩:=Nh hd;refine G7 [] [] [(6,[],[0,1,2,4,2003,2005],[],[3006,7,8,9,10,11])] func178 ?_;repeat' first|apply Aq.on<;>intro _|refine gD ?_|simp only[go_sem,Es]
 refine Ad (rl [7,3,3,35]) [12] (λk xs L=>∃i s',i+k=l.length/\Qp s'/\s.steps<=s'.steps/\L=Rp g m b mk rv d s'/\xs=[num i]/\O8 (λx s=>Eg bf S rec x id s) l s=O8 (λx s=>Eg bf S rec x id s) (l.drop i) s') ⟨l.length,_,_,⟨0,s,om,N,bx _,rfl,rfl,rfl⟩,hent (aa _) ?_⟩ ?_
 .exact Zw
 rintro k xs L ⟨i,s',hi,A,hss,rfl,rfl,hit⟩;simp only[PU];simp only[Rp,Dr,Ng,fj,fm,num,str];by_cases B:i<l.length;rotate_left
 .have r:=eU i l.length;rw[n9 om]at hit;refine Z2 r @Es ?_;exact⟨_,_,bh _,rfl,aa _,s',hit,A,rfl,rfl⟩
 have r:=eT i l.length;have j:=FN l i B;have C:=iL O i B;rw[j0 B]at hit;have hwi:=wS i
 cases y:l[i]with
 |mk kd t n a c fs kids els=>
 rw[y]at C hit;unfold Xd at C;obtain⟨ht,M,ha,hc,Q,T,H,U,I,V⟩:=C;by_cases J:2000<=s'.steps
 .have e1:=bc (show(2000:Int)<=(s'.steps:Int) by omega)
  have hgs:∃F K E,dO (.mk kd t n a c fs kids els)=[num kd,str t,str n,str a,num c,F,K,E]/\v1 F=F/\v1 K=K/\v1 E=E:=by
   refine⟨fA kd fs,kA kd (Ka kids),eA kd (Ka els),rfl,?_,?_,?_⟩
   .unfold fA;split<;>rfl
   .unfold kA;split<;>rfl
   .unfold eA;split<;>rfl
  have hal:O8 (λx s=>Eg bf S rec x id s) (.mk kd t n a c fs kids els::l.drop (i+1)) s'=.bad 111 s':=by unfold O8;rw[bn J]
  have key:∀F K E,(F=.nil\/∃z,F=.sl 1 z)->(K=.nil\/∃z,K=.sl 8 z)->(E=.nil\/∃z,E=.sl 8 z)->(Ka l).getD i .any=.agg [num kd,str t,str n,str a,num c,F,K,E]->True:=λ_ _ _ _ _ _ _=>trivial;have u:fA kd fs=.nil\/∃z,fA kd fs=.sl 1 z:=by unfold fA;split;exact .inr ⟨_,rfl⟩;exact .inl rfl
  have w:kA kd (Ka kids)=.nil\/∃z,kA kd (Ka kids)=.sl 8 z:=by unfold kA;split;exact .inr ⟨_,rfl⟩;exact .inr ⟨_,rfl⟩;exact .inl rfl
  have o:eA kd (Ka els)=.nil\/∃z,eA kd (Ka els)=.sl 8 z:=by unfold eA;split;exact .inr ⟨_,rfl⟩;exact .inl rfl
  have j:(Ka l).getD i .any=.agg [num kd,str t,str n,str a,num c,fA kd fs,kA kd (Ka kids),eA kd (Ka els)]:=by rw[j,y];rfl
  simp only[num,str]at j;rcases u with u|⟨z1,u⟩<;>rcases w with w|⟨z2,w⟩<;>rcases o with o|⟨z3,o⟩<;>rw[u,w,o]at j
  all_goals
   refine Z7 r j n1 n2 n3 e1 @Es ?_;refine(Ni 111 _).mono (λ_ _ h=>h.elim) ?_;rintro v L ⟨rfl,rfl⟩;refine Z0 ?_;exact⟨_,aa _,111,s',by rw[hit,hal],rfl,rfl⟩
 have e1:=bd (show¬(2000:Int)<=(s'.steps:Int) by omega);have o:Qp (⟨s'.out,s'.steps+1,s'.inc,s'.ks⟩:EvS):=⟨A.1,by show s'.steps+1<=2000;omega,A.2.2⟩;have p:2001-f<=(⟨s'.out,s'.steps+1,s'.inc,s'.ks⟩:EvS).steps:=by show 2001-f<=s'.steps+1;omega
 have D:i64.wrap ((s'.steps:Int)+1)=((s'.steps+1:Nat):Int):=Da om;have hal:O8 (λx s=>Eg bf S rec x id s) (.mk kd t n a c fs kids els::l.drop (i+1)) s'=(Eg bf S rec (.mk kd t n a c fs kids els) id (⟨s'.out,s'.steps+1,s'.inc,s'.ks⟩:EvS)).bind (O8 (λx s=>Eg bf S rec x id s) (l.drop (i+1))):=by unfold O8;rw[ar J]
 by_cases h1:kd=1
 .subst h1;rw[y,dH]at j;simp only[num,str]at j;refine Wq (nA r (nA j (nA n1 (nA n2 (nA n3 (nA e1 (nA D (nA LZ (nA MA (nA ApY (nA @Es @Mh))))))))))) ?_;refine EH.go (s:=(⟨s'.out,s'.steps+1,s'.inc,s'.ks⟩:EvS)) (zQ t n a c fs kids els id (⟨s'.out,s'.steps+1,s'.inc,s'.ks⟩:EvS) o om) (λe s2 ho=> ?_) (λs2 ho hs2=> ?_)
  .refine Z0 ?_;exact⟨_,aa _,e,s2,by rw[hit,hal];show(Eg bf S rec (.mk 1 t n a c fs kids els) id (⟨s'.out,s'.steps+1,s'.inc,s'.ks⟩:EvS)).bind _=_;rw[show Eg bf S rec (.mk 1 t n a c fs kids els) id (⟨s'.out,s'.steps+1,s'.inc,s'.ks⟩:EvS)=Nf t (⟨s'.out,s'.steps+1,s'.inc,s'.ks⟩:EvS)from rfl,ho];rfl,rfl,rfl⟩
  have hinv:=Vs (S:=S) (bf:=bf) (λl id s s' h=>⟨hinc l id s s' h,hmono l id s s' h⟩) _ _ _ _ ((show Eg bf S rec (.mk 1 t n a c fs kids els) id (⟨s'.out,s'.steps+1,s'.inc,s'.ks⟩:EvS)=Nf t (⟨s'.out,s'.steps+1,s'.inc,s'.ks⟩:EvS)from rfl).trans ho);simp only[Rp,Dr,Ng,fj,fm,num,str];refine Z4 n1 n2 n3 hwi ?_;refine Am (k-1) _ _ om ⟨i+1,s2,om,hs2,by have:=hinv.2;simp only at this;omega,rfl,rfl,by rw[hit,hal];show(Eg bf S rec (.mk 1 t n a c fs kids els) id (⟨s'.out,s'.steps+1,s'.inc,s'.ks⟩:EvS)).bind _=_;rw[show Eg bf S rec (.mk 1 t n a c fs kids els) id (⟨s'.out,s'.steps+1,s'.inc,s'.ks⟩:EvS)=Nf t (⟨s'.out,s'.steps+1,s'.inc,s'.ks⟩:EvS)from rfl,ho];rfl⟩ (hent (aa _) ?_);simp only[PU];exact Gq
 by_cases W:kd=2
 .subst W;rw[y,RG]at j;simp only[num,str]at j;refine Wq (nA r (nA j (nA n1 (nA n2 (nA n3 (nA e1 (nA D (nA LZ (nA MA (nA ApZ (nA @Es @Mh))))))))))) ?_;refine EH.go (s:=(⟨s'.out,s'.steps+1,s'.inc,s'.ks⟩:EvS)) (AaA X Y rec t n a c fs kids els id (⟨s'.out,s'.steps+1,s'.inc,s'.ks⟩:EvS) o q M Q T) (λe s2 ho=> ?_) (λs2 ho hs2=> ?_)
  .exact BU
  exact yg
 by_cases Z:kd=3
 .subst Z;rw[y,RI]at j;simp only[num,str]at j;refine Wq (nA r (nA j (nA n1 (nA n2 (nA n3 (nA e1 (nA D (nA LZ (nA MA (nA Aqa (nA @Es @Mh))))))))))) ?_;refine EH.go (s:=(⟨s'.out,s'.steps+1,s'.inc,s'.ks⟩:EvS)) (Afp (bf:=bf) X _ _ R hmono G t n a c fs kids els id (⟨s'.out,s'.steps+1,s'.inc,s'.ks⟩:EvS) o p q M ha hc ⟨H,I⟩) (λe s2 ho=> ?_) (λs2 ho hs2=> ?_)
  .exact BU
  exact yg
 by_cases h4:kd=4
 .subst h4;rw[y,RJ]at j;simp only[num,str]at j;refine Wq (nA r (nA j (nA n1 (nA n2 (nA n3 (nA e1 (nA D (nA LZ (nA MA (nA Aqb (nA @Es @Mh))))))))))) ?_;refine EH.go (s:=(⟨s'.out,s'.steps+1,s'.inc,s'.ks⟩:EvS)) (mG (bf:=bf) X _ _ R t n a c fs kids els id (⟨s'.out,s'.steps+1,s'.inc,s'.ks⟩:EvS) o p q M ⟨H,I⟩ ⟨U,V⟩) (λe s2 ho=> ?_) (λs2 ho hs2=> ?_)
  .exact BU
  exact yg
 by_cases h5:kd=5
 .subst h5;rw[y,fF]at j;simp only[num,str]at j;refine Wq (nA r (nA j (nA n1 (nA n2 (nA n3 (nA e1 (nA D (nA LZ (nA MA (nA Aqc (nA @Es @Mh))))))))))) ?_;refine EH.go (s:=(⟨s'.out,s'.steps+1,s'.inc,s'.ks⟩:EvS)) (AG (bf:=bf) X _ _ R hinc t n a c fs kids els id (⟨s'.out,s'.steps+1,s'.inc,s'.ks⟩:EvS) o p q M) (λe s2 ho=> ?_) (λs2 ho hs2=> ?_)
  .exact BU
  exact yg
 rw[y,nd0 _ _ _ _ _ _ _ _ W Z h4]at j;simp only[num,str]at j;have hk0:=Aqd kd h1 W Z h4 h5;have hn0:Eg bf S rec (.mk kd t n a c fs kids els) id (⟨s'.out,s'.steps+1,s'.inc,s'.ks⟩:EvS)=.bad 110 (⟨s'.out,s'.steps+1,s'.inc,s'.ks⟩:EvS):=by unfold Eg;split<;>first|rfl|(rename_i he;injection he;omega)
 refine Wq (nA r (nA j (nA n1 (nA n2 (nA n3 (nA e1 (nA D (nA LZ (nA MA (nA hk0 (nA @Es @Mh))))))))))) ?_;refine(Ni 110 _).mono (λ_ _ h=>h.elim) ?_;rintro v L ⟨rfl,rfl⟩;refine Z0 ?_;exact⟨_,aa _,110,(⟨s'.out,s'.steps+1,s'.inc,s'.ks⟩:EvS),by rw[hit,hal,hn0];rfl,rfl,rfl⟩
end
def fresh(b:Nat)(a:Φ):Prop:=∀x∈a,Qm x≠some b
theorem δ:Bu (.int .i64 1) []=none:=rfl
def β:Rj (HH.kd 3) (.int .i64 1) []=True:=bc ⟨trivial,by simp[Ew]⟩
theorem Χ:Bu (.int .i64 2) [.int .i64 1]=none:=rfl
def Υ:Rj (HH.kd 3) (.int .i64 2) [.int .i64 1]=True:=bc ⟨trivial,by simp[Ew]⟩
theorem Τ:Bu (.int .i64 3) [.int .i64 1,.int .i64 2]=none:=rfl
def Ρ:Rj (HH.kd 3) (.int .i64 3) [.int .i64 1,.int .i64 2]=True:=bc ⟨trivial,by simp[Ew]⟩
theorem Ο:Bu (.int .i64 4) [.int .i64 1,.int .i64 2,.int .i64 3]=none:=rfl
def Ν:Rj (HH.kd 3) (.int .i64 4) [.int .i64 1,.int .i64 2,.int .i64 3]=True:=bc ⟨trivial,by simp[Ew]⟩
theorem Μ:Bu (.int .i64 5) [.int .i64 1,.int .i64 2,.int .i64 3,.int .i64 4]=none:=rfl
def Λ:Rj (HH.kd 3) (.int .i64 5) [.int .i64 1,.int .i64 2,.int .i64 3,.int .i64 4]=True:=bc ⟨trivial,by simp[Ew]⟩
def Abk(a:Φ):QH 177 [] a (λr γ'=>∃mk,fresh mk a/\r=.raw (.map (some mk))/\γ'=.bw mk E2 Xc::a) (λ_ _=>False):=by refine G7 [] [] [] func177 ?_;have k1:HH.mp 226=some (3,278):=rfl;refine Wq k1 ?_;intro mk hmk;have k0:(mk=mk)=True:=bc rfl;refine Wq (nA k1 (nA k0 (nA δ (nA Χ (nA Τ (nA Ο (nA Μ (nA β (nA Υ (nA Ρ (nA Ν Λ))))))))))) ?_;exact⟨_,_,bh _,rfl,aa _,mk,hmk,rfl,rfl⟩
section
variable{f:Addr}{m b mk d c:Nat}{rv:Φ}{a:Ab->Ab}{S:Nc}{g:Ab->Ab->Option Ab}
def tN(f:Addr)(m b mk d c:Nat)(rv:Φ)(a:Ab->Ab)(s:EvS)(x e:AV):Φ:=Rp f m b mk rv a s++[.bp c 45 [e],.bp d 9 [x]]
def Abl (h1:(m=d)=False) (l:(b=d)=False) (n:(mk=d)=False) (o:(c=d)=False) (p:(m=c)=False) (q:(b=c)=False) (r:(mk=c)=False) (s:EvS) (x e:AV) (h:Nat) (u i:FrameMode) (γ':Φ)
 (j:(u=.returning/\i=.returning/\γ'=tN f m b mk d c rv a s x e)\/(u=.panicking [⟨gS h,false,false⟩]/\i=.panicking [⟨gS h,true,false⟩]/\γ'=tN f m b mk d c rv a s (str []) (num h))):
 HD prog 176 [pt d,pt c] (tN f m b mk d c rv a s x e) u (λv k=>v=i/\k=γ'):=by
 refine AiF b3 Dc Cl (A:=[]) (EE:=[]) (O:=[]) func176 (by simp only[f176];rfl) sL sL oK oD rfl ntmps176 results176 ?_;simp only[dg,eh,Nat.reduceAdd,Nat.reduceSub,mc,ml,fj,fm,num,str,Af,pt];rcases j with⟨rfl,rfl,rfl⟩|⟨rfl,rfl,rfl⟩
 .simp only[Q4,Wm,sF,gJ,cond_true,cond_false,tN,Rp,Dr,Ng,fj,fm,num,str];refine Zu ?_;exact .inl trivial
 .have k1:HH.cn 223=true:=rfl;have k2:HH.zr 223=some (.agg #[.int .i64 0]):=rfl;have k3:HH.ek 20=some 0:=rfl;simp only[Q4,Wm,sF,gJ,cond_true,cond_false,gS,tN,Rp,Dr,Ng,fj,fm,num,str];refine Zu ?_;first|exact⟨.inl trivial,rfl⟩|exact .inl trivial
end
def Pe(l h:Int)(c:UInt8):UInt8:=if l<=((c.toNat:Nat):Int)/\((c.toNat:Nat):Int)<=h then c ^^^ 32 else c
def Vu(l h:Int)(s:Ab):Ab:=s.map (Pe l h)
def Aov(c:UInt8):bits BinOp.xor IntKind.u8 ((c.toNat:Nat):Int) 32=(((c ^^^ 32).toNat:Nat):Int):=by have h:∀n:Nat,n<256->bits BinOp.xor IntKind.u8 (n:Int) 32=(((UInt8.ofNat n ^^^ 32).toNat:Nat):Int):=oK;have:=h c.toNat c.toNat_lt;rwa [UInt8.ofNat_toNat]at this
def Alw(l h:Int)(L:Ab)(i:Nat)(a:i<L.length):((L.take i).map (Pe l h)++L.drop i).getD i 0=L[i]/\∀y,y=Pe l h L[i]->((L.take i).map (Pe l h)++L.drop i).set i y=(L.take (i+1)).map (Pe l h)++L.drop (i+1):=by
 have c:L.drop i=L[i]::L.drop (i+1):=j0 a;have b:((L.take i).map (Pe l h)).length=i:=by simp;omega
 rw[c];refine⟨?_,λy d=> ?_⟩
 .rw[fk,bo om,b,Nat.sub_self];rfl
 .rw[List.set_append_right _ _ om,b,nk a,d,Nat.sub_self,DA,ip,ir];rfl
set_option maxRecDepth 1000000 in
set_option maxHeartbeats 2000000 in
def tO(lo hi:Int)(s:ByteArray)(hs:s.size<=1000000000000)(w:World):
 Calls prog 354 #[.string s,.int .u8 lo,.int .u8 hi] w λe w'=>e=.returned (.string ⟨(Vu lo hi s.data.toList).toArray⟩)/\Below w.heap.size w w':=by
 have hsz:s.data.toList.length=s.size:=ot;have hcv:=λw s=>run_bytes_of_string (P:=prog) w 9 140 5 s underlying9 underlying140 underlying5
 go_enter func354,ntmps354
 go_wp2
 generalize grownCap w s.size 0 5=cap
 go_loopw [14] (λvi wr=>∃(i:Nat) (l:Ϟ),vi=.int .i64 i/\i<=s.size/\l.length=s.size/\(∀j,j<s.size->wr.cell? ⟨w.heap.size,j,none⟩=some (.int .u8 ((l.getD j 0).toNat:Int)))/\(∀j,j<s.size->wr.frozen? ⟨w.heap.size,j,none⟩=false)/\Below w.heap.size w wr/\Hid (l=(s.data.toList.take i).map (Pe lo hi)++s.data.toList.drop i)) (λvi _=>s.size-(intOf vi).toNat)
 case atStart=>
  refine⟨0,s.data.toList,rfl,gu _,hsz,λj hj=> ?_,λj hj=> ?_,((Below.refl _ w).alloc (bx _) _).drew,(by simp:s.data.toList=(s.data.toList.take 0).map (Pe lo hi)++s.data.toList.drop 0)⟩
  .show(w.alloc _).cell? _=_;rw[World.cell?_alloc_mark,bytesRow_at s cap j hj];rw[fk,ac om];rfl
  .show(w.alloc _).frozen? _=_;rw[World.frozen?_alloc_mark];have:s.size<=(bytesRow s cap).size:=by unfold bytesRow;rw[Array.size_append,Array.size_map];exact qu _ _
   rw[decide_eq_false om,rg]
 case round=>
  obtain⟨i,l,rfl,hi1,hl,hc,hf,hb,hL⟩:=hrel;by_cases hlt:i<s.size
  .obtain⟨g1,g2⟩:=Alw lo hi s.data.toList i om;rw[<-hL.out]at g1 g2;have G1:Hid (l.getD i 0=s.data.toList[i]'om):=g1;have G2:Hid (∀y,y=Pe lo hi (s.data.toList[i]'om)->l.set i y=(s.data.toList.take (i+1)).map (Pe lo hi)++s.data.toList.drop (i+1)):=g2;clear g1 g2;have hself:l.set i (l.getD i 0)=l:=by rw[fk,ac om];exact List.set_getElem_self _
   have HS:Hid (l.set i (l.getD i 0)=l):=hself;clear hself;have hgd:l[i]'om=l.getD i 0:=by rw[fk,ac om];rfl
   have CT:Hid (l[i]'om=l.getD i 0):=hgd;clear hgd;have skip:¬(lo<=((l[i]'om).toNat:Int)/\((l[i]'om).toNat:Int)<=hi)->∃wn l_1,Value.int i64 ((i:Int)+1)=.int .i64 (wn:Nat)/\wn<=s.size/\l_1.length=s.size/\(∀j,j<s.size->wr.cell? ⟨w.heap.size,j,none⟩=some (.int .u8 ((l_1.getD j 0).toNat:Int)))/\(∀j,j<s.size->wr.frozen? ⟨w.heap.size,j,none⟩=false)/\Below w.heap.size w wr/\Hid (l_1=(s.data.toList.take wn).map (Pe lo hi)++s.data.toList.drop wn):=λhn=>by refine⟨i+1,l,by go_num,om,hl,hc,hf,hb,?_⟩;refine((HS.out).symm.trans (G2.out (l.getD i 0) ?_):l=_);rw[<-G1.out];unfold Pe;rw[ar (by rw[<-CT.out];exact hn)]
   have SKIP:Hid _:=skip;clear skip
   go_wp2
   .rename_i h1 h2;refine⟨⟨i+1,l.set i (s.data.toList[i]'om ^^^ 32),by go_num,om,by rw[List.length_set];exact hl,λj hj=> ?_,λj hj=> ?_,hb.setCell (bx _) _,G2.out _ ?_⟩,by simp[intOf];omega⟩
    .by_cases hji:j=i
     .subst hji;rw[World.cell?_setCell_same (h:=hc j hj)];rw[CT.out,G1.out,Aov];simp[fk,hl,hj]
     .rw[World.cell?_setCell_other (h:=λh=>hji (fq Addr.off h).symm),hc j hj];rw[fk,fk,ca om]
    .rw[World.frozen?_setCell];exact hf j hj
    .unfold Pe;rw[bn (by rw[<-G1.out,<-CT.out];exact⟨h1,h2⟩)]
   .exact⟨SKIP.out om,by simp[intOf];omega⟩
   .exact⟨SKIP.out om,by simp[intOf];omega⟩
  .have hbk:=run_convert_bytes_back (P:=prog) wr 140 9 5 ⟨w.heap.size,0,none⟩ cap l underlying140 underlying5 underlying9 (λj hj=>by
    have ea:(⟨w.heap.size,0,none⟩:Addr).add j=⟨w.heap.size,j,none⟩:=by simp[Addr.add];intro h;exact h.symm
    rw[ea,hc j om,fk,ac hj];rfl)
   rw[hl]at hbk
   go_wp2
   go_ret
   refine⟨?_,hb⟩;have:i=s.data.toList.length:=om;have e:=hL.out;rw[this,lr,List.drop_length,gy]at e;rw[e];rfl
def MC(l a:Int)(s:Ab)(b:s.length<=1000000000000):QA 354 [str s,.raw (.int .u8 l),.raw (.int .u8 a)] (λr=>r=str (Vu l a s)):=by refine Co Wh ⟨_,_,func354,rfl,oD⟩ _ rfl λw S v c g d=> ?_;obtain⟨u,rfl,h⟩:=Bz d;obtain⟨u,rfl,e⟩:=Bz h;obtain⟨u,rfl,f⟩:=Bz e;obtain⟨rfl,_⟩:=f.zero;refine(tO l a (Bo s) (by show s.toArray.size<=_;simpa using b) w).mono ?_;exact OI
def T6(t:Ab)(a:t.length<=1000000000000):QA 323 [str t] (λr=>r=.sl 1 ((Hh t).map str)):=
 ((ZW t a).freeze).lf λr h=>⟨_,by rw[h];exact dy _ _ _,rfl,rfl⟩
def Alx(a b:Int)(h:a=97/\b=122\/a=65/\b=90)(c:UInt8)(d:od (Pe a b c)=true):od c=true:=by
 have k1:∀n:Nat,n<256->od (Pe 97 122 (UInt8.ofNat n))=true->od (UInt8.ofNat n)=true:=oK;have k2:∀n:Nat,n<256->od (Pe 65 90 (UInt8.ofNat n))=true->od (UInt8.ofNat n)=true:=oK;have e:UInt8.ofNat c.toNat=c:=UInt8.ofNat_toNat;rcases h with⟨rfl,rfl⟩|⟨rfl,rfl⟩
 .have:=k1 c.toNat c.toNat_lt;rw[e]at this;exact this d
 .have:=k2 c.toNat c.toNat_lt;rw[e]at this;exact this d
def FO(a b:Int)(h:a=97/\b=122\/a=65/\b=90):∀s:Ab,Tt (Vu a b s)<=Tt s
 |[]=>bx _
 |c::s=>by
  have i:=FO a b h s;unfold Tt Vu at i⊢;rw[ev,List.countP_cons,List.countP_cons];refine Nat.add_le_add i ?_;have:=Alx a b h c
  cases h1:od (Pe a b c)with
  |false=>simp
  |true=>rw[this h1];simp
def bL(t:Ab):∀m s i,∀x∈L3 t m s i,x.Sublist t
 |0,s,i,x,hx=>by
  unfold L3 ER at hx;split at hx
  .simp at hx
  .rw[ga]at hx;subst hx;exact(O9 _ _).trans (List.drop_sublist _ _)
 |m+1,s,i,x,hx=>by
  rw[L4]at hx;split at hx
  .rcases e9.1 hx with rfl|hx
   .exact(O9 _ _).trans ((List.take_sublist _ _).trans (List.drop_sublist _ _))
   .exact bL t m _ _ x hx
  .exact bL t m _ _ x hx
def FP(s:Ab):((Hh s).getD 0 []).Sublist s:=by
 cases h:Hh s with
 |nil=>simp
 |cons x l=>
  have:x∈L3 s s.length 0 0:=by show x∈Hh s;rw[h];simp
  simpa using bL s _ _ _ x this
def AI:Rq (Fh Vu Hh):=AeV ⟨λa b s h c=>MC a b s c,λa b s=>by simp[Vu],λs c=>T6 s c⟩ ⟨λa b s=>by simp[Vu],λa b s h=>FO a b h s,λs=>⟨(FP s).length_le,FF (FP s)⟩⟩
def iM(s:Ab)(h:s.length<=1):∀l:Ξ,(join l s).length<=lens l
 |[]=>by simp[join]
 |[z]=>by rw[join_one];simp[lens]
 |z::y::zs=>by
  have a:=iM s h (y::zs);have e:join (z::y::zs) s=z++s++join (y::zs) s:=by simp[join,List.intercalate,ir]
  rw[e];simp[lens]at a⊢;omega
def Hc(t:Ab):Ab:=join (Hh t) [32]
def Afr(l:Ξ):l.length<=lens l:=by unfold lens;omega
def Xw(t:Ab):(Hc t).length<=t.length+1:=cp (iM [32] oS _) (Qc t)
def Afs(t:Ab):QA 321 [str t] (λr=>r=str t):=by refine G6 [] func321 ⟨_,rfl⟩ ?_;repeat' first|refine gD ?_|simp only[go_sem]
def Aft(t:Ab)(h:t.length<=1000000000000):QA 324 [str t] (λr=>r=str ([34]++t++[34])):=by refine G6 [] func324 ⟨_,rfl⟩ ?_;exact PO
def Afu(t:Ab)(h:t.length<=1000000000000):QA 325 [str t] (λr=>r=str ([91]++t++[93])):=by refine G6 [] func325 ⟨_,rfl⟩ ?_;exact PO
def Afv(t:Ab)(h:t.length<=1000000000000):QA 327 [str t] (λr=>r=str ([35]++t)):=by refine G6 [] func327 ⟨_,rfl⟩ ?_;exact PO
def Afw(t:Ab)(h:t.length<=1000000000000):QA 322 [str t] (λr=>r=str (Hc t)):=by
 refine Zs [] func322 ⟨_,rfl⟩ ?_;refine Za (T6 t h) ?_;have h1:=Xw t;have a:=Qc t;have b:=Afr (Hh t);unfold Hc at h1;refine Zb (P7 (Hh t) [32] om om) ?_;rintro r rfl;repeat' first|refine gD ?_|simp only[go_sem,str]
 rfl
def Ja(f:Nat):AV:=.raw (.func (.func f) #[] #[])
def iN:Φ:=[.agg [Ja 319,Af false,Ja 321],.agg [Ja 319,Af false,Ja 322],.agg [Ja 320,Af true,Ja 324],.agg [Ja 319,Af false,Ja 325],.agg [Ja 326,Af false,Ja 327]]
def Abm(a:Φ):QH 273 [] a (λr b=>∃mk,fresh mk a/\r=.raw (.map (some mk))/\b=.bw mk E2 iN::a) (λ_ _=>False):=by have k1:HH.mp 310=some (3,313):=rfl;refine Zt [] [] [] func273 ?_;intro mk hmk;have k0:(mk=mk)=True:=bc rfl;refine Z7 k1 k0 δ Χ Τ Ο Μ ?_;exact⟨of_eq_true β,of_eq_true Υ,of_eq_true Ρ,of_eq_true Ν,of_eq_true Λ,_,_,bh _,rfl,aa _,mk,hmk,rfl,rfl⟩
def Jj(k:Int)(t:Ab):Ab:=if k=1 then t++[10]else if k=2 then Hc t++[10]else if k=3 then[34]++t++[34]++[10]else if k=4 then[91]++t++[93]++[10]else if k=5 then[35]++t++[10]else[]
def Jk(l:List Bk):Ab:=l.flatMap λb=>Jj b.kd b.tx
def tP(k:Int)(t:Ab):(Jj k t).length<=t.length+3:=by
 have:=Xw t;unfold Jj;repeat' split
 all_goals simp
 all_goals omega
def T7{l:List Bk}{c:Nat}(h:∀b∈l,b.tx.length<=c):(Jk l).length<=l.length*(c+3):=by
 induction l with
 |nil=>simp[Jk]
 |cons x l ih=>have h1:=tP x.kd x.tx;have e:=h x (.head _);have f:=ih λb a=>h b (.tail _ a);have d:Jk (x::l)=Jj x.kd x.tx++Jk l:=rfl;rw[d,dc,dg,Nat.succ_mul];omega
def Aly(k:Int):Rj (HH.kd 3) (.int .i64 k) E2=True:=bc ⟨trivial,by simp[Ew,E2]⟩
theorem Aow:M5 true (.agg #[.nilFunc,.bool false,.nilFunc]) iN (some 0)=.a6 [.agg [.raw (.func (.func 319) #[] #[]),.raw (.bool false),.raw (.func (.func 321) #[] #[])],.raw (.bool true)]:=rfl
theorem Aox:M5 true (.agg #[.nilFunc,.bool false,.nilFunc]) iN (some 1)=.a6 [.agg [.raw (.func (.func 319) #[] #[]),.raw (.bool false),.raw (.func (.func 322) #[] #[])],.raw (.bool true)]:=rfl
theorem Aoy:M5 true (.agg #[.nilFunc,.bool false,.nilFunc]) iN (some 2)=.a6 [.agg [.raw (.func (.func 320) #[] #[]),.raw (.bool true),.raw (.func (.func 324) #[] #[])],.raw (.bool true)]:=rfl
theorem Aoz:M5 true (.agg #[.nilFunc,.bool false,.nilFunc]) iN (some 3)=.a6 [.agg [.raw (.func (.func 319) #[] #[]),.raw (.bool false),.raw (.func (.func 325) #[] #[])],.raw (.bool true)]:=rfl
theorem Ao0:M5 true (.agg #[.nilFunc,.bool false,.nilFunc]) iN (some 4)=.a6 [.agg [.raw (.func (.func 326) #[] #[]),.raw (.bool false),.raw (.func (.func 327) #[] #[])],.raw (.bool true)]:=rfl
theorem Ao1:M5 true (.agg #[.nilFunc,.bool false,.nilFunc]) iN none=.a6 [.agg [.raw .nilFunc,.raw (.bool false),.raw .nilFunc],.raw (.bool false)]:=rfl
theorem Ao2:HH.mp 310=some (3,313):=rfl
theorem Ao3:HH.zr 313=some (.agg #[.nilFunc,.bool false,.nilFunc]):=rfl
attribute [go_sem] Aow Aox Aoy Aoz Ao0 Ao1 Ao2 Ao3 Aly
def Afx(k:Int)(h1:¬k=1)(h:¬k=2)(a:¬k=3)(b:¬k=4)(c:¬k=5):Bu (.int .i64 k) E2=none:=by simp[Bu,E2,dJ,h1,h,a,b,c]
def Abn(l:List Bk)(G:l.length<=1000000)(w:∀b∈l,b.tx.length<=1000000*2):QA 198 [.sl 9 (l.map b8)] (λr=>r=str (Jk l)):=by
 refine ai (Zt [] [3] [] func198 ?_) ⟨_,rfl⟩;refine b7 (Abm []) ?_ (λ_ _ h=>h.elim);rintro r u ⟨mk,_,rfl,rfl⟩;refine Z0 ?_;refine Tm b3 Dc Cl [] [] [] [4] (by simp only[go_sem,reduceIte];rfl) oK ?_;simp only[Kb];refine Z0 ?_;intro b k;have A:(mk=b)=False:=bd λh=>k _ (.head _) (by rw[h];rfl);have B:(b=mk)=False:=bd λh=>k _ (.head _) (by rw[h];rfl);refine Ad (rl [5,5,2,21]) [12] (λm z u=>∃i y,i+m=l.length/\u=[y,.bw mk E2 iN]/\z=[num i]/\SG b (Jk (l.take i)) y) ⟨l.length,_,_,⟨0,kG b,om,rfl,rfl,.inr ⟨rfl,rfl⟩⟩,hent (aa _) ?_⟩ ?_
 .exact Zw
 .rintro m z u ⟨i,y,H,rfl,rfl,f⟩;simp only[PU];have n:=T7 (l:=l.take i) (c:=1000000*2) (λs h=>w s (i7 h));rw[fw]at n;have C:(Jk (l.take i)).length<=3000000000000:=by refine cp n ?_;have:min i l.length<=1000000:=om;have:=jh (1000000*2+3) this;omega
  by_cases v:i<l.length;rotate_left
  .have g:=eU i l.length;rw[Are om]at f;refine Z1 g ?_;refine Zk (Xu b _ y f [.bw mk E2 iN]) ?_;exact⟨_,[],bh _,rfl,Gw.drop _ (aa _),rfl,rfl⟩
  have g:=eT i l.length;obtain⟨x,hx,D⟩:=Bj v;have d:=Iq hx;have j:=wS i;have E:=w x (cu hx);have hnext:Jk (l.take (i+1))=Jk (l.take i)++Jj x.kd x.tx:=by unfold Jk;exact QE
  have e:Lu mk [y,.bw mk E2 iN]=some 1:=by rcases f with⟨rfl,_⟩|⟨rfl,_⟩<;>simp[Lu,Qm,OB,kG,A,B]
  generalize Jk (l.take i)=bs at *;have F:=Xw x.tx;by_cases h1:x.kd=1
  .have kf:Bu (.int .i64 x.kd) E2=some 0:=by rw[h1];rfl
   have hF:Jj x.kd x.tx=x.tx++[10]:=by rw[h1];rfl
   refine Z5 g d j kf e ?_;refine Zh (Afs x.tx) ?_;refine Zk (Hm b bs (x.tx) y (SG.a f) (by first|omega|(simp;omega)) [.bw mk E2 iN]) ?_;refine Zk (Qe b (bs++(x.tx)) 10 _ (.inl rfl) (by first|omega|(simp;omega)) [.bw mk E2 iN]) ?_;exact OH
  by_cases o:x.kd=2
  .have kf:Bu (.int .i64 x.kd) E2=some 1:=by rw[o];rfl
   have hF:Jj x.kd x.tx=Hc x.tx++[10]:=by rw[o];rfl
   refine Z5 g d j kf e ?_;refine Zh (Afw x.tx om) ?_;refine Zk (Hm b bs (Hc x.tx) y (SG.a f) (by first|omega|(simp;omega)) [.bw mk E2 iN]) ?_;refine Zk (Qe b (bs++(Hc x.tx)) 10 _ (.inl rfl) (by first|omega|(simp;omega)) [.bw mk E2 iN]) ?_;exact OH
  by_cases p:x.kd=3
  .have kf:Bu (.int .i64 x.kd) E2=some 2:=by rw[p];rfl
   have hF:Jj x.kd x.tx=[34]++x.tx++[34]++[10]:=by rw[p];rfl
   refine Z5 g d j kf e ?_;refine Zh (Aft x.tx om) ?_;refine Zk (Hm b bs ([34]++x.tx++[34]) y (SG.a f) (by first|omega|(simp;omega)) [.bw mk E2 iN]) ?_;refine Zk (Qe b (bs++([34]++x.tx++[34])) 10 _ (.inl rfl) (by first|omega|(simp;omega)) [.bw mk E2 iN]) ?_;exact OH
  by_cases q:x.kd=4
  .have kf:Bu (.int .i64 x.kd) E2=some 3:=by rw[q];rfl
   have hF:Jj x.kd x.tx=[91]++x.tx++[93]++[10]:=by rw[q];rfl
   refine Z5 g d j kf e ?_;refine Zh (Afu x.tx om) ?_;refine Zk (Hm b bs ([91]++x.tx++[93]) y (SG.a f) (by first|omega|(simp;omega)) [.bw mk E2 iN]) ?_;refine Zk (Qe b (bs++([91]++x.tx++[93])) 10 _ (.inl rfl) (by first|omega|(simp;omega)) [.bw mk E2 iN]) ?_;exact OH
  by_cases t:x.kd=5
  .have kf:Bu (.int .i64 x.kd) E2=some 4:=by rw[t];rfl
   have hF:Jj x.kd x.tx=[35]++x.tx++[10]:=by rw[t];rfl
   refine Z5 g d j kf e ?_;refine Zh (Afv x.tx om) ?_;refine Zk (Hm b bs ([35]++x.tx) y (SG.a f) (by first|omega|(simp;omega)) [.bw mk E2 iN]) ?_;refine Zk (Qe b (bs++([35]++x.tx)) 10 _ (.inl rfl) (by first|omega|(simp;omega)) [.bw mk E2 iN]) ?_;exact OH
  have kf:=Afx x.kd h1 o p q t;have hF:Jj x.kd x.tx=[]:=by simp[Jj,h1,o,p,q,t]
  refine Z5 g d j kf e ?_;exact Zm (m-1) ⟨i+1,y,om,rfl,rfl,by rw[hnext,hF,gy];exact f⟩
def kH(s:Ab):Ab:=itoa (s.length:Nat)++[58]++s++[44]
def Lh(l:Ξ):Ab:=l.flatMap kH
def Jl(s:Ab)(h:s.length<=5000000000000):(kH s).length<=s.length+30:=by have:=itoa_length_le (s.length:Nat) om om;simp[kH];omega
def tQ{l:Ξ}(a:∀s∈l,s.length<=5000000000000):(Lh l).length<=l.length*5000000000030:=by
 induction l with
 |nil=>simp[Lh]
 |cons x l ih=>have h1:=Jl x (a x (.head _));have c:=a x (.head _);have d:=ih λs h=>a s (.tail _ h);have b:Lh (x::l)=kH x++Lh l:=rfl;rw[b,dc,dg];omega
def Abo{l:Ξ}{i:Nat}(h:i<l.length):(l.map str).getD i .any=str l[i]:=by simp[fk,h]
def eB(l:Ξ)(u:l.length<=10)(j:∀s∈l,s.length<=5000000000000):QA 135 [.sl 1 (l.map str)] (λr=>r=str (Lh l)):=by
 refine ai (Zt [] [2] [] func135 ?_) ⟨_,rfl⟩;refine Tm b3 Dc Cl [] [] [] [3] (by simp only[go_sem,reduceIte];rfl) oK ?_;simp only[Kb];refine Z0 ?_;intro b _;refine Ad (rl [5,1,2,14]) [8] (λm x k=>∃i y,i+m=l.length/\k=[y]/\x=[num i]/\SG b (Lh (l.take i)) y) ⟨l.length,_,_,⟨0,kG b,om,rfl,rfl,.inr ⟨rfl,rfl⟩⟩,hent (aa _) ?_⟩ ?_
 .exact Zw
 .rintro m x k ⟨i,y,v,rfl,rfl,f⟩;simp only[PU];have d:=tQ (l:=l.take i) (λs h=>j s (i7 h));rw[fw]at d;have o:(Lh (l.take i)).length<=60000000000000:=by refine cp d ?_;have:min i l.length<=10:=om;have:=jh 5000000000030 this;omega
  by_cases e:i<l.length;rotate_left
  .have g:=eU i l.length;rw[Are om]at f;refine Z1 g ?_;refine Zk (Xu b _ y f []) ?_;exact Zx
  have g:=eT i l.length;have n:=Abo e;have p:=j l[i] (ko _);have c:Lh (l.take (i+1))=Lh (l.take i)++itoa (l[i].length:Nat)++[58]++l[i]++[44]:=by unfold Lh;rw[nk e,pi];simp only[qt,sr,kH,gy,ir]
  have q:=wS i;have t:=itoa_length_le (l[i].length:Nat) om om;generalize l[i]=s at *;generalize Lh (l.take i)=bs at *;simp only[str]at n;refine Z3 g n q ?_;refine Zh (Em (s.length:Nat) ⟨om,om⟩) ?_;refine Zk (Hm b bs (itoa (s.length:Nat)) y (SG.a f) om []) ?_;refine Zk (Hm b (bs++itoa (s.length:Nat)) [58] _ (.inl rfl) (by simp;omega) []) ?_;refine Zk (Hm b (bs++itoa (s.length:Nat)++[58]) s _ (.inl rfl) (by simp;omega) []) ?_;refine Zk (Hm b (bs++itoa (s.length:Nat)++[58]++s) [44] _ (.inl rfl) (by simp;omega) []) ?_;exact Zm (m-1) ⟨i+1,_,om,rfl,rfl,.inl ⟨by rw[c],by rw[c];simp⟩⟩
section
variable{a:Type}
def Rv(f g:a->AV)(l:List a)(i:Nat):Φ:=(l.take i).map f++(l.drop i).map g
def Afy(f g:a->AV)(l:List a)(i:Nat):(Rv f g l i).length=l.length:=by simp[Rv];omega
def Afz{f g:a->AV}{l:List a}{i:Nat}{x:a}(h:l[i]? =some x):(Rv f g l i).getD i .any=g x:=by have b:=(ab.1 h).1;have c:=(ab.1 h).2;unfold Rv;rw[fk,bo (by simp;omega),dB,fw,pp om,Nat.sub_self,j0 b,c];rfl
def Af0{f g:a->AV}{l:List a}{i:Nat}{x:a}(h:l[i]? =some x):(Rv f g l i).set i (f x)=Rv f g l (i+1):=by have b:=(ab.1 h).1;have c:=(ab.1 h).2;unfold Rv;rw[List.set_append_right _ _ (by simp;omega),dB,fw,pp om,Nat.sub_self,j0 b,c,fc,h];simp
def Abp{f g:a->AV}{l:List a}{i:Nat}{x:a}(h:l[i]? =some x)(e:f x=g x):Rv f g l (i+1)=Rv f g l i:=by have b:=(ab.1 h).1;have c:=(ab.1 h).2;unfold Rv;rw[j0 b,c,fc,h];simp[e]
def Af1(f g:a->AV)(l:List a){i:Nat}(h:l.length<=i):Rv f g l i=l.map f:=by unfold Rv;rw[n9 h,Are h];simp
def Abq(f g:a->AV)(l:List a):Rv f g l 0=l.map g:=by simp[Rv]
end
def mJ(b:Nat)(c:Ab)(a:Ξ)(y:AV)(A:vN b c y)(F:c.length<=10000000000000)(j:a.length<=10)(f:∀p∈a,p.length<=1000000000000)(u:Φ):
 QH 195 [.sl 1 (a.map str),.raw (pB b)] (y::u) (λr d=>r=.a6 []/\d=OB b (c++a.flatten++[10])::u) (λ_ _=>False):=by
 refine fy (jr:=[y]) ?_;refine b7 (K:=λr d=>r=.a6 []/\d=[OB b (c++a.flatten++[10])]) (E:=λ_ _=>False) ?_ (λr d h=>⟨h.1,by rw[h.2];rfl⟩) (λ_ _ h=>h);simp only[pB];refine Zt [] [] [] func195 ?_
 have l:∀k,(a.take k).flatten.length<=(a.take k).length*1000000000000:=λk=>by
  have h:∀p∈a.take k,p.length<=1000000000000:=λp j=>f p (i7 j);generalize a.take k=qs at h⊢
  induction qs with
  |nil=>simp
  |cons q qs ih=>have h1:=h q (.head _);have v:=ih λp j=>h p (.tail _ j);simp only[sx,dc,dg];omega
 have n:∀k,(c++(a.take k).flatten).length<=20000000000000:=λk=>by
  have h1:=l k;have v:(a.take k).length<=10:=by simp;omega
  have:=jh 1000000000000 v;simp only[dc];omega
 refine Ad (rl [4,1,2,8]) [7] (λm x d=>∃i z,i+m=a.length/\d=[z]/\x=[num i]/\vN b (c++(a.take i).flatten) z) ⟨a.length,_,_,⟨0,y,om,rfl,rfl,by simpa using A⟩,hent (aa _) ?_⟩ ?_
 .exact Zw
 .rintro m x d ⟨i,z,G,rfl,rfl,o⟩;simp only[PU];have B:=n i;by_cases g:i<a.length;rotate_left
  .have t:=eU i a.length;rw[Are om]at o B;refine Z1 t ?_;refine Zk (Qe b (c++a.flatten) 10 z o om []) ?_;exact Zx
  have t:=eT i a.length;have w:=Abo g;have C:=wS i;have D:=f a[i] (ko _);have e:c++(a.take (i+1)).flatten=c++(a.take i).flatten++a[i]:=by rw[nk g];simp only[List.flatten_append,sx,List.flatten_nil,gy,ir]
  generalize a[i]=s at *;simp only[str]at w;refine Z3 t w C ?_;refine Zk (Hm b (c++(a.take i).flatten) s z o om []) ?_;exact Zm (m-1) ⟨i+1,_,om,rfl,rfl,.inl (by rw[e])⟩
def Fy(M:List Bq)(l:Ab)(b:Bk):Bk:=if b.kd=3 then{b with tx:=I4 M l 8 b}else if b.kd=5 then{zB with kd:=2,tx:=b.tx++[58,32]++I4 M l 8 b}else b
def Qr(M:List Bq)(l:Ab)(b:Bk):AV:=if b.kd=3 then .agg [num b.id,num b.kd,str (I4 M l 8 b),num b.so,num b.rf,num b.un,.sl 1 (Ar b.af),num b.ap,num b.de]else if b.kd=5 then .agg [num 0,num 2,str (b.tx++[58,32]++I4 M l 8 b),num 0,num 0,num 0,.nil,num 0,num 0]else b8 b
def AJ:Ab:=[84,104,105,115,32,115,116,111,114,121,32,119,97,115,32,114,101,116,114,97,99,116,101,100,46]
def eC:Ab:=[67,111,114,114,101,99,116,105,111,110,58,32]
def Kr(a:Ab)(l:List mC):Ab:=l.flatMap λc=>if c.lg=a then eC++c.tx++[10]else[]
def Mi(M:List Bq)(t:Bq)(e:Ab×dV)(l:Ab):Ab:=e.2.ti++[10]++(if t.re=true then AJ++[10]else Jk (e.2.bs.map (Fy M l))++Kr l t.co)
def Pf(M:List Bq)(i:Int)(l:Ab):Ab×Bool:=match Ki ((Ga M i).getD zT).ed l with
 |none=>([],false)
 |some e=>(Mi M ((Ga M i).getD zT) e l,true)
def W1.slW{k:Nat}{es a:Φ}(f:a.length=es.length)(d:∀x∈a,(cellsOf x).length=k)(g:Wk (flat es) (flat a)):W1 (.sl k es) (.sl k a):=λw S v c i=>by
 cases i with
 |j4 hcap h=>obtain rfl:=List.length_eq_zero_iff.1 f;exact⟨c,.j4 hcap h,λ_=>bx _⟩
 |sl hn hcap hsp hk h1 h0 hcell hst h=>obtain⟨j,g1,g2⟩:=g.rep h1;have e:=h1.length;exact⟨c,by rw[<-f];exact .sl om hcap hsp d g1 (λb=>by have:=g2 b;have:=h0 b;omega) hcell hst h,λ_=>bx _⟩
def Alz:∀{a b c d:Φ},Wk a b->Wk c d->Wk (a++c) (b++d):=by
 intro a b c d h1 e
 induction h1 with
 |nil=>exact e
 |same h ih=>exact .same ih
 |cons h hp h' ih=>exact .cons h hp ih
 |box h h' ih=>exact .box h ih
def FQ{a:Type}{f g:a->AV}:∀(l:List a),(∀x∈l,Wk (cellsOf (f x)) (cellsOf (g x)))->Wk (flat (l.map f)) (flat (l.map g))
 |[],_=>.nil
 |x::l,h=>Alz (h x (.head _)) (FQ l λy b=>h y (.tail _ b))
def Al0(M:List Bq)(l:Ab)(b:Bk):Wk (cellsOf (Qr M l b)) (cellsOf (b8 (Fy M l b))):=by
 unfold Qr Fy;split
 .exact br _
 .split
  .exact .same (.same (.same (.same (.same (.same (B7 (.same (.same .nil))))))))
  .exact br _
def Al1(M:List Bq)(a:Ab)(l:List Bk):W1 (.sl 9 (l.map (Qr M a))) (.sl 9 ((l.map (Fy M a)).map b8)):=by
 refine W1.slW oS (λx h=> ?_) ?_
 .simp only[dm]at h;obtain⟨y,_,rfl⟩:=h;rfl
 .rw[lq];exact FQ l λb _=>Al0 M a b
def W1.tr{x y z:AV}(h:W1 x y)(k:W1 y z):W1 x z:=λw S v c a=>by obtain⟨c1,h1,e1⟩:=h w S v c a;obtain⟨c2,d,e2⟩:=k w S v c1 h1;exact⟨c2,d,λb=>cp (e2 b) (e1 b)⟩
def bN(a:Ab){l:List mC}{c:Nat}(h:∀x∈l,x.tx.length<=c):(Kr a l).length<=l.length*(c+13):=by
 induction l with
 |nil=>simp[Kr]
 |cons x l ih=>
  have f:=h x (.head _);have g:=ih λb d=>h b (.tail _ d)
  have h1:(if x.lg=a then eC++x.tx++[10]else[]).length<=c+13:=by
   split
   .simp[eC];omega
   .simp
  have e:Kr a (x::l)=(if x.lg=a then eC++x.tx++[10]else[])++Kr a l:=rfl;rw[e,dc,dg,Nat.succ_mul];omega
def MD{M:List Bq}{c n f a g:Nat}(i:30<=c)(j:M.length<=1000000)(h:∀t∈M,∀e∈t.ed,∀b∈e.2.bs,b.tx.length<=c){t:Bq}{e:Ab×dV}(l:Ab)(h1:∀b∈e.2.bs,b.tx.length<=c)(k:e.2.bs.length<=n)(s:e.2.ti.length<=g)(m:t.co.length<=f)(o:∀x∈t.co,x.tx.length<=a):
 (Mi M t e l).length<=g+30+n*(2*c+5)+f*(a+13):=by
 have p:∀b∈e.2.bs.map (Fy M l),b.tx.length<=2*c+2:=by
  intro y q;obtain⟨x,r,rfl⟩:=dm.1 q;have g1:=h1 x r;have g2:=Ty c i j h l 8 x g1;unfold Fy;split
  .simp;omega
  .split
   .simp;omega
   .omega
 have g1:=T7 p;rw[dB]at g1;have g2:=bN l o;have g3:=jh (2*c+2+3) k;have g4:=jh (a+13) m;rw[show 2*c+2+3=2*c+5 from rfl]at g1 g3;generalize 2*c+5=d at *;generalize n*d=D at *;generalize e.2.bs.length*d=D2 at *;generalize a+13=d3 at *;generalize f*d3=D3 at *;generalize t.co.length*d3=D4 at *;unfold Mi;split
 .simp[AJ];omega
 .simp only[dc,dg,eh];omega
def Vv{M:List Bq}{c nb nc cc ct:Nat}(g:30<=c)(j:M.length<=1000000)(h:∀t∈M,∀e∈t.ed,∀b∈e.2.bs,b.tx.length<=c)(k:∀t∈M,∀e∈t.ed,e.2.bs.length<=nb)(m:∀t∈M,∀e∈t.ed,e.2.ti.length<=ct)(n:∀t∈M,t.co.length<=nc)(o:∀t∈M,∀x∈t.co,x.tx.length<=cc)(i:Int)(l:Ab):
 (Pf M i l).1.length<=ct+30+nb*(2*c+5)+nc*(cc+13):=by
 unfold Pf;split
 .simp
 .rename_i e p;have a:=i8 p
  cases f:Ga M i with
  |none=>rw[f]at a;cases a
  |some t=>rw[f]at a;have d:=i8 f;simp only[jy]at a⊢;exact MD g j h l (h t d e a) (k t d e a) (m t d e a) (n t d) (o t d)
def s_{l:List mC}{j:Nat}{x:mC}(h:l[j]? =some x):(l.map gW).getD j .any=.agg [str x.lg,num x.bk,num x.se,str x.tx,num x.n]:=by exact QC
def Af2(M:List Bq)(G:Φ)(hM:mF M)(id:Int)(la:Ab):QA 134 [I8 M G,num id,str la] (λr=>r=.a6 [str (Pf M id la).1,Af (Pf M id la).2]):=by
 refine ai (G7 [(12,[100014],[]),(15,[16],[]),(21,[14],[])] [6,11] [(19,[10003],[0,1,2,6,1003,4,1005,1007],[2008],[9,3010,11,3012])] func134 ?_) ⟨_,rfl⟩;simp only[I8];refine Z0 ?_;refine ae (Nl M G hM.len id) ?_;rintro r rfl
 have qc:Pf M id la=match Ki ((Ga M id).getD zT).ed la with
  |none=>([],false)
  |some e=>(Mi M ((Ga M id).getD zT) e la,true):=rfl
 have J:((Ga M id).getD zT).ed.length<=1000000/\((Ga M id).getD zT).co.length<=1000000/\(∀e∈((Ga M id).getD zT).ed,e.2.bs.length<=1000000/\∀b∈e.2.bs,b.tx.length<=900000)/\(∀e∈((Ga M id).getD zT).ed,e.2.ti.length<=1000000)/\∀c∈((Ga M id).getD zT).co,c.tx.length<=1000000:=by exact ϩ
 generalize (Ga M id).getD zT=t at *;obtain⟨K,Y,L,N,q⟩:=J;simp only[Tv,num,str,Af];refine Z0 ?_;refine ae (Nm t K la) ?_;rintro r rfl
 cases hed:Ki t.ed la with
 |none=>exact Ah5
 |some e=>
  rw[hed]at qc;simp only at qc;rw[qc];simp only[jy,ng,Mf,num,str,Af];refine Z0 ?_;refine Tm b3 Dc Cl [] [] [] [12] (by simp only[go_sem,reduceIte];rfl) oK ?_;simp only[Kb];refine Z0 ?_;intro b _;have y:e∈t.ed:=i8 hed;have Z:=N e y;refine⟨rfl,rfl,?_⟩;refine HC.wk (b7 (mJ b [] [e.2.ti] (kG b) (.inr ⟨rfl,rfl⟩) oS oS (by simp;omega) []) ?_ (λ_ _ h=>h.elim)) (Bl (br _));rintro r s ⟨rfl,rfl⟩;simp only[sx,List.flatten_nil,gy,fm];cases n:t.re;rotate_left
  .refine Z1 n ?_;refine HC.wk (b7 (mJ b (e.2.ti++[10]) [AJ] (OB b _) (.inl rfl) (by simp;omega) oS (by simp[AJ]) []) ?_ (λ_ _ h=>h.elim)) (Bl (br _));rintro r s ⟨rfl,rfl⟩;refine Z0 ?_;refine Zk (Xu b (e.2.ti++[10]++[AJ].flatten++[10]) _ (.inl ⟨rfl,oS⟩) []) ?_;have O:Mi M t e la=e.2.ti++[10]++[AJ].flatten++[10]:=by simp[Mi,n]
   rw[O];exact Zx
  refine Z1 n ?_;refine aU b3 Dc 2 77 9 ?_;simp only[qv,gx];simp only[go_sem];have P:=L e y;obtain⟨Q,hbt⟩:=P;have R:=λi=>Afy (Qr M la) b8 e.2.bs i;refine Z0 ?_;have S:=Abq (Qr M la) b8 e.2.bs;refine Ad (rl [14,34,2,53]) [14,50] (λm z s=>∃i,i+m=e.2.bs.length/\s=[OB b (e.2.ti++[10])]/\z=[.row 77 9 (Rv (Qr M la) b8 e.2.bs i),num i]) ⟨e.2.bs.length,_,_,⟨0,om,rfl,by rw[S]⟩,hent (aa _) ?_⟩ ?_
  .exact Zw
  .rintro m z s ⟨i,hi,rfl,rfl⟩;simp only[PU];have A:=R i;by_cases u:i<e.2.bs.length
   .have k:=eT i e.2.bs.length;obtain⟨x,hx,T⟩:=Bj u;have a:=Afz (f:=Qr M la) (g:=b8) hx;have j:=Af0 (f:=Qr M la) (g:=b8) hx;have U:=Abp (f:=Qr M la) (g:=b8) hx;have o:=wS i;have B:=hbt x (cu hx);have hrl:=Ty 900000 om hM.len hM.tx la 8 x B;simp only[b8,num,str]at a;by_cases w:x.kd=3
    .have v:=bc w;have V:Qr M la x=.agg [num x.id,num x.kd,str (I4 M la 8 x),num x.so,num x.rf,num x.un,.sl 1 (Ar x.af),num x.ap,num x.de]:=by unfold Qr;rw[bn w]
     rw[V]at j;simp only[num,str]at j;refine Z5 k a A o v ?_;refine ae (aV M G hM la x) ?_;rintro r rfl;simp only[str];refine Z6 k a A o v j ?_;exact Zm (m-1) ⟨i+1,om,rfl,rfl⟩
    by_cases H:x.kd=5
    .have v:=bd w;have I:=bc H;have W:Qr M la x=.agg [num 0,num 2,str (x.tx++[58,32]++I4 M la 8 x),num 0,num 0,num 0,.nil,num 0,num 0]:=by unfold Qr;rw[ar w,bn H]
     rw[W]at j;simp only[num,str]at j;refine Z6 k a A o v I ?_;refine ae (aV M G hM la x) ?_;rintro r rfl;simp only[str];refine Z7 k a A o v I j ?_;exact Zm (m-1) ⟨i+1,om,rfl,rfl⟩
    have v:=bd w;have I:=bd H;have hs:Qr M la x=b8 x:=by unfold Qr;rw[ar w,ar H]
    refine Z6 k a A o v I ?_;exact Zm (m-1) ⟨i+1,om,rfl,by rw[U hs]⟩
   have k:=eU i e.2.bs.length;rw[Af1 _ _ _ om];have C:(e.2.bs.map (Qr M la)).length=e.2.bs.length:=oS;refine Z2 k C ?_;have D:∀b∈e.2.bs.map (Fy M la),b.tx.length<=1000000*2:=by exact Agw
   have E:=T7 D;rw[dB]at E;have hpn:(Jk (e.2.bs.map (Fy M la))).length<=2000003000000:=by refine cp E ?_;have:=jh (1000000*2+3) Q;omega
   refine HC.wk (ae (Abn (e.2.bs.map (Fy M la)) (by simp;omega) D) ?_) (.cons (W1.tr (dy _ _ _) (Al1 M la e.2.bs)) rfl .nil);rintro r rfl;generalize F:Jk (e.2.bs.map (Fy M la))=pl at *;refine Z0 ?_;refine Zk (Hm b (e.2.ti++[10]) pl _ (.inl rfl) (by simp;omega) []) ?_;refine Ad (rl [14,72,2,15]) [88] (λm z s=>∃i,i+m=t.co.length/\s=[OB b (e.2.ti++[10]++pl++Kr la (t.co.take i))]/\z=[num i]) ⟨t.co.length,_,_,⟨0,om,by simp[Kr],rfl⟩,hent (aa _) ?_⟩ ?_
   .exact Zw
   .rintro m z s ⟨i,hi,rfl,rfl⟩;simp only[PU];have hcl:=bN la (l:=t.co.take i) (c:=1000000) (λc hc=>q c (i7 hc));have hcn:(Kr la (t.co.take i)).length<=1000013000000:=by exact Ahc
    by_cases u:i<t.co.length
    .have k:=eT i t.co.length;obtain⟨x,hx,T⟩:=Bj u;have a:=s_ hx;have o:=wS i;have B:=q x (cu hx);have d:Kr la (t.co.take (i+1))=Kr la (t.co.take i)++(if x.lg=la then eC++x.tx++[10]else[]):=by unfold Kr;exact QE
     simp only[num,str]at a;by_cases p:x.lg=la
     .have X:(x.lg==la)=true:=by simpa using p
      rw[bn p]at d;refine Z4 k a o X ?_;refine HC.wk (b7 (mJ b (e.2.ti++[10]++pl++Kr la (t.co.take i)) [eC,x.tx] _ (.inl rfl) (by simp;omega) oS (by simp[eC];omega) []) ?_ (λ_ _ h=>h.elim)) (Bl (br _));rintro r s ⟨rfl,rfl⟩;refine Z1 o ?_;exact Zm (m-1) ⟨i+1,om,by rw[d];simp,rfl⟩
     have X:(x.lg==la)=false:=by simpa using p
     rw[ar p,gy]at d;refine Z4 k a o X ?_;exact Zm (m-1) ⟨i+1,om,by rw[d],rfl⟩
    have k:=eU i t.co.length;have O:Mi M t e la=e.2.ti++[10]++pl++Kr la (t.co.take i):=by rw[Are om];simp[Mi,n,F]
    rw[O];refine Z1 k ?_;refine Zk (Xu b (e.2.ti++[10]++pl++Kr la (t.co.take i)) _ (.inl ⟨rfl,oS⟩) []) ?_;exact Zx
def Ff(la:Ab)(l:List mC):Nat:=(l.filter λc=>decide (c.lg=la)).length
def T8:Ab:=[121,101,115]
def Kk(M:List Bq)(i:Int)(t:Bq)(e:Ab×dV):Ξ:=[e.1,e.2.ti,t.au,join t.tp [44,32],(Pf M i e.1).1,if Ff e.1 t.co=0 then[]else itoa (Ff e.1 t.co:Nat),if t.re=true then T8 else[],join (t.ed.map (·.1)) [32]]
def Cx(M:List Bq)(i:Int)(l:Ab):Ab:=match Ga M i with
 |none=>[]
 |some t=>match t.ed with
  |[]=>[]
  |e0::_=>Lh (Kk M i t ((Ki t.ed l).getD e0))
structure mK (M:List Bq):Prop where
 au:∀t∈M,t.au.length<=1000000
 tp:∀t∈M,t.tp.length<=1000
 tn:∀t∈M,∀x∈t.tp,x.length<=1000000
 ed:∀t∈M,t.ed.length<=1000
 la:∀t∈M,∀e∈t.ed,e.1.length<=1000000
def Ao4(M:List Bq)(t:Φ):Prop:=∀i,Db i->QA 132 [I8 M t,num i] (λr=>r=.a6 [Tv ((Ga M i).getD zT),Af (Ga M i).isSome])
def Af3{la:Ab}{l:List mC}{i:Nat}{x:mC}(h:l[i]? =some x):Ff la (l.take (i+1))=Ff la (l.take i)+(if x.lg=la then 1 else 0):=by unfold Ff;rw[fc,h,Ast,dc];by_cases a:x.lg=la<;>simp[a]
def Af4(M:List Bq)(A:Φ)(h:mF M)(b:mK M)(P:Ao4 M A)(d:Int)(C:Db d)(la:Ab):QA 78 [I8 M A,num d,str la] (λr=>r=str (Cx M d la)):=by
 have N:=P d C;refine ai (G7 [(8,[7,9],[]),(1000007,[],[]),(1000018,[],[]),(1000020,[],[])] [] [(26,[],[0,2,4,6,9,10,11,12,1001,1003,1005,1007],[2008,2013],[3014,3015,16])] func78 ?_) ⟨_,rfl⟩;simp only[I8]at N⊢;refine Z0 ?_;refine ae N ?_;rintro r rfl
 cases g:Ga M d with
 |none=>
  have hq:Cx M d la=[]:=by simp[Cx,g]
  rw[hq];simp only[nz,mf,Tv,zT,num,str,Af];refine Z0 ?_;exact Zx
 |some t=>
  have f:t∈M:=i8 g;have Q:=h.ed t f;simp only[jy,ng,Tv,num,str,Af]
  cases he:t.ed with
  |nil=>
   have hq:Cx M d la=[]:=by simp[Cx,g,he]
   rw[hq];simp only[db];refine Z0 ?_;exact Zx
  |cons e0 es=>
   have el:((t.ed.length:Nat):Int)=0↔False:=by rw[he];simp;omega
   have el:=propext el;have j:=bc (show 0<t.ed.length by rw[he];simp);have D:(t.ed.map Mf).getD 0 .any=Mf e0:=by rw[he];rfl
   obtain⟨e,hee⟩:∃e,(Ki t.ed la).getD e0=e:=⟨_,rfl⟩;have l:e∈t.ed:=by rw[<-hee];exact GR
   have hq:Cx M d la=Lh (Kk M d t e):=by simp only[Cx,g,he];rw[<-he,hee]
   rw[<-he,hq];have B:=AE M A h.len (λt E=>⟨h.ed t E,λe he=>⟨h.bs t E e he,h.bk t E e he⟩⟩) d la;rw[g]at B;simp only[jy,I8]at B;refine Z1 el ?_;refine ae B ?_;rintro r rfl;have F:∃(y:Ab×dV) (k:Bool),((Ki t.ed la).getD zE)=y/\(Ki t.ed la).isSome=k/\(k=true->y=e)/\(k=false->e=e0):=by exact a_
   obtain⟨y,k,o,p,q,u⟩:=F;rw[o,p];simp only[Mf,num,str,Af]at D⊢;simp only[go_sem];refine Z0 ?_;refine Bv (rl [8,97]) [9] (λx a=>a=[]/\x=[.box 101 [str e.1,num e.2.rv,str e.2.ti,.sl 9 (e.2.bs.map b8),num e.2.ch]]) ?_ ?_
   .cases k with
    |true=>have:=q rfl;subst this;refine Z0 ?_;exact Im
    |false=>have:=u rfl;subst this;refine Z2 D j ?_;exact Im
   rintro x a ⟨rfl,rfl⟩;simp only[PU];clear o p q u hee D B he;refine Z0 ?_;refine ae (Af2 M A h d e.1) ?_;rintro r rfl;simp only[str,Af];refine Z0 ?_;have R:=h.co t f;refine Ad (rl [12,44,2,47]) [12,58] (λm x a=>a=[]/\∃i,i+m=t.co.length/\x=[num (Ff e.1 (t.co.take i):Nat),num i]) ⟨t.co.length,_,_,⟨rfl,0,om,rfl⟩,hent (aa _) ?_⟩ ?_
   .exact Zw
   .rintro m x a ⟨rfl,i,S,rfl⟩;simp only[PU];have G:Ff e.1 (t.co.take i)<=i:=cp (kh _ _) (by simp;omega);by_cases hlt:i<t.co.length
    .exact ϵ
    have ej:=eU i t.co.length;rw[Are om]at G⊢;refine Z1 ej ?_;refine Bv (rl [15,1,1,88]) [15] (λx a=>a=[]/\x=[str (if Ff e.1 t.co=0 then[]else itoa (Ff e.1 t.co:Nat))]) ?_ ?_
    .by_cases hn0:Ff e.1 t.co=0
     .exact AgB
     .have en:=bc (show(0:Int)<((Ff e.1 t.co:Nat):Int) by omega);refine Z1 en ?_;refine Zh (Em (Ff e.1 t.co:Nat) ⟨om,om⟩) ?_;exact Im
    rintro x a ⟨rfl,rfl⟩;simp only[PU]
    have T:(if Ff e.1 t.co=0 then[]else itoa (Ff e.1 t.co:Nat):Ab).length<=30:=by
     split
     .simp
     .exact nR
    have v:=hq;unfold Kk at v;generalize (if Ff e.1 t.co=0 then[]else itoa (Ff e.1 t.co:Nat):Ab)=cr at *;simp only[str];refine Z0 ?_;refine Bv (rl [16,89]) [16] (λx a=>a=[]/\x=[str (if t.re=true then T8 else[])]) ?_ ?_
    .cases w:t.re
     .refine Z1 w ?_;exact Im
     .refine Z1 w ?_;exact Im
    rintro x a ⟨rfl,rfl⟩;simp only[PU];have O:(if t.re=true then T8 else[]:Ab).length<=30:=by split<;>simp[T8]
    generalize (if t.re=true then T8 else[])=re at *;simp only[str];refine Z0 ?_;refine Ad (rl [17,60,2,26]) [17,79] (λm x a=>a=[]/\∃i,i+m=t.ed.length/\x=[.own 9 1 (((t.ed.take i).map (·.1)).map str),num i]) ⟨t.ed.length,_,_,⟨rfl,0,om,rfl⟩,hent (aa _) ?_⟩ ?_
    .exact Zw
    .rintro m x a ⟨rfl,i,S,rfl⟩;simp only[PU];have hll:(((t.ed.take i).map (·.1)).map str).length=min i t.ed.length:=oS;by_cases hlt:i<t.ed.length
     .exact Ϯ
     have ej:=eU i t.ed.length;rw[Are om];have H:=hq.symm.trans v;rw[H];have I:=Dq (sep:=[44,32]) (c:=1000000) (zs:=t.tp) (b.tn t f);have J:=Dq (sep:=[32]) (c:=1000000) (zs:=t.ed.map (·.1)) (λz U=>by obtain⟨e,he,rfl⟩:=dm.1 U;exact b.la t f e he);have K:=b.tp t f;have L:=b.ed t f;have V:=jh (1000000+2) K;have W:=jh (1000000+1) L;simp only[dg,eh,dB]at I J;have X:=Vv (c:=900000) om h.len h.tx h.bs h.ti h.co h.ct d e.1;have Y:=b.au t f;have Z:=b.la t f e l;have hti:=h.ti t f e l;refine Z1 ej ?_;refine Zh (P7 t.tp [44,32] om om) ?_;refine HC.wk (ae (P7 (t.ed.map (·.1)) [32] (by simp;omega) om) ?_) (Bl (br _));rintro r rfl;refine Zn ?_;refine HC.wk (ae (eB [e.1,e.2.ti,t.au,join t.tp [44,32],(Pf M d e.1).1,cr,re,join (t.ed.map (·.1)) [32]] oS ?_) ?_) (Bl fb)
     .intro s g;simp only[e9,lv,or_false]at g;rcases g with rfl|rfl|rfl|rfl|rfl|rfl|rfl|rfl;all_goals omega
     exact Ix
section
variable{P:Program}{T:Br}{H:Hw}
def Hp(a:Act)(d t:Nat)(u:Value):(a.put (some d) u).eval (.tmp t)=if d=t/\d<a.tmps.size then u else a.eval (.tmp t):=by
 simp only[Act.eval,Act.put,vw,Array.getElem?_setIfInBounds];by_cases h:d=t
 .subst h;by_cases b:d<a.tmps.size
  .simp[b]
  .rw[cj (by omega:a.tmps.size<=d)];simp[b]
 .simp[h]
def Du(a:Act)(d:Nat)(u:Value):(a.put (some d) u).tmps.size=a.tmps.size:=by simp[Act.put]
def bO{w:World}{S:Δ}{σ:Φ}:∀(l:List (Nat×Value)) {a:Act} {c:Δ},(∀p∈l,σ[p.1]? =some .any)->bm σ a.tmps.toList->Ac w S σ a.tmps.toList c->
 ∃e,bm σ (l.foldl (λa p=>a.put (some p.1) p.2) a).tmps.toList/\Ac w S σ (l.foldl (λa p=>a.put (some p.1) p.2) a).tmps.toList e/\∀b,e b<=c b
 |[],a,c,h,hrf,hr=>⟨c,hrf,hr,λ_=>bx _⟩
 |(d,u)::l,a,c,h,hrf,hr=>by have f:=h (d,u) oS;have g:σ.set d .any=σ:=Ag f;obtain⟨c1,g1,g2⟩:=hr.put (y:=.any) (u:=u) (cy:=λ_=>0) (.any (.nil Al)) d (ab.1 f).1;have g3:=hrf.set d u (y:=.any) rfl;rw[g]at g1 g3;obtain⟨e,k1,k2,k3⟩:=bO l (a:=a.put (some d) u) (λp i=>h p (nh _ i)) (by rw[E4];exact g3) (by rw[E4];exact g1);exact⟨e,k1,k2,λb=>by have:=k3 b;have:=g2 b;omega⟩
def iO:∀(l:List (Nat×Value)) (a:Act),(l.foldl (λa p=>a.put (some p.1) p.2) a).tmps.size=a.tmps.size
 |[],a=>rfl
 |p::l,a=>(iO l _).trans (Du _ _ _)
def Ph:∀(l:List (Nat×Value)) (a:Act),(l.foldl (λa p=>a.put (some p.1) p.2) a).defers=a.defers
 |[],a=>rfl
 |p::l,a=>(Ph l _).trans (G5 _ _ _)
def ME{w:World}{S c:Δ}{e k:Nat}{es:Φ}{v:Value}(h:Ac w S [.mine e k es] [v] c):Ac w S [.row e k es] [v] c:=by
 cases h with
 |dt h=>exact .ge h
 |mine hn hcap hk hb hs' hS h1 h0 ho h hc=>exact .row hn hcap hk hb hs' hS h1 h0 ho h hc
def MF{w:World}{S c:Δ}{e k:Nat}{es:Φ}{v:Value}(h:Ac w S [.row e k es] [v] c):Ac w S [.mine e k es] [v] c:=by
 cases h with
 |ge h=>exact .dt h
 |row hn hcap hk hb hs' hS h1 h0 ho h hc=>exact .mine hn hcap hk hb hs' hS h1 h0 ho h hc
def Ac.jg{w:World}{S c:Δ}{xs:Φ}{vs:ϴ}(h:Ac w S xs vs c)(k:Nat):∃d,Ac w S (xs.set k .any) vs d/\∀b,d b<=c b:=by
 rcases cq k xs.length with a|a
 .obtain⟨_,_,c2,_,_,e,f⟩:=h.take k (ac a);exact⟨c2,e,λb=>by have:=f b;omega⟩
 .rw[sy a];exact⟨c,h,λ_=>bx _⟩
def eval_at{a:Act}{d:Nat}{v:Value}(b:d<a.tmps.size)(h:a.eval (.tmp d)=v):a.tmps.toList[d]? =some v:=by simp only[Act.eval,vw]at h;rw[ak];simp[b]at h⊢;exact h
variable{ops:Ϡ}{f:Nat->Nat}{C:World->Prop}{Q:Exit->Act->World->Prop}{a:Act}{w:World}{l:Θ}
def kK{i d:Nat}{b:Op}{v:Value}(h:∃o,ops[i]? =some o/\o.dst=some d/\o.op=b/\o.guard=none)(c:f i=0)(e:∀o:Oper,o.op=b->∀w,(execOp a.eval o).run P w=.ok (.value v) w)(g:wpC P ops f C Q l (a.put (some d) v) w):wpC P ops f C Q (i::l) a w:=by obtain⟨o,h1,j,k,m⟩:=h;exact⟨o,h1,.inl ⟨c,v,.inl ⟨by simp[wanted,m],e o k⟩,by rw[j];exact g⟩⟩
def PD{i d:Nat}{b:Op}{v:Value}(h:∃o,ops[i]? =some o/\o.dst=some d/\o.op=b/\o.guard=none)(c:f i=1)(e:C w)(g:∀o:Oper,o.op=b->∀w,C w->(execOp a.eval o).run P w=.ok (.value v) w)(j:wpC P ops f C Q l (a.put (some d) v) w):wpC P ops f C Q (i::l) a w:=by obtain⟨o,h1,k,m,n⟩:=h;exact⟨o,h1,.inr (.inl ⟨c,e,v,.inl ⟨by simp[wanted,n],g o m⟩,by rw[k];exact j⟩)⟩
def PZ{i:Nat}{d:Γ}{b:Op}(h:∃o,ops[i]? =some o/\o.dst=d/\o.op=b/\o.guard=none)(c:f i=2)(hk:∀o:Oper,o.dst=d->o.op=b->o.wp P a w (λa w=>C w/\wpC P ops f C Q l a w) Q):wpC P ops f C Q (i::l) a w:=by obtain⟨o,h1,h2,h3,h4⟩:=h;refine⟨o,h1,.inr (.inr (.inl ⟨c,?_⟩))⟩;exact AgU
def RO{i:Nat}{d:Γ}{b:Op}(h:∃o,ops[i]? =some o/\o.dst=d/\o.op=b/\o.guard=none)(c:3<=f i/\f i≠4)(hk:∀o:Oper,o.dst=d->o.op=b->o.wp P a w (wpC P ops f C Q l) Q):wpC P ops f C Q (i::l) a w:=by obtain⟨o,h1,h2,h3,h4⟩:=h;refine⟨o,h1,.inr (.inr (.inr (.inl ⟨c.1,c.2,?_⟩)))⟩;exact AgU
end
def Κ:Df prog 62 WR:=b3 _ _ (by simp only[kD])
def j_:Df prog 68 v7:=b3 _ _ (by simp only[kD])
def g_:Df prog 71 xb:=b3 _ _ (by simp only[kD])
def mn:Df prog 101 WS:=b3 _ _ (by simp only[kD])
def AiL(i:Nat):Nat:=[0,1,0,0,1,0,0,0,2,2].getD i 3
def κ:Θ:=[0,1,2,3,4,5,6,7,8,9,10,11,12]
def f132:List (Option Nat×Op):=[(some 29,.fieldAddr 71 (.tmp 6) 3),(some 30,.load 68 (.tmp 29)),(some 31,.move (.tmp 8)),(some 32,.fieldAddr 71 (.tmp 6) 3),(some 33,.load 68 (.tmp 32)),(some 34,.move (.tmp 8)),(some 35,.indexAddr 68 (.tmp 33) (.tmp 34)),(some 36,.fieldAddr 101 (.tmp 35) 3),(some 37,.load 62 (.tmp 36)),(some 38,.call ⟨.value (.func 193),#[.tmp 37],#[62]⟩),(some 39,.indexAddr 68 (.tmp 30) (.tmp 31)),(some 40,.fieldAddr 101 (.tmp 39) 3),(none,.store 62 (.tmp 40) (.tmp 38))]
def Abs{a:Ϡ}{l:List (Option Nat×Op)}(h:a.toList.map (λo=>((o.dst,o.op),o.guard))=l.map λp=>(p,none)){i:Nat}{d:Γ}{b:Op}(e:l[i]? =some (d,b)):∃o,a[i]? =some o/\o.dst=d/\o.op=b/\o.guard=none:=by
 have:=fq (·[i]?) h;simp only[ao,e,pj,ak]at this
 cases c:a[i]? with
 |none=>rw[c]at this;simp at this
 |some o=>rw[c]at this;simp at this;exact⟨o,rfl,this.1.1,this.1.2,this.2⟩
def HF{a:Act}{o:Oper}{q t:Nat}{f:TI}{g:Addr}(b:Df prog t f)(c:f.td.ig[3]? =some (3,some 1,some false))(i:a.eval (.tmp q)=.pointer (some g))(j:o.op=.fieldAddr t (.tmp q) 3)(w:World):(execOp a.eval o).run prog w=.ok (.value (.pointer (some (g.add 3)))) w:=by obtain⟨m,n,k,d,h,e,l⟩:=Mu b c;unfold execOp;simp[j,i,Instr.fieldAt,fp k,d,Instr.sureAddr,jR e (by decide:(1:Nat)≠0),h]
def RP{a:Act}{o:Oper}{q b:Nat}{v:Value}(h1:a.eval (.tmp q)=.pointer (some ⟨b,3,none⟩))(d:o.op=.load 68 (.tmp q))(w:World)(e:CF [(b,3,v)] w):(execOp a.eval o).run prog w=.ok (.value v) w:=by
 have h:=VJ (w:=w) (b:=b) (off:=3) (cv:=[v]) j_ rfl (λj u c=>by
  match j,c with
  |0,c=>cases c;exact e (b,3,v) oS)
 unfold execOp;simp only[d,h1,ft,h,gq];rfl
def MG {H:Hw} {id:Nat} {O:Ϡ} {Q:Exit->Ω} {γ σ cs es B x0 x4:Φ} {j:Nat} (hQ:Q .normal γ σ)
 (h6:σ.getD 6 .any=.box 71 cs) (h3:cs.getD 3 .any=.mine 101 5 es) (h8:σ.getD 8 .any=.raw (.int .i64 (j:Int))) (hj:j<es.length) (he:es.getD j .any=.agg (x0++ .sl 9 B::x4)) (hx:x0.length=3/\x4.length=1) (hc:QA 193 [.sl 9 B] (λr=>r=.sl 9 B))
 (hl:σ.length=48:=by rfl) (hn:σ.all (λx=>Lj 6 x&&Lj 30 x)=true:=by rfl) (ha:(List.range' 29 12).all (λk=>match σ.getD k .nil with|.any=>true|_=>false)=true:=by rfl) (hf:O.toList.map (λo=>((o.dst,o.op),o.guard))=f132.map λp=>(p,none):=by rfl) (hdr:pD O AiL κ=true:=by decide+kernel):
 Cp prog TT H (.ext (.region id O true)) Q γ σ:=λR w0 S0 c0 a w T=>by
 have m:∀{i:Nat} {d:Γ} {op:Op},f132[i]? =some (d,op)->∃o,O[i]? =some o/\o.dst=d/\o.op=op/\o.guard=none:=λhi=>Abs hf hi;refine wp_mono (Q:=QR R w0 S0 c0 (λγ' U=>γ'=γ/\U=σ) (λ_ _=>False)) (wp_region_any Cl ?_) (λe a w h=> ?_);rotate_left
 .match e,h with
  |.normal,⟨_,_,⟨rfl,rfl⟩,h2⟩=>exact⟨_,_,hQ,h2⟩
  |.panic [⟨v,false,false⟩],⟨_,_,h,_⟩=>exact h.elim
 have T:=T.drew;change Ah R w0 S0 c0 γ σ a w.drew at T;change wpAny _ _ _ _ _ _ _ w.drew;generalize w.drew=w at T⊢;obtain⟨Sx,cx,⟨hrf,S,c,hr,h1,hd,hz,hs⟩,back⟩:=T.open;obtain⟨b,cur,d0,c2,hev,hb,hS,hcs,hone,hr2,hcc,hv⟩:=Ha hr h6;obtain⟨v,e1,e2,hcv,hm,W,hde⟩:=hcs.take 3 (A8 hcs h3 oS);have hne:es≠[]:=by rintro rfl;simp at hj
 obtain⟨g,cap,rfl⟩:∃g cap,v=.slice (some ⟨g,0,none⟩) es.length cap:=by
  cases hm with
  |dt _=>exact cw rfl hne
  |mine=>exact⟨_,_,rfl⟩
 have t:a.tmps.size=48:=by have:=hr.length;simp at this;omega
 have Y_:a.eval (.tmp 8)=.int .i64 (j:Int):=by obtain⟨u,k1,k2,hu,hy,_⟩:=hr.take 8 (A8 hr h8 oS);rw[Cu hu,(Az hy).1]
 have hcell:w.cell? ⟨b,3,none⟩=some (.slice (some ⟨g,0,none⟩) es.length cap):=by rw[cell_of_row w b 3 cur 71 (0,0) hb];simpa using hcv
 have ix:∀{a:Act} {o:Oper} {q y:Nat},a.eval (.tmp q)=.slice (some ⟨g,0,none⟩) es.length cap->a.eval (.tmp y)=.int .i64 (j:Int)->o.op=.indexAddr 68 (.tmp q) (.tmp y)->∀w,(execOp a.eval o).run prog w=.ok (.value (.pointer (some ⟨g,j*5,none⟩))) w:=λ{a o q y} h1 h2 f w=>by
  obtain⟨inf,zz,dd,g1,_,_,g4,_,g6,g7⟩:=j_.get;have hd:dd=.slice 101:=D7 (P:=prog) (by rw[g7];rfl);subst hd;obtain⟨il,_,_,g1',_,_,g4',_⟩:=mn.get;have hsz2:(sizeOf 101).run prog w=.ok 5 w:=by simp[sizeOf,typeInfo,g1',g4'];rfl
  have hj0:(0:Int)<=(j:Int):=om;have hj1:(j:Int)<(es.length:Int):=om;unfold execOp;simp only[f,h1,h2,Instr.indexAt,ft,asIntOf,ia,gq,fp g6,hj0,hj1,and_self,if_true,hsz2,Fo,jp,nj,pq]
 have mv:∀{a:Act} {o:Oper} {v:Value},a.eval (.tmp 8)=v->o.op=.move (.tmp 8)->∀w,(execOp a.eval o).run prog w=.ok (.value v) w:=λ{a o v} h1 f w=>by unfold execOp;simp only[f,h1,ia]
 have hC:CF [(b,3,.slice (some ⟨g,0,none⟩) es.length cap)] w:=λp hp=>by simp at hp;subst hp;exact hcell
 refine U5 (C:=CF [(b,3,.slice (some ⟨g,0,none⟩) es.length cap)]) hdr (λc a d v w h=>xP h) ?_;unfold κ;refine kK (m (i:=0) rfl) rfl (λo f=>HF g_ rfl hev f) ?_;refine PD (m (i:=1) rfl) rfl hC (λo f=>RP (by simp[Hp,Du,t,Fo]) f) ?_;refine kK (m (i:=2) rfl) rfl (λo f=>mv (by simp only[Hp,Du,t];simp;exact Y_) f) ?_;refine kK (m (i:=3) rfl) rfl (λo f=>HF g_ rfl (by simp only[Hp,Du,t];simp;exact hev) f) ?_;refine PD (m (i:=4) rfl) rfl hC (λo f=>RP (by simp[Hp,Du,t,Fo]) f) ?_;refine kK (m (i:=5) rfl) rfl (λo f=>mv (by simp only[Hp,Du,t];simp;exact Y_) f) ?_;refine kK (m (i:=6) rfl) rfl (λo f=>ix (by simp[Hp,Du,t]) (by simp[Hp,Du,t]) f) ?_;refine kK (m (i:=7) rfl) rfl (λo f=>HF mn rfl (by simp[Hp,Du,t];rfl) f) ?_
 have W_:∀k,29<=k->k<=40->σ[k]? =some .any:=λk h1 h2=>by
  have:=ib.1 ha k (by rw[List.mem_range'];exact⟨k-29,om,om⟩);rw[fk]at this;have hk:k<σ.length:=om;rw[ac hk]at this⊢;simp only[jy]at this;split at this
  .rename_i h;rw[h]
  .cases this
 generalize hV:Value.slice (some ⟨g,0,none⟩) es.length cap=V at *;generalize hpf:Value.pointer (some ((⟨g,j*5,none⟩:Addr).add 3))=pf at *;obtain⟨l,N⟩:∃l:List (Nat×Value),l=[(29,.pointer (some ((⟨b,0,none⟩:Addr).add 3))),(30,V),(31,.int .i64 (j:Int)),(32,.pointer (some ((⟨b,0,none⟩:Addr).add 3))),(33,V),(34,.int .i64 (j:Int)),(35,.pointer (some ⟨g,j*5,none⟩)),(36,pf)]:=⟨_,rfl⟩;obtain⟨c3,ry,hr3,J⟩:=bO l (σ:=σ.set 6 .any) (λp hp=>by subst N;simp only[e9,lv,or_false]at hp;rcases hp with rfl|rfl|rfl|rfl|rfl|rfl|rfl|rfl<;>(rw[ca oS];exact W_ _ oS oS)) (hrf.less 6 (y:=.any) rfl) hr2;have R_:=Ph l a;have hsA:=iO l a;have g30:(l.foldl (λa p=>a.put (some p.1) p.2) a).eval (.tmp 30)=V:=by rw[N];simp[Hp,Du,t]
 have g36:(l.foldl (λa p=>a.put (some p.1) p.2) a).eval (.tmp 36)=pf:=by rw[N];simp[Hp,Du,t]
 have g31:(l.foldl (λa p=>a.put (some p.1) p.2) a).eval (.tmp 31)=.int .i64 (j:Int):=by rw[N];simp[Hp,Du,t]
 have g6:(l.foldl (λa p=>a.put (some p.1) p.2) a).eval (.tmp 6)=.pointer (some ⟨b,0,none⟩):=by rw[N];simp only[lc,oq,Hp,Du,t];simp;exact hev
 have hgo:wpC prog O AiL (CF [(b,3,V)]) (QR R w0 S0 c0 (λγ' U=>γ'=γ/\U=σ) (λ_ _=>False)) [8,9,10,11,12] (l.foldl (λa p=>a.put (some p.1) p.2) a) w:=by
  generalize (l.foldl (λa p=>a.put (some p.1) p.2) a)=A at *;rw[t]at hsA;rw[hd]at R_;have v30:=eval_at om g30;have v36:=eval_at om g36;have v31:=eval_at om g31;have v6:=eval_at om g6;have hn':∀x∈σ,Lj 6 x=true/\Lj 30 x=true:=λx hx=>by simpa using ib.1 hn x hx
  have X:∀k,29<=k->k<=40->(σ.set 6 .any)[k]? =some .any:=λk h1 h2=>by rw[ca om];exact W_ k h1 h2
  have hb0:c2 b=0/\e1 b=0/\e2 b=0:=by have:=h1 b;have:=hcc b;have:=hde b;simp at *;omega
  have hr4:=hr3.fill (ME hm) 30 (X 30 om om);rw[Ag v30]at hr4;have ta:=(hr4.fill (y:=.pref 30 5 j 3) (u:=pf) (cy:=λ_=>0) (.pref (.nil Al)) 36 (by rw[ca om];exact X 36 om om)).fill (C2 (x:=.int .i64 (j:Int)) rfl Al) 31 (by rw[ca om,ca om];exact X 31 om om);rw[Ag v36,Ag v31]at ta;have hrow:∀{I:Φ},bm I A.tmps.toList->I.all (Lj 30)=true->bm (I.set 30 (.row 101 5 es)) A.tmps.toList:=λh hq=>by have:=h.j5 (d:=30) 101 5 es V hq;rwa [Ag v30]at this
  have hal:(σ.set 6 .any).all (Lj 30)=true:=ib.2 λx hx=>by
   rcases ww hx with h|rfl
   .exact(hn' x h).2
   .rfl
  have hlA:A.tmps.toList.length=48:=by simpa using hsA
  have qe:=((hrow ry hal).m6 (d:=36) (s:=30) (k:=5) (j:=j) (o:=3) (b:=g) (n:=es.length) (cap:=cap) oD (by rw[v30,<-hV]) (by simp[hlA,hl])).set 31 (.int .i64 (j:Int)) (y:=.raw (.int .i64 (j:Int))) rfl;have zc:Value.pointer (some ⟨g,j*5+3,none⟩)=pf:=by rw[<-hpf,Fo]
  rw[zc,Ag v36,Ag v31]at qe;generalize E:(((σ.set 6 .any).set 30 (.row 101 5 es)).set 36 (.pref 30 5 j 3)).set 31 (.raw (.int .i64 (j:Int)))=σ2 at *;have hl2:σ2.length=48:=by rw[<-E];simp[hl]
  have G_:σ2.getD 30 .any=.row 101 5 es:=by rw[<-E];simp[fk,bq,hl]
  have s36:σ2.getD 36 .any=.pref 30 5 j 3:=by rw[<-E];simp[fk,bq,hl]
  have s31:σ2.getD 31 .any=.raw (.int .i64 (j:Int)):=by rw[<-E];simp[fk,bq,hl]
  have ka:Bc R w S _ σ2 A w:=⟨qe,S,_,ta,λx=>by have:=h1 x;have:=hcc x;have:=hde x;have:=J x;simp;omega,R_,hz,bt w S _⟩;have hbs:b<w.heap.size:=(ah.1 hb).1;generalize hC5:(λx=>0+(0+(e1 x+c3 x)))=c5 at ka;have zu:∀x,c5 x=e1 x+c3 x:=λx=>by rw[<-hC5];simp
  have hSf:Sf [(b,3,V)] w S c5:=λp hp=>by simp at hp;subst hp;exact .inr ⟨by show c5 b=0;have:=zu b;have:=J b;omega,hbs⟩
  have V_:∀{U:Φ} {a':Act} {w':World},Bc R w S c5 U a' w'->CF [(b,3,V)] w':=λ⟨_,_,_,_,_,_,_,hs⟩=>hC.keep hSf hs;have hpc:aq (cellsOf (es.getD j .any)) 3 1=[.sl 9 B]:=by rw[he];obtain⟨k1,k2⟩:=hx;simp only[cellsOf,aq,<-k1,List.drop_left];rfl
  refine PZ (m (i:=8) rfl) rfl λo T_ f=>Ba (λA1 w1 ⟨⟨σ3,h3',ur⟩,hk3⟩=>⟨V_ ur,?_⟩) (I9 (Yo (K:=λI=>I=σ2.set 37 (.sl 9 B)) f Κ ka s36 (by
   rw[G_,T_];refine⟨rfl,hj,oD,?_⟩;rw[show dh WR=1 from rfl,hpc];rfl)))
  subst h3'
  refine PZ (m (i:=9) rfl) rfl λo S_ f=>Ba (λA2 w2 ⟨⟨C_,h4',Y⟩,hk4⟩=>⟨V_ Y,?_⟩) (I9 (Wa (c:=⟨.value (.func 193),#[.tmp 37],#[62]⟩) (K:=λI=>I=(σ2.set 37 (.sl 9 B)).set 38 (.sl 9 B)) f rfl ur (by
   rw[S_];have s37:(σ2.set 37 (.sl 9 B)).getD 37 .any=.sl 9 B:=by simp[fk,hl2]
   have hag:bi (σ2.set 37 (.sl 9 B)) [.tmp 37]=([.sl 9 B],σ2.set 37 (.sl 9 B)):=by simp only[bi,bj,d7,s37,pl,Qj,view,v2,v1,lu]
   refine⟨rfl,?_⟩;rw[show(#[Operand.tmp 37]:Array Operand).toList=[.tmp 37]from rfl,hag];exact hc.mono λr h=>by subst h;rfl)))
  subst h4';have D:∀{k d:Nat} {x:AV} {I:Φ},d≠k->I.getD k .any=x->∀y,(I.set d y).getD k .any=x:=λhne h y=>by rw[fk]at h⊢;rw[ca hne];exact h
  generalize F:(σ2.set 37 (.sl 9 B)).set 38 (.sl 9 B)=rm at Y;have yo:rm.length=48:=by rw[<-F];simp[hl2]
  have t30:rm.getD 30 .any=.row 101 5 es:=by rw[<-F];exact D oD (D oD G_ _) _
  have t31:rm.getD 31 .any=.raw (.int .i64 (j:Int)):=by rw[<-F];exact D oD (D oD s31 _) _
  have t38:rm.getD 38 .any=.sl 9 B:=by rw[<-F];simp[fk,hl2]
  refine RO (m (i:=10) rfl) oD λo vj f=>Ba (λA5 w5 ⟨⟨σ6,h6',yz⟩,hk6⟩=> ?_) (I9 (fE (K:=λI=>I=rm.set 39 (.pref 30 5 j 0)) b3 f Y (s:=30) (e:=101) (k:=5) (es:=es) (by unfold Gz;rw[t30]) (by
   rw[vj];simp only[Qk,kD,show v7.td.elem=some 101 from rfl,bj,t31,pl,kB];exact⟨rfl,om,by simpa using hj,oD,rfl⟩)))
  subst h6'
  refine RO (m (i:=11) rfl) oD λo vh f=>Ba (λA6 w6 ⟨⟨σ7,h7',Z⟩,hk7⟩=> ?_) (I9 (Yn (K:=λI=>I=(rm.set 39 (.pref 30 5 j 0)).set 40 (.pref 30 5 j 3)) f mn yz (q:=39) (s:=30) (k:=5) (j:=j) (off:=0) (by simp[fk,yo]) (by
   rw[D oD t30 _,vh];exact⟨oD,oD,rfl⟩)))
  subst h7';generalize G:(rm.set 39 (.pref 30 5 j 0)).set 40 (.pref 30 5 j 3)=pw at Z;have lτ2:pw.length=48:=by rw[<-G];simp[yo]
  have s40:pw.getD 40 .any=.pref 30 5 j 3:=by rw[<-G];simp[fk,yo]
  have F_:pw.getD 38 .any=.sl 9 B:=by rw[<-G];exact D oD (D oD t38 _) _
  have rq:pw.getD 30 .any=.row 101 5 es:=by rw[<-G];exact D oD (D oD t30 _) _
  refine RO (m (i:=12) rfl) oD λo vg f=>Ba (λA3 w3 ⟨⟨wi,h5',uq⟩,hk5⟩=> ?_) (I9 (Yp (K:=λI=>I=pw) f Κ Z (q:=40) (s:=30) (k:=5) (j:=j) (off:=3) s40 (by
   have ham:d7 pw (.tmp 38)=pw:=by simp only[d7,F_,Qj]
   have hlf:bv (cellsOf (es.getD j .any)) 3 1 [.sl 9 B]=x0++ .sl 9 B::x4:=by rw[he];obtain⟨k1,k2⟩:=hx;simp only[cellsOf,bv,<-k1,qq];simp
   have hrr:pw.set 30 (.row 101 5 es)=pw:=Ag (A8 Z.2.choose_spec.choose_spec.1 rq oS);rw[ham,rq,vg];simp only[bj,F_,pl,view,v2,v1];refine⟨rfl,hj,oD,rfl,rfl,?_⟩;show _=_;rw[show WR.size=1 from rfl,show cellsOf (AV.sl 9 B)=[.sl 9 B]from rfl,hlf];have hes:es.set j (li (es.getD j .any) (x0++ .sl 9 B::x4))=es:=by have hg:=he;rw[fk,ac hj]at hg;simp only[jy]at hg;rw[he];exact Ag (by rw[ac hj,hg];rfl)
   rw[hes];exact hrr)))
  rw[h5']at uq;obtain⟨y6,S',c6,M_,h16,hd6,yr,L⟩:=uq;obtain⟨v',f1,f2,hv',hm',y8,wt⟩:=M_.take 30 (x:=.row 101 5 es) (A8 M_ rq oS);have kp:∀k,k=30\/k=6->A3.tmps[k]? =A.tmps[k]? :=λk hk=>by rw[hk5 k (by rw[vg];simp),hk7 k (by rw[vh];simp;omega),hk6 k (by rw[vj];simp;omega),hk4 k (by rw[S_];simp;omega),hk3 k (by rw[T_];simp;omega)]
  have hvV:v'=V:=by rw[ak,kp 30 (.inl rfl),<-ak,v30]at hv';injection hv' with h;exact h.symm
  subst hvV;have w6:A3.tmps.toList[6]? =some (.pointer (some ⟨b,0,none⟩)):=by rw[ak,kp 6 (.inr rfl),<-ak,v6]
  obtain⟨d1,z,O_⟩:=y8.jg 31;obtain⟨d2,z,N_⟩:=z.jg 36;obtain⟨d3,z,vc⟩:=z.jg 37;obtain⟨d4,z,vb⟩:=z.jg 38;obtain⟨d5,z,hl12⟩:=z.jg 39;obtain⟨d6,z,va⟩:=z.jg 40
  have hτ:((((((pw.set 30 .any).set 31 .any).set 36 .any).set 37 .any).set 38 .any).set 39 .any).set 40 .any=σ.set 6 .any:=by
   apply rh;intro i;rw[<-G,<-F,<-E];by_cases hi:29<=i/\i<=40
   .rw[X i hi.1 hi.2];have g:=X i hi.1 hi.2;have:i=30\/i=31\/i=36\/i=37\/i=38\/i=39\/i=40\/(i≠30/\i≠31/\i≠36/\i≠37/\i≠38/\i≠39/\i≠40):=om;rcases this with rfl|rfl|rfl|rfl|rfl|rfl|rfl|hn;iterate 7 simp[bq,hl]
    iterate 14 rw[ca om]
    exact g
   .iterate 14 rw[ca om]
  have uv:=((((((y6.less 30 (y:=.any) rfl).less 31 (y:=.any) rfl).less 36 (y:=.any) rfl).less 37 (y:=.any) rfl).less 38 (y:=.any) rfl).less 39 (y:=.any) rfl).less 40 (y:=.any) rfl;rw[hτ]at z uv;have hsame:(σ.set 6 .any).set 6 (.box 71 cs)=σ:=by rw[lu];exact Ag (A8 hr h6 oS)
  have uu:=uv.jd (d:=6) 71 cs (.pointer (some ⟨b,0,none⟩)) (ib.2 λx hx=>by
   rcases ww hx with h|rfl
   .exact(hn' x h).1
   .rfl)
  rw[hsame,Ag w6]at uu;have M:∀x,(if x=b then 1 else 0)+e2 x+c5 x<=c x:=λx=>by have:=hcc x;have:=hde x;have:=zu x;have:=J x;omega
  have hrest':=W.step L λx=>by have:=M x;have:=h1 x;omega
  have hkb:=L.keep b hbs (by have:=zu b;have:=J b;omega)
  have sa:Ac w3 S' [.box 71 cs] [.pointer (some ⟨b,0,none⟩)] (λx=>(if x=b then 1 else 0)+(f1 x+e2 x)):=
   .box (c2:=λ_=>0) (hkb.1.trans hb) (hkb.2.trans hS) (by
    have hcl:=hcs.length;have h3':=A8 hcs h3 oS;have:=hrest'.fill (MF hm') 3 (by rw[List.getElem?_set_self (ab.1 h3').1]);rw[lu,Ag hcv,Ag h3']at this;exact this) hone (.nil Al) (λx=>oS)
  have hrb:=z.fill sa 6 (by rw[List.getElem?_set_self om]);rw[hsame,Ag w6]at hrb;have hfr:=(L.frame (c:=c) (c2:=λx=>c x-c5 x) (λx=>by have:=M x;omega)).drop (c'':=λx=>(if x=b then 1 else 0)+(f1 x+e2 x)+d6 x) (λx=>by have:=M x;have:=wt x;have:=O_ x;have:=N_ x;have:=vc x;have:=vb x;have:=hl12 x;have:=va x;omega);refine⟨γ,σ,⟨rfl,rfl⟩,back _ _ _ ⟨uu,S',_,hrb,λx=> ?_,hd6,yr,hs.trans hfr⟩⟩;have:=M x;have:=wt x;have:=O_ x;have:=N_ x;have:=vc x;have:=vb x;have:=hl12 x;have:=va x;have:=h1 x;rcases cq x w.heap.size with hbx|hbx
  .have:=L.own x hbx;omega
  .have q2:e2 x=0:=by
    rcases jz (e2 x)with h|h
    .exact h
    .have:=W.lt x h;omega
   have:x≠b:=om;have:=h16 x;simp only[q2,ar ‹x≠b›];omega
 subst N;exact hgo
def HG{P:Program}{b:Ϡ}{Q:Exit->Ϣ}{a:Act}{w:World}{l:Θ}{i d:Nat}{c:Op}{v:Value}(h:∃o,b[i]? =some o/\o.dst=some d/\o.op=c/\o.guard=none)(e:∀o:Oper,o.op=c->(execOp a.eval o).run P w=.ok (.value v) w)(f:wpOps P b Q l (a.put (some d) v) w):wpOps P b Q (i::l) a w:=by obtain⟨o,h1,g,j,k⟩:=h;simp only[wpOps,h1];rw[bn (show wanted o (yielded b a.tmps)=true by simp[wanted,k])];exact .inl (Au (e o j) (by rw[g];exact f))
def Hx:List (Option Nat×Op):=[(some 23,.fieldAddr 71 (.tmp 6) 3),(some 24,.load 68 (.tmp 23)),(some 25,.call ⟨.builtin .len,#[.tmp 24],#[68]⟩),(some 26,.move (.const (.int .i64 0)))]
def Af5 {H:Hw} {id:Nat} {f:Ϡ} {Q:Exit->Ω} {C g U es:Φ} (hQ:Q .normal C ((g.set 25 (.raw (.int .i64 (es.length:Int)))).set 26 (.raw (.int .i64 0))))
 (h6:g.getD 6 .any=.box 71 U) (h3:U.getD 3 .any=.mine 101 5 es) (hl:g.length=48:=by rfl) (D:g.getD 23 .nil=.any:=by rfl) (E:g.getD 24 .nil=.any:=by rfl) (V:f.toList.map (λo=>((o.dst,o.op),o.guard))=Hx.map λp=>(p,none):=by rfl):Cp prog TT H (.ext (.region id f false)) Q C g:=λbg w0 S0 c0 a w F=>by
 have j:∀{i:Nat} {d:Γ} {W:Op},Hx[i]? =some (d,W)->∃o,f[i]? =some o/\o.dst=d/\o.op=W/\o.guard=none:=λhi=>Abs V hi;refine wp_region ?_;have q:f.size=4:=by have:=fq List.length V;simpa[Hx]using this
 obtain⟨Sx,cx,⟨G,S,c,I,h1,J,hz,hs⟩,r⟩:=F.open;obtain⟨b,K,d0,c2,L,hb,hS,s,X,hr2,hcc,hv⟩:=Ha I h6;obtain⟨v,e1,e2,hcv,hm,M,hde⟩:=s.take 3 (A8 s h3 oS)
 obtain⟨A,e,rfl⟩:∃A e,v=.slice A es.length e:=by
  cases hm with
  |dt _=>exact⟨_,_,rfl⟩
  |mine=>exact⟨_,_,rfl⟩
 have t:a.tmps.size=48:=by have:=I.length;simp at this;omega
 have hC:CF [(b,3,.slice A es.length e)] w:=λp u=>by simp at u;subst u;show w.cell? ⟨b,3,none⟩=_;rw[cell_of_row w b 3 K 71 (0,0) hb];simpa using hcv
 rw[q];refine HG (j (i:=0) rfl) (λo n=>HF g_ rfl L n w) ?_;refine HG (j (i:=1) rfl) (λo n=>RP (by simp[Hp,Du,t,Fo]) n w hC) ?_;refine HG (i:=2) (v:=.int .i64 (es.length:Int)) (j (i:=2) rfl) (λo n=>by obtain⟨inf,zz,dd,g1,_,_,g4,_,g6,g7⟩:=j_.get;have J:dd=.slice 101:=D7 (P:=prog) (by rw[g7];rfl);subst J;unfold execOp;simp[n,resolve,Hp,Du,t,invoke,builtin,Builtin.len_,fp g6,goInt]) ?_;refine HG (i:=3) (v:=.int .i64 0) (j (i:=3) rfl) (λo n=>by unfold execOp;simp only[n,Act.eval,ia]) ?_
 have l:∀k,g.getD k .nil=.any->g[k]? =some .any:=λk h=>by
  rw[fk]at h
  cases Y:g[k]? with
  |none=>rw[Y]at h;cases h
  |some x=>rw[Y]at h;simp at h;rw[h]
 obtain⟨c3,z,N,m⟩:=bO [(23,.pointer (some ((⟨b,0,none⟩:Addr).add 3))),(24,.slice A es.length e)] (λp u=>by
  simp only[e9,lv,or_false]at u;rcases u with rfl|rfl
  .exact l _ D
  .exact l _ E) G I
 have O:=Ph [(23,.pointer (some ((⟨b,0,none⟩:Addr).add 3))),(24,.slice A es.length e)] a;obtain⟨c4,R,Z⟩:=N.am (C2 (x:=.int .i64 (es.length:Int)) rfl Al) (some 25);obtain⟨c5,T,l5⟩:=R.am (C2 (x:=.int .i64 0) rfl Al) (some 26);have B:=(z.am (some 25) (.int .i64 (es.length:Int)) (y:=.raw (.int .i64 (es.length:Int))) rfl).am (some 26) (.int .i64 0) (y:=.raw (.int .i64 0)) rfl;exact⟨C,_,hQ,r _ _ _ ⟨B,S,c5,T,λx=>by have:=h1 x;have:=m x;have:=Z x;have:=l5 x;omega,by rw[G5,G5];exact O.trans J,hz,hs.drop λx=>by have:=m x;have:=Z x;have:=l5 x;omega⟩⟩
section
variable[Env]
mutual
def fz:AV->AV
 |.mine _ k es=>.sl k es
 |.own _ k es=>.sl k es
 |.agg cs=>.agg (HJ cs)
 |.a6 cs=>.a6 (HJ cs)
 |x=>x
def HJ:Φ->Φ
 |[]=>[]
 |x::xs=>fz x::HJ xs
end
def Ao6(x:AV):pb (fz x)=pb x:=by cases x<;>simp[fz,pb]
def Fz(S s c:Δ):Prop:=∀x,S x<=s x/\(c x=0\/S x≠0->s x=S x)
def Fz.refl(S c:Δ):Fz S S c:=λx=>⟨bx _,λ_=>rfl⟩
section
variable{w:World}{S:Nat->Nat}
def Ac.X_{S' c d:Δ}{xs:Φ}{vs:ϴ}(h:Ac w S xs vs d)(k:Fz S S' c)(a:∀b,0<d b->c b=0):Ac w S' xs vs d:=
 h.keep (λ_ _ _=>rfl) (λb=>(k b).1) λb e=>⟨rfl,(k b).2 (.inl (a b e))⟩
def Al3{s e c c1 c2 f g:Δ}{j y:Φ}{u v:ϴ}(k1:Fz S s c1)(k2:Fz S e c2)(h1:Ac w s j u f)(k:Ac w e y v g)(l:∀b,f b<=c1 b)(m:∀b,g b<=c2 b)(a:∀b,c b=c1 b+c2 b)(h:∀b,c b<=1):
 ∃i,Fz S i c/\Ac w i j u f/\Ac w i y v g:=by
 refine⟨λx=>max (s x) (e x),λx=>⟨?_,λd=> ?_⟩,h1.keep (λ_ _ _=>rfl) (λx=>Nat.le_max_left _ _) λx d=>⟨rfl,?_⟩,k.keep (λ_ _ _=>rfl) (λx=>Nat.le_max_right _ _) λx d=>⟨rfl,?_⟩⟩
 .have:=(k1 x).1;show S x<=max _ _;omega
 .have e1:=(k1 x).2 (d.imp_left λn=>by have:=a x;omega);have e2:=(k2 x).2 (d.imp_left λn=>by have:=a x;omega);show max _ _=_;omega
 .have:=(k2 x).2 (.inl (by have:=a x;have:=h x;have:=l x;omega));have:=(k1 x).1;show max _ _=_;omega
 .have:=(k1 x).2 (.inl (by have:=a x;have:=h x;have:=m x;omega));have:=(k2 x).1;show max _ _=_;omega
mutual
theorem Abt:∀(x:AV) {v:Value} {c:Δ},Ac w S [x] [v] c->(∀b,c b<=1)->∃s f,Fz S s c/\Ac w s [fz x] [v] f/\∀b,f b<=c b
 |.mine e k es,v,c,h,h1=>by
  cases h with
  |dt hn=>exact⟨S,c,.refl _ _,.j4 oD hn,λ_=>bx _⟩
  |mine hn hcap hk hb hs' hS hx1 g hoc hnil hcc=>
   rename_i b i l m c2
   have a:Fz S (upd S b (es.length*k)) c:=λx=>by
    unfold upd;split
    ·rename_i d;subst d;rw[hS];exact⟨gu _,λh=>by have:=hcc x;simp at this;omega⟩
    ·exact ⟨bx _,λ_=>rfl⟩
   have j:Ac w (upd S b (es.length*k)) [.own e k es] [.slice (some ⟨b,0,none⟩) es.length i] c:=
    .own hn hcap hk hb hs' (by simp [upd]) (hx1.X_ a λx d=>cw (g x) om) g hoc (hnil.X_ a λx d=>cw (hnil.zero.2 x) om) hcc
   exact⟨_,_,a,Fp j,λx=>gu _⟩
 |.own e k es,v,c,h,h1=>⟨S,_,.refl _ _,Fp h,λx=>gu _⟩
 |.agg cs,v,c,h,h1=>by
  cases h with
  |agg hcs ho hn hcc=>
   obtain⟨s,f,k1,k2,k3⟩:=AK cs hcs λb=>by have:=h1 b;have:=hcc b;omega
   obtain⟨_,n⟩:=hn.zero;exact⟨s,f,λx=>⟨(k1 x).1,λd=>(k1 x).2 (d.imp_left λg=>by have:=hcc x;omega)⟩,.agg k2 ho (.nil Al) λb=>oS,λb=>by have:=k3 b;have:=hcc b;omega⟩
 |.a6 cs,v,c,h,h1=>by
  cases h with
  |a6 hcs hn hcc=>
   obtain⟨s,f,k1,k2,k3⟩:=AK cs hcs λb=>by have:=h1 b;have:=hcc b;omega
   exact⟨s,f,λx=>⟨(k1 x).1,λd=>(k1 x).2 (d.imp_left λg=>by have:=hcc x;omega)⟩,.a6 k2 (.nil Al) λb=>oS,λb=>by have:=k3 b;have:=hcc b;omega⟩
 |.any,v,c,h,h1|.raw _,v,c,h,h1|.nil,v,c,h,h1|.sl ..,v,c,h,h1|.box ..,v,c,h,h1|.ref ..,v,c,h,h1|.elt _,v,c,h,h1|.row ..,v,c,h,h1|.alias _,v,c,h,h1|.ee ..,v,c,h,h1|.mm ..,v,c,h,h1|.pref ..,v,c,h,h1|.ls ..,v,c,h,h1|.bp ..,v,c,h,h1|.bw ..,v,c,h,h1|.fu ..,v,c,h,h1=>⟨S,c,.refl _ _,h,λ_=>bx _⟩
theorem AK:∀(a:Φ) {d:ϴ} {c:Δ},Ac w S a d c->(∀b,c b<=1)->∃s g,Fz S s c/\Ac w s (HJ a) d g/\∀b,g b<=c b
 |[],d,c,h,h1=>⟨S,c,.refl _ _,h,λ_=>bx _⟩
 |x::a,d,c,h,h1=>by
  obtain⟨v,u,c1,c2,rfl,j,f,e⟩:=h.bu;obtain⟨q,m,k1,g1,l⟩:=Abt x j λb=>by have:=h1 b;have:=e b;omega
  obtain⟨r,n,k2,g2,i⟩:=AK a f λb=>by have:=h1 b;have:=e b;omega
  obtain⟨s,k,o,p⟩:=Al3 k1 k2 g1 g2 l i e h1;exact⟨s,_,k,.cons o p λ_=>rfl,λb=>by have:=l b;have:=i b;have:=e b;show m b+n b<=c b;omega⟩
end
end
def Aa.fz{P:Program}{f:Nat}{d:Φ}{R k:AV->Prop}(h:Aa P f d R)(l:∀r,R r->k (fz r)):Aa P f d k:=by
 obtain⟨o,⟨r,p⟩,q⟩:=h;refine⟨o,⟨_,l r p⟩,λw S s c t u y=>(q w S s c t u y).mono λF G ⟨v,r,H,z,A,B,C,i,m,n,a⟩=> ?_⟩;obtain⟨D,c2,k1,k2,k3⟩:=Abt r i m;refine⟨v,_,D,c2,A,l r B,(Ao6 r).trans C,k2,λb=>cp (k3 b) (m b),⟨λx e=> ?_,λg E=> ?_⟩,a.os,a.tape,a.output,a.size,λx e j=>⟨(a.keep x e j).1,?_⟩,a.cell,λx=>cp (a.le x) (k1 x).1,λx e=>cp (k3 x) (a.own x e)⟩
 .rw[(k1 x).2 (.inl ?_)]
  .exact n x e
  .rcases jz (z x)with h|h
   .exact h
   .have:=i.lt x h;omega
 .obtain⟨g1,g2⟩:=n.g g E;exact⟨og g1 (k1 g.1).1,g2⟩
 .rw[(k1 x).2 (.inl (by have:=a.own x e;omega))];exact(a.keep x e j).2
end
def QI(t:Bq):AV:=.agg [num t.id,str t.au,.own 9 1 (t.tp.map str),.mine 101 5 (t.ed.map Mf),num t.pu,.own 132 5 (t.co.map gW),Af t.re,Af t.tk]
def Af6(M:List Bq)(g:Φ)(c:mF M)(i:Int):QA 132 [I8 M g,num i] (λr=>r=.a6 [Tv ((Ga M i).getD zT),Af (Ga M i).isSome]):=by
 suffices h:QA 132 [I8 M g,num i] (λr=>r=.a6 [QI ((Ga M i).getD zT),Af (Ga M i).isSome])from h.fz λr h=>by subst h;rfl
 have n:((Ga M i).getD zT).ed.length<=1000000/\((Ga M i).getD zT).tp.length<=1000000/\((Ga M i).getD zT).co.length<=1000000/\∀e∈((Ga M i).getD zT).ed,e.2.bs.length<=1000000/\∀b∈e.2.bs,Ht b:=by
  cases h:Ga M i with
  |none=>simp[zT]
  |some t=>have d:=i8 h;exact⟨c.ed t d,c.tp t d,c.co t d,λe k=>⟨c.bs t d e k,c.bk t d e k⟩⟩
 refine ai (G7 [] [3,4,7] [] func132 ?_) ⟨_,rfl⟩;simp only[I8];refine Z0 ?_;refine Zh (Nl M g c.len i) ?_;generalize (Ga M i).getD zT=t at *;simp only[Tv,QI,num,str,Af];refine Z0 ?_;refine aU b3 Dc 2 101 5 ?_;simp only[qv,gx];simp only[go_sem];refine Zu ?_;refine Af5 ?_ rfl rfl;simp only[go_sem];refine Ad (rl [8,17,1,22]) [26] (λm x l=>l=[]/\∃j:Nat,j+m=t.ed.length/\x=[num j]) ⟨t.ed.length,_,_,⟨rfl,0,om,rfl⟩,hent (aa _) ?_⟩ ?_
 .exact Zw
 .rintro m x l ⟨rfl,j,p,rfl⟩;simp only[PU];rcases cq j t.ed.length with a|hge
  .have ej:=eT j t.ed.length;refine Z1 ej ?_;have f:=n.2.2.2 t.ed[j] (ko a);refine MG (j:=j) (es:=t.ed.map Mf) (x0:=[str t.ed[j].1,num t.ed[j].2.rv,str t.ed[j].2.ti]) (x4:=[num t.ed[j].2.ch]) ?_ rfl rfl rfl (by simpa using a) (AD a) ⟨rfl,rfl⟩ ((Q6 _ f.1 f.2).fz λr h=>by rw[h];rfl);have o:=wS j;refine Z1 o ?_;exact Zm (m-1) ⟨rfl,j+1,om,rfl⟩
  have ej:=eU j t.ed.length;exact eP
def Xx(M:List Bq)(t:Φ)(h:M.length<=1000000)(id:Int):QA 28 [I8 M t,num id] (λr=>r=.a6 [Tv ((Ga M id).getD zT),Af (Ga M id).isSome]):=by
 simp only[I8];refine ai (Zt [] [] [] func28 ?_) ⟨_,rfl⟩;refine Ad (rl [6,22]) [6] (λm xs a=>a=[]/\∃i,i+m=M.length/\xs=[num i]/\Ga M id=Ga (M.drop i) id) ⟨M.length,_,_,⟨rfl,0,om,rfl,oS⟩,hent (aa _) ?_⟩ ?_
 .exact Zw
 .exact ϗ
def Pj(M:List Bq)(b:Φ)(c:mF M)(a:Int)(la:Ab):QA 209 [I8 M b,num a,str la] (λr=>r=.a6 [Mf ((Ki ((Ga M a).getD zT).ed la).getD zE),Af (Ki ((Ga M a).getD zT).ed la).isSome]):=by
 have e:((Ga M a).getD zT).ed.length<=1000000:=by
  cases h:Ga M a with
  |none=>simp[zT]
  |some t=>exact c.ed t (i8 h)
 refine ai (G7 [] [] [] func209 ?_) ⟨_,rfl⟩;simp only[I8];refine Z0 ?_;refine Zh (Xx M b c.len a) ?_;generalize (Ga M a).getD zT=t at *;simp only[Tv,num,str,Af];refine Z0 ?_;refine Ad (rl [10,1,27]) [10] (λm xs d=>d=[]/\∃i,i+m=t.ed.length/\xs=[num i]/\Ki t.ed la=Ki (t.ed.drop i) la) ⟨t.ed.length,_,_,⟨rfl,0,om,rfl,oS⟩,hent (aa _) ?_⟩ ?_
 .exact Zw
 .exact ϛ
def Xe(t:Bq):Bool:= !t.re&& !t.tk&&decide (0<t.ed.length)
def AL(t:Bq)(c:t.ed.length<=1000000):QA 373 [Tv t] (λr=>r=Af (Xe t)):=by
 refine ai (G7 [] [] [] func373 ?_) ⟨_,rfl⟩;simp only[Tv,num,str,Af];cases h:t.re
 .cases b:t.tk
  .by_cases hlen:0<t.ed.length
   .have e:=bc (show(0:Int)<(t.ed.length:Int) by omega);have a:Xe t=true:=by simp[Xe,h,b,hlen]
    rw[a];refine Z3 h b e ?_;exact Zx
   .have e:=bd (show¬(0:Int)<(t.ed.length:Int) by omega);have a:Xe t=false:=by simp[Xe,h,b,hlen]
    rw[a];refine Z3 h b e ?_;exact Zx
  .have a:Xe t=false:=by simp[Xe,h,b]
   rw[a];refine Z2 h b ?_;exact Zx
 .have a:Xe t=false:=by simp[Xe,h]
  rw[a];refine Z1 h ?_;exact Zx
def MH{l:Ξ}{t x:Ab}{k:Nat}(h:l[k]? =some x):decide (t∈l.take (k+1))=(decide (t∈l.take k)||(x==t)):=by rw[fc,h];rw[show(x==t)=decide (t=x) by by_cases a:t=x<;>simp[a];exact λh=>a h.symm];simp
def MI(M:List Bq)(q:Φ)(f:mF M)(t:Ab):QA 345 [I8 M q,str t] (λr=>r=num (i1 M t)):=by
 have s:=f.len;simp only[I8];refine ai (Zt [] [] [] func345 ?_) ⟨_,rfl⟩;refine Ad (rl [5,48]) [5,6] (λm a b=>b=[]/\∃i,i+m=M.length/\a=[num (i1 (M.take i) t),num i]) ⟨M.length,_,_,⟨rfl,0,om,rfl⟩,hent (aa _) ?_⟩ ?_
 .exact Zw
 .rintro m a b ⟨rfl,i,w,rfl⟩;simp only[PU];have g:=Tw (M.take i) t;rw[fw]at g;by_cases h:i<M.length;rotate_left
  .have ej:=eU i M.length;exact nT
  have ej:=eT i M.length;have hg:=A_ h;have u:M[i]? =some M[i]:=by simp[h]
  have hs:=FL (t:=t) u;have j:=f.ed M[i] (ko _);have v:=f.tp M[i] (ko _);generalize M[i]=x at *;generalize i1 (M.take i) t=c at *;have l:=wS i;have n:=wS c;simp only[Tv,num,str,Af]at hg;refine Z1 ej ?_;refine Ad (rl [5,2,46]) [5,6,7,8] (λm a b=>b=[]/\∃k,k+m=x.tp.length/\a=[num c,num i,Af (decide (t∈x.tp.take k)),num k]) ⟨x.tp.length,_,_,⟨rfl,0,om,rfl⟩,hent (aa _) ?_⟩ ?_
  .exact Zw
  .rintro m2 a b ⟨rfl,k,y,rfl⟩;simp only[PU,Af];by_cases d:k<x.tp.length;rotate_left
   .have ek:=eU k x.tp.length;rw[Are om];cases hd:decide (t∈x.tp)
    .have o:Rs t x=false:=by simp[Rs,hd]
     rw[o]at hs;refine Z4 ek hg hd l ?_;exact nQ
    .refine Z3 ek hg hd ?_;refine ae (AL x j) ?_;rintro r rfl;simp only[Af];have o:Rs t x=Xe x:=by simp[Rs,Xe,hd]
     rw[o]at hs;cases e:Xe x
     .rw[e]at hs;refine Z4 hg hd e l ?_;exact nQ
     .rw[e]at hs;refine Z5 hg hd e l n ?_;exact nQ
   have ek:=eT k x.tp.length;have p:x.tp[k]? =some x.tp[k]:=by simp[d]
   have hm1:=MH (t:=t) p;have wq:(x.tp.map str).getD k .any=str x.tp[k]:=by simp[fk,d]
   simp only[num,str,Af]at wq;have hwk:=wS k;cases hd:decide (t∈x.tp.take k)
   .exact AhD
   .exact AhD
def AM(N:Nat)(u:N<=1000000):QA 344 [num N] (λr=>r=str (itoa N)):=by
 rw[itoa_nonneg];refine ai (Zt [] [] [] func344 ?_) ⟨_,rfl⟩;refine Ad (rl [0,21]) [0,3] (λm x o=>o=[]/\∃(n:Nat) (s:Ab),n<=N/\s.length+n<=N+1/\m=n+(if s=[]then 1 else 0)/\x=[num n,str s]/\(if s=[]then n=N else decDigits N=(if n=0 then[]else decDigits n)++s)) ⟨_,_,_,⟨rfl,N,[],om,oS,rfl,rfl,oS⟩,hent (aa _) ?_⟩ ?_
 .exact Zw
 .rintro m x o ⟨rfl,n,s,v,t,rfl,rfl,c⟩;simp only[PU,num,str];have d:(n:Int).tmod 10=((n % 10:Nat):Int):=by rw[oa om];omega
  have p:i64.wrap (48+((n % 10:Nat):Int))=48+((n % 10:Nat):Int):=Aw om om;have k:=pU (n:=((n % 10:Nat):Int)) om om;have e:∀b:UInt8,[AV.raw (.int .u8 ((b.toNat:Nat):Int))]=Aj [b]:=λ_=>rfl;have f:∀b:UInt8,List.map view (Aj [b])=Aj [b]:=λ_=>rfl;have g:i64.wrap ((n:Int).tdiv 10)=((n / 10:Nat):Int):=by rw[sq om,Aw om om];omega
  have i:decDigits n=(if n / 10=0 then[]else decDigits (n / 10))++[UInt8.ofNat (48+n % 10)]:=by
   rw[decDigits];by_cases h:n<10
   .rw[dif_pos h,bn om,Nat.mod_eq_of_lt h];rfl
   .rw[dif_neg h,ar om]
  rw[pq]at k;by_cases a:s=[]
  .have j:(s==[])=true:=by simp[a]
   rw[bn a]at c;refine Z7 j d p k e f g ?_;refine Zm (n / 10) ⟨rfl,n / 10,UInt8.ofNat (48+n % 10)::s,om,by simp[a];omega,oS,rfl,?_⟩ (hm:=by rw[bn a];omega);rw[ar oS,<-c,i,a]
  have j:(s==[])=false:=by simp[a]
  by_cases q:n=0
  .have l:=bd (show¬(0:Int)<(n:Int) by omega);refine Z2 j l ?_;simp only[ar a,bn q,fm]at c;rw[c];exact Zx
  have l:=bc (show(0:Int)<(n:Int) by omega);rw[ar a,ar q,i]at c;refine Z8 j l d p k e f g ?_;refine Zm (n / 10) ⟨rfl,n / 10,UInt8.ofNat (48+n % 10)::s,om,by simp;omega,oS,rfl,?_⟩ (hm:=by rw[ar a];omega);rw[ar oS,c,ir];rfl
end Go.Proofs.YtobhohikfmlccaaGreatDoor
