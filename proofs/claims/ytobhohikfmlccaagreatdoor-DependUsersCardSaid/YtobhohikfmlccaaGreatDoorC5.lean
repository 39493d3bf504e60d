/- A slice that lies in a box, lent to a call that may write its elements. -/
import Derived.Scope
import Derived.ChangeBears
import Derived.ChangeShapes
import Derived.Carry
import Derived.Test.YtobhohikfmlccaaGreatDoorProg
import Derived.Test.YtobhohikfmlccaaGreatDoorC4
set_option linter.all false
open Go.RowKit Go.Proofs Tryz Go.Region
namespace Go.Proofs.YtobhohikfmlccaaGreatDoor
section
variable[Env]
variable{q:Ϙ}
def na(e k s t:Nat)(dst:Γ)(a:Φ)(K:Ψ)(r y:AV):Prop:=match y with
 |.row e' k' es'=>e'=e/\k'=k/\K (am (a.set s (.box t [.mine e k es'])) dst r)
 |_=>False
def RX(P:Program)(x:AV)(s d g:Nat)(r:List Operand)(dst:Γ)(K:Ψ)(a:Φ):Prop:=match x with
 |.box Te [.mine e k es]=>Cm P g (.row e k es) (bi ((a.set s .any).set d .any) r).1 (na e k s Te dst (bi ((a.set s .any).set d .any) r).2 K)
 |_=>False
def pQ(P:Program)(T:Br)(t s d g:Nat)(r:List Operand)(dst:Γ)(K:Ψ)(a:Φ):Prop:=
 match T t with
 |some i=>i.td.agg=false/\dst≠some s/\a.length.ble d=false/\RX P (a.getD s .any) s d g r dst K a
 |none=>False
section
variable{P:Program}{T:Br}{w:World}
variable{l:World}{m p:Nat->Nat}{f:Φ}{a:Act}{K:Φ->Prop}
def Yz(hT:Ax P T){B Y L t s d g z c}(G:B.toList=[Y,L])(ho1:Y.op=.load t (.tmp s))(hd1:Y.dst=some d)(hg1:Y.guard=none)(ho2:L.op=.call c)(hg2:L.guard=none)(hc:c.callee=.value (.func g))(hca:c.args.toList=.tmp d::z)(hds:d≠s)(hst:Bc q l m p f a w)(h:pQ P T t s d g z L.dst K f):
 XO P B (List.range B.size) a w (λa' w'=>∃σ',K σ'/\Bc q l m p σ' a' w'/\∀s',Y.dst≠some s'->L.dst≠some s'->a'.tmps[s']? =a.tmps[s']?):=by
 intro Q hQ;have hsz:B.size=2:=by rw[<-ot,G];rfl
 have hg0:B[0]? =some Y:=by rw[<-ak,G];rfl
 have hg1':B[1]? =some L:=by rw[<-ak,G];rfl
 rw[hsz,show List.range 2=[0,1]from rfl];unfold pQ at h;split at h
 .rename_i i hi;obtain⟨Z,hdst,H,h⟩:=h
  have H:d<f.length:=by
   rcases cq d f.length with h|h;exact h
   .rw[Nat.ble_eq_true_of_le h]at H;cases H
  unfold RX at h;split at h
  .rename_i Te e k es hx;obtain⟨⟨fn,code,hfn,hbody,hname⟩,_,hcall⟩:=h;obtain⟨M,S,cc,hr,h1,hd,hz,hs⟩:=hst;have ui:f[s]? =some (.box Te [.mine e k es]):=A8 hr hx oS;obtain⟨b,cur,d1,c2,hev,J,hS,hcs,hone,hr2,N,hv⟩:=Ha hr hx;have hcl:=hcs.length
   obtain⟨v,hcv⟩:∃v,cur.toList=[v]:=by
    match hq:cur.toList,hcl with
    |[v],_=>grind
   have hl1:dh i=1:=by unfold dh;rw[Z];rfl
   have I:=Ku (P:=P) (t:=t) (off:=0) (n:=1) (hT t i hi) J hl1.symm (by grind);rw[Z,hcv]at I;simp only[f0,if_false,List.drop_zero,qv,gx,List.headD_cons]at I;have O:(execOp a.eval Y).run P w=.ok (.value v) w:=by exact Yc
   have hw1:wanted Y (yielded B a.tmps)=true:=by simp[wanted,hg1]
   simp only[wpOps,hg0];rw[bn hw1];refine .inl (Au O ?_);rw[hd1];simp only[wpOps,hg1'];have hw2:wanted L (yielded B (a.put (some d) v).tmps)=true:=by simp[wanted,hg2]
   rw[bn hw2];refine .inl ?_;obtain⟨C,R⟩:∃C,a.put (some d) v=C:=⟨_,rfl⟩;have ht1:C.tmps.toList=a.tmps.toList.set d v:=by rw[<-R,E4]
   have zn:C.defers=q:=by rw[<-R,G5];exact hd
   rw[R];have hsl:s<f.length:=(ab.1 ui).1
   have hr3:∃c3,Ac w S ((f.set s .any).set d .any) C.tmps.toList c3/\∀x,c3 x<=c2 x:=by
    obtain⟨c3,g1,g2⟩:=hr2.put (y:=.any) (u:=v) (cy:=λ_=>0) (.any (.nil Al)) d (by grind)
    grind
   obtain⟨c3,hr3,hle3⟩:=hr3;obtain⟨c4,c5,U,hr4,hc45⟩:=R8 z hr3;have u1:Ac w S [.mine e k es] [v] d1:=by grind
   have hrow:Ac w S [.row e k es] [v] d1:=by
    cases u1 with
    |dt h=>exact .ge h
    |mine hn hcap hk J hs' hS hx1 h0 hoc h N=>exact .row hn hcap hk J hs' hS hx1 h0 hoc h N
   have V:=b4 hrow U (c:=λx=>d1 x+c4 x) (λx=>rfl)
   have W:∀x,(if x=b then 1 else 0)+d1 x+c4 x+c5 x<=1:=λx=>by
    grind
   have hal:a.tmps.toList.length=f.length:=hr.length;have zm:C.eval (.tmp d)=v:=Cu (by grind);have yw:C.tmps.toList[s]? =some (.pointer (some ⟨b,0,none⟩)):=by grind
   have hrun:=F2 (P:=P) hfn hname hbody (c.args.map C.eval) w;have hargs:(v::z.map C.eval).toArray=c.args.map C.eval:=by apply Array.ext';simp[hca,zm]
   have:=hcall w S v _ _ hz V (λx=>by grind);rw[hargs]at this;have kx:(execOp C.eval L).run P w=.ok (.enter g (c.args.map C.eval)) w:=by unfold execOp;simp[ho2,resolve,hc,Act.eval,Deferred.ofValue,invoke,hrun]
   unfold Oper.wp;rw[kx,Oper.upon_enter];refine this.mono λe' w' ⟨u,r,y,S',c',he,hR,hpb,hy,hrr,hc1,hz',D⟩=> ?_;subst he
   obtain⟨E,rfl,hK⟩:∃E,y=.row e k E/\K (am ((bi ((f.set s .any).set d .any) z).2.set s (.box Te [.mine e k E])) L.dst r):=by
    unfold na at hR
    grind
   have ta:=hr4.step D (λx=>by grind);obtain⟨vr,us,e1,e2,hvu,y4,y3,hdd⟩:=hrr.bu;injection hvu with q1 q2;subst q1;subst q2;have hbs:b<w.heap.size:=(ah.1 J).1;have hb0:d1 b+c4 b=0:=by grind
   have hkb:=D.keep b hbs hb0
   have X:Ac w' S' [.mine e k E] cur.toList e2:=by
    rw[hcv]
    cases y3 with
    |ge h=>exact .dt h
    |row hn hcap hk J hs' hS hx1 h0 hoc h N=>exact .mine hn hcap hk J hs' hS hx1 h0 hoc h N
   have sa:Ac w' S' [.box Te [.mine e k E]] [.pointer (some ⟨b,0,none⟩)] (λx=>(if x=b then 1 else 0)+e2 x):=
    .box (c2:=λ_=>0) (hkb.1.trans J) (hkb.2.trans hS) X hone (.nil Al) (λx=>oS)
   have u7:(bi ((f.set s .any).set d .any) z).2.length=f.length:=by
    have g1:=hr4.length
    grind
   obtain⟨cb,uw,hle⟩:=ta.put sa s om;rw[Ag yw]at uw;have A:∀{i:Nat} {x:AV},(bi ((f.set s .any).set d .any) z).2[i]? =some x->pb x=false->f[i]? =some x/\i≠d:=λh hp=>by obtain⟨n1,g1⟩:=Ai (Rf z h hp) (by rintro rfl;cases hp);exact⟨(Ai g1 (by rintro rfl;cases hp)).2,λh=>n1 h.symm⟩
   have y5:bm ((bi ((f.set s .any).set d .any) z).2.set s (.box Te [.mine e k E])) C.tmps.toList:=by
    refine⟨λi s2 off T2 cs2 hi F=> ?_,λi s2 e2 k2 es2 hi F=> ?_,λi s2 k3 j o e2 k2 es2 hi F=> ?_⟩;obtain⟨n1,g1⟩:=Ai hi (by grind);obtain⟨g1,n2⟩:=A g1 rfl;by_cases hss:s=s2;subst hss;obtain⟨b',k1,k2⟩:=M.ref i s off _ _ g1 ui
    grind
    rw[Bf hss]at F;obtain⟨g2,n3⟩:=A F rfl;obtain⟨b',k1,k2⟩:=M.ref i s2 off _ _ g1 g2
    grind
    obtain⟨n1,g1⟩:=Ai hi (by grind);obtain⟨n2,g2⟩:=Ai F (by grind);obtain⟨g1,n3⟩:=A g1 rfl;obtain⟨g2,n4⟩:=A g2 rfl;rw[ht1,Bf (λh=>n3 h.symm),Bf (λh=>n4 h.symm)];exact M.al i s2 _ _ _ g1 g2;obtain⟨n1,g1⟩:=Ai hi (by grind);obtain⟨n2,g2⟩:=Ai F (by grind);obtain⟨g1,n3⟩:=A g1 rfl;obtain⟨g2,n4⟩:=A g2 rfl;obtain⟨b',n',cap',k1,k2'⟩:=M.pr i s2 k3 j o _ _ _ g1 g2
    grind
   have hfr:Stp w S cc w' S' (λx=>c' x+c5 x+if x=b then 1 else 0):=by
    have:=D.frame (c:=cc) (c2:=λx=>cc x-(d1 x+c4 x)) (λx=>by grind);refine this.drop λx=> ?_
    grind
   refine hQ _ _ ⟨_,hK,Bc.value (c:=λx=>c' x+c5 x+if x=b then 1 else 0) y5 hpb ?_ zn hz' (hs.trans hfr) uw y4 (λx=>by grind) _,λs' k1 k2=>(Dh C _ _ s' k2).trans (by rw[<-R];exact Dh a _ _ s' (by grind))⟩;intro x;have h1x:=W x;have hc1x:=hc1 x;rcases cq x w.heap.size with J|J;have h6:c' x<=d1 x+c4 x:=D.own x J
   grind
   have g1:c5 x=0:=by
    rcases jz (c5 x)with h|h;exact h;have:=hr4.lt x h;omega
   have g2:x≠b:=om;simp only[g1,g2,if_false];omega
  exact A7
 exact A7
end
end
section
variable[Env]
variable{bg:Ϙ}
def least{p:Nat->Prop}(h:∃n,p n):∃n,p n/\∀m,p m->n<=m:=by
 obtain⟨n,a⟩:=h
 induction n using Nat.strongRecOn with
 |_ n ih=>
  grind
def kJ(K:Ψ)(Q:Exit->Ψ):Exit->Ψ
 |.normal,σ=>K σ
 |e,σ=>Q e σ
def HQ(i:Nat)(Q:Exit->Ψ):Exit->Ψ
 |.exit id',σ=>if id'=i then Q .normal σ else Q (.exit id') σ
 |e,σ=>Q e σ
def Ap3(Q:Exit->Ψ):Exit->Ψ
 |.goto _,σ=>False
 |e,σ=>Q e σ
inductive CC where
 |skip
 |ops (ts vs:Θ) (l:List CO)
 |dr (ts vs:Θ) (d:DR)
 |seq (a b:CC)
 |cut (a b:CC)
 |cond (c:Operand) (x y:CC)
 |block (id:Nat) (c:CC)
 |loop (c:CC)
 |exit (id:Nat)
 |ret
 |scope (c:CC)
 |lend (t s d g:Nat) (rest:List Operand) (dst:Γ)
abbrev Pw:=List (Nat×List Nat×List Nat)
def Hv:Pw->Nat->Θ
 |[],_=>[]
 |(k,_,vs)::r,id=>if k=id then vs else Hv r id
def Wd:Pw->Nat->Θ
 |[],_=>[]
 |(k,ts,_)::r,id=>if k=id then ts else Wd r id
def Fs:Code->Γ
 |.region id _ _=>some id
 |.seq a b=>match Fs a with
  |some id=>some id
  |none=>Fs b
 |.cond _ a _=>Fs a
 |.block _ c=>Fs c
 |.loop c=>Fs c
 |.scope c=>Fs c
 |_=>none
def fO:Pw->Nat->Bool
 |[],_=>false
 |(k,_,_)::r,id=>if k=id+1000000 then true else fO r id
def U2(A:Pw)(c:Code):Bool:=match Fs c with
 |some id=>fO A id
 |none=>false
def Py(c):U2 [] c=false:=by unfold U2;split<;>rfl
def Ais:Bool->CC->CC->CC
 |true,x,y=>.cut x y
 |false,x,y=>.seq x y
def Y0:Θ->Γ
 |[]=>none
 |n::_=>if 200000<=n then some (n-200000)else none
def My:Pw->Nat->Γ
 |[],_=>none
 |(k,ts,_)::r,id=>if k=id then Y0 ts else My r id
def SD(s d t:Nat)(dst:Γ):Callee->List Operand->Option CC
 |.value (.func g),.tmp d'::rest=>if d'=d/\d≠s then some (.lend t s d g rest dst)else none
 |_,_=>none
def SE(s:Nat):Op->Γ->Ϫ->Op->Γ->Ϫ->Option CC
 |.load t (.tmp s'),some d,none,.call c,dst,none=>if s'=s then SD s d t dst c.callee c.args.toList else none
 |_,_,_,_,_,_=>none
def w9(s:Nat):List Oper->Option CC
 |[a,b]=>SE s a.op a.dst a.guard b.op b.dst b.guard
 |_=>none
def wy(t vs:Θ):Option DR->Option CC
 |some d=>some (.dr t vs d)
 |none=>none
def DE(A:Pw)(i:Nat):List Nat×List Nat×List Nat×List Nat:=(Wd A (3000000+i),Wd A (2000000+i),Hv A (3000000+i),Hv A (2000000+i))
def Cn(A:Pw):Code->Option CC
 |.skip=>some .skip
 |.region id ops dr=>match My A id with
  |some s=>if dr then none else w9 s ops.toList
  |none=>if dr then wy (Wd A id) (Hv A id) (xS ops (DE A id))else match Dz ops ops.toList with
   |some l=>some (.ops (Wd A id) (Hv A id) l)
   |none=>none
 |.seq a b=>match Cn A a,Cn A b with
  |some x,some y=>some (Ais (U2 A b) x y)
  |_,_=>none
 |.cond c a b=>match Cn A a,Cn A b with
  |some x,some y=>some (.cond c x y)
  |_,_=>none
 |.block id c=>match Cn A c with
  |some x=>some (.block id x)
  |none=>none
 |.loop c=>match Cn A c with
  |some x=>some (.loop x)
  |none=>none
 |.exit id=>some (.exit id)
 |.label _=>some .skip
 |.ret=>some .ret
 |.scope c=>match Cn A c with
  |some x=>some (.scope x)
  |none=>none
 |_=>none
def N6(T:Br)(A:Pw):Code->Bool
 |.region id ops dr=>(!dr||v4 T ops (DE A id))&&Yy (Hv A id) ops.toList
 |.seq a b=>N6 T A a&&N6 T A b
 |.cond _ a b=>N6 T A a&&N6 T A b
 |.block _ c=>N6 T A c
 |.loop c=>N6 T A c
 |.scope c=>N6 T A c
 |_=>true
def Sm(x:AV)(A B:Prop):Prop:=match x with
 |.raw (.bool e)=>Dx e A B
 |_=>False
def Jt(P:Program)(T:Br):CC->(Exit->Ψ)->Ψ
 |.skip,Q,a=>Q .normal a
 |.ops ts vs l,Q,a=>vY ts (RS (λK a=>Fq P T K l a) vs (Q .normal)) a
 |.dr ts vs d,Q,a=>vY ts (RS (CY P T d) vs (Q .normal)) a
 |.seq x y,Q,a=>Jt P T x (kJ (Jt P T y Q) Q) a
 |.cut x y,Q,a=>∃I:Ψ,(∀b,I b->Jt P T y Q b)/\Jt P T x (kJ (λf=>∃e,Wk f e/\I e) Q) a
 |.cond c x y,Q,a=>Sm (bj a c) (Jt P T x Q a) (Jt P T y Q a)
 |.block id c,Q,a=>Jt P T c (HQ id Q) a
 |.loop c,Q,a=>∃I:Nat->Ψ,(∃n b,Wk a b/\I n b)/\∀n b,I n b->Jt P T c (kJ (λf=>∃m e,m<n/\Wk f e/\I m e) Q) b
 |.exit id,Q,a=>Q (.exit id) a
 |.ret,Q,a=>Q .ret a
 |.scope c,Q,a=>Jt P T c (Ap3 Q) a
 |.lend t s d g rest dst,Q,a=>pQ P T t s d g rest dst (Q .normal) a
def Y2{s l d}(h:w9 s l=some d):∃o a t b g r c,l=[o,a]/\o.op=.load t (.tmp s)/\o.dst=some b/\o.guard=none/\a.op=.call c/\a.guard=none/\c.callee=.value (.func g)/\c.args.toList=.tmp b::r/\b≠s/\d=.lend t s b g r a.dst:=by
 unfold w9 at h;split at h
 .rename_i o a;unfold SE at h;split at h
  .rename_i t f b c h1 i j k m;split at h
   rename_i e;subst e;unfold SD at h
   grind
   .cases h
  .cases h
 .cases h
section
variable{P:Program}{T:Br}{w0:World}{S0 c0:Nat->Nat}
def lift(bg:Ϙ)(w0:World)(S0 c0:Δ)(Q:Exit->Ψ):Exit->Ϣ:=λe a w=>∃b,Q e b/\Bc bg w0 S0 c0 b a w
def Eu(k:Ax P T)(hm:P.follows .mixedOrders=true){A}:∀(c:Code) (d:CC),Cn A c=some d->N6 T A c=true->∀(Q:Exit->Ψ) (i:Φ) (a:Act) (w:World),Bc bg w0 S0 c0 i a w->Jt P T d Q i->c.wp P (lift bg w0 S0 c0 Q) a w
 |.skip,d,b,hk,Q,i,a,w,f,h=>by simp only[Cn]at b;injection b with b;subst b;exact wp_skip ⟨i,h,f⟩
 |.region id ops false,d,b,hk,Q,i,a,w,f,h=>by
  simp only[Cn]at b;simp only[N6]at hk;split at b;rename_i s D;simp only[f0,if_false]at b;obtain⟨o1,o2,t,V,g,R,c,G,g1,g2,g3,g4,g5,g6,W,X,rfl⟩:=Y2 b;exact wp_region (Yz k G g1 g2 g3 g4 g5 g6 W X f h (lift bg w0 S0 c0 Q) λa w ⟨σ',k1,k2,_⟩=>⟨σ',k1,k2⟩)
  .simp only[f0,if_false]at b;split at b
   rename_i l G;simp only[px,rc,ph]at hk;injection b with b;subst b;have z:=Pv (run_text k G hk) (Hv A id) (λs D=>D);obtain⟨o,h,f⟩:=C9 _ f h;exact wp_region (z bg w0 S0 c0 o a w _ (lift bg w0 S0 c0 Q .normal) f h (λσ' a' w' h1 H _=>⟨σ',H,h1⟩) _ λa w h=>h)
   .cases b
 |.region id ops true,d,b,hk,Q,i,a,w,f,h=>by
  simp only[Cn]at b;simp only[N6]at hk;split at b;simp at b
  .simp only[if_true,oi,qm,gk]at b hk;unfold wy at b;split at b
   rename_i V K;injection b with b;subst b;obtain⟨o,h,f⟩:=C9 _ f h;refine wp_region_draw λt=> ?_;simp only[schedule,hm,rc,if_true];have z:=Pv (Ζ k K hk.1 hk.2 t) _ (λs D=>D);exact z bg w0 S0 c0 o a w.drew _ (lift bg w0 S0 c0 Q .normal) f.drew h (λσ' a' w' h1 H _=>⟨σ',H,h1⟩) _ λa w h=>h
   .cases b
 |.seq x y,d,b,hk,Q,i,a,w,f,h=>by
  simp only[Cn]at b;simp only[N6,gk]at hk;split at b
  .rename_i p E q F;injection b with b;subst b
   cases U:U2 A y with
   |false=>
    rw[U]at h;refine wp_seq (wp_mono (Eu k hm x p q hk.1 _ i a w f h) λe a w hq=> ?_);obtain⟨σ',hq,hs'⟩:=hq
    cases e with
    |normal=>exact Eu k hm y E F hk.2 Q σ' a w hs' hq
    |_=>exact⟨σ',hq,hs'⟩
   |true=>
    rw[U]at h;obtain⟨I,L,h⟩:=h;refine wp_seq (wp_mono (Eu k hm x p q hk.1 _ i a w f h) λe a w hq=> ?_);obtain⟨σ',hq,hs'⟩:=hq
    cases e with
    |normal=>obtain⟨r,v,Y⟩:=hq;exact Eu k hm y E F hk.2 Q r a w (v.stt hs') (L r Y)
    |_=>exact⟨σ',hq,hs'⟩
  .cases b
 |.cond c x y,d,b,hk,Q,i,a,w,f,h=>by
  simp only[Cn]at b;simp only[N6,gk]at hk;split at b;rename_i p E q F;injection b with b;subst b;simp only[Jt,Sm]at h;split at h;rename_i e Z;have j:=f;obtain⟨_,S,cc,z,_⟩:=f;obtain⟨cx,B⟩:=Ay z c;rw[Z]at B;have e1:=(Az B).1;exact wp_cond_split e1 (λht=>Eu k hm x p q hk.1 Q i a w j (h.1 ht)) (λhf=>Eu k hm y E F hk.2 Q i a w j (h.2 hf))
  grind
  .cases b
 |.block id c,d,b,hk,Q,i,a,w,f,h=>by
  simp only[Cn]at b;simp only[N6]at hk;split at b;rename_i p q;injection b with b;subst b;exact wp_block (wp_mono (Eu k hm c p q hk _ i a w f h) λe a w hq=> Agm)
  .cases b
 |.loop c,d,b,hk,Q,i,a,w,f,h=>by
  simp only[Cn]at b;simp only[N6]at hk;split at b
  .rename_i p q;injection b with b;subst b;obtain⟨I,⟨n0,o,hw,L⟩,u⟩:=h
   classical
   let J:Act->World->Nat->Prop:=λa w n=>∃i,I n i/\Bc bg w0 S0 c0 i a w;refine wp_loop (λa w=>∃n,J a w n) (λa w=>if h:∃n,J a w n then Classical.choose (least h)else 0) ⟨n0,o,L,hw.stt f⟩ λa w hJ=> ?_;obtain⟨σ',M,j⟩:=(Classical.choose_spec (least hJ)).1;refine wp_mono (Eu k hm c p q hk _ σ' a w j (u _ σ' M)) λe a' w' hq=> ?_;obtain⟨N,hq,C⟩:=hq
   cases e with
   |normal=>obtain⟨m,r,hm,v,O⟩:=hq;have hJ':J a' w' m:=⟨r,O,v.stt C⟩;exact yd
   |_=>exact⟨N,hq,C⟩
  .cases b
 |.exit id,d,b,hk,Q,i,a,w,f,h=>by simp only[Cn]at b;injection b with b;subst b;exact wp_exit ⟨i,h,f⟩
 |.label l,d,b,hk,Q,i,a,w,f,h=>by simp only[Cn]at b;injection b with b;subst b;exact wp_label ⟨i,h,f⟩
 |.ret,d,b,hk,Q,i,a,w,f,h=>by simp only[Cn]at b;injection b with b;subst b;exact wp_ret ⟨i,h,f⟩
 |.rangeFunc ..,d,b,hk,Q,i,a,w,f,h=>by simp[Cn]at b
 |.scope c,d,b,hk,Q,i,a,w,f,h=>by
  simp only[Cn]at b;simp only[N6]at hk;split at b
  .rename_i p q;injection b with b;subst b;refine wp_scope_straight (wp_mono (Eu k hm c p q hk _ i a w f h) λe a w hq=> ?_);obtain⟨σ',hq,hs'⟩:=hq
   cases e with
   |goto l=>exact hq.elim
   |_=>exact⟨σ',hq,hs'⟩
  .cases b
 |.goto ..,d,b,hk,Q,i,a,w,f,h=>by simp[Cn]at b
 |.refuse ..,d,b,hk,Q,i,a,w,f,h=>by simp[Cn]at b
def Jc(T:Br):List ResultVar->Φ->Ψ->Prop
 |[],σ,K=>K []
 |.tmp t::rs,σ,K=>Jc T rs (d7 σ (.tmp t)) λv=>K (bj σ (.tmp t)::v)
 |.cell s t::rs,σ,K=>
  match T t with
  |some i=>
   match σ.getD s .any with
   |.box Te cs=>dh i<=cs.length/\
    Jc T rs (σ.set s (.box Te (bv cs 0 (dh i) ((aq cs 0 (dh i)).map v1)))) λv=>K (pl (em i.td.agg (aq cs 0 (dh i)))::v)
   |_=>False
  |none=>False
def vZ(T:Br)(r:List ResultVar)(R:AV->Prop):Exit->Ψ
 |.normal,σ|.ret,σ=>Jc T r σ λa=>R (match a with
  |[v]=>v
  |a=>.a6 a)
 |_,_=>False
def J5(b:Array Value):ResultVar->Sem Value
 |.tmp t=>pure (b.getD t undef)
 |.cell a t=>do loadVar t (<-asAddr (b.getD a undef))
def H1(a t):results a t=(do
 let vs<-a.results.mapM (J5 t)
 pure (if h:vs.size=1 then vs[0]else .tuple vs)):=by
 have:∀f g:ResultVar->Sem Value,(∀x,f x=g x)->Array.mapM f a.results=Array.mapM g a.results:=λf g h=>by rw[funext h]
 unfold results;rw[this _ (J5 t) (λx=>by cases x<;>rfl)]
def Gr(A:Ax P T){w:World}{S:Δ}{a:Act}:∀(r:List ResultVar) (σ:Φ) (c:Δ) (K:Ψ),Ac w S σ a.tmps.toList c->Jc T r σ K->
 ∃v j z,(r.mapM (J5 a.tmps)).run P w=.ok j w/\K v/\Ac w S v j z/\(∀b,z b<=c b)/\j.length=r.length/\∀x∈v,pb x=true
 |[],σ,c,K,hr,h=>⟨[],[],λ_=>0,oS,h,.nil Al,λ_=>gu _,rfl,oS⟩
 |.tmp t::r,σ,c,K,hr,h=>by obtain⟨c1,c2,d,k,N⟩:=Lm hr (.tmp t);obtain⟨v,j,z,m,B,C,D,E,l⟩:=Gr A r _ c2 _ k h;refine⟨_,a.eval (.tmp t)::j,_,?_,B,b4 d C (λb=>rfl),λb=>by grind,by simp[E],λx d=>by rcases e9.1 d with rfl|d;exact QK _ _;exact l x d⟩;have e:(J5 a.tmps (.tmp t)).run P w=.ok (a.eval (.tmp t)) w:=rfl;simp_all
 |.cell s t::r,σ,c,K,hr,h=>by
  simp only[Jc]at h;split at h;rename_i i O;split at h;rename_i Z cs d;obtain⟨hlen,h⟩:=h;obtain⟨b,n,d1,c2,o,J,Q,p,e,k,N,C⟩:=Ha hr d;have R:=p.length;obtain⟨e1,e2,L,q,U⟩:=p.part 0 (dh i);obtain⟨V,y,W⟩:=q _ _ _ (Ac.iv Ac.v1 L);rw[Rb]at y;have F:=jQ (c:=λx=>(if x=b then 1 else 0)+V x+c2 x) k (Us d oS) C J Q y e (λx=>rfl)
  have f:=G9 L (λu X=>e u (mg (i7 X))) i.td.agg (λY=>by
   have G:dh i=1:=by unfold dh;rw[Y];rfl
   rw[G]at hlen⊢;simp[aq];omega)
  obtain⟨e3,f,M⟩:=f.pl;have g:=Ku (P:=P) (t:=t) (off:=0) (A t i O) J rfl (by grind);obtain⟨v,j,z,m,B,H,D,E,l⟩:=Gr A r _ _ _ F h;refine⟨_,_::j,_,?_,B,b4 f H (λb=>rfl),λx=> ?_,by simp[E],λx d=>by rcases e9.1 d with rfl|d;exact N7 _;exact l x d⟩;simp only[Act.eval]at o;simp only[Instr.loadAt,Instr.sureAddr,ft,ia,gq]at g;have I:(J5 a.tmps (.cell s t)).run P w=.ok (if i.td.agg then .agg ((n.toList.drop 0).take (dh i)).toArray else((n.toList.drop 0).take (dh i)).headD undef) w:=by simp only[J5,o,asAddr,ft,ia,gq,g]
  simp_all
  grind
  grind
  grind
def HT(t:Ax P T)(x:P.follows .mixedOrders=true){A f fn g d args}{R:AV->Prop}(y:P.funcs[f]? =some fn)(z:fn.body=some g)(hcd:Cn A g=some d)(n:N6 T A g=true)(D:(fn.name== "runtime.NumGoroutine")=false)(E:∃r,R r)(F:args.all pb=true){nt}(G:fn.ntmps=nt){rs}(H:fn.results.toList=rs)(h:Jt P T d (vZ T rs R) (args++List.replicate (nt-args.length) .any)):Aa P f args R:=by
 refine⟨⟨fn,g,y,z,D⟩,E,λw S m c I hr J=> ?_⟩;have O:=hr.length;refine calls_of_wp y z (wp_mono (Eu (bg:=[]) (w0:=w) (S0:=S) (c0:=c) t x g d hcd n _ _ _ w ⟨yh,S,c,h_,J,rfl,I,bt w S c⟩ h) λe a i hq=> ?_);obtain ⟨B,hq,o⟩:=hq
 have fin:Jc T rs B (λm=>R (match m with
  |[v]=>v
  |m=>.a6 m))->a.defers=[]/\∃v,(results fn a.tmps).run P i=.ok v i/\
  ∃v' r s j,Ending.returned v=.returned v'/\R r/\pb r=true/\Ac i s [r] [v'] j/\(∀b,j b<=1)/\Sz i s/\Stp w S c i s j:=by
  intro hq;obtain⟨_,s,j,p,h1,K,q,hs⟩:=o;obtain⟨mi,us,L,C,M,hv,k,N,l⟩:=Gr t rs B j _ p hq;have x:(fn.results.mapM (J5 a.tmps)).run P i=.ok us.toArray i:=by exact QF
  refine⟨K,(if h:us.toArray.size=1 then us.toArray[0]else .tuple us.toArray),?_,_,_,s,L,rfl,M,?_,?_,λb=>cp (k b) (h1 b),q,hs.drop k⟩;rw [H1];simp_all
  match mi,l with
  |[],_=>rfl
  |[v],l=>grind
  |v::v'::mi,_=>rfl
  exact OD
 exact PG
def Bb(A)(m:Ax P T)(o:P.follows .mixedOrders=true){f b a}{R:AV->Prop}{d n j}(p:P.funcs[f]? =some b)(q:(b.name== "runtime.NumGoroutine")=false)(c:(b.body.map (N6 T A))=some true)(k:b.body.bind (Cn A)=some d)(e:b.ntmps=n)(g:b.results=j)(s:∃r,R r)(i:a.all pb=true)(h:Jt P T d (vZ T j.toList R) (a++List.replicate (n-a.length) .any)):Aa P f a R:=by
 cases l:b.body with
 |none=>grind
 |some code=>rw[l]at k c;exact HT m o p l k (by grind) q s i e (by rw[g]) h
end
end
section
variable[Env]
def Mz(d:Nat)(a:Φ)(K:Ψ)(z:AV):Prop:=K (a.set d z)
def pT(d:Γ)(a:Φ)(K:Ψ)(z:AV):Prop:=K (am a d z)
def Ait(d:Γ)(A:Ψ)(a:Φ):Prop:=A (am a d (.a6 []))
def IC(d:Nat)(x:Operand)(K:Ψ)(a:Φ):Prop:=K ((d7 a x).set d (bj a x))
def ϟ(s:Nat)(x:AV)(K:Ψ)(a:Φ):Prop:=K (a.set s (rv x (a.getD s .any)))
def Ajq(d:Nat)(a:Φ)(K:Ψ)(c:Φ):Prop:=K (a.set d (.agg c))
def DU(e:Bool)(A B:Ψ)(a:Φ):Prop:=Dx e (A a) (B a)
def uZ(e:Bool)(a:Φ)(t:Nat)(A B:Ψ):Prop:=Dx e (A (a.set t (.raw (.bool true)))) (B (a.set t (.raw (.bool false))))
def wA{e A B a}(h1:e=true->A a)(h:e=false->B a):DU e A B a:=⟨h1,h⟩
def wB{e a t A B}(h1:e=true->A (a.set t (.raw (.bool true))))(h:e=false->B (a.set t (.raw (.bool false)))):uZ e a t A B:=⟨h1,h⟩
def AmW(A B a):DU true A B a=A a:=by simp[DU,Dx]
def AmX(A B a):DU false A B a=B a:=by simp[DU,Dx]
def AmY(a t A B):uZ true a t A B=A (a.set t (.raw (.bool true))):=by simp[uZ,Dx]
def AmZ(a t A B):uZ false a t A B=B (a.set t (.raw (.bool false))):=by simp[uZ,Dx]
def ω(P:Program)(T:Br)(l:List CO)(K:Ψ)(a:Φ):Prop:=Fq P T K l a
def CZ(x:AV)(A B:Ψ)(a:Φ):Prop:=match x with
 |.raw (.bool e)=>DU e A B a
 |_=>False
def pF(x:AV)(t:Nat)(w:Bool)(a:Φ)(A B:Ψ):Prop:=match x with
 |.raw (.bool e)=>if w then uZ e a t A B else uZ e a t B A
 |.a6 []=>B a
 |_=>False
section
variable{P:Program}{T:Br}{Q:Exit->Φ->Prop}{K:Φ->Prop}{σ:Φ}{l:List CO}
def SF:(Jt P T .skip Q σ=Q .normal σ)/\(∀x y,Jt P T (.seq x y) Q σ=Jt P T x (kJ (Jt P T y Q) Q) σ):=by and_intros<;>intros<;>rfl
theorem Lc(t v):Jt P T (.ops t v l) Q σ=vY t (RS (ω P T l) v (Q .normal)) σ:=(rfl)
theorem ApH:ω P T l K σ=Fq P T K l σ:=(rfl)
def ApM:(vY [] K σ=K σ)/\(∀s b,vY (s::b) K σ=wE (σ.getD (s % 100000) .any) (decide (100000<=s)) (s % 100000) (vY b K) σ)/\(∀e k a s,wE (.row e k a) false s K σ=K (σ.set s (.own e k a)))/\(∀e k a s,wE (.row e k a) true s K σ=K (σ.set s (.mine e k a)))/\(∀e k a s,wE (.mine e k a) true s K σ=(σ.all (Lj s)=true/\K (σ.set s (.row e k a))))/\(∀t m s,wE (.alias t) m s K σ=K (σ.set s .any))/\(∀r,RS r [] K σ=r K σ)/\(∀r s v,RS r (s::v) K σ=RS r v (ϟ s (σ.getD s .any) K) (σ.set s (nv (σ.getD s .any)))):=by and_intros<;>intros<;>rfl
theorem Anf(e A B):CZ (.raw (.bool e)) A B σ=DU e A B σ:=(rfl)
def SH(c x y):Jt P T (.cond c x y) Q σ=CZ (bj σ c) (Jt P T x Q) (Jt P T y Q) σ:=by show Sm _ _ _=_;cases bj σ c<;>rfl
def Adc:(∀d z,Mz d σ K z=K (σ.set d z))/\(∀d z,pT (some d) σ K z=K (σ.set d z))/\(∀d,Ait (some d) K σ=K (σ.set d (.a6 [])))/\(∀d x,IC d x K σ=K ((d7 σ x).set d (bj σ x)))/\(∀s x,ϟ s x K σ=K (σ.set s (rv x (σ.getD s .any))))/\(∀d c,Ajq d σ K c=K (σ.set d (.agg c))):=by and_intros<;>intros<;>rfl
def Aq4:(∀e t A B,pF (.raw (.bool e)) t true σ A B=uZ e σ t A B)/\(∀e t A B,pF (.raw (.bool e)) t false σ A B=uZ e σ t B A)/\(∀t w A B,pF (.a6 []) t w σ A B=B σ):=by and_intros<;>intros<;>rfl
def Aki:(∀i c,Jt P T (.block i c) Q σ=Jt P T c (HQ i Q) σ)/\(∀i,Jt P T (.exit i) Q σ=Q (.exit i) σ)/\(Jt P T .ret Q σ=Q .ret σ):=by and_intros<;>intros<;>rfl
def B6:(∀K,kJ K Q .normal σ=K σ)/\(∀K i,kJ K Q (.exit i) σ=Q (.exit i) σ)/\(∀K,kJ K Q .ret σ=Q .ret σ)/\(∀i,HQ i Q .normal σ=Q .normal σ)/\(∀i,HQ i Q .ret σ=Q .ret σ)/\(∀i a,HQ i Q (.exit a) σ=if a=i then Q .normal σ else Q (.exit a) σ):=by and_intros<;>intros<;>rfl
theorem SJ(r)(R:AV->Prop):vZ T r R .ret σ=Jc T r σ λa=>R (match a with
 |[v]=>v
 |a=>.a6 a):=(rfl)
def dM(x:AV)(t d:Nat)(σ:Φ):Φ:=(Qj σ t x).set d (pl x)
theorem An8:Fq P T K [] σ=K σ:=(rfl)
theorem Akr(d o):Fq P T K (⟨d,o,none⟩::l) σ=On P T d o σ (Fq P T K l):=(rfl)
def wC(d o t want):Fq P T K (⟨d,o,some (t,want)⟩::l) σ=pF (σ.getD t .any) t want σ (Fq P T K (⟨d,o,none⟩::l)) (Ait d (Fq P T K l)):=by simp only[Fq,pF];exact Ahm
def Aiu(x:AV)(A B:Prop):Prop:=match x with
 |.raw (.bool e)=>Dx e A B
 |_=>False
def HU:(∀o t k a y K,Ln T o t (.raw (.int k a)) y K=Hs o (.raw (.int k a)) y K)/\(∀o t s y K,Ln T o t (.raw (.string s)) y K=Hs o (.raw (.string s)) y K):=by and_intros<;>intros<;>rfl
def Ang:(∀d v,On P T (some d) (.assign (.const v)) σ K=K (σ.set d (B8 v)))/\(∀d v,On P T (some d) (.move (.const v)) σ K=K (σ.set d (B8 v)))/\(∀d o t a x y,On P T (some d) (.binOp o t x y a) σ K=vJ T o t (bj σ x) (bj σ y) (Mz d σ K))/\(∀d o t x,On P T (some d) (.unOp o t x) σ K=WE o (bj σ x) (Mz d σ K))/\(∀d x,On P T (some d) (.nilCheck x) σ K=oZ (bj σ x) (Mz d σ K)):=by and_intros<;>intros<;>rfl
theorem Nz(y)(K:AV->Prop):oZ (.elt y) K=K (.elt y):=(rfl)
def Adf(d c x y):On P T (some d) (.pick c x y) σ K=CZ (bj σ c) (IC d x K) (IC d y K) σ:=by show Aiu _ _ _=_;cases bj σ c<;>try rfl
theorem SN(d t x y):On P T (some d) (.index t x y) σ K=(match T t with
 |some i=>N9 T i (bj σ x) (bj σ y) (Mz d σ K)
 |none=>False):=(rfl)
def pV(x:AV)(t q d:Nat)(y:Operand)(T:Br)(σ:Φ)(K:Ψ):Prop:=match x with
 |.row _ k es=>Qk T t q k es.length (bj σ y) (some d) σ K
 |.alias s=>(match σ.getD s .any with
  |.row _ k es=>Qk T t s k es.length (bj σ y) (some d) σ K
  |_=>(match T t with
   |some i=>Cf T σ i (.tmp q) y (some d) K
   |none=>False))
 |_=>(match T t with
  |some i=>Cf T σ i (.tmp q) y (some d) K
  |none=>False)
def kL(d t q y):On P T (some d) (.indexAddr t (.tmp q) y) σ K=pV (σ.getD q .any) t q d y T σ K:=by
 unfold On Wb pV;simp only[Gz];cases σ.getD q .any<;>try rfl
 rename_i s;simp only[];cases σ.getD s .any<;>rfl
def Aiv(x:AV)(t q s d:Nat)(y:Operand)(T:Br)(σ:Φ)(K:Ψ):Prop:=match x with
 |.row _ k es=>Qk T t s k es.length (bj σ y) (some d) σ K
 |_=>(match T t with
  |some i=>Cf T σ i (.tmp q) y (some d) K
  |none=>False)
def Cg:(∀s t q d y,pV (.alias s) t q d y T σ K=Aiv (σ.getD s .any) t q s d y T σ K)/\(∀e k a t q s d y,Aiv (.row e k a) t q s d y T σ K=Qk T t s k a.length (bj σ y) (some d) σ K):=by and_intros<;>intros<;>rfl
theorem Adh(k e t q d y):pV (.sl k e) t q d y T σ K=(match T t with
 |some i=>Cf T σ i (.tmp q) y (some d) K
 |none=>False):=(rfl)
theorem SO(e k a t q d y):pV (.own e k a) t q d y T σ K=(match T t with
 |some i=>Cf T σ i (.tmp q) y (some d) K
 |none=>False):=(rfl)
theorem SP(U c t q d y):pV (.box U c) t q d y T σ K=(match T t with
 |some i=>Cf T σ i (.tmp q) y (some d) K
 |none=>False):=(rfl)
def SQ(o:Option TI)(s k n:Nat)(y:AV)(d:Γ)(σ:Φ)(K:Ψ):Prop:=match o with
 |some j=>kB j s k n y d σ K
 |none=>False
def Aiw(o:Option TI)(T:Br)(s k n:Nat)(y:AV)(d:Γ)(σ:Φ)(K:Ψ):Prop:=match o with
 |some i=>match i.td.elem with
  |some e=>SQ (T e) s k n y d σ K
  |none=>False
 |none=>False
theorem Adi(t s k n y d):Qk T t s k n y d σ K=Aiw (T t) T s k n y d σ K:=(rfl)
theorem wF(i s k n y d):Aiw (some i) T s k n y d σ K=(match i.td.elem with
 |some e=>SQ (T e) s k n y d σ K
 |none=>False):=(rfl)
def wG:(∀j s k n y d,SQ (some j) s k n y d σ K=kB j s k n y d σ K)/\(∀j s k n a m d,kB j s k n (.raw (.int a m)) (some d) σ K=(k=j.size/\0<=m/\m.toNat<n/\s≠d/\K (σ.set d (.pref s k m.toNat 0)))):=by and_intros<;>intros<;>rfl
theorem SR(d t x a h):On P T (some d) (.slice t x a h none) σ K=(match T t with
 |some i=>Iz T i (bj σ x) (a.map (bj σ)) (h.map (bj σ)) (Mz d σ K)
 |none=>False):=(rfl)
theorem SU(d t):On P T (some d) (.alloc t) σ K=(match T t with
 |some i=>Uv σ t i (some d) K
 |none=>False):=(rfl)
theorem Ajs(d t x):On P T (some d) (.box t x) σ K=GV σ t x (some d) K:=(rfl)
theorem SX(d t p):On P T (some d) (.build t p) σ K=(match T t with
 |some i=>pA T i=true/\((Kt T i).all λf=>f.2.1.isSome)=true/\Iy i.zero=true/\
  G8 (Kt T i) ((p.toList.map (·.1)).zip (bi σ (p.toList.map (·.2))).1) (i.zero.map R5) (Ajq d (bi σ (p.toList.map (·.2))).2 K)
 |none=>False):=(rfl)
theorem dG(d t n p l):On P T (some d) (.buildSlice t n (List.toArray (p::l))) σ K=(match T t with
 |some i=>match i.td.elem with
  |some e=>match T e with
   |some j=>C8 σ e j n (p::l) (some d) K
   |none=>False
  |none=>False
 |none=>False):=(rfl)
theorem Y3(d t n):On P T (some d) (.buildSlice t n #[]) σ K=QQ T t n (Mz d σ K):=(rfl)
theorem Adj(t n)(K:AV->Prop):QQ T t n K=(match T t with
 |some i=>match i.td.elem with
  |some e=>match T e with
   |some j=>n=0/\K (.mine e j.size [])
   |none=>False
  |none=>False
 |none=>False):=(rfl)
def SZ:(∀o t x v K,vJ T o t x (.raw v) K=Ln T o t x (.raw v) K)/\(∀o t x c K,vJ T o t x (.agg c) K=Ln T o t x (.agg c) K)/\(∀t x K,vJ T .eql t x .nil K=(GY (T t)=true/\fC true K x)):=by and_intros<;>intros<;>rfl
def Eb:(∀pos K k e,fC pos K (.sl k e)=pC e.length pos K)/\(∀n pos K,pC n pos K=((n=0->K (.raw (.bool pos)))/\K (.raw (.bool (!pos))))):=by and_intros<;>intros<;>rfl
def pW(x:AV)(t q d:Nat)(T:Br)(σ:Φ)(K:Ψ):Prop:=match x with
 |.pref s k j off=>(match T t with
  |some i=>W5 i (σ.getD s .any) k j off (some d) σ K
  |none=>False)
 |_=>(match T t with
  |some i=>I7 σ i (.tmp q) (some d) K
  |none=>False)
def Adk(d t q):On P T (some d) (.load t (.tmp q)) σ K=pW (σ.getD q .any) t q d T σ K:=by unfold On Wb pW;exact Ya
theorem HV(s k j o t q d):pW (.pref s k j o) t q d T σ K=(match T t with
 |some i=>W5 i (σ.getD s .any) k j o (some d) σ K
 |none=>False):=(rfl)
theorem TC(U c t q d):pW (.box U c) t q d T σ K=(match T t with
 |some i=>I7 σ i (.tmp q) (some d) K
 |none=>False):=(rfl)
theorem TE(s o t q d):pW (.ref s o) t q d T σ K=(match T t with
 |some i=>I7 σ i (.tmp q) (some d) K
 |none=>False):=(rfl)
theorem TF(x t q d):pW (.elt x) t q d T σ K=(match T t with
 |some i=>I7 σ i (.tmp q) (some d) K
 |none=>False):=(rfl)
theorem TG(i e b a k j o d):W5 i (.row e b a) k j o (some d) σ K=(b=k/\j<a.length/\o+dh i<=k/\K (σ.set d (pl (em i.td.agg (aq (cellsOf (a.getD j .any)) o (dh i)))))):=(rfl)
def wH(x:AV)(t q:Nat)(y:Operand)(T:Br)(σ:Φ)(K:Ψ):Prop:=match x with
 |.pref s k j off=>(match T t with
  |some i=>W6 i ((d7 σ y).getD s .any) s k j off (view (bj σ y)) none (d7 σ y) K
  |none=>False)
 |_=>(match T t with
  |some i=>I0 σ i (.tmp q) y none K
  |none=>False)
def TH(t q y):On P T none (.store t (.tmp q) y) σ K=wH (σ.getD q .any) t q y T σ K:=by unfold On Wb wH;exact Ya
theorem HW(s k j o t q y):wH (.pref s k j o) t q y T σ K=(match T t with
 |some i=>W6 i ((d7 σ y).getD s .any) s k j o (view (bj σ y)) none (d7 σ y) K
 |none=>False):=(rfl)
theorem TJ(U c t q y):wH (.box U c) t q y T σ K=(match T t with
 |some i=>I0 σ i (.tmp q) y none K
 |none=>False):=(rfl)
theorem TK(s o t q y):wH (.ref s o) t q y T σ K=(match T t with
 |some i=>I0 σ i (.tmp q) y none K
 |none=>False):=(rfl)
theorem TM(i e b a s k j o z):W6 i (.row e b a) s k j o z none σ K=(b=k/\j<a.length/\o+i.size<=k/\Lb z=true/\(cellsOf z).length=i.size/\K (σ.set s (.row e k (a.set j (li (a.getD j .any) (bv (cellsOf (a.getD j .any)) o i.size (cellsOf z))))))):=(rfl)
theorem Adm(d s t x):On P T (some d) (.convert s t x) σ K=(match T s,T t with
 |some i,some j=>J2 T i j (bj σ x) (Mz d σ K)
 |_,_=>False):=(rfl)
def pX(x:AV)(t f q d:Nat)(T:Br)(σ:Φ)(K:Ψ):Prop:=match x with
 |.pref s k j off=>(match T t with
  |some i=>Uz i.td.ig[f]? (σ.getD s .any) s k j off (some d) σ K
  |none=>False)
 |_=>(match T t with
  |some i=>B1 σ i (.tmp q) f (some d) K
  |none=>False)
def kN(d t f q):On P T (some d) (.fieldAddr t (.tmp q) f) σ K=pX (σ.getD q .any) t f q d T σ K:=by unfold On Wb pX;exact Ya
theorem HX(s k j o t f q d):pX (.pref s k j o) t f q d T σ K=(match T t with
 |some i=>Uz i.td.ig[f]? (σ.getD s .any) s k j o (some d) σ K
 |none=>False):=(rfl)
theorem TP(U c t f q d):pX (.box U c) t f q d T σ K=(match T t with
 |some i=>B1 σ i (.tmp q) f (some d) K
 |none=>False):=(rfl)
theorem TQ(s o t f q d):pX (.ref s o) t f q d T σ K=(match T t with
 |some i=>B1 σ i (.tmp q) f (some d) K
 |none=>False):=(rfl)
theorem TR(x t f q d):pX (.elt x) t f q d T σ K=(match T t with
 |some i=>B1 σ i (.tmp q) f (some d) K
 |none=>False):=(rfl)
theorem TS(f n a e b c s k j o d):Uz (some (f,some n,some a)) (.row e b c) s k j o (some d) σ K=(n≠0/\s≠d/\K (σ.set d (.pref s k j (o+f)))):=(rfl)
def ψ(o:Option TI)(x:AV)(σ:Φ)(s f d:Nat)(K:Ψ):Prop:=match o with
 |some i=>(match x with
  |.agg cs=>(match i.td.ig[f]? with
   |some (off,some n,some agg)=>(agg=false->n=1)/\off+n<=cs.length/\K ((σ.set s (.agg (bv cs off n ((aq cs off n).map v1)))).set d (pl (em agg (aq cs off n))))
   |_=>False)
  |_=>False)
 |none=>False
def χ(p:Option (Nat×Option Nat×Option Bool))(c σ:Φ)(s d:Nat)(K:Ψ):Prop:=match p with
 |some (off,some n,some agg)=>(agg=false->n=1)/\off+n<=c.length/\K ((σ.set s (.agg (bv c off n ((aq c off n).map v1)))).set d (pl (em agg (aq c off n))))
 |_=>False
def TU:(∀d t f s,On P T (some d) (.field t (.tmp s) f) σ K=ψ (T t) (σ.getD s .any) σ s f d K)/\(∀d n x,On P T (some d) (.extract x n) σ K=Fj σ x n (some d) K)/\(∀d x y a,On P T (some d) (.call ⟨.builtin .min,#[x,y],a⟩) σ K=Yj false (bj σ x) (bj σ y) (Mz d σ K)):=by and_intros<;>intros<;>rfl
def An9:(∀i c s f d,ψ (some i) (.agg c) σ s f d K=χ i.td.ig[f]? c σ s d K)/\(∀o n agg c s d,χ (some (o,some n,some agg)) c σ s d K=((agg=false->n=1)/\o+n<=c.length/\K ((σ.set s (.agg (bv c o n ((aq c o n).map v1)))).set d (pl (em agg (aq c o n)))))):=by and_intros<;>intros<;>rfl
def HY(x:AV)(t d:Nat)(σ:Φ)(K:Ψ):Prop:=match x with
 |.row _ _ _=>t≠d/\K (σ.set d (.alias t))
 |.alias s=>s≠d/\K (σ.set d (.alias s))
 |x=>K (dM x t d σ)
def Ado(d t):On P T (some d) (.move (.tmp t)) σ K=HY (σ.getD t .any) t d σ K:=by unfold On Wb;simp only[Gm,am,d7,bj,HY,dM];cases σ.getD t .any<;>rfl
def Adq:(∀v t d,HY (.raw v) t d σ K=K (σ.set d (.raw v)))/\(∀k a t d,HY (.sl k a) t d σ K=K (σ.set d (.sl k a)))/\(∀t d,HY .nil t d σ K=K (σ.set d .nil))/\(∀x t d,HY (.elt x) t d σ K=K (σ.set d (.elt x)))/\(∀e k a t d,HY (.own e k a) t d σ K=K ((σ.set t (.sl k a)).set d (.own e k a)))/\(∀c t d,HY (.a6 c) t d σ K=K ((σ.set t (.a6 (c.map v2))).set d (.a6 c)))/\(∀e k a t d,HY (.mine e k a) t d σ K=K ((σ.set t .any).set d (.mine e k a)))/\(∀e k a t d,HY (.row e k a) t d σ K=(t≠d/\K (σ.set d (.alias t)))):=by and_intros<;>intros<;>rfl
def wJ(x:AV)(t d:Nat)(σ:Φ)(K:Ψ):Prop:=match x with
 |.row e k es=>t≠d/\(σ.set t .any).all (Lj d)=true/\K ((σ.set t .any).set d (.row e k es))
 |x=>K (dM x t d σ)
def HZ(d t):On P T (some d) (.assign (.tmp t)) σ K=wJ (σ.getD t .any) t d σ K:=by unfold On Wb;simp only[Gm,am,d7,bj,wJ,dM];cases σ.getD t .any<;>rfl
def Ads:(∀v t d,wJ (.raw v) t d σ K=K (σ.set d (.raw v)))/\(∀k a t d,wJ (.sl k a) t d σ K=K (σ.set d (.sl k a)))/\(∀t d,wJ .nil t d σ K=K (σ.set d .nil))/\(∀x t d,wJ (.elt x) t d σ K=K (σ.set d (.elt x)))/\(∀e k a t d,wJ (.own e k a) t d σ K=K ((σ.set t (.sl k a)).set d (.own e k a)))/\(∀e k a t d,wJ (.mine e k a) t d σ K=K ((σ.set t .any).set d (.mine e k a)))/\(∀t d,wJ .any t d σ K=K (σ.set d .any)):=by and_intros<;>intros<;>rfl
def IA(x:AV)(i:TI)(σ:Φ)(K:AV->Prop):Prop:=match x with
 |.row _ _ es=>i.td.elem.isSome=true/\K (.raw (.int .i64 (es.length:Int)))
 |.alias s=>(match σ.getD s .any with
  |.row _ _ es=>i.td.elem.isSome=true/\K (.raw (.int .i64 (es.length:Int)))
  |_=>False)
 |x=>jP i (pl x) K
def Ajv(d t a):On P T (some d) (.call ⟨.builtin .len,#[.tmp t],#[a]⟩) σ K=(match T a with
 |some i=>IA (σ.getD t .any) i σ (Mz d σ K)
 |none=>False):=by
 unfold On Wb;simp only[Gm,am,bj,IA,Gz]
 cases σ.getD t .any<;>simp only[pl,jP]<;>first
  |rfl
  |(rename_i s
    cases σ.getD s .any<;>simp only[]<;>first
     |rfl
     |(cases T a<;>rfl))
  |(cases T a<;>rfl)
def TV(σ:Φ)(e:Nat)(j:TI)(x:AV)(t:Nat)(y:Operand)(d:Γ)(K:Ψ):Prop:=match x with
 |.row e' k xs=>Ps σ e j t t e' k xs y d K
 |.alias s=>(match σ.getD s .any with
  |.row e' k xs=>Ps σ e j t s e' k xs y d K
  |_=>False)
 |_=>D9 σ e j (.tmp t) y d K
def IB(d t b a y):On P T (some d) (.call ⟨.builtin .append,#[.tmp t,y],#[b,a]⟩) σ K=(b=a/\match T b with
 |some i=>match i.td.elem with
  |some e=>match T e with
   |some j=>TV σ e j (σ.getD t .any) t y (some d) K
   |none=>False
  |none=>False
 |none=>False):=by
 unfold On Wb;simp only[Gm,Gz]
 cases h:σ.getD t .any<;>simp only[]<;>first
  |rfl
  |(rename_i s
    cases c:σ.getD s .any<;>simp only[TV,c]<;>first
     |rfl
     |(cases T b with
       |none=>rfl
       |some i=>
        simp only[]
        cases i.td.elem with
        |none=>rfl
        |some e=>
         simp only[]
         cases T e with
         |none=>rfl
         |some j=>simp only[D9,bj,h,pl,Mx]))
def wM(P:Program)(σ:Φ)(x:AV)(g t:Nat)(r:List Operand)(d:Γ)(K:Ψ):Prop:=match x with
 |.row e k es=>Yl P σ g t e k es r d K
 |.alias s=>(match σ.getD s .any with
  |.row e k es=>Yl P σ g s e k es r d K
  |_=>Et P σ (.func g) (.tmp t::r) d K)
 |_=>Et P σ (.func g) (.tmp t::r) d K
def Adt(d g t r a):On P T d (.call ⟨.value (.func g),⟨.tmp t::r⟩,a⟩) σ K=wM P σ (σ.getD t .any) g t r d K:=by
 unfold On Wb;simp only[Gm,Gz,wM]
 cases σ.getD t .any<;>simp only[]<;>first
  |rfl
  |(rename_i s
    cases σ.getD s .any<;>rfl)
def TW(d f t):On P T d (.call ⟨.value f,#[],t⟩) σ K=Et P σ f [] d K:=by cases f<;>rfl
def TX(d f v r t):On P T d (.call ⟨.value f,⟨.const v::r⟩,t⟩) σ K=Et P σ f (.const v::r) d K:=by cases f<;>rfl
theorem TY(d t x a):On P T d (.call ⟨.value (.tmp t),x,a⟩) σ K=Et P σ (.tmp t) x.toList d K:=(rfl)
def ApO:(∀v g t r d,wM P σ (.raw v) g t r d K=Et P σ (.func g) (.tmp t::r) d K)/\(∀k a g t r d,wM P σ (.sl k a) g t r d K=Et P σ (.func g) (.tmp t::r) d K)/\(∀e k a g t r d,wM P σ (.mine e k a) g t r d K=Et P σ (.func g) (.tmp t::r) d K)/\(∀e k a g t r d,wM P σ (.own e k a) g t r d K=Et P σ (.func g) (.tmp t::r) d K)/\(∀c g t r d,wM P σ (.agg c) g t r d K=Et P σ (.func g) (.tmp t::r) d K):=by and_intros<;>intros<;>rfl
def DC(x:AV)(s:Nat)(i:TI)(σ:Φ)(d:Nat)(K:Ψ):Prop:=match x with
 |.box U cs=>dh i<=cs.length/\K ((σ.set s (.box U (bv cs 0 (dh i) ((aq cs 0 (dh i)).map v1)))).set d (pl (em i.td.agg (aq cs 0 (dh i)))))
 |.ref s' off=>(match σ.getD s' .any with
  |.box U cs=>off+dh i<=cs.length/\K ((σ.set s' (.box U (bv cs off (dh i) ((aq cs off (dh i)).map v1)))).set d (pl (em i.td.agg (aq cs off (dh i)))))
  |_=>False)
 |.elt y=>Lb y=true/\(cellsOf y).length=dh i/\K (σ.set d (pl (em i.td.agg (cellsOf y))))
 |_=>False
def φ(x:AV)(s o:Nat)(i:TI)(σ:Φ)(d:Nat)(K:Ψ):Prop:=match x with
 |.box U cs=>o+dh i<=cs.length/\K ((σ.set s (.box U (bv cs o (dh i) ((aq cs o (dh i)).map v1)))).set d (pl (em i.td.agg (aq cs o (dh i)))))
 |_=>False
def TZ:(∀i s d,I7 σ i (.tmp s) (some d) K=DC (σ.getD s .any) s i σ d K)/\(∀U c s i d,DC (.box U c) s i σ d K=(dh i<=c.length/\K ((σ.set s (.box U (bv c 0 (dh i) ((aq c 0 (dh i)).map v1)))).set d (pl (em i.td.agg (aq c 0 (dh i)))))))/\(∀a o s i d,DC (.ref a o) s i σ d K=φ (σ.getD a .any) a o i σ d K)/\(∀y s i d,DC (.elt y) s i σ d K=(Lb y=true/\(cellsOf y).length=dh i/\K (σ.set d (pl (em i.td.agg (cellsOf y))))))/\(∀U c a o i d,φ (.box U c) a o i σ d K=(o+dh i<=c.length/\K ((σ.set a (.box U (bv c o (dh i) ((aq c o (dh i)).map v1)))).set d (pl (em i.td.agg (aq c o (dh i))))))):=by and_intros<;>intros<;>rfl
def Vc(x:AV)(s:Nat)(i:TI)(σ:Φ)(z:AV)(K:Ψ):Prop:=match x with
 |.box U cs=>Lb z=true/\(cellsOf z).length=i.size/\i.size<=cs.length/\K (σ.set s (.box U (bv cs 0 i.size (cellsOf z))))
 |.ref s' off=>(match σ.getD s' .any with
  |.box U cs=>Lb z=true/\(cellsOf z).length=i.size/\off+i.size<=cs.length/\K (σ.set s' (.box U (bv cs off i.size (cellsOf z))))
  |_=>False)
 |_=>False
def Aix(x:AV)(s o:Nat)(i:TI)(σ:Φ)(z:AV)(K:Ψ):Prop:=match x with
 |.box U cs=>Lb z=true/\(cellsOf z).length=i.size/\o+i.size<=cs.length/\K (σ.set s (.box U (bv cs o i.size (cellsOf z))))
 |_=>False
def IF:(∀i s y,I0 σ i (.tmp s) y none K=Vc ((d7 σ y).getD s .any) s i (d7 σ y) (bj σ y) K)/\(∀U c s i z,Vc (.box U c) s i σ z K=(Lb z=true/\(cellsOf z).length=i.size/\i.size<=c.length/\K (σ.set s (.box U (bv c 0 i.size (cellsOf z))))))/\(∀a o s i z,Vc (.ref a o) s i σ z K=Aix (σ.getD a .any) a o i σ z K)/\(∀U c a o i z,Aix (.box U c) a o i σ z K=(Lb z=true/\(cellsOf z).length=i.size/\o+i.size<=c.length/\K (σ.set a (.box U (bv c o i.size (cellsOf z)))))):=by and_intros<;>intros<;>rfl
def pG(p:Option (Nat×Option Nat×Option Bool))(x:AV)(s d:Nat)(σ:Φ)(K:Ψ):Prop:=match p with
 |some (off,some n,some agg)=>(match x with
  |.box _ _=>n≠0/\s≠d/\K (σ.set d (.ref s off))
  |.ref s' o=>(match σ.getD s' .any with
   |.box _ _=>n≠0/\s'≠d/\K (σ.set d (.ref s' (o+off)))
   |_=>False)
  |.elt y=>n≠0/\Lb y=true/\(agg=false->n=1)/\off+n<=(cellsOf y).length/\K (σ.set d (.elt (em agg (aq (cellsOf y) off n))))
  |_=>False)
 |_=>False
def υ(x:AV)(s o n d:Nat)(σ:Φ)(K:Ψ):Prop:=match x with
 |.box _ _=>n≠0/\s≠d/\K (σ.set d (.ref s o))
 |_=>False
def dI(i s f d):B1 σ i (.tmp s) f (some d) K=pG i.td.ig[f]? (σ.getD s .any) s d σ K:=by
 unfold B1 pG;generalize i.td.ig[f]? =p
 cases p with
 |none=>rfl
 |some p=>obtain⟨o,n,g⟩:=p;cases n<;>cases g<;>rfl
def Adw:(∀a n agg U c s d,pG (some (a,some n,some agg)) (.box U c) s d σ K=(n≠0/\s≠d/\K (σ.set d (.ref s a))))/\(∀a n agg b o s d,pG (some (a,some n,some agg)) (.ref b o) s d σ K=υ (σ.getD b .any) b (o+a) n d σ K)/\(∀U c b o n d,υ (.box U c) b o n d σ K=(n≠0/\b≠d/\K (σ.set d (.ref b o))))/\(∀a n agg y s d,pG (some (a,some n,some agg)) (.elt y) s d σ K=(n≠0/\Lb y=true/\(agg=false->n=1)/\a+n<=(cellsOf y).length/\K (σ.set d (.elt (em agg (aq (cellsOf y) a n)))))):=by and_intros<;>intros<;>rfl
def fJ(T:Br)(i:TI)(x y:AV)(s d:Nat)(σ:Φ)(K:Ψ):Prop:=match x with
 |.box _ _=>(match i.td.arr,y with
  |some (len,e),.raw (.int _ n)=>(match T e with
   |some j=>0<=n/\n<len/\s≠d/\K (σ.set d (.ref s (n.toNat *j.size)))
   |none=>False)
  |_,_=>False)
 |x=>Fl T i (pl x) y (Mz d σ K)
def TO(a:Option (Nat×Nat))(T:Br)(n:Int)(s d:Nat)(σ:Φ)(K:Ψ):Prop:=match a with
 |some (len,e)=>(match T e with
  |some j=>0<=n/\n<len/\s≠d/\K (σ.set d (.ref s (n.toNat *j.size)))
  |none=>False)
 |none=>False
def τ(o:Option TI)(a:Nat)(n:Int)(s d:Nat)(σ:Φ)(K:Ψ):Prop:=match o with
 |some j=>0<=n/\n<a/\s≠d/\K (σ.set d (.ref s (n.toNat *j.size)))
 |none=>False
def Y4(i s d y):Cf T σ i (.tmp s) y (some d) K=fJ T i (σ.getD s .any) (bj σ y) s d σ K:=by
 have h:bj σ (.tmp s)=pl (σ.getD s .any):=(rfl);unfold Cf fJ;simp only[h];generalize bj σ y=u;cases σ.getD s .any<;>try rfl
 cases i.td.arr<;>cases u<;>try rfl
 rename_i v;cases v<;>rfl
def Adx(i U c k n s d):fJ T i (.box U c) (.raw (.int k n)) s d σ K=TO i.td.arr T n s d σ K:=by unfold fJ TO;cases i.td.arr<;>rfl
theorem IG(a e n s d):TO (some (a,e)) T n s d σ K=τ (T e) a n s d σ K:=(rfl)
theorem Amb(j a n s d):τ (some j) a n s d σ K=(0<=n/\n<a/\s≠d/\K (σ.set d (.ref s (n.toNat *j.size)))):=(rfl)
def IE(o:Γ)(T:Br)(k:Nat)(a:Φ)(n:Int)(K:AV->Prop):Prop:=match o with
 |some e=>(match T e with
  |some j=>k=j.size/\0<=n/\n.toNat<a.length/\K (.elt (a.getD n.toNat .any))
  |none=>False)
 |none=>False
def ς(o:Option TI)(k:Nat)(e:Φ)(n:Int)(K:AV->Prop):Prop:=match o with
 |some j=>k=j.size/\0<=n/\n.toNat<e.length/\K (.elt (e.getD n.toNat .any))
 |none=>False
def Ajy:(∀i k a b n s d,fJ T i (.sl k a) (.raw (.int b n)) s d σ K=IE i.td.elem T k a n (Mz d σ K))/\(∀i e k a b n s d,fJ T i (.own e k a) (.raw (.int b n)) s d σ K=IE i.td.elem T k a n (Mz d σ K)):=by and_intros<;>intros<;>rfl
theorem Aoi(e k a n)(K:AV->Prop):IE (some e) T k a n K=ς (T e) k a n K:=(rfl)
theorem Amc(j k e n)(K:AV->Prop):ς (some j) k e n K=(k=j.size/\0<=n/\n.toNat<e.length/\K (.elt (e.getD n.toNat .any))):=(rfl)
def Amd:(∀t i d,Uv σ t i (some d) K=(Iy i.zero=true/\σ.all (Lj d)=true/\K (σ.set d (.box t (i.zero.map R5)))))/\(∀t x d,GV σ t x (some d) K=(Lb (bj σ x)=true/\(d7 σ x).all (Lj d)=true/\K ((d7 σ x).set d (.box t (cellsOf (bj σ x)))))):=by and_intros<;>intros<;>rfl
def QT(p:Option (Nat×Option Nat×Option Bool))(f:List (Nat×Option Nat×Option Bool))(x:AV)(r:List (Nat×AV))(c:Φ)(K:Ψ):Prop:=match p with
 |some (off,some size,_)=>Lb x=true/\(cellsOf x).length=size/\off+size<=c.length/\G8 f r (bv c off size (cellsOf x)) K
 |_=>False
theorem IH(f c):G8 f [] c K=K c:=(rfl)
def wK(f i x r c):G8 f ((i,x)::r) c K=QT f[i]? f x r c K:=by
 unfold QT;simp only[G8];generalize f[i]? =p
 cases p with
 |none=>rfl
 |some p=>obtain⟨o,n,g⟩:=p;cases n<;>rfl
theorem UA(o size g f x r c):QT (some (o,some size,g)) f x r c K=(Lb x=true/\(cellsOf x).length=size/\o+size<=c.length/\G8 f r (bv c o size (cellsOf x)) K):=(rfl)
def π(i:Θ)(p:List AV×List AV)(e:Nat)(j:TI)(n d:Nat)(K:Ψ):Prop:=
 i=List.range n/\n*j.size<=16777216/\n<=16777216/\0<n*j.size/\rowOk j.size (p.1.map view)=true/\K (p.2.set d (.own e j.size (p.1.map view)))
theorem Y5(e j n p d):C8 σ e j n p (some d) K=π (p.map (·.1)) (bi σ (p.map (·.2))) e j n d K:=(rfl)
theorem ApU(i x a e j n d):π i (x,a) e j n d K=(i=List.range n/\n*j.size<=16777216/\n<=16777216/\0<n*j.size/\rowOk j.size (x.map view)=true/\K (a.set d (.own e j.size (x.map view)))):=(rfl)
def DD(P:Program)(f:AV)(p:List AV×List AV)(d:Γ)(K:Ψ):Prop:=match f with
 |.raw (.func (.func g) first caps)=>first.toList=[]/\Aa P g (p.1++caps.toList.map R5) (pT d p.2 K)
 |.ee g cs=>Aa P g (p.1++cs) (pT d p.2 K)
 |_=>False
theorem UB(f x d):Et P σ f x d K=DD P (bj σ f) (bi σ x) d K:=(rfl)
def Ajz(g x a d):DD P (.raw (.func (.func g) #[] #[])) (x,a) d K=Aa P g x (pT d a K):=by simp[DD]
theorem Ady(g c x a d):DD P (.ee g c) (x,a) d K=Aa P g (x++c) (pT d a K):=(rfl)
def Aqe:(∀g c t d,HY (.ee g c) t d σ K=K (σ.set d (.ee g c)))/\(∀g c t d,wJ (.ee g c) t d σ K=K (σ.set d (.ee g c)))/\(∀U c m s,wE (.box U c) m s K σ=(c.all WO=true/\K (σ.set s (.elt (.agg c))))):=by and_intros<;>intros<;>rfl
def Aqf:(∀a c g t r d,wM P σ (.ee a c) g t r d K=Et P σ (.func g) (.tmp t::r) d K)/\(∀x g t r d,wM P σ (.elt x) g t r d K=Et P σ (.func g) (.tmp t::r) d K):=by and_intros<;>intros<;>rfl
theorem Adv(d f x a):On P T (some d) (.makeFunc (.func f) #[] (List.toArray (x::a))) σ K=(((x::a).map (bj σ)).all WO=true/\K (σ.set d (.ee f ((x::a).map (bj σ))))):=(rfl)
end
def gp(k:IntKind)(a b:Int):Int:=k.wrap (BitVec.ofInt k.bits a ^^^ BitVec.ofInt k.bits b).toNat
def xy(k:IntKind)(a b:Int):Int:=k.wrap (a*2 ^ (min b.toNat k.bits))
def qz(k:IntKind)(a b:Int):Int:=a.fdiv (2 ^ (min b.toNat k.bits))
section
variable{P:Program}{T:Br}{K:AV->Prop}{c:Φ}
def wL:(∀k d a b,Hs .add (.raw (.int k a)) (.raw (.int d b)) K=(k=d/\K (.raw (.int k (k.wrap (a+b))))))/\(∀k d a b,Hs .sub (.raw (.int k a)) (.raw (.int d b)) K=(k=d/\K (.raw (.int k (k.wrap (a-b))))))/\(∀k d a b,Hs .mul (.raw (.int k a)) (.raw (.int d b)) K=(k=d/\K (.raw (.int k (k.wrap (a*b))))))/\(∀k d a b,Hs .quo (.raw (.int k a)) (.raw (.int d b)) K=(k=d/\b≠0/\K (.raw (.int k (k.wrap (a.tdiv b))))))/\(∀k d a b,Hs .rem (.raw (.int k a)) (.raw (.int d b)) K=(k=d/\b≠0/\K (.raw (.int k (a.tmod b)))))/\(∀k d a b,Hs .xor (.raw (.int k a)) (.raw (.int d b)) K=(k=d/\K (.raw (.int k (gp k a b)))))/\(∀k d a b,Hs .eql (.raw (.int k a)) (.raw (.int d b)) K=(k=d/\K (.raw (.bool (a==b)))))/\(∀k d a b,Hs .neq (.raw (.int k a)) (.raw (.int d b)) K=(k=d/\K (.raw (.bool (a != b))))):=by and_intros<;>intros<;>rfl
def Cr:(∀k d a b,Hs .lss (.raw (.int k a)) (.raw (.int d b)) K=(k=d/\K (.raw (.bool (decide (a<b))))))/\(∀k d a b,Hs .leq (.raw (.int k a)) (.raw (.int d b)) K=(k=d/\K (.raw (.bool (decide (a<=b))))))/\(∀k d a b,Hs .gtr (.raw (.int k a)) (.raw (.int d b)) K=(k=d/\K (.raw (.bool (decide (b<a))))))/\(∀k d a b,Hs .geq (.raw (.int k a)) (.raw (.int d b)) K=(k=d/\K (.raw (.bool (decide (b<=a))))))/\(∀k d a b,Hs .shl (.raw (.int k a)) (.raw (.int d b)) K=(0<=b/\K (.raw (.int k (xy k a b)))))/\(∀k d a b,Hs .shr (.raw (.int k a)) (.raw (.int d b)) K=(0<=b/\K (.raw (.int k (qz k a b)))))/\(∀s t,Hs .add (.raw (.string s)) (.raw (.string t)) K=(s.data.toList.length+t.data.toList.length<=9223372036854775807/\K (.raw (.string ⟨(s.data.toList++t.data.toList).toArray⟩))))/\(∀s t,Hs .eql (.raw (.string s)) (.raw (.string t)) K=(K (.raw (.bool (s.data.toList==t.data.toList))))):=by and_intros<;>intros<;>rfl
def C0:(∀s t,Hs .neq (.raw (.string s)) (.raw (.string t)) K=(K (.raw (.bool (!(s.data.toList==t.data.toList))))))/\(∀s t,Hs .lss (.raw (.string s)) (.raw (.string t)) K=(K (.raw (.bool (Op.bytesLess s.data.toList t.data.toList)))))/\(∀s t,Hs .leq (.raw (.string s)) (.raw (.string t)) K=(K (.raw (.bool (Op.bytesLess s.data.toList t.data.toList||s.data.toList==t.data.toList)))))/\(∀s t,Hs .gtr (.raw (.string s)) (.raw (.string t)) K=(K (.raw (.bool (!(Op.bytesLess s.data.toList t.data.toList||s.data.toList==t.data.toList))))))/\(∀s t,Hs .geq (.raw (.string s)) (.raw (.string t)) K=(K (.raw (.bool (!(Op.bytesLess s.data.toList t.data.toList)))))):=by and_intros<;>intros<;>rfl
theorem Acw(t x y):Ln T .eql t (.agg x) (.agg y) K=vF (T t) x y K false:=(rfl)
def Ame:(∀i x y neg K,vF (some i) x y K neg=GU i.eqs x y K neg)/\(∀q x y neg K,GU (some q) x y K neg=vE (Uq x y q) K neg):=by and_intros<;>intros<;>rfl
def Aj1(b)(K:AV->Prop):vE (some b) K false=K (.raw (.bool b)):=by simp[vE]
def UC:(∀x y,Uq x y []=some true)/\(∀x y o k r,Uq x y ((o,k)::r)=x9 (oB (x.getD o .any) (y.getD o .any) k) (Uq x y r))/\(∀a b,x9 (some a) (some b)=some (a&&b)):=by and_intros<;>intros<;>rfl
def Aj2(k a b):oB (.raw (.int k a)) (.raw (.int k b)) 0=some (a==b):=by simp[oB]
def Aj3(a b:Ϟ):oB (.raw (.string ⟨a.toArray⟩)) (.raw (.string ⟨b.toArray⟩)) 1=some (a==b):=by simp[oB]
attribute [go_sem] Acw Ame Aj1 UC Aj2 Aj3
def Aqg:(∀b,WE .not (.raw (.bool b)) K=K (.raw (.bool (!b))))/\(∀k n,WE .neg (.raw (.int k n)) K=K (.raw (.int k (k.wrap (0-n))))):=by and_intros<;>intros<;>rfl
def Aok:(∀i s,IA (.raw (.string s)) i c K=(i.td.str=true/\K (.raw (.int .i64 (s.data.toList.length:Int)))))/\(∀i k a,IA (.sl k a) i c K=(i.td.elem.isSome=true/\K (.raw (.int .i64 (a.length:Int)))))/\(∀i e k a,IA (.own e k a) i c K=(i.td.elem.isSome=true/\K (.raw (.int .i64 (a.length:Int))))):=by and_intros<;>intros<;>rfl
def Aiy(x:AV)(i:TI)(K:AV->Prop):Prop:=match x with
 |.row _ _ es=>i.td.elem.isSome=true/\K (.raw (.int .i64 (es.length:Int)))
 |_=>False
theorem wO(s i):IA (.alias s) i c K=Aiy (c.getD s .any) i K:=(rfl)
theorem Amf(i e k a):Aiy (.row e k a) i K=(i.td.elem.isSome=true/\K (.raw (.int .i64 (a.length:Int)))):=(rfl)
theorem AoO{Q:Exit->Ψ}(t s d g r dst):Jt P T (.lend t s d g r dst) Q c=pQ P T t s d g r dst (Q .normal) c:=(rfl)
def ο(o:Option TI)(P:Program)(s d g:Nat)(r:List Operand)(dst:Γ)(L:Ψ)(c:Φ):Prop:=match o with
 |some i=>i.td.agg=false/\dst≠some s/\c.length.ble d=false/\RX P (c.getD s .any) s d g r dst L c
 |none=>False
theorem UE(t s d g r dst L):pQ P T t s d g r dst L c=ο (T t) P s d g r dst L c:=(rfl)
def Amh:(∀i s d g r dst L,ο (some i) P s d g r dst L c=(i.td.agg=false/\dst≠some s/\c.length.ble d=false/\RX P (c.getD s .any) s d g r dst L c))/\(∀t e k a s d g r dst L,RX P (.box t [.mine e k a]) s d g r dst L c=Cm P g (.row e k a) (bi ((c.set s .any).set d .any) r).1 (na e k s t dst (bi ((c.set s .any).set d .any) r).2 L)):=by and_intros<;>intros<;>rfl
theorem Ami(e k s t dst b L r d f a):na e k s t dst b L r (.row d f a)=(d=e/\f=k/\L (am (b.set s (.box t [.mine e k a])) dst r)):=(rfl)
def AoQ:(∀L,Jc T [] c L=L [])/\(∀t r L,Jc T (.tmp t::r) c L=Jc T r (d7 c (.tmp t)) λv=>L (bj c (.tmp t)::v)):=by and_intros<;>intros<;>rfl
def UF(o:Option TI)(x:AV)(T:Br)(r:List ResultVar)(s:Nat)(c:Φ)(L:Ψ):Prop:=match o with
 |some i=>(match x with
  |.box Te cs=>dh i<=cs.length/\Jc T r (c.set s (.box Te (bv cs 0 (dh i) ((aq cs 0 (dh i)).map v1)))) λv=>L (pl (em i.td.agg (aq cs 0 (dh i)))::v)
  |_=>False)
 |none=>False
def II:(∀s t r L,Jc T (.cell s t::r) c L=UF (T t) (c.getD s .any) T r s c L)/\(∀i b a r s L,UF (some i) (.box b a) T r s c L=(dh i<=a.length/\Jc T r (c.set s (.box b (bv a 0 (dh i) ((aq a 0 (dh i)).map v1)))) λv=>L (pl (em i.td.agg (aq a 0 (dh i)))::v))):=by and_intros<;>intros<;>rfl
end
def Ld:List Bool->Φ->Φ
 |true::m,_::xs=>.any::Ld m xs
 |false::m,x::xs=>x::Ld m xs
 |_,xs=>xs
theorem Sn(m x a):Ld (true::m) (x::a)=.any::Ld m a:=(rfl)
theorem Sp(m x a):Ld (false::m) (x::a)=x::Ld m a:=(rfl)
def Jd(x):Ld [] x=x:=by cases x<;>rfl
def Ey:Θ->Φ->Φ->Φ
 |s::ss,x::xs,σ=>Ey ss xs (σ.set s x)
 |_,_,σ=>σ
theorem F3(s a x b c):Ey (s::a) (x::b) c=Ey a b (c.set s x):=(rfl)
theorem He(x a):Ey [] x a=a:=(rfl)
def lend(m:List Bool)(s:Θ)(R:Nat->Ψ)(c:Φ)(n:Nat)(b:Φ):Prop:=∃k a,k<n/\Wk b a/\∃x,R k x/\a=Ey s x (Ld m c)
def Ak{P T c}{Q:Exit->Ψ}{a}(m b)(R:Nat->Ψ)(s:∃n x,R n x/\Wk a (Ey b x (Ld m a)))(round:∀n x,R n x->Jt P T c (kJ (lend m b R a n) Q) (Ey b x (Ld m a))):Jt P T (.loop c) Q a:=by obtain⟨e,g,i,h⟩:=s;refine⟨λn d=>∃x,R n x/\d=Ey b x (Ld m a),⟨e,_,h,g,i,rfl⟩,?_⟩;rintro n j ⟨f,k,rfl⟩;exact round n f k
def ξ(m:List Bool)(s:Θ)(R:Ψ)(c b:Φ):Prop:=∃a,Wk b a/\∃x,R x/\a=Ey s x (Ld m c)
def Xl{P T x y}{Q:Exit->Ψ}{d}(m s R)(b:Jt P T x (kJ (ξ m s R d) Q) d)(a:∀c,R c->Jt P T y Q (Ey s c (Ld m d))):Jt P T (.cut x y) Q d:=
 ⟨λe=>∃c,R c/\e=Ey s c (Ld m d),λf ⟨c,h,g⟩=>g▸a c h,b⟩
def Gt{m:List Bool}{s:Θ}{R:Ψ}{b a:Φ}(x:Φ)(h:R x)(c:Wk a (Ey s x (Ld m b))):ξ m s R b a:=
 ⟨_,c,x,h,rfl⟩
def Av{m:List Bool}{s:Θ}{R:Nat->Ψ}{b:Φ}{n:Nat}{a:Φ}(k:Nat)(x:Φ)(h:k<n)(c:R k x)(d:Wk a (Ey s x (Ld m b))):lend m s R b n a:=
 ⟨k,_,h,d,x,c,rfl⟩
def U3{x:AV}{a y:Φ}(h:Wk a y):Wk (x::a) (.any::y):=.cons (W1.any x) rfl h
def Ju{e k:Nat}{x y:Φ}(h:Wk x y):Wk (.nil::x) (.own e k []::y):=.cons (W1.nilown e k) rfl h
def Rh{e k:Nat}{x y:Φ}(h:Wk x y):Wk (.nil::x) (.mine e k []::y):=.cons (W1.lh e k) rfl h
def Bl{e k:Nat}{es x ys:Φ}(h:Wk x ys):Wk (.own e k es::x) (.sl k es::ys):=.cons (dy e k es) rfl h
def B7{k:Nat}{x ys:Φ}(h:Wk x ys):Wk (.nil::x) (.sl k []::ys):=.cons (W1.o4 k) rfl h
attribute [go_sem] SF Cg Adh SO SP Adi wF wG HV TC TE TF TG HW TJ TK TM HX TP TQ TR TS li AoO UE Amh Ami Lc ApH ApM Nat.reduceMod decide_false decide_true Nat.reduceLeDiff Anf SH AmW AmX AmY AmZ Aki B6 SJ Adc Aq4 An8 Akr wC HU Ang Nz Adf SN kL SR SU Ajs SX dG Y3 Adj SZ Eb Adk TH Adm kN TU Ado Adq HZ Ads Ajv IB Adt TW TX TY ApO TZ IF dI Adw Y4 Adx IG Amb Ajy Aoi Amc Amd Y5 ApU UB Ajz IH wK UA vx ArQ Ady Aqe Aqf Adv WO An9 pA Kt oC Bool.or_self bj pl B8 R5 d7 Qj bi nv rv am v1 v2 view aq bv em cellsOf dh Lb Lj wL Cr C0 Aqg Aok wO Amf Nat.reduceSub AoQ II List.getD_cons_zero List.getD_cons_succ DA Β dB gx List.drop ev db gy fm ba aw dg eh qv List.headD_cons List.drop_succ_cons List.drop_zero sn List.all_nil fj Iy Value.oneCell' pq ng if_true if_false f0 true_and implies_true dq not_true_eq_false false_implies List.contains_cons List.contains_nil beq_self_eq_true Bool.or_true rc Nat.reduceBEq qm Bool.or_false
end
section
variable[Env]
def num(n:Int):AV:=.raw (.int .i64 n)
def str(l:Ϟ):AV:=.raw (.string ⟨l.toArray⟩)
def Af(b:Bool):AV:=.raw (.bool b)
def Ar(l:List Int):Φ:=l.map num
@[go_sem] def Ao(l):(Ar l).length=l.length:=by simp[Ar]
def Ad1(a b:Int):(a==b)=decide (a=b):=by grind
def Ad2(a b:Int):(a != b)= !decide (a=b):=by grind
attribute [go_sem] Ad1 Ad2
def Ad3{p:Prop}{c:Decidable p}{A B a}(h1:p->A a)(b:¬p->B a):DU (decide p) A B a:=wA (λh=>h1 (of_decide_eq_true h)) (λh=>b (of_decide_eq_false h))
def Ad4{p:Prop}{c:Decidable p}{A B a t}(h1:p->A (a.set t (.raw (.bool true))))(b:¬p->B (a.set t (.raw (.bool false)))):uZ (decide p) a t A B:=wB (λh=>h1 (of_decide_eq_true h)) (λh=>b (of_decide_eq_false h))
def DV{e A B a}(h1:e=false->A a)(b:e=true->B a):DU (!e) A B a:=wA (λh=>h1 (by simpa using h)) (λh=>b (by simpa using h))
def DW{e A B a t}(h1:e=false->A (a.set t (.raw (.bool true))))(b:e=true->B (a.set t (.raw (.bool false)))):uZ (!e) a t A B:=wB (λh=>h1 (by simpa using h)) (λh=>b (by simpa using h))
def UG{p:Prop}{c:Decidable p}{A B a}(h1:¬p->A a)(b:p->B a):DU (!decide p) A B a:=DV (λh=>h1 (of_decide_eq_false h)) (λh=>b (of_decide_eq_true h))
def UH{p:Prop}{c:Decidable p}{A B a t}(h1:¬p->A (a.set t (.raw (.bool true))))(b:p->B (a.set t (.raw (.bool false)))):uZ (!decide p) a t A B:=DW (λh=>h1 (of_decide_eq_false h)) (λh=>b (of_decide_eq_true h))
class Aq (G:Prop) (A B:outParam Prop):Prop where
 on:A->B->G
instance {e:Bool} {A B:Ψ} {a:Φ}:Aq (DU e A B a) (e=true->A a) (e=false->B a):=⟨wA⟩
instance {e:Bool} {A B:Ψ} {a:Φ} {t:Nat}:Aq (uZ e a t A B) (e=true->A (a.set t (.raw (.bool true)))) (e=false->B (a.set t (.raw (.bool false)))):=⟨wB⟩
instance {e:Bool} {A B:Ψ} {a:Φ}:Aq (DU (!e) A B a) (e=false->A a) (e=true->B a):=⟨DV⟩
instance {e:Bool} {A B:Ψ} {a:Φ} {t:Nat}:Aq (uZ (!e) a t A B) (e=false->A (a.set t (.raw (.bool true)))) (e=true->B (a.set t (.raw (.bool false)))):=⟨DW⟩
instance {p:Prop} {h:Decidable p} {A B:Ψ} {a:Φ}:Aq (DU (decide p) A B a) (p->A a) (¬p->B a):=⟨Ad3⟩
instance {p:Prop} {h:Decidable p} {A B:Ψ} {a:Φ} {t:Nat}:Aq (uZ (decide p) a t A B) (p->A (a.set t (.raw (.bool true)))) (¬p->B (a.set t (.raw (.bool false)))):=⟨Ad4⟩
instance {p:Prop} {h:Decidable p} {A B:Ψ} {a:Φ}:Aq (DU (!decide p) A B a) (¬p->A a) (p->B a):=⟨UG⟩
instance {p:Prop} {h:Decidable p} {A B:Ψ} {a:Φ} {t:Nat}:Aq (uZ (!decide p) a t A B) (¬p->A (a.set t (.raw (.bool true)))) (p->B (a.set t (.raw (.bool false)))):=⟨UH⟩
class Cj (G:Prop) (A B:outParam Prop):Prop where
 on:A->B->G
instance {A B:Prop}:Cj (A/\B) A B:=⟨And.intro⟩
def gD{G A B:Prop}[i:Cj G A B](b:B)(a:A:=by first|omega|rfl|decide|with_unfolding_all rfl):G:=i.on a b
attribute [go_sem] Nat.reduceLT Nat.reduceAdd Nat.reduceSub Nat.reduceMul Nat.reduceLeDiff ne_eq Nat.reduceEqDiff not_false_eq_true qn ph Nat.succ_ne_self and_true oi px Int.toNat_zero Int.reduceToNat md Int.toNat_one
def Aa.wk{P:Program}{f:Nat}{x ys:Φ}{R:AV->Prop}(h:Aa P f ys R)(k:Wk x ys):Aa P f x R:=by obtain⟨h1,l,m⟩:=h;refine⟨h1,l,λw S n c o p q=> ?_⟩;obtain⟨s,g,d⟩:=k.rep p;exact(m w S n s o g (λb=>cp (d b) (q b))).mono λe D ⟨v,r,t,i,u,y,z,A,B,C,a⟩=>⟨v,r,t,i,u,y,z,A,B,C,⟨a.os,a.tape,a.output,a.size,λb j E=>a.keep b j (by grind),a.cell,a.le,λb j=>cp (a.own b j) (d b)⟩⟩
def W1.agg{x ys:Φ}(h:Wk x ys):W1 (.agg x) (.agg ys):=λw S v c a=>by
 cases a with
 |agg h1 ho h' hc=>
  cases h' with
  |nil hz=>obtain⟨d,e,f⟩:=h.rep h1;exact⟨d,.agg e ho (.nil Al) (λb=>oS),λb=>by grind⟩
def W1.box{T:Nat}{x ys:Φ}(h:Wk x ys):W1 (.box T x) (.box T ys):=λw S v c a=>by
 cases a with
 |box hb hS h1 ho h' hc=>
  cases h' with
  |nil hz=>obtain⟨f,d,e⟩:=h.rep h1;exact⟨_,.box hb hS d ho (.nil Al) (λb=>rfl),λb=>by grind⟩
def Oh{c ds x y:Φ}(h1:Wk c ds)(h:Wk x y):Wk (.agg c::x) (.agg ds::y):=.cons (W1.agg h1) rfl h
def Aa.lf{P f x}{R m:AV->Prop}(h:Aa P f x R)(n:∀r,R r->∃a,W1 r a/\pb a=true/\m a):Aa P f x m:=by
 obtain⟨h1,⟨G,H⟩,o⟩:=h;refine⟨h1,?_,λw S p c q t u=> ?_⟩
 grind
 refine(o w S p c q t u).mono λe y ⟨v,r,s,z,A,B,I,C,D,E,F⟩=> ?_;obtain⟨a,g,i,j⟩:=n r B;obtain⟨k,l,d⟩:=g y s v z C;exact⟨v,a,s,k,A,j,i,l,λb=>cp (d b) (D b),E,F.drop d⟩
def Aw{n}(h: -9223372036854775808<=n)(h1:n<=9223372036854775807):IntKind.i64.wrap n=n:=by rw[IntKind.wrap_i64];omega
def Da{i:Nat}(h1:i<9223372036854775807):IntKind.i64.wrap ((i:Int)+1)=((i+1:Nat):Int):=by rw[IntKind.wrap_i64];omega
attribute [go_sem] El Cn Dz U2 Py Fs Oa fO My SE SD Y0 w9 Ais Wd Hv pk pj List.getElem?_toArray aw ba Nat.reduceMod Nat.reduceDiv Nat.reduceBEq Nat.reduceBNe qv gx List.drop_succ_cons List.drop_zero and_self
def LS:(∀(a:AV) l,(a::l).length=l.length+1)/\([]:Φ).length=0/\(∀n (a:AV),List.replicate (n+1) a=a::List.replicate n a)/\(∀a:AV,List.replicate 0 a=[])/\(∀(a:AV) l m,a::l++m=a::(l++m))/\(∀m:Φ,[]++m=m)/\(∀i,num i=.raw (.int .i64 i))/\(∀s,str s=.raw (.string ⟨s.toArray⟩))/\∀b,Af b=.raw (.bool b):=⟨λ_ _=>rfl,rfl,λ_ _=>rfl,λ_=>rfl,λ_ _ _=>rfl,λ_=>rfl,λ_=>rfl,λ_=>rfl,λ_=>rfl⟩
def DN:Bool->Θ->List Bool
 |b,n::r=>List.replicate n b++DN (!b) r
 |_,[]=>[]
def rl(r:Θ):List Bool:=DN false r
def PU:(∀m x c,Ld (true::m) (x::c)=.any::Ld m c)/\(∀m x c,Ld (false::m) (x::c)=x::Ld m c)/\(∀c,Ld [] c=c)/\(∀s e x c d,Ey (s::e) (x::c) d=Ey e c (d.set s x))/\(∀c d,Ey [] c d=d)/\(∀(a:AV) l b,(a::l).set 0 b=b::l)/\(∀(a:AV) l i b,(a::l).set (i+1) b=a::l.set i b)/\(∀i,num i=.raw (.int .i64 i))/\(∀r,rl r=DN false r)/\(∀b,DN b []=[])/\(∀r,DN false (0::r)=DN true r)/\(∀r,DN true (0::r)=DN false r)/\∀b n r,DN b ((n+1)::r)=b::DN b (n::r):=⟨Sn,Sp,Jd,F3,He,λ_ _ _=>rfl,λ_ _ _ _=>rfl,λ_=>rfl,λ_=>rfl,λb=>by cases b<;>rfl,λ_=>rfl,λ_=>rfl,λ_ _ _=>rfl⟩
def DT:(decide True=true)/\(decide False=false)/\(¬(false=true))/\(!true)=false/\(!false)=true:=oD
section
variable{x:AV}{a b c d:Φ}{e k U:Nat}
class Wi (a b:Φ):Prop where
 h:Wk a b
instance (priority:=30):Wi [] []:=⟨.nil⟩
instance (priority:=29):Wi a a:=⟨.refl _⟩
instance (priority:=28) [Wi a b]:Wi (x::a) (x::b):=⟨.same Wi.h⟩
instance (priority:=10) [Wi a b]:Wi (x::a) (.any::b):=⟨U3 Wi.h⟩
instance (priority:=20) [Wi a b] [Wi c d]:Wi (.agg c::a) (.agg d::b):=⟨Oh Wi.h Wi.h⟩
instance (priority:=20) [Wi a b]:Wi (.own e k c::a) (.sl k c::b):=⟨Bl Wi.h⟩
instance (priority:=20) [Wi a b]:Wi (.nil::a) (.sl k []::b):=⟨B7 Wi.h⟩
instance (priority:=20) [Wi a b]:Wi (.nil::a) (.own e k []::b):=⟨Ju Wi.h⟩
instance (priority:=20) [Wi a b]:Wi (.nil::a) (.mine e k []::b):=⟨Rh Wi.h⟩
end
end
section
variable[Env]
section
variable{P:Program}{T:Br}{c:Bt}{a σ:Φ}{K:Φ->Φ->Prop}{g:Φ->Prop}{E:Value->Φ->Φ->Prop}{Q:Exit->Φ->Prop}{d:Γ}
def L7(d:Γ)(K:Ω)(a σ:Φ):Prop:=K a (am σ d (.a6 []))
theorem Apt(d):L7 (some d) K a σ=K a (σ.set d (.a6 [])):=(rfl)
def EK(e:Bool)(A B:Ω)(a σ:Φ):Prop:=Dx e (A a σ) (B a σ)
def AnH(A B):EK true A B a σ=A a σ:=by simp[EK,Dx]
def AnI(A B):EK false A B a σ=B a σ:=by simp[EK,Dx]
def st1(t:Nat)(v:AV)(A:Ω)(a σ:Φ):Prop:=A a (σ.set t v)
theorem Akj(t v A):st1 t v A a σ=A a (σ.set t v):=(rfl)
instance {e:Bool} {A B:Ω} {a σ:Φ}:Aq (EK e A B a σ) (e=true->A a σ) (e=false->B a σ):=⟨λh1 h=>⟨h1,h⟩⟩
instance {e:Bool} {A B:Ω} {a σ:Φ}:Aq (EK (!e) A B a σ) (e=false->A a σ) (e=true->B a σ):=⟨λh1 b=>⟨λh=>h1 (by simpa using h),λh=>b (by simpa using h)⟩⟩
instance {p:Prop} {c:Decidable p} {A B:Ω} {a σ:Φ}:Aq (EK (decide p) A B a σ) (p->A a σ) (¬p->B a σ):=⟨λh1 b=>⟨λh=>h1 (of_decide_eq_true h),λh=>b (of_decide_eq_false h)⟩⟩
instance {p:Prop} {c:Decidable p} {A B:Ω} {a σ:Φ}:Aq (EK (!decide p) A B a σ) (¬p->A a σ) (p->B a σ):=⟨λh1 b=>⟨λh=>h1 (of_decide_eq_false (by simpa using h)),λh=>b (of_decide_eq_true (by simpa using h))⟩⟩
def Yr(x:AV)(t:Nat)(w:Bool)(a σ:Φ)(A B:Ω):Prop:=match x with
 |.raw (.bool e)=>bif w then EK e (st1 t (.raw (.bool true)) A) (st1 t (.raw (.bool false)) B) a σ else EK e (st1 t (.raw (.bool true)) B) (st1 t (.raw (.bool false)) A) a σ
 |.a6 []=>B a σ
 |_=>False
def AnJ:(∀e t A B,Yr (.raw (.bool e)) t true a σ A B=EK e (st1 t (.raw (.bool true)) A) (st1 t (.raw (.bool false)) B) a σ)/\(∀e t A B,Yr (.raw (.bool e)) t false a σ A B=EK e (st1 t (.raw (.bool true)) B) (st1 t (.raw (.bool false)) A) a σ)/\(∀t w A B,Yr (.a6 []) t w a σ A B=B a σ):=by and_intros<;>intros<;>rfl
def Api:(∀X,Ct c X K E [] a σ=K a σ)/\(∀X d o l,Ct c X K E ((⟨d,o,none⟩,0)::l) a σ=(qb o σ/\c d o a σ (Ct c X K E l) E))/\(∀X d o l,Ct c X K E ((⟨d,o,none⟩,1)::l) a σ=(vU X o σ=true/\c d o a σ (Ct c X K E l) E))/\(∀X d o l,Ct c X K E ((⟨d,o,none⟩,2)::l) a σ=c d o a σ (Ct c X K E l) E)/\(∀X d o l,Ct c X K E ((⟨d,o,none⟩,3)::l) a σ=c d o a σ (Ct c X K E l) E):=by and_intros<;>intros<;>rfl
def xX(X d o t f want l):Ct c X K E ((⟨d,o,some (t,want)⟩,f)::l) a σ=Yr (σ.getD t .any) t want a σ (Ct c X K E ((⟨d,o,none⟩,f)::l)) (L7 d (Ct c X K E l)):=by simp only[Ct,Yr];exact Ah9
def Akl:(∀b t e x y,qb (.binOp b t x y e) σ=wN y (bj σ x) (bj σ y))/\(∀h i,qb (.call ⟨.builtin .len,h,i⟩) σ=True)/\(∀x,qb (.move x) σ=True)/\(∀x,qb (.assign x) σ=True)/\(∀x y z,qb (.pick x y z) σ=True)/\(∀t f x,qb (.field t x f) σ=True)/\(∀x n,qb (.extract x n) σ=True)/\(∀t f x,qb (.fieldAddr t x f) σ=True):=by and_intros<;>intros<;>rfl
def A0:(∀t x y,qb (.indexAddr t x y) σ=True)/\(∀t x l h m,qb (.slice t x l h m) σ=True)/\(∀u t x,qb (.unOp u t x) σ=True)/\(∀x,qb (.nilCheck x) σ=True)/\(∀X t q,vU X (.load t (.tmp q)) σ=gE X q (σ.getD q .any))/\(∀t q,vV (.load t (.tmp q)) σ=xN (σ.getD q .any))/\(∀X U b,hcd X (.box U b) σ=True)/\(∀X t o,hcd X (.ref t o) σ=(X.contains t=true/\Lr (σ.getD t .any)=true)):=by and_intros<;>intros<;>rfl
def Ek:(∀t p,qb (.build t p) σ=True)/\(∀f x y,qb (.makeFunc f x y) σ=True):=by and_intros<;>intros<;>rfl
def Aoe:(∀y k f u v,wN y (.raw (.int k u)) (.raw (.int f v))=True)/\(∀y u v,wN y (.raw (.string u)) (.raw (.string v))=True)/\(∀X q x,gE X q (.elt x)=true)/\(∀X q s o,gE X q (.ref s o)=X.contains s)/\(∀X q U e,gE X q (.box U e)=X.contains q)/\(∀x,xN (.elt x)=true)/\(∀b o,xN (.raw (.pointer (some ⟨b,o,none⟩)))=true)/\(∀U e,Lr (.box U e)=true):=by and_intros<;>intros<;>rfl
def Atu:(∀X d o l,Ct c X K E ((⟨d,o,none⟩,5)::l) a σ=(vV o σ=true/\c d o a σ (Ct c X K E l) E))/\(∀X b e,hd2 c K E X b e a σ=(ϐ X σ=true/\qN (vX c E b) X (Ct c [] K E e) a σ))/\(∀b,vX c E b K a σ=Ct c [] K E b a σ)/\(∀f e,Qu c K E (.d1 f e) a σ=Ct c [] (Ct c [] K E e) E f a σ)/\(∀X Y f b e,Qu c K E (.d2 X Y f b e) a σ=Ct c X (hd2 c K E Y b e) E f a σ)/\(∀f b e,Qu c K E (.d3 f b e) a σ=Ct c [] (Ct c [] (Ct c [] K E e) E b) E f a σ):=by and_intros<;>intros<;>rfl
def Apm:(∀r,qN r [] K a σ=r K a σ)/\(∀r s X,qN r (s::X) K a σ=(hcd X (σ.getD s .any) σ/\qN r X (vW s (σ.getD s .any) K) a (σ.set s .any)))/\(∀s U b,vW s (.box U b) K a σ=(σ.all (Lj s)=true/\K a (σ.set s (.box U b))))/\(∀s t o,vW s (.ref t o) K a σ=(Lr (σ.getD t .any)=true/\t≠s/\K a (σ.set s (.ref t o)))):=by and_intros<;>intros<;>rfl
theorem At4(o):hp0 P T d o a σ K E=On P T d o σ (K a):=(rfl)
theorem Auj:kQ g a σ=g σ:=(rfl)
theorem At5(x):CY P T x g σ=Qu (hp0 P T) (kQ g) nE x [] σ:=(rfl)
theorem At6(t v x):Jt P T (.dr t v x) Q σ=vY t (RS (CY P T x) v (Q .normal)) σ:=(rfl)
end
attribute [go_sem] Apt AnH AnI Akj AnJ Api xX Akl Aoe A0 Atu Apm Ek At4 Auj At5 At6
attribute [go_sem] DE wy xS JA JB JC xR xB xY F5 fZ List.isEmpty_nil List.isEmpty_cons Bool.or_self qo Bool.and_self cond_false cond_true
end
section
variable[Env]
def Aj4{P f a c w S}(h:Aa P f a (λr=>r=Af true))(i:Sz w S)(j:Ac w S a c (λ_=>0)):
 Calls P f c.toArray w λe g=>e=.returned (.bool true)/\Below w.heap.size w g:=by
 refine(h.2.2 w S c _ i j (λ_=>oS)).mono ?_;rintro e g ⟨v,r,s,n,rfl,rfl,o,d,p,q,b⟩;have l:v=.bool true:=by cases d with|raw h1 h=>rfl
 subst l;exact⟨rfl,b.os,b.tape,b.output.1,b.size,λk m=>(b.keep k m rfl).1⟩
def wf_i64{n}(h:(Lit.int .i64 n).wf=true): -9223372036854775808<=n/\n<=9223372036854775807:=by simp[Lit.wf,IntKind.min,IntKind.max,IntKind.signed,IntKind.bits]at h;omega
end
section
variable[Env]
def j1(P:Program)(t:TypeId):Bool:=match P.underlying t with
 |some (.struct _)|some (.array _ _)=>true
 |_=>false
def cW(P:Program)(F:TypeId->Ψ)(t:TypeId)(x:AV):Prop:=
 if j1 P t then∃y,x=.agg y/\F t y else F t [x]
inductive IJ (F:TypeId->Ψ):List TypeId->Ψ
 |nil:IJ F [] []
 |cons {t ts g ys} (h1:F t g) (h:IJ F ts ys):IJ F (t::ts) (g++ys)
def Oi(P:Program):Nat->TypeId->Ψ
 |0,_,_=>False
 |n+1,t,g=>
  match P.underlying t with
  |some .bool=>∃b,g=[Af b]
  |some (.int k)=>∃m,g=[.raw (.int k m)]/\(Lit.int k m).wf=true
  |some .string=>∃l,g=[str l]/\l.length<=maxLen
  |some (.slice e)=>if P.cellsOf e=0 then g=[.any]else
   ∃a,g=[.sl (P.cellsOf e) a]/\a.length<=maxLen/\∀x∈a,cW P (Oi P n) e x
  |some (.struct fs)=>IJ (Oi P n) (fs.toList.map (·.type)) g
  |some (.array m e)=>IJ (Oi P n) (List.replicate m e) g
  |_=>g=[.any]
def Sb(w:World)(b:Nat):Nat:=match w.heap[b]? with
 |some (.cells cs _ _)=>cs.size+1
 |_=>0
def Ant(w)(h:Gs w (Sb w)):Sz w (Sb w):=⟨λb a=>by have:w.heap[b]? =none:=cj a;simp[Sb,this],h⟩
def kP{w a v}(h:w.cell? a=some v):a.spot=none/\a.off<Sb w a.block:=by
 unfold World.cell? at h;split at h
 .rename_i c e f b;split at h
  .cases h
  rename_i d;refine⟨by simpa using d,?_⟩;simp only[Sb,b];exact Nat.lt_succ_of_lt (ah.1 h).1
 .cases h
def Oj{c d}{f:c->Option d}:∀{l:List c} {b:List d},l.mapM f=some b->b.length=l.length/\∀(i:Nat) (y:d),b[i]? =some y->∃x:c,l[i]? =some x/\f x=some y
 |[],b,h=>by simp at h;subst h;simp
 |a::l,b,h=>by
  rw[List.mapM_cons]at h;simp only[Option.bind_eq_bind,Option.bind_eq_some_iff]at h;obtain⟨y,k,m,e,j⟩:=h;simp at j;subst j;obtain⟨h1,n⟩:=Oj e;refine⟨by simp[h1],λi z g=> ?_⟩
  cases i with
  |zero=>simp at g;subst g;exact⟨a,rfl,k⟩
  |succ i=>simpa using n i z (by simpa using g)
def fP{w:World}{a:Addr}{n}{c:ϴ}(h:w.cells? 0 a n=some c):c.length=n/\∀j u,c[j]? =some u->w.cell? (a.add j)=some u:=by unfold World.cells? at h;rw[bn (gu _)]at h;obtain⟨h1,e⟩:=Oj h;refine⟨by simpa using h1,λj u d=> ?_⟩;obtain⟨x,b,f⟩:=e j u d;rw[fe (by have:=(ab.1 d).1;simp at h1;omega)]at b;injection b with b;subst b;exact f
def pZ{a:Addr}(h:a.spot=none)(n):a.add n=⟨a.block,a.off+n,none⟩:=by obtain⟨b,o,s⟩:=a;simp at h;subst h;unfold Addr.add;split<;>simp_all
def Opn{H:Type}(enc:TypeId×Value->H)(P:Program)(w:World)(n:Nat):Prop:=
 ∀(t:TypeId) (c:ϴ) (d:DataW H×List MemPlace),t<P.types.size->DataW.trod enc P w 0 (λ_=>true) true n t c=some d->
  c.length=P.cellsOf t/\(∀u∈c,u.oneCell'=true)/\∃g,Oi P n t g/\Ac w (Sb w) g c (λ_=>0)
def K1 {w:World} {F:TypeId->Ψ} {P:Program} {G:TypeId->ϴ->Prop}
 (d:∀t c,G t c->c.length=P.cellsOf t/\(∀u∈c,u.oneCell'=true)/\∃g,F t g/\Ac w (Sb w) g c (λ_=>0)):
 ∀(a:List TypeId) (c:ϴ),c.length=(a.map P.cellsOf).sum->(∀j t,a[j]? =some t->G t ((c.drop ((a.take j).map P.cellsOf).sum).take (P.cellsOf t)))->
  (∀u∈c,u.oneCell'=true)/\∃g,IJ F a g/\Ac w (Sb w) g c (λ_=>0)
 |[],c,hl,_=>by simp at hl;subst hl;exact⟨oS,[],.nil,.nil Al⟩
 |t::a,c,hl,h=>by
  simp only[ev,List.sum_cons]at hl;obtain⟨h1,e,g,f,i⟩:=d _ _ (by simpa using h 0 t rfl);obtain⟨g2,y,g3,g4⟩:=K1 d a (c.drop (P.cellsOf t)) (by rw[jb];omega) (λj u k=>by have:=h (j+1) u (by simpa using k);simpa[qv,ob]using this);refine⟨λu b=> ?_,g++y,.cons f g3,?_⟩;rw[<-ki (P.cellsOf t) c,ff]at b;rcases b with b|b;exact e u b;exact g2 u b;rw[<-ki (P.cellsOf t) c];exact i.app g4 (λ_=>rfl)
def kR{P n t g}(h:Oi P n t g)(a:j1 P t=false):∃y,g=[y]/\cellsOf y=[y]:=by
 cases n with
 |zero=>exact h.elim
 |succ n=>
  unfold Oi at h;unfold j1 at a;split at h;obtain⟨b,rfl⟩:=h;exact⟨_,rfl,rfl⟩;obtain⟨b,rfl,_⟩:=h;exact⟨_,rfl,rfl⟩;obtain⟨b,rfl,_⟩:=h;exact⟨_,rfl,rfl⟩;split at h;subst h;exact⟨_,rfl,rfl⟩;obtain⟨e,rfl,_⟩:=h;exact⟨_,rfl,rfl⟩
  .rename_i h1;rw[h1]at a;cases a
  .rename_i h1;rw[h1]at a;cases a
  subst h;exact⟨_,rfl,rfl⟩
def fQ{w:World}{P:Program}{n:Nat}{e:TypeId}{a:Addr}(z:0<P.cellsOf e):∀(l o:Nat) (c:List ϴ),c.length=l->
 (∀i b,c[i]? =some b->(b.length=P.cellsOf e/\(∀u∈b,u.oneCell'=true)/\∃g,Oi P n e g/\Ac w (Sb w) g b (λ_=>0))/\∀j u,b[j]? =some u->w.cell? ⟨a.block,o+(i*P.cellsOf e+j),none⟩=some u)->
 ∃k cv,k.length=l/\cv.length=l*P.cellsOf e/\(∀x∈k,cW P (Oi P n) e x/\(cellsOf x).length=P.cellsOf e)/\Ac w (Sb w) (flat k) cv (λ_=>0)/\∀j u,cv[j]? =some u->w.cell? ⟨a.block,o+j,none⟩=some u/\u.oneCell'=true
 |0,o,c,hl,h=>⟨[],[],rfl,oS,oS,.nil Al,oS⟩
 |l+1,o,[],hl,h=>by simp at hl
 |l+1,o,b::c,hl,h=>by
  obtain⟨⟨h1,A,g,p,t⟩,B⟩:=h 0 b rfl;obtain⟨k,cv,g1,g2,g3,g4,g5⟩:=fQ (n:=n) z l (o+P.cellsOf e) c (by simpa using hl) (λi q C=>by obtain⟨D,E⟩:=h (i+1) q (by simpa using C);refine⟨D,λj u d=> ?_⟩;have:=E j u d;rw[show o+P.cellsOf e+(i*P.cellsOf e+j)=o+((i+1)*P.cellsOf e+j) by rw[jx];omega];exact this);have r:g.length=P.cellsOf e:=by rw[<-h1];exact t.length.symm
  have m:∃x,cW P (Oi P n) e x/\cellsOf x=g:=by
   cases s:j1 P e with
   |true=>exact⟨.agg g,by rw[cW,s];exact⟨g,rfl,p⟩,rfl⟩
   |false=>obtain⟨y,rfl,f⟩:=kR p s;exact⟨y,by rw[cW,s];exact p,f⟩
  obtain⟨x,F,v⟩:=m;refine⟨x::k,b++cv,by simp[g1],by rw[dc,h1,g2,jx];omega,λy f=> ?_,?_,λj u d=> ?_⟩;rw[e9]at f;rcases f with rfl|f;exact⟨F,by rw[v,r]⟩;exact g3 y f;rw[flat,v];exact t.app g4 (λ_=>rfl);rw[eD]at d;split at d;rename_i G;have:=B j u d;rw[Nat.zero_mul,jp]at this;exact⟨this,A u (cu d)⟩;rename_i H;obtain⟨q1,I⟩:=g5 _ u d;rw[show o+P.cellsOf e+(j-b.length)=o+j by omega]at q1;exact⟨q1,I⟩
def DY{H}{enc:TypeId×Value->H}{P:Program}{w:World}(I:laidOutB P=true):∀n,Opn enc P w n
 |0,t,b,d,ht,h=>by simp[DataW.trod]at h
 |n+1,t,b,d,ht,h=>by
  have S:=DY (enc:=enc) (w:=w) I n;have hf:=rowFine_of I ht;unfold DataW.trod at h;unfold Oi;split at h;rename_i hu;rw[hu];simp[rowFine,isVar,ht,hu,kindOk]at hf;exact⟨hf.symm,by simp[Value.oneCell'],_,⟨_,rfl⟩,.raw rfl (.nil Al)⟩
  .rename_i hu;rw[hu];simp[rowFine,isVar,ht,hu,kindOk]at hf;split at h
   rename_i z;obtain⟨rfl,z⟩:=z;exact⟨hf.symm,by simp[Value.oneCell'],_,⟨_,rfl,z⟩,.raw rfl (.nil Al)⟩
   .cases h
  exact X8
  .rename_i s hu;rw[hu];simp[rowFine,isVar,ht,hu,kindOk]at hf;split at h
   rename_i z;refine⟨hf.symm,by simp[Value.oneCell'],[str s.data.toList],⟨_,rfl,?_⟩,?_⟩;rw[ot];exact z;exact .raw rfl (.nil Al)
   .cases h
  exact Ahj;exact Ahj;rename_i e hu;rw[hu];simp[rowFine,isVar,ht,hu,kindOk]at hf;dsimp only;refine⟨hf.2.symm,by simp[Value.oneCell'],?_⟩;split;exact⟨_,rfl,.any (.nil Al)⟩;exact⟨_,⟨[],rfl,oS,oS⟩,.j4 oD (.nil Al)⟩
  .rename_i e a l cap hu;rw[hu];simp[rowFine,isVar,ht,hu,kindOk]at hf;dsimp only at h⊢;refine⟨hf.2.symm,by simp[Value.oneCell'],?_⟩;split
   exact⟨_,rfl,.any (.nil Al)⟩;rename_i T;have z:0<P.cellsOf e:=Nat.pos_of_ne_zero T;split at h
   .rename_i hb;obtain⟨_,U,J⟩:=hb;rw[Option.bind_eq_some_iff]at h;obtain⟨A,V,h⟩:=h;obtain⟨K,L⟩:=Oj V;rw[List.length_range]at K;rcases jz l with rfl|hpos
    exact⟨[.sl (P.cellsOf e) []],⟨[],rfl,oS,oS⟩,.j4 J (.nil Al)⟩;have M:∀i,i<l->∃b,w.cells? 0 (a.add (i*P.cellsOf e)) (P.cellsOf e)=some b/\∃d,DataW.trod enc P w 0 (λ_=>true) true n e b=some d:=by intro i p;obtain⟨y,N⟩:∃y,A[i]? =some y:=⟨_,ac om⟩;obtain⟨x,g,o⟩:=L i y N;rw[fe p]at g;injection g with g;subst g;rw[Option.bind_eq_some_iff]at o;obtain⟨b,k,D⟩:=o;exact⟨b,k,y,D⟩
    have he:e<P.types.size:=kid_slice I ht hu;have O:a.spot=none:=by obtain⟨b,k,E,D⟩:=M 0 hpos;obtain⟨l1,l2⟩:=fP k;obtain⟨c,hc⟩:∃c,b[0]? =some c:=⟨_,ac om⟩;have:=(kP (l2 0 c hc)).1;simpa[Addr.add]using this
    have Q:∃q:List ϴ,q.length=l/\∀(i:Nat) (b:ϴ),q[i]? =some b->w.cells? 0 (a.add (i*P.cellsOf e)) (P.cellsOf e)=some b/\∃d,DataW.trod enc P w 0 (λ_=>true) true n e b=some d:=by
     refine⟨(List.range l).map λi=>(w.cells? 0 (a.add (i*P.cellsOf e)) (P.cellsOf e)).getD [],oS,λi b p=> ?_⟩;rw[ao]at p
     have r:i<l:=by
      rcases cq i l with r|hge;exact r
      .rw[eq (by simp;omega)]at p;cases p
     rw[fe r]at p;obtain⟨cs',k,D⟩:=M i r;simp[k]at p;subst p;exact⟨k,D⟩
    obtain⟨q,W,R⟩:=Q;obtain⟨es,cv,g1,g2,g3,g4,g5⟩:=fQ (w:=w) (P:=P) (n:=n) (e:=e) (a:=a) z l a.off q W (λi b p=>by obtain⟨k,E,D⟩:=R i b p;refine⟨S e b E he D,λj u B=> ?_⟩;have:=(fP k).2 j u B;rw[pZ O,pZ rfl]at this;rw[<-Nat.add_assoc];exact this);subst g1;refine⟨[.sl (P.cellsOf e) es],⟨es,rfl,om,λx g=>(g3 x g).1⟩,.sl (cv:=cv) (c0:=λ_=>0) U J O (λx g=>(g3 x g).2) g4 Al g5 ?_ (.nil Al)⟩;have hp:0<cv.length:=by rw[g2];exact Nat.mul_pos hpos z
    obtain⟨u,X⟩:∃u,cv[cv.length-1]? =some u:=⟨_,ac om⟩;have:=(kP (g5 _ u X).1).2;dsimp only at this;omega
   .cases h
  .rename_i b _ _ fs hu;rw[hu];obtain⟨k1,k2,k3⟩:=kid_struct I ht hu;split at h
   rename_i hlen;rw[tj]at h;obtain⟨Y,C,_⟩:=h;obtain⟨K,L⟩:=Oj C
   have:=K1 (w:=w) (F:=Oi P n) (P:=P) (G:=λt b=>t<P.types.size/\∃d,DataW.trod enc P w 0 (λ_=>true) true n t b=some d)
    (λt b ⟨h1,E,Z⟩=>S t b E h1 Z) (fs.toList.map (·.type)) b (by rw[hlen,k2,lq];rfl) (λj t B=>by rw[ao,tj]at B;obtain⟨f,v,rfl⟩:=B;obtain⟨y,N⟩:∃y,Y[j]? =some y:=⟨_,ac (by rw[K];exact(ab.1 v).1)⟩;obtain⟨x,g,o⟩:=L j y N;rw[v]at g;injection g with g;subst g;rw[k3 j f v]at o;refine⟨k1 f (cu v),y,?_⟩;rw[<-ol,lq];exact o)
   exact⟨hlen,this.1,this.2⟩
   .cases h
  .rename_i b _ _ m e hu;rw[hu];obtain⟨k1,k2⟩:=kid_array I ht hu;split at h
   rename_i hlen;rw[tj]at h;obtain⟨Y,C,_⟩:=h;obtain⟨K,L⟩:=Oj C;rw[List.length_range]at K
   have:=K1 (w:=w) (F:=Oi P n) (P:=P) (G:=λt b=>t<P.types.size/\∃d,DataW.trod enc P w 0 (λ_=>true) true n t b=some d)
    (λt b ⟨h1,E,Z⟩=>S t b E h1 Z) (List.replicate m e) b (by rw[hlen,k2];simp) (λj t B=>by
     have hjm:j<m:=by have:=(ab.1 B).1;simpa using this
     have ht':t=e:=by have:=(ab.1 B).2;simpa using this.symm
     subst ht';obtain⟨y,N⟩:∃y,Y[j]? =some y:=⟨_,ac om⟩;obtain⟨x,g,o⟩:=L j y N;rw[fe hjm]at g;injection g with g;subst g;refine⟨k1,y,?_⟩;have e1:((List.replicate m t).take j |>.map P.cellsOf).sum=j*P.cellsOf t:=by rw[List.take_replicate,pp om];simp
     rw[e1];exact o)
   exact⟨hlen,this.1,this.2⟩
   .cases h
  exact X8;exact X8;exact X8;exact X8;exact X8;exact X8;exact X8;exact X8;exact X8;exact X8
  .cases h
def Ad5{H}{i:TypeId×Value->H}{P w l}{r:Reach}{b0}(m:laidOutB P=true){t v}{d:DataW H}{p}(o:t<P.types.size)(a:Value.okWide P l r b0 t v)(h:DataW.Trod i P w 0 (λ_=>true) true t v d p):∃n x,cW P (Oi P n) t x/\Ac w (Sb w) [x] [v] (λ_=>0):=by
 obtain⟨n,h⟩:=h;obtain⟨h1,q,g,j,k⟩:=DY m n t _ _ o h;refine⟨n,?_⟩
 cases f:j1 P t with
 |true=>
  have:∃e,v=.agg e:=by
   unfold Value.okWide at a;unfold j1 at f;split at a;obtain⟨e,h,_⟩:=a;exact⟨e,h⟩;obtain⟨e,h,_⟩:=a;exact⟨e,h⟩;split at f<;>simp_all
  obtain⟨e,rfl⟩:=this;refine⟨.agg g,by rw[cW,f];exact⟨g,rfl,j⟩,?_⟩;have:=Ac.agg (S:=Sb w) (w:=w) k q (.nil Al) (c:=λ_=>0) (λb=>oS);simpa[Value.cells]using this
 |false=>
  obtain⟨y,rfl,s⟩:=kR j f;refine⟨y,by rw[cW,f];exact j,?_⟩
  have:v.cells.toList=[v]:=by
   cases v with
   |agg e=> exfalso;unfold Value.okWide at a;unfold j1 at f;split at a;simp_all;simp_all;unfold Cell.okWide at a;split at a<;>simp_all [Cell.ok]
   |_=>rfl
  rw[this]at k;exact k
inductive Sg (P:Program):List TypeId->Ψ
 |nil:Sg P [] []
 |cons {t n x ts g} (h1:cW P (Oi P n) t x) (h:Sg P ts g):Sg P (t::ts) (x::g)
def qA{H}{enc:TypeId×Value->H}{P w o}{r:Reach}{b0}(l:laidOutB P=true):∀{a:List TypeId} {c:ϴ} {m:List (DataW H)} {e:List MemPlace},(∀t∈a,t<P.types.size)->
 (∀(j:Nat) t v,a[j]? =some t->c[j]? =some v->Value.okWide P o r b0 t v)->DataW.TrodAll enc P w 0 (λ_=>true) true a c m e->
 ∃g,Sg P a g/\Ac w (Sb w) g c (λ_=>0)
 |[],[],[],e,_,_,h=>⟨[],.nil,.nil Al⟩
 |t::a,v::c,d::m,e,ht,hv,h=>by obtain⟨p,q,h1,f,_⟩:=h;obtain⟨n,x,s,u⟩:=Ad5 l (ht t oS) (hv 0 t v rfl rfl) h1;obtain⟨g,i,k⟩:=qA l (λt h=>ht t (by simp[h])) (λj t v h1 f=>hv (j+1) t v (by simpa using h1) (by simpa using f)) f;exact⟨x::g,.cons s i,b4 u k (λb=>oS)⟩
 |[],[],_::_,_,_,_,h=>h.elim
 |[],_::_,_,_,_,_,h=>h.elim
 |_::_,[],_,_,_,_,h=>h.elim
 |_::_,_::_,[],_,_,_,h=>h.elim
def fR{H}{enc:TypeId×Value->H}{P W w}(i:laidOutB P=true)(j:Below W.heap.size W w):∀{a:List TypeId} {f:ϴ} {g:List (DataW H)} {c:List MemPlace},(∀t∈a,t<P.types.size/\P.readableRec t=true)->
 DataW.TrodAll enc P W 0 (λ_=>true) true a f g c->DataW.TrodAll enc P w 0 (λb=>decide (b<W.heap.size)) true a f g c
 |[],[],[],c,_,h=>h
 |t::a,v::f,d::g,c,ht,h=>by obtain⟨p,q,h1,k,e⟩:=h;refine⟨p,q,Below.trod i (ht t oS).2 (ht t oS).1 h1 j ?_,fR i j (λt h=>ht t (by simp[h])) k,e⟩;obtain⟨m,l⟩:=h1;exact DataW.trod_lt m _ _ _ l
 |[],[],_::_,_,_,h=>h.elim
 |[],_::_,_,_,_,h=>h.elim
 |_::_,[],_,_,_,h=>h.elim
 |_::_,_::_,[],_,_,h=>h.elim
variable[Env]
variable{P:Program}{n:Nat}{t:TypeId}{x:AV}{g:Φ}
def qB(a:j1 P t=false)(h:cW P (Oi P n) t x):Oi P n t [x]:=by rw[cW,a]at h;exact h
def UI(a:j1 P t=false)(h:Oi P n t g):∃x,g=[x]/\cW P (Oi P n) t x:=by obtain⟨y,rfl,_⟩:=kR h a;exact⟨y,rfl,by rw[cW,a];exact h⟩
def Ad6(a:j1 P t=true)(h:cW P (Oi P n) t x):∃y,x=.agg y/\Oi P n t y:=by rw[cW,a]at h;exact h
def Ad7{k}(a:P.underlying t=some (.int k))(h:cW P (Oi P n) t x):∃m,x=.raw (.int k m)/\(Lit.int k m).wf=true:=by
 have h:=qB (by simp[j1,a]) h
 cases n with
 |zero=>exact h.elim
 |succ n=>unfold Oi at h;rw[a]at h;obtain⟨l,e,b⟩:=h;injection e with e;exact⟨l,e,b⟩
def Pz(a:P.underlying t=some (.int .i64))(h:cW P (Oi P n) t x):∃m,x=num m/\ -9223372036854775808<=m/\m<=9223372036854775807:=by obtain⟨m,rfl,b⟩:=Ad7 a h;exact⟨m,rfl,wf_i64 b⟩
def IK{e k}(a:P.underlying t=some (.slice e))(b:P.cellsOf e=k)(c:k≠0)(h:cW P (Oi P n) t x):∃m es,x=.sl k es/\es.length<=maxLen/\∀y∈es,cW P (Oi P m) e y:=by
 have h:=qB (by simp[j1,a]) h
 cases n with
 |zero=>exact h.elim
 |succ n=>unfold Oi at h;rw[a]at h;dsimp only at h;rw[b]at h;rw[ar c]at h;obtain⟨es,e,d,f⟩:=h;injection e with e;exact⟨n,es,e,d,f⟩
def IL{m e}(a:P.underlying t=some (.array m e))(h:Oi P n t g):∃k,IJ (Oi P k) (List.replicate m e) g:=by
 cases n with
 |zero=>exact h.elim
 |succ n=>unfold Oi at h;rw[a]at h;exact⟨n,h⟩
def IM{m e}(a:P.underlying t=some (.array m e))(h:cW P (Oi P n) t x):∃k y,x=.agg y/\IJ (Oi P k) (List.replicate m e) y:=by obtain⟨y,rfl,b⟩:=Ad6 (by simp[j1,a]) h;obtain⟨k,c⟩:=IL a b;exact⟨k,y,rfl,c⟩
def UJ{F:TypeId->Ψ}{a:List TypeId}(h:IJ F (t::a) g):∃y z,g=y++z/\F t y/\IJ F a z:=by
 cases h with
 |cons h1 h=>exact⟨_,_,rfl,h1,h⟩
def v8{F:TypeId->Ψ}(h:IJ F [] g):g=[]:=by cases h;rfl
def Sq{a:List TypeId}(b:j1 P t=false)(h:IJ (Oi P n) (t::a) g):∃y z,g=y::z/\cW P (Oi P n) t y/\IJ (Oi P n) a z:=by obtain⟨e,z,rfl,h1,c⟩:=UJ h;obtain⟨y,rfl,d⟩:=UI b h1;exact⟨y,z,rfl,d,c⟩
def qC{a:List TypeId}(h:Sg P (t::a) g):∃n y b,g=y::b/\cW P (Oi P n) t y/\Sg P a b:=by
 cases h with
 |cons h1 h=>exact⟨_,_,_,rfl,h1,h⟩
def x3(h:Sg P [] g):g=[]:=by cases h;rfl
def UK{b}{f:b->AV}{Q:b->Prop}:∀{es:Φ},(∀y∈es,∃s,y=f s/\Q s)->∃a:List b,es=a.map f/\∀s∈a,Q s
 |[],_=>⟨[],rfl,oS⟩
 |y::es,h=>by obtain⟨s,rfl,c⟩:=h y oS;obtain⟨a,rfl,hq⟩:=UK (es:=es) (λy d=>h y (by simp[d]));exact⟨s::a,rfl,by simp only[e9];rintro z (rfl|e);exact c;exact hq z e⟩
def qD{H}{enc:TypeId×Value->H}{P w b}{s:Nat->Bool}{j}:∀{a:List TypeId} {i:ϴ} {c:List (DataW H)} {f:List MemPlace},DataW.TrodAll enc P w b s j a i c f->c.length=a.length
 |[],[],[],f,_=>rfl
 |t::a,v::i,d::c,f,h=>by obtain⟨p,q,h1,k,e⟩:=h;simp only[dg,qD k]
 |[],[],_::_,_,h=>h.elim
 |[],_::_,_,_,h=>h.elim
 |_::_,[],_,_,h=>h.elim
 |_::_,_::_,[],_,h=>h.elim
end
attribute [go_sem] Tryz.f3 Tryz.f4 f5 f6 f7 f8 f9 f10 f11 f12 f13 f14 f15 f16 f17 f18 f19 f20 f21 f22 f23 f24 f25 f26 f27 f28 f29 f30 f31 f32 f33 f34 f35 f36 f37 f38 f39 f40 f41 f42 f43 f44 f45 f46 f47 f48 f49 f50 f51 f52 f53 f54 f55 f56 f57 f58 f59 f60 f61 f62 f63 f64 f65 f66 f67 f68 f69 f70 f71 f72 f73 f74 f75 f76 f77 f78 f79 f80 f81 f82 f83 f84 f85 f86 f87 f88 f89 f90 f91 f92 f93 f94 f95 f96 f97 f98 f99 f100 f101 f102 f103 f104 f105 f106 f107 f108 f109 f110 f111 f112 f113 f114 f115 f116 f117 f118 f119 f120 f121 f122 f123 f124 f125 f126 f127 f128 f129 f130 f131 Tryz.f132 f133 f134 f135 f136 f137 f138 f139 f140 f141 f142 f143 f144 f145 f146 f147 f148 f149 f150 f151 f152 f153 f154 f155 f156 f157 f158 f159 f160 f161 f162 f163 f164 f165 f166 f167 f168 f169 f170 f171 f172 f173 f174 f175 f176 f177 f178 f179 f180 f181 f182 f183 f184 f185 f186 f187 f188 f189 f190 f191 f192 f193 f194 f195 f196 f197 f198 f199 f200 f201 f202 f203 f204 f205 f206 f207 f208 f209 f210 f211 f212 f213 f214 f215 f216 f217 f218 f219 f220 f221 f222 f223 f224 f225 f226 f227 f228 f229 f230 f231 f232 f233 f234 f235 f236 f237 f238 f239 f240 f241 f242 f243 f244 f245 f246 f247 f248 f249 f250 f251 f252 f253 f254 f255 f256 f257 f258 f259 f260 f261 f262 f263 f264 f265 f266 f267 f268 f269 f270 f271 f272 f273 f274 f275 f276 f277 f278 f279 f280 f281 f282 f283 f284 f285 f286 f287 f288 f289 f290 f291 f292 f293 f294 f295 f296 f297 f298 f299 f300 f301 f302 f303 f304 f305 f306 f307 f308 f309 f310 f311 f312 f313 f314 f315 f316 f317 f318 f319 f320 f321 f322 f323 f324 f325 f326 f327 f328 f329 f330 f331 f332 f333 f334 f335 f336 f337 f338 f339 f340 f341 f342 f343 f344 f345 f346 f347 f348 f349 f350 f351 f352 f353 f354 f355 f356 f357 f358 f359 f360 f361 f362 f363 f364 f365 f366 f367 f368 f369 f370 f371 f372 f373 f374 f375 f376 f377 f378 f379 f380 f381 f382 f383 f384 f385 f386 f387 f388 f389 f390 f391 f392 f393 f394 f395 f396 f397 f398 f399 f400 f401 f402 f403 f404 f405 f406 f407 f408 f409 f410 f411 f412 f413 f414 f415 f416 f417 f418 f419 f420 f421 f422 f423 f424 f425 f426 f427 f428 f429 f430 f431 f432 f433 f434 f435 f436 f437 f438 f439 f440 f441 f442 f443 f444 f445
section
variable[Env]
section
variable{P:Program}{T:Br}{K:AV->Prop}{σ:Φ}{L:Φ->Prop}
def Aj6(k c a b):Yj false (.raw (.int k a)) (.raw (.int c b)) K=(k=c/\K (.raw (.int k (min a b)))):=by
 have:(if b<a then b else a)=min a b:=by grind
 simp only[Yj,f0,if_false,this]
def AqP(x:AV)(σ:Φ)(e:Nat)(j:TI)(t s:Nat)(y:Operand)(d:Γ)(L:Ψ):Prop:=match x with
 |.row e' k xs=>Ps σ e j t s e' k xs y d L
 |_=>False
def UL:(∀e a k j x t y d,TV σ e j (.own a k x) t y d L=D9 σ e j (.tmp t) y d L)/\(∀e a k j x t y d,TV σ e j (.mine a k x) t y d L=D9 σ e j (.tmp t) y d L)/\(∀e j t y d,TV σ e j .nil t y d L=D9 σ e j (.tmp t) y d L):=by and_intros<;>intros<;>rfl
theorem AoV(k):Rc k .nil=some []:=(rfl)
def AdA(k e):Rc k (.sl k e)=some e:=by simp[Rc]
def UM(e k a):Rc k (.own e k a)=some a:=by simp[Rc]
theorem UN(e k):Mx e k .nil=some []:=(rfl)
def UO(e k a):Mx e k (.own e k a)=some a:=by simp[Mx]
def A1(e k a):Mx e k (.mine e k a)=some a:=by simp[Mx]
theorem AdB(e k z):Xk e k .nil z=.own e k z:=(rfl)
theorem UP(e k a b c z):Xk e k (.own a b c) z=.own e k z:=(rfl)
theorem UQ(e k a b c z):Xk e k (.mine a b c) z=.mine e k z:=(rfl)
def QU(v:AV)(o:Option Φ)(a:Option Φ)(b:Φ)(e:Nat)(j:TI)(d:Γ)(L:Ψ):Prop:=match o,a with
 |some xs,some ys=>0<j.size/\j.zero.length=j.size/\xs.length+ys.length<=9223372036854775807/\(xs.length+ys.length)*j.bytes<=140737488355328/\L (am b d (Xk e j.size v (xs++ys)))
 |_,_=>False
def wP(e j x y d):D9 σ e j x y d L=QU (bj σ x) (Mx e j.size (bj σ x)) (Rc j.size (bj (d7 σ x) y)) (d7 σ x) e j d L:=by
 unfold D9 QU
 grind
theorem UR(v x y a e j d):QU v (some x) (some y) a e j d L=(0<j.size/\j.zero.length=j.size/\x.length+y.length<=9223372036854775807/\(x.length+y.length)*j.bytes<=140737488355328/\L (am a d (Xk e j.size v (x++y)))):=(rfl)
def aix(o:Option (Nat×Nat))(T:Br)(c:Φ)(n:Int)(K:AV->Prop):Prop:=match o with
 |some (len,e)=>(match T e with
  |some j=>0<=n/\n<len/\(j.td.agg=false->j.size=1)/\n.toNat *j.size+j.size<=c.length/\K (pl (em j.td.agg ((aq c (n.toNat *j.size) j.size).map v1)))
  |none=>False)
 |none=>False
theorem wQ(i s k n):N9 T i (.raw (.string s)) (.raw (.int k n)) K=(i.td.str=true/\0<=n/\n.toNat<s.data.toList.length/\K (.raw (.int .u8 ((s.data.toList.getD n.toNat 0).toNat:Int)))):=(rfl)
def Aeh:(∀d K,Ck d none K=K d)/\(∀d k n K,Ck d (some (.raw (.int k n))) K=K n):=by and_intros<;>intros<;>rfl
def di(o:Γ)(T:Br)(k:Nat)(a:Φ)(b c:Ϧ)(K:AV->Prop):Prop:=match o with
 |some e=>(match T e with
  |some j=>k=j.size/\Ck 0 b λl=>Ck a.length c λh=>0<=l/\l<=h/\h<=a.length/\K (.sl k ((a.drop l.toNat).take (h.toNat-l.toNat)))
  |none=>False)
 |none=>False
def ν(o:Option TI)(k:Nat)(e:Φ)(a b:Ϧ)(K:AV->Prop):Prop:=match o with
 |some j=>k=j.size/\Ck 0 a λl=>Ck e.length b λh=>0<=l/\l<=h/\h<=e.length/\K (.sl k ((e.drop l.toNat).take (h.toNat-l.toNat)))
 |none=>False
def IP:(∀i k a l h,Iz T i (.sl k a) l h K=di i.td.elem T k a l h K)/\(∀i e k a l h,Iz T i (.own e k a) l h K=di i.td.elem T k a l h K)/\(∀e k a l h,di (some e) T k a l h K=ν (T e) k a l h K):=by and_intros<;>intros<;>rfl
theorem Amj(j k e a b):ν (some j) k e a b K=(k=j.size/\Ck 0 a λl=>Ck e.length b λh=>0<=l/\l<=h/\h<=e.length/\K (.sl k ((e.drop l.toNat).take (h.toNat-l.toNat)))):=(rfl)
theorem wR(i s a b):Iz T i (.raw (.string s)) a b K=(i.td.str=true/\Ck 0 a λl=>Ck s.data.toList.length b λh=>
 0<=l/\l<=h/\h<=s.data.toList.length/\K (.raw (.string ⟨((s.data.toList.drop l.toNat).take (h.toNat-l.toNat)).toArray⟩))):=(rfl)
def SS(o:Option IntKind)(n:Int)(K:AV->Prop):Prop:=match o with
 |some k=>K (.raw (.int k (k.wrap n)))
 |none=>False
theorem wT(s d k n):J2 T s d (.raw (.int k n)) K=SS d.td.ik n K:=(rfl)
theorem AoW(k n):SS (some k) n K=K (.raw (.int k (k.wrap n))):=(rfl)
def SV(x:AV)(σ:Φ)(s n:Nat)(d:Γ)(L:Ψ):Prop:=match x with
 |.a6 cs=>n<cs.length/\L (am (σ.set s (.a6 (cs.set n (v2 (cs.getD n .any))))) d (pl (cs.getD n .any)))
 |_=>False
def qE:(∀s n d,Fj σ (.tmp s) n d L=SV (σ.getD s .any) σ s n d L)/\(∀c s n d,SV (.a6 c) σ s n d L=(n<c.length/\L (am (σ.set s (.a6 (c.set n (v2 (c.getD n .any))))) d (pl (c.getD n .any))))):=by and_intros<;>intros<;>rfl
def uf(s:Nat)(σ:Φ)(d:Γ)(L:Ψ)(r y:AV):Prop:=L (am (σ.set s y) d r)
theorem US(g s e k a r d):Yl P σ g s e k a r d L=(d≠some s/\Cm P g (.row e k a) (bi (σ.set s .any) r).1 (uf s (bi (σ.set s .any) r).2 d L)):=(rfl)
theorem Aqo(s d r y):uf s σ d L r y=L (am (σ.set s y) d r):=(rfl)
def μ(P:Program)(x:AV)(σ:Φ)(s g t:Nat)(r:List Operand)(d:Γ)(L:Ψ):Prop:=match x with
 |.row e k es=>Yl P σ g s e k es r d L
 |_=>Et P σ (.func g) (.tmp t::r) d L
theorem wU(s g t r d):wM P σ (.alias s) g t r d L=μ P (σ.getD s .any) σ s g t r d L:=(rfl)
theorem UT(e k a s g t r d):μ P (.row e k a) σ s g t r d L=Yl P σ g s e k a r d L:=(rfl)
def Cm.mono{f x a}{R b:AV->AV->Prop}(h:Cm P f x a R)(d:∀r y,R r y->b r y):Cm P f x a b:=by obtain⟨h1,⟨r,y,g⟩,i⟩:=h;exact⟨h1,⟨r,y,d r y g⟩,λw S v j c k l m=>(i w S v j c k l m).mono λe t ⟨u,r,y,s,n,o,p,q⟩=>⟨u,r,y,s,n,o,d r y p,q⟩⟩
end
attribute [go_sem] Option.map_none pj Nat.sub_zero jp Int.toNat_zero Aj6 UL AoV AdA UM UN UO A1 AdB UP UQ wP UR wQ Aeh IP Amj wR wT AoW qE US Aqo wU UT ml mc List.headD_cons List.headD_nil
end
section
variable[Env]
variable{d:Ϙ}
inductive CX where
 |base (c:CC)
 |ext (c:Code)
 |seq (a b:CX)
 |cond (c:Operand) (x y:CX)
 |block (id:Nat) (c:CX)
 |loop (c:CX)
 |scope (c:CX)
def Si:Θ->Nat->Bool
 |[],_=>false
 |k::r,id=>if k=id then true else Si r id
section
variable{P:Program}{T:Br}{a:World}{b c:Nat->Nat}
def kr(s:Nat)(x:AV):AV:=bif Lj s x then x else .any
end
section
variable{P:Program}{T:Br}{Q:Exit->Φ->Prop}{K:Φ->Prop}{a:Φ}
end
theorem AjA(s):kr s .any=.any:=rfl
theorem AjB(s v):kr s (.raw v)=.raw v:=rfl
theorem AjC(s c):kr s (.agg c)=.agg c:=rfl
theorem AjD(s c):kr s (.a6 c)=.a6 c:=rfl
theorem AjE(s):kr s .nil=.nil:=rfl
theorem Anz(s k e):kr s (.sl k e)=.sl k e:=rfl
theorem AjF(s e k a):kr s (.own e k a)=.own e k a:=rfl
theorem AdJ(s e k a):kr s (.mine e k a)=.mine e k a:=rfl
theorem AjG(s e k a):kr s (.row e k a)=.row e k a:=rfl
theorem AjH(s U c):kr s (.box U c)=.box U c:=rfl
theorem AjI(s x):kr s (.elt x)=.elt x:=rfl
theorem AjJ(s g c):kr s (.ee g c)=.ee g c:=rfl
attribute [go_sem] AjA AjB AjC AjD AjE Anz AjF AdJ AjG AjH AjI AjJ ev db
end
section
variable[Env]
variable{d:Ϙ}
def An0:AV->Bool
 |.raw _=>true
 |_=>false
def kfl:AV->Bool
 |.any=>true
 |.raw _=>true
 |.nil=>true
 |.own _ _ es=>es.all An0
 |_=>false
def kf(x:AV):AV:=bif kfl x then x else .any
section
variable{P:Program}{T:Br}{a:World}{b c:Nat->Nat}
end
theorem AjK:kf .any=.any:=rfl
theorem AjL(v):kf (.raw v)=.raw v:=rfl
theorem AjM:kf .nil=.nil:=rfl
theorem AjN(c):kf (.agg c)=.any:=rfl
theorem AjO(c):kf (.a6 c)=.any:=rfl
theorem An1(k e):kf (.sl k e)=.any:=rfl
theorem AdK(e k a):kf (.mine e k a)=.any:=rfl
theorem AjP(e k a):kf (.row e k a)=.any:=rfl
theorem AjQ(U c):kf (.box U c)=.any:=rfl
theorem AjR(x):kf (.elt x)=.any:=rfl
theorem AjS(g c):kf (.ee g c)=.any:=rfl
theorem AjT(t o):kf (.ref t o)=.any:=rfl
theorem UY(t):kf (.alias t)=.any:=rfl
theorem AdL(t k j o):kf (.pref t k j o)=.any:=rfl
attribute [go_sem] AjK AjL AjM AjN AjO An1 AdK AjP AjQ AjR AjS AjT UY AdL
end
section
variable[Env]
variable{b:Ϙ}
section
variable{P:Program}{T:Br}
end
section
variable{P:Program}{T:Br}
end
section
variable{P:Program}{T:Br}{K:Φ->Prop}{a:Φ}
end
end
end Go.Proofs.YtobhohikfmlccaaGreatDoor
