/- Soundness: a range over a function. Soundness: a range over a function, the rounds and the .. -/
import Derived.Calls
import Derived.Lib.AtoiAll
import Derived.Lib.ItoaNum
import Derived.Lib.Join
import Derived.Lib.Split
import Derived.Shelf.Strings.OnBuilder
import Derived.Shelf.Strings.Split
import Derived.Shelf.Strconv.Itoa3
import Derived.Shelf.Strconv.AtoiAll
import Derived.Shelf.Strings.Cut
import Derived.Shelf.Strings.Prefix
import Derived.Shelf.Strings.Trim
import Derived.Lib.AppendIntMem
import Derived.Lib.LaidTab
import Derived.Test.YtobhohikfmlccaaGreatDoorC7
set_option linter.all false
set_option maxHeartbeats 8000000
open Go.RowKit Go Go.Proofs Go.Shelf Tryz Go.Lib
namespace Go.Proofs.YtobhohikfmlccaaGreatDoor
section
variable[Env]
def lE:∀(di:Θ) (a:Φ) (i:Nat),(gB di a)[i]? =if i∈di then(a[i]?).map (λ_=>AV.any)else a[i]?
 |[],a,i=>by simp[gB]
 |s::ss,a,i=>by
  rw[gB,lE ss,bq]
  grind
def Zo:∀(di:Θ) (a:Φ),(gB di a).length=a.length
 |[],a=>rfl
 |s::ss,a=>by rw[gB,Zo ss,List.length_set]
section
variable{w w':World}{S S':Nat->Nat}
def Ac.forget:∀{xs ys:Φ} {vs us:ϴ} {c:Δ},Ac w S xs vs c->ys.length=xs.length->us.length=vs.length->(∀i,i<xs.length->ys[i]? =some .any\/(ys[i]? =xs[i]?/\us[i]? =vs[i]?))->∃a,Ac w S ys us a/\∀b,a b<=c b
 |[],ys,vs,us,c,h,hl,hl2,_=>by
  obtain⟨rfl,k⟩:=h.zero
  grind
 |x::xs,ys,vs,us,c,h,hl,hl2,hp=>by
  obtain⟨v,f,l,m,rfl,h1,g,n⟩:=h.bu
  match ys,us,hl,hl2 with
  |y::ys,u::us,hl,hl2=>
   obtain⟨a,d,j⟩:=Ac.forget (ys:=ys) (us:=us) g (by simpa using hl) (by grind) λi o=>by
    have:=hp (i+1) (by simp;omega)
    grind
   have e:=hp 0 oS;simp only[ba,dq]at e;rcases e with rfl|⟨rfl,rfl⟩;exact⟨a,.any d,λb=>by grind⟩;exact⟨_,b4 h1 d (λb=>rfl),λb=>by grind⟩
def EO:∀(d:Θ) (args:Φ) (e:ϴ) (a:Φ) (t:Array Value) (c f:Δ),args.length=d.length->Ac w S args e f->Ac w S a t.toList c->
 ∃g,Ac w S (NY d args a) ((d.zip e).foldl (λt (p:Nat×Value)=>t.setIfInBounds p.1 p.2) t).toList g/\∀b,g b<=f b+c b
 |[],[],e,a,t,c,f,_,ha,hr=>by obtain⟨rfl,_⟩:=ha.zero;exact⟨c,hr,λb=>om⟩
 |p::d,x::args,e,a,t,c,f,hl,ha,hr=>by
  obtain⟨v,i,j,k,rfl,h1,l,n⟩:=ha.bu
  have h:∃c1,Ac w S (a.set p x) (t.setIfInBounds p v).toList c1/\∀b,c1 b<=j b+c b:=by
   rw[Array.toList_setIfInBounds];by_cases m:p<a.length;exact hr.put h1 p m;have hlen:=hr.length;rw[sy om,sy om]
   grind
  obtain⟨c1,g1,g2⟩:=h;obtain⟨g,g3,g4⟩:=EO d args i (a.set p x) _ c1 k (by simpa using hl) l g1;exact⟨g,by simpa[NY]using g3,λb=>by grind⟩
def EP:∀(a:Θ) (args:Φ) (c:ϴ) (b:Φ) (t:Array Value),args.length=a.length->c.length=args.length->args.all pb=true->bm b t.toList->
 bm (NY a args b) ((a.zip c).foldl (λt (p:Nat×Value)=>t.setIfInBounds p.1 p.2) t).toList
 |[],[],[],b,t,_,_,_,h=>h
 |p::a,x::args,v::c,b,t,hl,hl2,hp,h=>by simp only[sn,gk]at hp;have:=EP a args c (b.set p x) (t.setIfInBounds p v) (by simpa using hl) (by grind) hp.2 (by rw[Array.toList_setIfInBounds];exact h.set p v hp.1);simpa[NY]using this
def qZ:∀(a:Θ) (b:ϴ) (t:Array Value) (s:Nat),s∉a->((a.zip b).foldl (λt (p:Nat×Value)=>t.setIfInBounds p.1 p.2) t)[s]? =t[s]?
 |[],b,t,s,_=>by simp
 |p::a,[],t,s,_=>by simp
 |p::a,v::b,t,s,h=>by simp only[e9,not_or]at h;simp only[vx,lc];rw[qZ a b _ s h.2,Array.getElem?_setIfInBounds_ne (λe=>h.1 e.symm)]
def Stp.putObj{l o o'}(d:w.heap[l]? =some o)(e:o.isCells=false)(h:o'.isCells=false):Stp w S (λx=>if x=l then 1 else 0) (w.putObj l o') S (λx=>if x=l then 1 else 0):=by
 refine⟨rfl,rfl,⟨rfl,λ_=>bx _⟩,oS,λb a f=>⟨?_,rfl⟩,λb g _=> ?_,λ_=>bx _,λ_ _=>bx _⟩;apply World.putObj_heap_other
 grind
 .unfold World.cell?;by_cases a:b=l
  .subst a;have c:=(ah.1 d).1;simp only[World.putObj_heap_same c,d];cases o<;>cases o'<;>first|rfl|(simp[Obj.isCells]at e h)
  simp only[World.putObj_heap_other (w:=w) (o:=o') a]
def Stp.zy{c e d}(h:Stp w S c w' S' e)(f:∀b,c b<=d b):Stp w S d w' S' e:=
 ⟨h.os,h.tape,h.output,h.size,λb a g=>h.keep b a (by have:=f b;omega),h.cell,h.le,λb a=>cp (h.own b a) (f b)⟩
def bm.forget{di σ v us}(h:bm σ v)(g:∀i,i<σ.length->i∉di->us[i]? =v[i]?):bm (gB di σ) us:=by
 have a:∀{i:Nat} {x:AV},(gB di σ)[i]? =some x->pb x=false->i∉di/\σ[i]? =some x:=by
  intro i x c l;rw[lE]at c;split at c
  .cases d:σ[i]? with
   |none=>grind
   |some y=>rw[d]at c;simp at c;subst c;cases l
  grind
 refine⟨λi s off T m c d=> ?_,λi s e k es c d=> ?_,λi s k j o e k' es c d=> ?_⟩;obtain⟨n,h1⟩:=a c rfl;obtain⟨f,h2⟩:=a d rfl;obtain⟨b,g1,g2⟩:=h.ref i s off T m h1 h2
 grind
 obtain⟨n,h1⟩:=a c rfl;obtain⟨f,h2⟩:=a d rfl;rw[g i (ab.1 h1).1 n,g s (ab.1 h2).1 f];exact oA;obtain⟨n,h1⟩:=a c rfl;obtain⟨f,h2⟩:=a d rfl;exact PT
end
variable[Env]
def one(l:Nat):Δ:=λb=>if b=l then 1 else 0
def Core(G:Gh)(st:Γ)(a:Act)(ms:Θ)(D:Nat)(d:Φ)(w:World)(S g:Δ):Prop:=
 bm d a.tmps.toList/\∃c e f,Ac w S d a.tmps.toList c/\G st w S e/\Od (D::ms) w f/\D+1<w.heap.size/\∀b,g b=c b+e b+f b+one (D+1) b
def U9(fn:FuncId)(a:Act)(p:Array Nat)(b c:Code)(D:Nat)(s:LoopState)(d:Option Code):Loop:={state:=s,pending:=d,fn,tmps:=a.tmps,params:=p,assign:=b,body:=c,defers:=D}
def UD(G:Gh)(s:Γ)(a:Act)(m:Θ)(D:Nat)(r:LoopState->Option Code->Loop)(I:Nat->Ψ)(Q:Exit->Γ->Ψ):Gh:=λk w S d=>match k with
 |some k=>∃b,I k b/\Core G s a m D b w S d/\w.heap[D+1]? =some (.loop (r .ready none))
 |none=>∃e c b,((c=Code.ret/\e=Exit.ret)\/∃i,c=Code.exit i/\e=Exit.exit i)/\Q e s b/\Core G s a m D b w S d/\w.heap[D+1]? =some (.loop (r .done (some c)))
section
variable{P:Program}{T:Br}{G:Gh}{st:Γ}{a:Act}{ms:Θ}{D:Nat}{w g:World}{S j c l f:Nat->Nat}{d:Φ}
def Core.lt(k:qU G)(h:Core G st a ms D d w S f):∀b,0<f b->b<w.heap.size:=by
 obtain⟨_,c,e,m,n,o,p,r,q⟩:=h;intro b i;rw[q]at i;rcases cq 0 (c b)with h|h;exact n.lt b h;rcases cq 0 (e b)with h|h;exact k.lt _ _ _ _ o b h;rcases cq 0 (m b)with h|h;exact p.2.2 b h;unfold one at i
 grind
def Core.keep(o:qU G)(h:Core G st a ms D d w S f)(k:Stp w S c g j l)(h1:∀b,c b+f b<=1)(p:Sz w S):Core G st a ms D d g j f/\g.heap[D+1]? =w.heap[D+1]? :=by obtain⟨e,q,i,r,s,t,u,m,n⟩:=h;refine⟨⟨e,q,i,r,s.step k (λb=>by grind),o.keep _ _ _ _ _ _ _ _ t k (λb=>by grind) p,u.keep k (λb=>by grind),og m k.size,n⟩,?_⟩;refine(k.keep (D+1) m ?_).1;have:=h1 (D+1);have:=n (D+1);simp[one]at this;omega
def Akp(b:qU G){rec:LoopState->Option Code->Loop}{I:Nat->Ψ}{Q:Exit->Γ->Ψ}:qU (UD G st a ms D rec I Q):=by
 refine⟨λk w S f h=> ?_,λk w S f g j c l h m h1 n=> ?_⟩
 .cases k with
  |some k=>obtain⟨d,_,h,_⟩:=h;exact h.lt b
  |none=>obtain⟨e,c,d,_,_,h,_⟩:=h;exact h.lt b
 .cases k with
  |some k=>obtain⟨d,o,h,i⟩:=h;obtain⟨g1,g2⟩:=h.keep b m h1 n;exact⟨d,o,g1,g2.trans i⟩
  |none=>obtain⟨e,p,d,q,hq,h,i⟩:=h;obtain⟨g1,g2⟩:=h.keep b m h1 n;exact⟨e,p,d,q,hq,g1,g2.trans i⟩
def WN(hT:Ax P T)(hm:P.follows .mixedOrders=true)(hG:qU G){A nt di fn q h n x y}(hx:Cn A h=some x)(hy:Cn A n=some y)(hps:(q.toList.all λp=>di.contains p)=true)(hkx:N6 T A h=true)(hnx:Kp (WM nt di) h=true)(hky:N6 T A n=true)(hny:Kp (WM nt di) n=true){I:Nat->Ψ}{Q:Exit->Γ->Ψ}{Y':Nat->Ψ}{L}(hL:a.tmps.size=L)(hLn:L<=nt)(Z:∀k args σ1,Y' k args->I k σ1->args.length=q.toList.length/\args.all pb=true/\Jt P T x (xn (Jt P T y (JU di L (λF=>∃N,Wk F N/\I (k+1) N) (Yw Q st)))) (NY q.toList args σ1)):
 Yv P (D+1) Y' (UD G st a ms D (U9 fn a q h n D) I Q):=by
 intro k args w S vs c f hYk hva hg h1 hz;obtain⟨d,hI,⟨hrf,cc,iq,cm,hr,hgx,hmk,hlt,hc⟩,hh⟩:=hg;obtain⟨hal,hap,hwp⟩:=Z k args d hYk hI;have hvl:=hva.length;have hy0:=run_yield (P:=P) (args:=vs.toArray) hh (by simp[U9];simp at hal;omega);refine⟨fn,_,h,n,hy0,λm=>roundIn_of_wpIn trivial ?_⟩;have ve:(q.zip vs.toArray).foldl (λu (t,a)=>u.setIfInBounds t a) a.tmps=(q.toList.zip vs).foldl (λt (p:Nat×Value)=>t.setIfInBounds p.1 p.2) a.tmps:=by rw[<-Array.foldl_toList,Array.toList_zip]
 have r3:((U9 fn a q h n D .ready none).params.zip vs.toArray).foldl (λu (t,a)=>u.setIfInBounds t a) (U9 fn a q h n D .ready none).tmps=(q.toList.zip vs).foldl (λt (p:Nat×Value)=>t.setIfInBounds p.1 p.2) a.tmps:=ve;rw[r3];obtain⟨c1,hr1,hc1⟩:=EO q.toList args vs d a.tmps cc c hal hva hr;have qf:=EP q.toList args vs d a.tmps hal hvl hap hrf;generalize hT1:(q.toList.zip vs).foldl (λt (p:Nat×Value)=>t.setIfInBounds p.1 p.2) a.tmps=T1 at hr1 qf
 have zk:Qw (WM nt di) a.tmps {tmps:=T1,defers:=[]}:=by
  intro s hs;rw[<-hT1];refine qZ q.toList vs a.tmps s λhmem=> ?_;have:=ib.1 hps s hmem;simp only[WM,jq]at hs
  grind
 have hone:∀b,c1 b+(iq b+cm b+one (D+1) b)<=1:=λb=>by grind
 have dp:Bc [] w S c1 (NY q.toList args d) {tmps:=T1,defers:=[]} w:=⟨qf,S,c1,hr1,λb=>by grind,rfl,hz,bt w S c1⟩;refine wpIn_mono (Dj (bg:=[]) (w0:=w) (S0:=S) (c0:=c1) hT hm (WM nt di) a.tmps (some (D+1)) m h x hx hkx hnx _ _ _ w dp zk hwp) λe a2 w2 hq=> ?_;obtain⟨σ2,hq,ka,zj⟩:=hq
 cases e with
 |normal=>
  obtain⟨y7,S2,c2,hr2,hc2,hd2,hz2,v⟩:=ka;have hl1:c1 (D+1)=0:=by have:=hone (D+1);simp[one]at this;omega
  have wo:w2.heap[D+1]? =some (.loop (U9 fn a q h n D .ready none)):=((v.keep (D+1) hlt hl1).1).trans hh;refine⟨_,run_beginRound wo rfl,?_⟩;generalize vm:Obj.loop {U9 fn a q h n D .ready none with state:=.busy}=busy;have hcb:busy.isCells=false:=by rw[<-vm];rfl
  have O:=Stp.putObj (S:=S2) (o':=busy) wo rfl hcb;have hl2:c2 (D+1)=0:=by have:=v.own (D+1) hlt;omega
  have za:=hr2.step O (λb=>by grind);have hz2b:Sz (w2.putObj (D+1) busy) S2:=hz2.nn O λb hb=>hz2 b (by simpa using hb);have ut:Bc [] (w2.putObj (D+1) busy) S2 c2 σ2 a2 (w2.putObj (D+1) busy):=⟨y7,S2,c2,za,hc2,hd2,hz2b,bt _ _ _⟩;refine wpIn_mono (Dj (bg:=[]) (w0:=w2.putObj (D+1) busy) (S0:=S2) (c0:=c2) hT hm (WM nt di) a.tmps (some (D+1)) m n y hy hky hny _ _ _ _ ut zj hq) λe a3 X H=> ?_;obtain⟨F,H,⟨ry,Y,R,hr3,hc3,hd3,hz3,J⟩,zi⟩:=H;have hlt2:D+1<(w2.putObj (D+1) busy).heap.size:=by simp;exact(ah.1 wo).1
  have hh3:X.heap[D+1]? =some busy:=((J.keep (D+1) hlt2 hl2).1).trans (World.putObj_heap_same (ah.1 wo).1);have hl3:R (D+1)=0:=by have:=J.own (D+1) hlt2;omega
  have fin:∀(o':Obj),o'.isCells=false->F.length=L->∃M,Ac (X.putObj (D+1) o') Y (gB di F) a.tmps.toList M/\(∀b,M b<=R b)/\bm (gB di F) a.tmps.toList/\G st (X.putObj (D+1) o') Y iq/\Od (D::ms) (X.putObj (D+1) o') cm/\D+1<(X.putObj (D+1) o').heap.size/\
   (∀b,M b+iq b+cm b+one (D+1) b<=1)/\Sz (X.putObj (D+1) o') Y/\Stp w S (λb=>c b+f b) (X.putObj (D+1) o') Y (λb=>M b+iq b+cm b+one (D+1) b):=by
   intro o' ho' hlen;have U:=Stp.putObj (S:=Y) (o':=o') hh3 hcb ho';have y9:=hr3.step U (λb=>by grind);have hsz3:a3.tmps.size=a.tmps.size:=by have:=hr3.length;simp at this;omega
   have hkk:∀i,i<F.length->i∉di->a.tmps.toList[i]? =a3.tmps.toList[i]? :=by
    intro i hi hn;have:=zi i (by simp only[WM,jq,th];exact⟨om,by simpa using hn⟩)
    grind
   obtain⟨M,z,B⟩:=y9.forget (ys:=gB di F) (us:=a.tmps.toList) (Zo _ _) (by grind) λi hi=>by
    rw[lE]
    grind
   have t1:=v;have o:∀b,(one (D+1) b)+(iq b+cm b)<=1:=λb=>by grind
   have dis3:∀b,c2 b+(iq b+cm b)<=1:=by
    intro b;rcases cq b w.heap.size with hb|hb;have:=v.own b hb;grind
    have e1:iq b=0:=by
     exact AhH
    have e2:cm b=0:=by exact OX
    grind
   have g1:=hG.keep _ _ _ _ _ _ _ _ hgx v (λb=>by grind) hz;have g2:=hG.keep _ _ _ _ _ _ _ _ g1 O (λb=>by have:=o b;unfold one at this;omega) hz2;have g3:=hG.keep _ _ _ _ _ _ _ _ g2 J (λb=>by grind) hz2b;have g4:=hG.keep _ _ _ _ _ _ _ _ g3 U (λb=>by have:=o b;unfold one at this;omega) hz3;have m1:=hmk.keep v (λb=>by grind);have m2:=m1.keep O (λb=>by have:=o b;unfold one at this;omega);have m3:=m2.keep J (λb=>by grind);have m4:=m3.keep U (λb=>by have:=o b;unfold one at this;omega);have szs:w.heap.size<=X.heap.size:=by have:=v.size;have:=J.size;simp at this;omega
   have V:Stp w S (λb=>c1 b+(iq b+cm b+one (D+1) b)) (X.putObj (D+1) o') Y (λb=>R b+(iq b+cm b+one (D+1) b)):=by have s1:=v.i5 (c:=λb=>c1 b+(iq b+cm b+one (D+1) b)) (c2:=λb=>iq b+cm b+one (D+1) b) (λb=>rfl);have s2:=O.i5 (c:=λb=>c2 b+(iq b+cm b+one (D+1) b)) (c2:=λb=>c2 b+(iq b+cm b)) (λb=>by show c2 b+(iq b+cm b+one (D+1) b)=one (D+1) b+(c2 b+(iq b+cm b));omega);have s2':=s2.drop (c'':=λb=>c2 b+(iq b+cm b+one (D+1) b)) (λb=>by show c2 b+(iq b+cm b+one (D+1) b)<=one (D+1) b+(c2 b+(iq b+cm b));omega);have s3:=J.i5 (c:=λb=>c2 b+(iq b+cm b+one (D+1) b)) (c2:=λb=>iq b+cm b+one (D+1) b) (λb=>rfl);have s4:=U.i5 (c:=λb=>R b+(iq b+cm b+one (D+1) b)) (c2:=λb=>R b+(iq b+cm b)) (λb=>by show R b+(iq b+cm b+one (D+1) b)=one (D+1) b+(R b+(iq b+cm b));omega);have s4':=s4.drop (c'':=λb=>R b+(iq b+cm b+one (D+1) b)) (λb=>by show R b+(iq b+cm b+one (D+1) b)<=one (D+1) b+(R b+(iq b+cm b));omega);exact((s1.trans s2').trans s3).trans s4'
   refine⟨M,z,B,ry.forget hkk,g4,m4,by simp;exact(ah.1 hh3).1,λb=> ?_,hz3.nn U (λb hb=>hz3 b (by simpa using hb)),?_⟩;have:=B b;rcases cq b w.heap.size with hb|hb;have h5:R b+(iq b+cm b+one (D+1) b)<=c1 b+(iq b+cm b+one (D+1) b):=V.own b hb
   grind
   have e1:iq b=0:=by
    exact AhH
   have e2:cm b=0:=by exact OX
   have e3:one (D+1) b=0:=by unfold one;rw[ar om]
   grind
   exact(V.zy (λb=>by grind)).drop λb=>by grind
  have hbz:X.heap[D+1]? =some (.loop {U9 fn a q h n D .ready none with state:=.busy}):=by grind
  cases e with
  |normal=>obtain⟨hlen,N,hw4,hI4⟩:=H;obtain⟨M,z,B,C,g4,m4,W,r,K,E⟩:=fin (.loop (U9 fn a q h n D .ready none)) rfl hlen;obtain⟨c5,ta,zg⟩:=hw4.rep z;have qe:bm N a.tmps.toList:=(hw4.stt (bg:=a.defers) (a:=a) ⟨C,Y,M,z,λb=>by grind,rfl,K,bt _ _ _⟩).1;refine⟨_,_,run_endRound none hbz,Y,λb=>c5 b+iq b+cm b+one (D+1) b,some (k+1),.inl ⟨rfl,rfl⟩,⟨N,hI4,⟨qe,c5,iq,cm,ta,g4,m4,W,λb=>rfl⟩,?_⟩,λb=>by grind,K,E.drop λb=>by grind⟩;exact PP
  |ret=>obtain⟨hlen,hq4⟩:=H;obtain⟨M,z,B,C,g4,m4,W,r,K,E⟩:=fin (.loop (U9 fn a q h n D .done (some .ret))) rfl hlen;exact⟨_,_,run_endRound (some .ret) hbz,Y,_,none,.inr ⟨rfl,rfl⟩,⟨.ret,.ret,_,.inl ⟨rfl,rfl⟩,hq4,⟨C,M,iq,cm,z,g4,m4,W,λb=>rfl⟩,PP⟩,r,K,E⟩
  |exit id=>obtain⟨hlen,hq4⟩:=H;obtain⟨M,z,B,C,g4,m4,W,r,K,E⟩:=fin (.loop (U9 fn a q h n D .done (some (.exit id)))) rfl hlen;exact⟨_,_,run_endRound (some (.exit id)) hbz,Y,_,none,.inr ⟨rfl,rfl⟩,⟨.exit id,.exit id,_,.inr ⟨id,rfl,rfl⟩,hq4,⟨C,M,iq,cm,z,g4,m4,W,λb=>rfl⟩,PP⟩,r,K,E⟩
  |_=>exact H.elim
 |_=>exact hq.elim
end
variable[Env]
section
variable{P:Program}{T:Br}{f:World}{i j:Nat->Nat}{G:Gh}{Y:Nat->Φ->Prop}{l:Nat}{A:Pw}{m:List (Nat × Nat)}{k:Nat}{di:Θ}{n:Nat}{o:Γ}
def yF{g}(h:Hr P g)(a w):(callFunc g a).run P w=.ok (.enter g a) w:=by obtain⟨fn,e,d,b,c⟩:=h;exact F2 d c b a w
def Aen{S:Δ}{c:Δ}{w:World}{x:AV}{v:Value}{g:Nat}{a:Φ}(h:Ac w S [x] [v] c)(d:WK x g a):∃u,v=.func (.func g) #[] (List.toArray u)/\Ac w S a u (λ_=>0):=by
 rcases d with rfl|⟨rfl,rfl⟩
 .cases h with
  |ee h1 h0 h=>exact⟨_,rfl,h1.congr λb=>(h0 b).symm⟩
 exact⟨[],by rw[(Az h).1],.nil Al⟩
def rA(hT:Ax P T)(hm:P.follows .mixedOrders=true)(hG:qU G){g ps u z x y}(hx:Cn A u=some x)(hy:Cn A z=some y)(hps:(ps.toList.all λp=>di.contains p)=true)(hkx:N6 T A u=true)(hnx:Kp (WM k di) u=true)(hky:N6 T A z=true)(hny:Kp (WM k di) z=true){Q:Exit->Γ->Ψ}{st σ a w}(hst:Jh G f i j st σ a w)(h:F6 P T Y l k di (.range g ps.toList x y) Q st σ):(Code.rangeFunc g ps u z).wpIn (Fr none) n P (Qx G f i j Q) a w:=by
 obtain⟨gf,cs,N,Y',hln,zq,C,I,⟨X,hwk,hI0⟩,L,Z⟩:=h;obtain⟨hrf,ms,S,c,cg,cm,hr,hg,hmk,h1,hd,hz,hs⟩:=hst;have hsz:a.tmps.size=σ.length:=by have:=hr.length;simpa using this
 obtain⟨cx,hrx⟩:=Ay hr g;obtain⟨us,hev,hus⟩:=Aen hrx zq;obtain⟨c1,hr1,F⟩:=hwk.rep hr;have qf:bm X a.tmps.toList:=(hwk.stt (bg:=a.defers) (a:=a) ⟨hrf,S,c,hr,λb=>by grind,rfl,hz,bt w S c⟩).1;apply wpIn_rangeFunc;intro fn hfn;obtain⟨D,hD⟩:∃D,w.heap.size=D:=⟨_,rfl⟩;have z1:=b6 (w:=w) (S:=S) (c:=λb=>c1 b+cg b+cm b) hz (.deferred (some [])) 0;have B:=hz.alloc (.deferred (some [])) 0;have hu1:upd S w.heap.size 0=S:=by funext b;unfold upd;split;(rename_i h;subst h;exact(hz _ (bx _)).symm);rfl
 rw[hu1]at z1 B;have yv:(w.alloc (.deferred (some []))).heap.size=D+1:=by simp[hD]
 obtain⟨rec,s⟩:∃rec,U9 fn a ps u z D=rec:=⟨_,rfl⟩;have z2:=b6 (w:=w.alloc (.deferred (some []))) (S:=S) (c:=λx=>(if x=w.heap.size then 1 else 0)+(c1 x+cg x+cm x)) B (.loop (rec .ready none)) 0;have hz2:=B.alloc (.loop (rec .ready none)) 0;have hu2:upd S (w.alloc (.deferred (some []))).heap.size 0=S:=by funext b;unfold upd;split;(rename_i h;subst h;exact(B _ (bx _)).symm);rfl
 rw[hu2]at z2 hz2;obtain⟨W1,M⟩:∃W1,(w.alloc (.deferred (some []))).alloc (.loop (rec .ready none))=W1:=⟨_,rfl⟩;rw[M]at z2 hz2;have hL1:W1.heap[D+1]? =some (.loop (rec .ready none)):=by rw[<-M];have:=World.alloc_heap_new (w.alloc (.deferred (some []))) (.loop (rec .ready none));grind
 have hK1:W1.heap[D]? =some (.deferred (some [])):=by rw[<-M];exact(Below.heap_alloc _ _ _ (by grind)).trans (by have:=World.alloc_heap_new w (.deferred (some []));rwa [hD]at this)
 have yl:=z1.trans z2;have s1:Stp w S (λ_=>0) (w.alloc (.deferred (some []))) S (λx=>(if x=w.heap.size then 1 else 0)+0):=by have:=b6 (w:=w) (S:=S) (c:=λ_=>0) hz (.deferred (some [])) 0;grind
 have s2:Stp (w.alloc (.deferred (some []))) S (λ_=>0) W1 S (λx=>(if x=(w.alloc (.deferred (some []))).heap.size then 1 else 0)+0):=by have:=b6 (w:=w.alloc (.deferred (some []))) (S:=S) (c:=λ_=>0) B (.loop (rec .ready none)) 0;grind
 have hr2:=(hr1.step s1 (λb=>by grind)).step s2 (λb=>by have:=h1 b;have:=F b;show c1 b+0<=1;omega);have yx:=(hus.step s1 (λb=>oS)).step s2 (λb=>oS);have hg2:=hG.keep _ _ _ _ _ _ _ _ (hG.keep _ _ _ _ _ _ _ _ hg s1 (λb=>by have:=h1 b;show 0+cg b<=1;omega) hz) s2 (λb=>by have:=h1 b;show 0+cg b<=1;omega) B;have O:=(hmk.keep s1 (λb=>by have:=h1 b;show 0+cm b<=1;omega)).keep s2 (λb=>by have:=h1 b;show 0+cm b<=1;omega);have hnD:D∉ms:=λhmem=>by have:=hmk.2.2 D ((hmk.2.1 D hmem).1);omega
 have hmD:Od (D::ms) W1 (λb=>cm b+one D b):=by
  refine⟨qp.2 ⟨hnD,O.1⟩,λE hE=> ?_,λb R=> ?_⟩;rcases e9.1 hE with rfl|hE;exact⟨by simp[one],hK1⟩;exact⟨by have:=(O.2.1 E hE).1;show 0<cm E+one D E;omega,(O.2.1 E hE).2⟩;have R:0<cm b+one D b:=R;unfold one at R;split at R;rename_i hbD;subst hbD;have:=(ah.1 hK1).1;exact this;exact O.2.2 b om
 have hcore:Core G st a ms D X W1 S (λb=>c1 b+cg b+(cm b+one D b)+one (D+1) b):=⟨qf,c1,cg,λb=>cm b+one D b,hr2,hg2,hmD,(ah.1 hL1).1,λb=>rfl⟩
 have hnew:∀b,D<=b->c1 b=0/\cg b=0/\cm b=0:=by
  intro b R;refine⟨?_,?_,?_⟩;rcases jz (c1 b)with h|h;exact h;have:=hr1.lt b h;omega;exact AhK;exact OX
 have hsum:∀b,c1 b+cg b+(cm b+one D b)+one (D+1) b<=1:=by
  intro b;have:=h1 b;have:=F b;unfold one;by_cases R:D<=b;obtain⟨e1,e2,e3⟩:=hnew b R;rw[e1,e2,e3];split<;>split<;>omega;rw[ar om,ar om];omega
 have V:=WN (P:=P) (T:=T) (G:=G) (st:=st) (a:=a) (ms:=ms) (D:=D) (fn:=fn) (Q:=Q) hT hm hG hx hy hps hkx hnx hky hny hsz hln L;rw[s]at V;have wq:=Akp (st:=st) (a:=a) (ms:=ms) (D:=D) hG (rec:=rec) (I:=I) (Q:=Q);have H:=C.2 _ wq (D+1) V W1 S us (λ_=>0) _ hz2 yx ⟨X,hI0,hcore,hL1⟩ (λb=>by have:=hsum b;show 0+(c1 b+cg b+(cm b+one D b)+one (D+1) b)<=1;omega);have hbig:Stp f i j W1 S (λb=>c1 b+cg b+(cm b+one D b)+one (D+1) b):=by have:=(hs.drop (c'':=λb=>c1 b+cg b+cm b) (λb=>by have:=F b;show c1 b+cg b+cm b<=c b+cg b+cm b;omega)).trans yl;refine this.drop λb=> ?_;show c1 b+cg b+(cm b+one D b)+one (D+1) b<=(if b=(w.alloc (.deferred (some []))).heap.size then 1 else 0)+((if b=w.heap.size then 1 else 0)+(c1 b+cg b+cm b));rw[yv,hD];unfold one;omega
 have hres:(resolve a.eval (rangeCall g (D+1)) 0).run P W1=.ok {target:=.fn (.func gf) us.toArray,args:= #[.func (.yield (D+1)) #[] #[]]} W1:=by simp only[resolve,rangeCall,hev];simp[go_sem]
 refine⟨D+1,[yk D],W1,{target:=.fn (.func gf) us.toArray,args:= #[.func (.yield (D+1)) #[] #[]]},W1,gf,#[.func (.yield (D+1)) #[] #[]]++us.toArray,W1,?_,hres,λ_ _=>trivial,?_,λhd=>by simp at hd,?_⟩;have:=run_enterLoop_outer (w:=w) (P:=P) fn a.tmps ps u z;rw[hD]at this;rw[<-M,<-s];exact this;simp[invoke,go_sem,yF C.1]
 .apply P1.2;have hargs:(Value.func (.yield (D+1)) #[] #[]::us).toArray= #[.func (.yield (D+1)) #[] #[]]++us.toArray:=by apply Array.ext';simp
  rw[hargs]at H;refine H.mono λe w' he=> ?_;obtain⟨v,st',S',Α,rfl,hst',hgc,zt,hz',hstp⟩:=he;have um:=hbig.trans (hstp.zy (d:=λb=>c1 b+cg b+(cm b+one D b)+one (D+1) b) (λb=>by show 0+_<=_;omega))
  have fin:∀(r:Φ) (lp U:Loop),Core G st a ms D r w' S' Α->w'.heap[D+1]? =some (.loop lp)->Jh G f i j st r {a with defers:=[yk D]++a.defers} (w'.putObj (D+1) (.loop U)):=by
   intro r lp U q W;have hp:=Stp.putObj (S:=S') (o':=.loop U) W rfl rfl;obtain⟨mt,ck,J,K,hrk,zl,hmk',hlk,hck⟩:=q;have t:∀b,(if b=D+1 then 1 else 0)+(ck b+J b+K b)<=1:=λb=>by have:=zt b;have:=hck b;unfold one at this;omega
   have uk:Stp w' S' Α (w'.putObj (D+1) (.loop U)) S' (λb=>(if b=D+1 then 1 else 0)+(ck b+J b+K b)):=hp.i5 (c2:=λb=>ck b+J b+K b) (λb=>by rw[hck];unfold one;omega);refine⟨mt,D::ms,S',ck,J,K,hrk.step hp (λb=>by have:=t b;omega),hG.keep _ _ _ _ _ _ _ _ zl hp (λb=>by have:=t b;omega) hz',hmk'.keep hp (λb=>by have:=t b;omega),λb=>by have:=t b;omega,by simp[hd],hz'.nn hp (λb R=>hz' b (by simpa using R)),?_⟩;exact(um.trans uk).drop λb=>by show ck b+J b+K b<=_+_;omega
  rcases hst' with rfl|rfl;obtain⟨r,hIk,q,W⟩:=hgc;have hne:(rec .ready none).state≠ .busy:=by rw[<-s];simp[U9]
  refine⟨_,_,run_endLoop W hne,?_⟩;have hpe:(rec .ready none).pending=none:=by rw[<-s];rfl
  rw[hpe];exact⟨st,r,Z r hIk,fin r _ _ q W⟩
  .obtain⟨e,cd,r,hcase,hq,q,W⟩:=hgc;have hne:(rec .done (some cd)).state≠ .busy:=by rw[<-s];simp[U9]
   refine⟨_,_,run_endLoop W hne,?_⟩;have hpe:(rec .done (some cd)).pending=some cd:=by rw[<-s];rfl
   rw[hpe];rcases hcase with⟨rfl,rfl⟩|⟨id,rfl,rfl⟩;exact wpIn_ret ⟨st,r,hq,fin r _ _ q W⟩;exact wpIn_exit ⟨st,r,hq,fin r _ _ q W⟩
end
end
section
variable[Env]
section
variable{P:Program}{T:Br}{w0:World}{S0 c0:Nat->Nat}{G:Gh}{Y:Nat->Φ->Prop}{l:Nat}{A:Pw}{f:List (Nat × Nat)}{i:Nat}{di:Θ}{n:Nat}
def Dk(r:Ax P T)(hm:P.follows .mixedOrders=true)(o:qU G)(u:Yv P l Y G):∀(c:Code) (d:CG),Ec A f c=some d->lD T A f i di c=true->∀(Q:Exit->Γ->Ψ) (st:Γ) (σ:Φ) (a:Act) (w:World),Jh G w0 S0 c0 st σ a w->F6 P T Y l i di d Q st σ->c.wpIn (Fr none) n P (Qx G w0 S0 c0 Q) a w
 |.skip,d,b,hk,Q,st,σ,a,w,hst,h=>by simp only[Ec]at b;injection b with b;subst b;exact wpIn_skip ⟨st,σ,h,hst⟩
 |.label t,d,b,hk,Q,st,σ,a,w,hst,h=>by simp only[Ec]at b;injection b with b;subst b;exact wpIn_label ⟨st,σ,h,hst⟩
 |.exit id,d,b,hk,Q,st,σ,a,w,hst,h=>by simp only[Ec]at b;injection b with b;subst b;exact wpIn_exit ⟨st,σ,h,hst⟩
 |.ret,d,b,hk,Q,st,σ,a,w,hst,h=>by simp only[Ec]at b;injection b with b;subst b;exact wpIn_ret ⟨st,σ,h,hst⟩
 |.region id ops dr,d,b,hk,Q,st,σ,a,w,hst,h=>by
  simp only[Ec]at b;simp only[lD]at hk;split at b
  .rename_i p N;rw[N]at hk
   cases dr with
   |true=>simp at b
   |false=> simp only[f0,if_false]at b;by_cases W:p<1000;rw[bn W]at b;exact yD r o u b hk hst h;rw[ar W]at b;exact qX r o u b hk hst h
  .rename_i N;rw[N]at hk;simp only[gk]at hk
   cases E:Cn A (.region id ops dr)with
   |none=>grind
   |some x=>rw[E]at b;simp at b;subst b;exact yC r hm o E hk.1 hk.2 hst h
 |.seq x y,d,b,hk,Q,st,σ,a,w,hst,h=>by
  simp only[Ec]at b;simp only[lD,gk]at hk;split at b
  .rename_i L M q D;injection b with b;subst b
   cases E:U2 A y with
   |false=>
    rw[E]at h;refine wpIn_seq (wpIn_mono (Dk r hm o u x L q hk.1 _ st σ a w hst h) λe a w hq=> ?_);obtain⟨s,j,hq,k⟩:=hq
    cases e with
    |normal=>exact Dk r hm o u y M D hk.2 Q s j a w k hq
    |_=>exact⟨s,j,hq,k⟩
   |true=>
    rw[E]at h;obtain⟨I,O,h⟩:=h;refine wpIn_seq (wpIn_mono (Dk r hm o u x L q hk.1 _ st σ a w hst h) λe a w hq=> ?_);obtain⟨s,j,hq,k⟩:=hq
    cases e with
    |normal=>obtain⟨v,B,X⟩:=hq;exact Dk r hm o u y M D hk.2 Q s v a w (B.rp o k) (O s v X)
    |_=>exact⟨s,j,hq,k⟩
  .cases b
 |.cond c x y,d,b,hk,Q,st,σ,a,w,hst,h=>by
  simp only[Ec]at b;simp only[lD,gk]at hk;split at b;rename_i L M q D;injection b with b;subst b;simp only[F6,Sm]at h;split at h;rename_i e Z;exact wpIn_cond_split (hst.rb Z) (λht=>Dk r hm o u x L q hk.1 Q st σ a w hst (h.1 ht)) (λhf=>Dk r hm o u y M D hk.2 Q st σ a w hst (h.2 hf))
  grind
  .cases b
 |.block id c,d,b,hk,Q,st,σ,a,w,hst,h=>by
  simp only[Ec]at b;simp only[lD]at hk
  cases q:Ec A f c with
  |none=>grind
  |some x=>
   rw[q]at b;simp at b;subst b;refine wpIn_block (wpIn_mono (Dk r hm o u c x q hk _ st σ a w hst h) λe a w hq=> ?_);obtain⟨s,j,hq,k⟩:=hq
   cases e with
   |exit id'=> simp only[Sy]at hq;simp only[Exit.inBlock];split;rename_i C;rw[bn C]at hq;exact⟨s,j,hq,k⟩;rename_i C;rw[ar C]at hq;exact⟨s,j,hq,k⟩
   |_=>exact⟨s,j,hq,k⟩
 |.loop c,d,b,hk,Q,st,σ,a,w,hst,h=>by
  simp only[Ec]at b;simp only[lD]at hk
  cases q:Ec A f c with
  |none=>grind
  |some x=>
   rw[q]at b;simp at b;subst b;obtain⟨I,⟨n0,R,hw,O⟩,z⟩:=h
   classical
   let J:Act->World->Nat->Prop:=λa w n=>∃st σ,I n st σ/\Jh G w0 S0 c0 st σ a w;refine wpIn_loop (λa w=>∃n,J a w n) (λa w=>if h:∃n,J a w n then Classical.choose (least h)else 0) ⟨n0,st,R,O,hw.rp o hst⟩ λa w hJ=> ?_;obtain⟨s,j,S,F⟩:=(Classical.choose_spec (least hJ)).1;refine wpIn_mono (Dk r hm o u c x q hk _ s j a w F (z _ s j S)) λe a' w' hq=> ?_;obtain⟨H,U,hq,K⟩:=hq
   cases e with
   |normal=>obtain⟨m,v,hm,B,V⟩:=hq;have hJ':J a' w' m:=⟨H,v,V,B.rp o K⟩;exact yd
   |_=>exact⟨H,U,hq,K⟩
 |.rangeFunc g ps ql qj,d,b,hk,Q,st,σ,a,w,hst,h=>by
  simp only[Ec]at b;simp only[lD,gk]at hk;split at b;rename_i x y q D;injection b with b;subst b;exact rA r hm o q D hk.1.1 hk.1.2.1 hk.1.2.2 hk.2.1 hk.2.2 hst h
  .cases b
 |.scope c,d,b,hk,Q,st,σ,a,w,hst,h=>by
  simp only[Ec]at b;simp only[lD]at hk
  cases q:Ec A f c with
  |none=>grind
  |some x=>
   rw[q]at b;simp at b;subst b;refine yB (wpIn_mono (Dk r hm o u c x q hk _ st σ a w hst h) λe a w hq=> ?_);obtain⟨s,j,hq,k⟩:=hq
   cases e with
   |goto t=>exact hq.elim
   |_=>exact⟨s,j,hq,k⟩
 |.goto ..,d,b,hk,Q,st,σ,a,w,hst,h=>by simp[Ec]at b
 |.refuse ..,d,b,hk,Q,st,σ,a,w,hst,h=>by simp[Ec]at b
def Ot(q:qU G){r:Func}{a:Act}{σ:Φ}{st:Γ}{R:Ending->World->Prop}:∀(m:Θ) (w:World) (S c e g:Δ),Ac w S σ a.tmps.toList c->G st w S e->Od m w g->(∀b,c b+e b+g b<=1)->Sz w S->Stp w0 S0 c0 w S (λb=>c b+e b+g b)->
 (∀h,Ac h S σ a.tmps.toList c->G st h S e->Sz h S->Stp w0 S0 c0 h S (λb=>c b+e b)->∃v,(results r a.tmps).run P h=.ok v h/\R (.returned v) h)->LeavesInM (Fr none) n P r a.tmps R (m.map yk) .returning w
 |[],w,S,c,e,g,hr,hg,hm,h1,hz,hs,hK=>by obtain⟨v,g1,g2⟩:=hK w hr hg hz (hs.drop λb=>by grind);exact⟨v,g1,g2⟩
 |D::m,w,S,c,e,g,hr,hg,hm,h1,hz,hs,hK=>by
  obtain⟨x,s⟩:=hm.2.1 D oS;have o:=qp.1 hm.1;have j:=Stp.putObj (S:=S) (o':=.deferred none) s rfl rfl
  have t:∀b,(if b=D then 1 else 0)+(c b+e b)<=1:=λb=>by
   grind
  have p:Sz (w.putObj D (.deferred none)) S:=hz.nn j λb k=>hz b (by simpa using k);refine⟨oS,.inl ⟨D,w.putObj D (.deferred none),rfl,run_takeDeferred s,?_⟩⟩;refine Ot q m _ S c e g (hr.step j (λb=>by grind)) (q.keep _ _ _ _ _ _ _ _ hg j (λb=>by grind) hz) ⟨o.2,λE u=> ?_,λb k=>by have:=hm.2.2 b k;simpa using this⟩ h1 p ?_ hK;obtain⟨g1,g2⟩:=hm.2.1 E (by simp[u]);exact⟨g1,by rw[World.putObj_heap_other (by grind)];exact g2⟩
  have:=j.zy (d:=λb=>c b+e b+g b) (λb=>by
   show(if b=D then 1 else 0)<=c b+e b+g b;split
   grind
   omega)
  exact hs.trans ⟨this.os,this.tape,this.output,this.size,this.keep,this.cell,this.le,λb k=>bx _⟩
end
variable[Env]
section
variable{P:Program}{T:Br}{g:Nat}
def ό(T:Br)(r:List ResultVar)(R:AV->Prop):Exit->Γ->Ψ:=λe _ σ=>vZ T r R e σ
def KA(n:Nat):Exit->Γ->Ψ
 |.normal,st,_=>st=some n\/st=none
 |.ret,st,_=>st=some n\/st=none
 |_,_,_=>False
def Va{w S}:∀n,Ac w S (List.replicate n .any) (List.replicate n undef) (λ_=>0)
 |0=>.nil Al
 |n+1=>.any (Va n)
def rB{σ v}(h:∀x∈σ,pb x=true):bm σ v:=
 ⟨λi s c T f a b=>by have:=h _ (cu a);simp[pb]at this,λi s e k d a b=>by have:=h _ (cu a);simp[pb]at this,λi s k j o e l d a b=>by have:=h _ (cu a);simp[pb]at this⟩
theorem Ed(A z di)(N:Ax P T)(X:P.follows .mixedOrders=true){f j i}{R:AV->Prop}{d o}(O:P.funcs[f]? =some j)(Y:(j.name== "runtime.NumGoroutine")=false)(B:(j.body.map (lD T A z g di))=some true)(Q:j.body.bind (Ec A z)=some d)(Z:j.ntmps=g)(hrs:j.results=o)(hR:∃r,R r)(hpa:i.all pb=true)(h:F6 P T (λ_ _=>False) 0 g di d (ό T o.toList R) none (i++List.replicate (g-i.length) .any)):Aa P f i R:=by
 cases C:j.body with
 |none=>grind
 |some code=>
 rw[C]at Q B;have hcd:Ec A z code=some d:=Q;have p:lD T A z g di code=true:=by grind
 refine⟨⟨j,code,O,C,Y⟩,hR,λw S q c hz U hc=> ?_⟩;have hl:=U.length;have D:Yv P 0 (λ_ _=>False) QX:=λk i w S q c V h=>h.elim;refine(P1 (ro:=none) (n:=3)).1 (callsIn_of_wp_marks O C trivial (wpIn_mono (Dk (G:=QX) (w0:=w) (S0:=S) (c0:=c) (n:=3) N X WJ D code d hcd p _ none _ _ w ?_ h) λe a l hq=> ?_) rfl)
 ·refine ⟨rB λx hx=> ?_,[],S,c,λ_=>0,λ_=>0,?_,Al,⟨List.nodup_nil,oS,oS⟩,λb=>by grind,rfl,hz,bt w S c⟩
  ·exact AhR
  ·have:=du U (Va (g-i.length)) (c:=c) (λb=>oS);simp_all
 ·obtain ⟨st,σ,hq,E⟩:=hq
  have fin:Jc T o.toList σ (λq=>R (match q with
   |[v]=>v
   |q=>.a6 q))->LeavesInM (Fr none) 3 P j a.tmps (λe l=>∃v r s m,e=.returned v/\R r/\pb r=true/\Ac l s [r] [v] m/\(∀b,m b<=1)/\Sz l s/\Stp w S c l s m) a.defers .returning l:=by
   intro hq;obtain⟨_,ms,s,m,V,cm,F,hg,hmk,h1,H,I,hs⟩:=E;rw[H];refine Ot WJ (st:=st) (σ:=σ) ms l s m V cm F hg hmk h1 I hs λW J hg2 K L=> ?_;obtain⟨mi,us,cv,t,hK,hv,M,yy,y⟩:=Gr N o.toList σ m _ J hq
   have hmm:(j.results.mapM (J5 a.tmps)).run P W=.ok us.toArray W:=by
    have he:j.results=o.toList.toArray:=by grind
    rw[he,List.mapM_toArray];simp [t]
   refine⟨(if h:us.toArray.size=1 then us.toArray[0]else .tuple us.toArray),?_,_,_,s,cv,rfl,hK,?_,?_,λb=>cp (M b) (by grind),K,L.drop λb=>by grind⟩
   ·rw [H1];simp_all
   ·match mi,y with
    |[],_=>rfl
    |[v],y=>grind
    |v::v'::mi,_=>rfl
   ·exact OD
  exact PG
def M8(A y di)(M:Ax P T)(N:P.follows .mixedOrders=true){f j m n}{Y:Nat->List AV->Prop}{d}(I:P.funcs[f]? =some j)(O:(j.name== "runtime.NumGoroutine")=false)(p:(j.body.map (lD T A y g di))=some true)(J:j.body.bind (Ec A y)=some d)(Q:j.ntmps=g)(q:j.results= #[])(R:m.all pb=true)(h:∀l,F6 P T Y l g di d (KA n) (some 0) (.raw (.func (.yield l) #[] #[])::(m++List.replicate (g-(m.length+1)) .any))):Oo P f m n Y:=by
 cases r:j.body with
 |none=>grind
 |some code=>
 rw[r]at J p;have hcd:Ec A y code=some d:=J;have o:lD T A y g di code=true:=by grind
 refine⟨⟨j,code,I,r,O⟩,λG K l U w S vs c t V L W hc=> ?_⟩;have hl:=L.length;refine(P1 (ro:=none) (n:=3)).1 (callsIn_of_wp_marks I r trivial (wpIn_mono (Dk (w0:=w) (S0:=S) (c0:=λb=>c b+t b) (n:=3) M N K U code d hcd o _ (some 0) _ _ w ?_ (h l)) λe a k hq=> ?_) rfl)
 ·refine ⟨rB λx hx=> ?_,[],S,c,t,λ_=>0,?_,W,⟨List.nodup_nil,oS,oS⟩,λb=>by grind,rfl,V,bt w S _⟩
  ·rcases e9.1 hx with rfl|hx
   ·rfl
   exact AhR
  ·have:=Ac.raw (w:=w) (S:=S) (v:=.func (.yield l) #[] #[]) rfl (du L (Va (g-(m.length+1))) (c:=c) (λb=>oS));simp_all
 ·obtain ⟨st,σ,hq,u⟩:=hq;have fin:(st=some n\/st=none)->LeavesInM (Fr none) 3 P j a.tmps (λe k=>∃v st s i,e=.returned v/\(st=some n\/st=none)/\G st k s i/\(∀b,i b<=1)/\Sz k s/\Stp w S (λb=>c b+t b) k s i) a.defers .returning k:=by intro hq;obtain⟨_,X,s,Z,i,cm,z,B,hmk,h1,C,D,hs⟩:=u;rw[C];refine Ot K (st:=st) (σ:=σ) X k s Z i cm z B hmk h1 D hs λw2 hr2 E F H=> ?_;exact⟨_,results_none q _ _ _,_,st,s,i,rfl,hq,E,λb=>by grind,F,H.drop λb=>om⟩
  exact PG
end
variable[Env]
section
variable{P:Program}{T:Br}{Y:Nat->Φ->Prop}{l i:Nat}{di:Θ}{Q:Exit->Γ->Φ->Prop}{b:Γ}{a:Φ}
def DJ(P:Program)(T:Br)(c:List CO)(Q:Exit->Γ->Ψ)(b:Γ)(a:Φ):Prop:=Fq P T (Q .normal b) c a
def ky(P:Program)(T:Br)(Y:Nat->Ψ)(l:Nat)(d:Γ)(f:Operand)(c:List Operand)(e:List CO)(Q:Exit->Γ->Ψ)(b:Γ)(a:Φ):Prop:=
 Zj Y l (bj a f) (bi a c).1 (bi a c).2 d (DJ P T e Q) b
def yc(Y:Nat->Ψ)(l:Nat)(x:AV)(p:List AV×List AV)(d:Γ)(K:Γ->Ψ)(b:Γ):Prop:=Zj Y l x p.1 p.2 d K b
def JV:(∀c,F6 P T Y l i di (.base c) Q b a=Jt P T c (Yw Q b) a)/\(∀x y,F6 P T Y l i di (.seq x y) Q b a=F6 P T Y l i di x (Wg (F6 P T Y l i di y Q) Q) b a)/\(∀d c,F6 P T Y l i di (.block d c) Q b a=F6 P T Y l i di c (Sy d Q) b a):=by and_intros<;>intros<;>rfl
def JW(c x y):F6 P T Y l i di (.cond c x y) Q b a=CZ (bj a c) (F6 P T Y l i di x Q b) (F6 P T Y l i di y Q b) a:=by show Sm _ _ _=_;cases bj a c<;>rfl
theorem JX(e g d f c):F6 P T Y l i di (.rn e d f c g) Q b a=Fq P T (ky P T Y l d f c g Q b) e a:=(rfl)
theorem Aub(d f c e):ky P T Y l d f c e Q b a=yc Y l (bj a f) (bi a c) d (DJ P T e Q) b:=(rfl)
theorem Aty(c):DJ P T c Q b a=Fq P T (Q .normal b) c a:=(rfl)
def RA(P:Program)(T:Br)(Y:Nat->Ψ)(l:Nat)(d:List CO)(t:Nat)(w:Bool)(e:Γ)(f:Operand)(c:List Operand)(g:List CO)(Q:Exit->Γ->Ψ)(b:Γ)(a:Φ):Prop:=Fq P T (pR Y l P T t w e f c g Q b) d a
def V7(P:Program)(T:Br)(Y:Nat->Ψ)(l:Nat)(d:Γ)(f:Operand)(c:List Operand)(g:List CO)(t:Nat)(w:Bool)(h:Γ)(j:Operand)(e:List Operand)(k:List CO)(Q:Exit->Γ->Ψ)(b:Γ)(a:Φ):Prop:=
 Zj Y l (bj a f) (bi a c).1 (bi a c).2 d (RA P T Y l g t w h j e k Q) b
theorem yG(g d f e h t w j k c m):F6 P T Y l i di (.ov g d f e h t w j k c m) Q b a=Fq P T (V7 P T Y l d f e h t w j k c m Q b) g a:=(rfl)
def Atz:(∀d f j k t w e h c g,V7 P T Y l d f j k t w e h c g Q b a=yc Y l (bj a f) (bi a j) d (RA P T Y l k t w e h c g Q) b)/\(∀k t w e h c g,RA P T Y l k t w e h c g Q b a=Fq P T (pR Y l P T t w e h c g Q b) k a)/\(∀t w e h c g,pR Y l P T t w e h c g Q b a=pN (a.getD t .any) w (QY Y l P T e h c g Q b) (QZ P T e g Q b) a)/\(∀e h c g,QY Y l P T e h c g Q b a=yc Y l (bj a h) (bi a c) e (DJ P T g Q) b):=by and_intros<;>intros<;>rfl
def Yx:(∀A B,pN (.raw (.bool false)) false A B a=A a)/\(∀A B,pN (.raw (.bool true)) false A B a=B a):=by and_intros<;>intros<;>rfl
theorem At1(d c):QZ P T d c Q b a=Fq P T (Q .normal b) c (am a d (.a6 [])):=(rfl)
def At3:(∀e,Yw Q b e a=Q e b a)/\(∀K,Wg K Q .normal b a=K b a)/\(∀K,Wg K Q .ret b a=Q .ret b a)/\(∀K c,Wg K Q (.exit c) b a=Q (.exit c) b a)/\(∀c,Sy c Q .normal b a=Q .normal b a)/\(∀c,Sy c Q .ret b a=Q .ret b a):=by and_intros<;>intros<;>rfl
def yH(c):Sy c Q (.exit c) b a=Q .normal b a:=by simp[Sy]
def Ae{d c}(h:c≠d):Sy d Q (.exit c) b a=Q (.exit c) b a:=by simp[Sy,h]
theorem yI(c):F6 P T Y l i di (.scope c) Q b a=F6 P T Y l i di c (EL Q) b a:=(rfl)
def Aeg:(EL Q .normal b a=Q .normal b a)/\(EL Q .ret b a=Q .ret b a):=by and_intros<;>intros<;>rfl
theorem AqI(r)(R:AV->Prop)(e):ό T r R e b a=vZ T r R e a:=(rfl)
def AeX:(∀n,KA n .normal b a=(b=some n\/b=none))/\(∀n,KA n .ret b a=(b=some n\/b=none)):=by and_intros<;>intros<;>rfl
theorem Afh(K):xn K .normal a=K a:=(rfl)
def Acy:(∀L K Q,JU di L K Q .normal a=(a.length=L/\K (gB di a)))/\(∀L K Q,JU di L K Q .ret a=(a.length=L/\Q .ret (gB di a)))/\(∀L K Q c,JU di L K Q (.exit c) a=(a.length=L/\Q (.exit c) (gB di a))):=by and_intros<;>intros<;>rfl
theorem Aeo:gB [] a=a:=rfl
theorem WP(s c):gB (s::c) a=gB c (a.set s .any):=rfl
def Aep(x):NY [] x a=a:=by cases x<;>rfl
theorem WQ(p c x d):NY (p::c) (x::d) a=NY c d (a.set p x):=rfl
def Kx{k c e d}{K:Γ->Ψ}(h1:Y k c)(h:K (some (k+1)) (am e d (.raw (.bool true))))(f:K none (am e d (.raw (.bool false)))):yc Y l (.raw (.func (.yield l) #[] #[])) (c,e) d K (some k):=
 ⟨rfl,k,rfl,h1,h,f⟩
def rend(m:List Bool)(s:Θ)(R:Nat->Ψ)(a:Φ)(k:Nat)(d:Φ):Prop:=∃c,Wk d c/\∃x,R k x/\c=Ey s x (Ld m a)
def Ft{x p e f}(m h)(R:Nat->Ψ){g j n}{y:Nat->Ψ}(hlen:a.length<=i)(t:WK (bj a x) g j)(u:Oo P g j n y)(s:∃d,R 0 d/\Wk a (Ey h d (Ld m a)))(round:∀k c d,y k c->R k d->c.length=p.length/\c.all pb=true/\Jt P T e (xn (Jt P T f (JU di a.length (rend m h R a (k+1)) (Yw Q b)))) (NY p c (Ey h d (Ld m a))))(done:∀d,R n d->Q .normal b (Ey h d (Ld m a))):F6 P T Y l i di (.range x p e f) Q b a:=by
 obtain⟨o,v,q⟩:=s;refine⟨g,j,n,y,hlen,t,u,λk r=>∃d,R k d/\r=Ey h d (Ld m a),⟨_,q,o,v,rfl⟩,?_,?_⟩;rintro k c w z ⟨d,A,rfl⟩;exact round k c d z A
 grind
def Ij{m:List Bool}{s:Θ}{R:Nat->Ψ}{k:Nat}{c:Φ}(x:Φ)(h:R k x)(d:Wk c (Ey s x (Ld m a))):rend m s R a k c:=⟨_,d,x,h,rfl⟩
def Η(m:List Bool)(e:Θ)(R:Γ->Ψ)(a:Φ)(s:Γ)(d:Φ):Prop:=∃c,Wk d c/\∃x,R s x/\c=Ey e x (Ld m a)
def Ald{x y}(m s)(R:Γ->Ψ)(c:F6 P T Y l i di x (Wg (Η m s R a) Q) b a)(d:∀st1 e,R st1 e->F6 P T Y l i di y Q st1 (Ey s e (Ld m a))):F6 P T Y l i di (.cut x y) Q b a:=
 ⟨λf g=>∃e,R f e/\g=Ey s e (Ld m a),λst1 h ⟨e,j,k⟩=>k▸d st1 e j,c⟩
def l_{m:List Bool}{d:Θ}{R:Γ->Ψ}{s:Γ}{c:Φ}(x:Φ)(h:R s x)(e:Wk c (Ey d x (Ld m a))):Η m d R a s c:=
 ⟨_,e,x,h,rfl⟩
def Ai6(m:List Bool)(e:Θ)(R:Nat->Γ->Ψ)(a:Φ)(n:Nat)(s:Γ)(d:Φ):Prop:=∃k c,k<n/\Wk d c/\∃x,R k s x/\c=Ey e x (Ld m a)
def F7{c}(m d)(R:Nat->Γ->Ψ)(s:∃n x,R n b x/\Wk a (Ey d x (Ld m a)))(round:∀n b x,R n b x->F6 P T Y l i di c (Wg (Ai6 m d R a n) Q) b (Ey d x (Ld m a))):F6 P T Y l i di (.loop c) Q b a:=by obtain⟨g,j,k,h⟩:=s;refine⟨λn b e=>∃x,R n b x/\e=Ey d x (Ld m a),⟨g,_,h,j,k,rfl⟩,?_⟩;rintro n b o ⟨f,p,rfl⟩;exact round n b f p
def Ch{m:List Bool}{d:Θ}{R:Nat->Γ->Ψ}{n:Nat}{s:Γ}{c:Φ}(k:Nat)(x:Φ)(h:k<n)(e:R k s x)(f:Wk c (Ey d x (Ld m a))):Ai6 m d R a n s c:=⟨k,_,h,f,x,e,rfl⟩
end
attribute [go_sem] yG Atz Yx At1 yI Aeg JV JW JX Aub Aty At3 yH AqI AeX Afh Acy Aeo WP Aep WQ
attribute [go_sem] Ec EN lC WL EM
end
section
variable[Env]
variable{P:Program}{T:Br}{H:Hw}{f:Nat}{a:Func}{args o:Φ}{j:Nat}{g:Array ResultVar}
def Zs (A:Pw) {R:AV->Prop} {d:CC} (k:P.funcs[f]? =some a) (l:∃r,R r) {Q:Prop} (q:Q)
 (m:Ax P T:=by exact b3) (n:P.follows .mixedOrders=true:=by exact Cl) (p:(a.name== "runtime.NumGoroutine")=false:=by decide)
 (h:(a.body.map (N6 T A))=some true:=by decide+kernel) (s:a.body.bind (Cn A)=some d:=by(simp only[go_sem,reduceIte];rfl))
 (b:a.ntmps=j:=by(simp only[go_sem]<;>rfl)) (c:a.results=g:=by(simp only[go_sem]<;>rfl)) (i:args.all pb=true:=by exact rfl)
 (e:Hd Q->Jt P T d (vZ T g.toList R) (args++List.replicate (j-args.length) .any):=by intro q;simp only[LS,Nat.reduceAdd,Nat.reduceSub];refine Zu ?_;exact q.1):Aa P f args R:=Bb A m n k p h s b c l i (e ⟨q⟩)
def G6 (A:Pw) {R:AV->Prop} {d:CC} (k:P.funcs[f]? =some a) (l:∃r,R r) {Q:Prop} (q:Q)
 (m:Ax P T:=by exact b3) (n:P.follows .mixedOrders=true:=by exact Cl) (p:(a.name== "runtime.NumGoroutine")=false:=by decide)
 (h:(a.body.map (N6 T A))=some true:=by decide+kernel) (s:a.body.bind (Cn A)=some d:=by(simp only[go_sem,reduceIte];rfl))
 (b:a.ntmps=j:=by(simp only[go_sem]<;>rfl)) (c:a.results=g:=by(simp only[go_sem]<;>rfl)) (i:args.all pb=true:=by exact rfl)
 (e:Hd Q->Jt P T d (vZ T g.toList R) (args++List.replicate (j-args.length) .any):=by intro q;simp only[LS,Nat.reduceAdd,Nat.reduceSub];exact q.1):Aa P f args R:=Bb A m n k p h s b c l i (e ⟨q⟩)
def Zt (A:Pw) (E:Θ) (O:U7) {K:AV->Ψ} {F:Value->Ψ} {d:CH} (n:P.funcs[f]? =some a) {Q:Prop} (q:Q)
 (p:Ax P T:=by exact b3) (s:C1 P H:=by exact Dc) (hm:P.follows .mixedOrders=true:=by exact Cl) (t:(a.name== "runtime.NumGoroutine")=false:=by decide)
 (h:(a.body.map (Jg T A E O))=some true:=by decide+kernel) (u:a.body.bind (Di A E O)=some d:=by(simp only[go_sem,reduceIte];rfl))
 (i:a.ntmps=j:=by(simp only[go_sem]<;>rfl)) (k:a.results=g:=by(simp only[go_sem]<;>rfl)) (l:args.all pb=true:=by exact rfl)
 (e:Hd Q->Cp P T H d (hfin T g.toList (λr c=>∃m b,W1 r m/\pb m=true/\Gw c b/\K m b) (λv c=>∃b,Gw c b/\F v b)) o (args++List.replicate (j-args.length) .any):=by intro q;simp only[LS,Nat.reduceAdd,Nat.reduceSub];refine Zu ?_;exact q.1):HC P f args o K F:=HC.weak (Cc A E O p s hm n t h u i k l (e ⟨q⟩))
def G7 (A:Pw) (E:Θ) (O:U7) {K:AV->Ψ} {F:Value->Ψ} {d:CH} (m:P.funcs[f]? =some a) {Q:Prop} (q:Q)
 (n:Ax P T:=by exact b3) (p:C1 P H:=by exact Dc) (s:P.follows .mixedOrders=true:=by exact Cl) (t:(a.name== "runtime.NumGoroutine")=false:=by decide)
 (h:(a.body.map (Jg T A E O))=some true:=by decide+kernel) (u:a.body.bind (Di A E O)=some d:=by(simp only[go_sem,reduceIte];rfl))
 (c:a.ntmps=j:=by(simp only[go_sem]<;>rfl)) (i:a.results=g:=by(simp only[go_sem]<;>rfl)) (k:args.all pb=true:=by exact rfl)
 (e:Hd Q->Cp P T H d (hfin T g.toList (λr γ'=>∃l b,W1 r l/\pb l=true/\Gw γ' b/\K l b) (λv γ'=>∃b,Gw γ' b/\F v b)) o (args++List.replicate (j-args.length) .any):=by intro q;simp only[LS,Nat.reduceAdd,Nat.reduceSub];exact q.1):HC P f args o K F:=HC.weak (Cc A E O n p s m t h u c i k (e ⟨q⟩))
def sL{G:Prop}(e:G:=by(simp only[go_sem,reduceIte];rfl)):G:=e
def Zb{x y:Φ}{R b:AV->Prop}(c:Aa P f y R)(k:∀r,R r->b r)(w:Wk x y:=by exact Zv):Aa P f x b:=(c.wk w).mono k
variable{m:List Bool}{ss:Θ}{l b j2:Φ}{n:Nat}
def Zl{R:Nat->Ψ}(k:Nat){x:Φ}(h:R k x)(c:k<n:=by omega)(d:Wk b (Ey ss x (Ld m l)):=by exact Zv):lend m ss R l n b:=Av k x c h d
def Zm{R:Nat->Ω}(k:Nat){x:Φ}(h:R k x j2)(hm:k<n:=by omega)(c:Wk b (Ey ss x (Ld m l)):=by exact Zv):WF m ss R l n j2 b:=Am k x _ hm h (hent (aa _) c)
def wS(i:Nat)(h:i<9223372036854775807:=by omega):IntKind.i64.wrap ((i:Int)+1)=((i+1:Nat):Int):=Da h
end
def eT(a b:Nat)(h:a<b:=by omega):((a:Int)<(b:Int))=True:=bc om
def eU(a b:Nat)(h:b<=a:=by omega):((a:Int)<(b:Int))=False:=bd om
def eE(a b:Int)(h:a=b:=by omega):(a=b)=True:=bc h
def eN(a b:Int)(h:¬a=b:=by omega):(a=b)=False:=bd h
abbrev QA[Env](g:Nat)(a:Φ)(R:AV->Prop):Prop:=Aa prog g a R
abbrev QH[Env](g:Nat)(a c:Φ)(K:AV->Ψ)(E:Value->Ψ):Prop:=HC prog g a c K E
def Df.a{P:Program}{t:Nat}{i:TI}(h1:(P.info? t).map (λx=>(x.zero.map (·.cells.toList),x.size,x.bytes))=some (some i.zero,i.size,i.bytes):=by kernel_rfl)(h:(P.underlying t).map (Gy P)=some i.td:=by kernel_rfl)(b:WD P t i.eqs=true:=by kernel_rfl):Df P t i:=⟨h1,h,b⟩
def zI:Value:=.int .i64 0
def zS:Value:=.string ⟨#[]⟩
def zL:Value:=.slice none 0 0
def eO:Value:=.int .u8 0
def zF:Value:=.bool false
def fD(k:Nat):Nat×Option Nat×Option Bool:=(k,some 1,some false)
def mS(z:ϴ)(n b:Nat)(f:List (Nat×Option Nat×Option Bool))(e:Option Ϥ:=none):TI:={zero:=z,size:=n,bytes:=b,td:={agg:=true,struct:=true,ig:=f},eqs:=e}
def mO(v:Value)(b:Nat)(d:TD:={}):TI:={zero:=[v],size:=1,bytes:=b,td:=d}
def RB:TI:=mO zI 8 {ik:=some .i64}
def RD:TI:=mO zF 1 {bl:=true}
def RE:TI:=mO eO 1 {ik:=some .u8}
def RF:TI:=mO zS 16 {str:=true}
def Kz:TI:=mO .nilIface 16
def Kc:TI:=mO (.int .i32 0) 4 {ik:=some .i32}
def JT:TI:=mO zL 24 {elem:=some 67}
def IT:TI:=mO zL 24 {elem:=some 71}
def IN:TI:=mO zL 24 {elem:=some 60}
def ID:TI:=mS [zL,zL] 2 48 [fD 0,fD 1]
def HL:TI:=mO zL 24 {elem:=some 145}
def HA:TI:=mO zL 24 {elem:=some 43}
def Th:TI:=mO zL 24 {elem:=some 9}
def S3:TI:=mO zL 24 {elem:=some 52}
def SW:TI:=mS [zS,zS,zL] 3 56 [fD 0,fD 1,fD 2]
def SM:TI:=mO zI 8 {ik:=some .i64}
def St:TI:=mS [zS,zI] 2 24 [fD 0,fD 1] (some [(0,1),(1,0)])
def So:TI:=mO .nilFunc 8
def Sh:TI:=mS [zS,zS] 2 32 [fD 0,fD 1] (some [(0,1),(1,1)])
def WR:TI:=mO zL 24 {elem:=some 77}
def RW:TI:=mO zL 24 {elem:=some 3}
def RT:TI:=mS [zI,zL,zI,zI] 4 48 [fD 0,fD 1,fD 2,fD 3]
def RM:TI:=mS [zI,zI,zI,zI,zS,zI,zI,zS,zS,zL,zL,zI,zL,zI,zI,zI,zI,zI,zS,zS,zI,zI,zI] 23 272 [fD 0,fD 1,fD 2,fD 3,fD 4,fD 5,fD 6,fD 7,fD 8,fD 9,fD 10,(11,some 4,some true),fD 15,fD 16,fD 17,fD 18,fD 19,fD 20,fD 21,fD 22]
def v7:TI:=mO zL 24 {elem:=some 101}
def RK:TI:=mO zL 24 {elem:=some 132}
def xb:TI:=mS [zI,zS,zL,zL,zI,zL,zF,zF] 8 112 [fD 0,fD 1,fD 2,fD 3,fD 4,fD 5,fD 6,fD 7]
def RC:TI:=mS [zI,zI,zS,zI,zI,zI,zL,zI,zI] 9 96 [fD 0,fD 1,fD 2,fD 3,fD 4,(5,some 4,some true)]
def Rg:TI:=mO zL 24 {elem:=some 84}
def Rd:TI:=mO .nilFunc 8
def Q2:TI:=mS [zS,zI,.nilFunc] 3 32 [fD 0,fD 1,fD 2]
def Q1:TI:=mO .nilFunc 8
def PJ:TI:=mO .nilFunc 8
def WS:TI:=mS [zS,zI,zS,zL,zI] 5 72 [fD 0,fD 1,fD 2,fD 3,fD 4]
def WT:TI:=mS [zI,zS,zI,zS] 4 48 [fD 0,fD 1,fD 2,fD 3] (some [(0,0),(1,1),(2,0),(3,1)])
def WU:TI:=mO (.pointer none) 8
def WV:TI:=mO (.map none) 8
def WW:TI:=mS [zL,zL,zI,zS,zI,zS,zS,zS,.map none] 9 136 [(0,some 2,some true),(2,some 4,some true),fD 6,fD 7,fD 8]
def WX:TI:=mO .nilFunc 8
def WY:TI:=mO (.map none) 8
def WZ:TI:=mO .nilFunc 8
def XA:TI:=mO .nilFunc 8
def XB:TI:=mO (.int .u32 0) 4 {ik:=some .u32}
def XC:TI:=mO (.int .u64 0) 8 {ik:=some .u64}
def XD:TI:={zero:=[.int .u32 0,.int .u32 0,.int .u32 0,.int .u32 0,.int .u32 0,.int .u32 0,.int .u32 0,.int .u32 0,.int .u32 0,.int .u32 0,.int .u32 0,.int .u32 0,.int .u32 0,.int .u32 0,.int .u32 0,.int .u32 0],size:=16,bytes:=64,td:={agg:=true,arr:=some (16,126)}}
def XE:TI:=mS [zS,zI,zI,zS,zI] 5 56 [fD 0,fD 1,fD 2,fD 3,fD 4] (some [(0,1),(1,0),(2,0),(3,1),(4,0)])
def XF:TI:=mO .nilFunc 8
def XG:TI:=mO zL 24 {elem:=some 5}
def XH:TI:={zero:=[zI,zI,zI,zI,zI],size:=5,bytes:=40,td:={agg:=true,arr:=some (5,3)}}
def XI:TI:=mO (.map none) 8
def XJ:TI:=mO .nilIface 16
def XK:TI:=mO zL 24 {elem:=some 272}
def XL:TI:=mO .nilFunc 8
def XM:TI:=mO .nilFunc 8
def XN:TI:=mO zL 24 {elem:=some 180}
def XP:TI:=mS [zI,zS,zL,zL,zI,zL,zF,zF,zI] 9 120 [(0,some 8,some true),fD 8]
def XQ:TI:=mO .nilFunc 8
def XT:TI:=mO .nilFunc 8
def XU:TI:=mO zL 24 {elem:=some 192}
def XV:TI:=mO .nilFunc 8
def XW:TI:=mS [zI,zS,zL,zL,zI,zL,zF,zF,zI,zI] 10 128 [(0,some 9,some true),fD 9]
def XX:TI:=mO .nilFunc 8
def XY:TI:=mO .nilFunc 8
def XZ:TI:=mO (.pointer none) 8
def YA:TI:=mS [.pointer none,zL] 2 32 [fD 0,fD 1]
def YB:TI:=mO .nilFunc 8
def YC:TI:=mO .nilFunc 8
def YD:TI:=mS [zI,.nilFunc] 2 16 [fD 0,fD 1]
def YE:TI:=mO zL 24 {elem:=some 268}
def YF:TI:=mO zI 8 {ik:=some .i64}
def YG:TI:=mS [zL,zI,zI] 3 40 [fD 0,fD 1,fD 2]
def YH:TI:=mO .nilIface 16
def YI:TI:=mS [zI] 1 8 [fD 0] (some [(0,0)])
def YJ:TI:=mO (.pointer none) 8
def YK:TI:=mO (.map none) 8
def YL:TI:=mS [zL] 1 24 [fD 0]
def YM:TI:=mS [zL,.nilIface,.map none,zI,zI] 5 64 [(0,some 1,some true),fD 1,fD 2,fD 3,fD 4]
def YN:TI:=mO zL 24 {elem:=some 181}
def YO:TI:=mO .nilFunc 8
def YP:TI:=mO zL 24 {elem:=some 38}
def YQ:TI:=mO .nilFunc 8
def YR:TI:=mS [zI,zS,zI] 3 32 [fD 0,fD 1,fD 2] (some [(0,0),(1,1),(2,0)])
def YT:TI:=mO (.pointer none) 8
def YU:TI:=mS [zI,zS,zS,zS,zI,zL,zL,zL] 8 136 [fD 0,fD 1,fD 2,fD 3,fD 4,fD 5,fD 6,fD 7]
def YV:TI:=mO (.map none) 8
def YW:TI:=mS [.nilFunc,zF,.nilFunc] 3 24 [fD 0,fD 1,fD 2]
def YX:TI:=mO .nilFunc 8
def YY:TI:=mO .nilFunc 8
def YZ:TI:=mO .nilFunc 8
def ZA:TI:=mO (.pointer none) 8
def ZB:TI:=mO .nilFunc 8
def ZC:TI:=mO zL 24 {elem:=some 425}
def ZD:TI:=mS [zS,.nilFunc] 2 24 [fD 0,fD 1]
def ZE:TI:=mO .nilFunc 8
def TL:List (Nat×TI):=[(3,RB),(4,RD),(5,RE),(9,RF),(20,Kz),(21,Kc),(22,JT),(24,IT),(25,IN),(27,ID),(32,HL),(35,HA),(38,Th),(41,S3),(43,SW),(45,SM),(52,St),(56,So),(60,Sh),(62,WR),(63,RW),(65,RT),(67,RM),(68,v7),(69,RK),(71,xb),(77,RC),(80,Rg),(82,Rd),(84,Q2),(89,Q1),(92,PJ),(101,WS),(103,WT),(112,WU),(113,WV),(115,WW),(116,WX),(119,WY),(123,WZ),(125,XA),(126,XB),(127,XC),(128,XD),(132,XE),(139,XF),(140,XG),(145,XH),(148,XI),(151,XJ),(154,XK),(159,XL),(161,XM),(177,XN),(180,XP),(181,XQ),(183,XT),(187,XU),(189,XV),(192,XW),(194,XX),(196,XY),(197,XZ),(199,YA),(201,YB),(206,YC),(209,YD),(211,YE),(214,YF),(217,YG),(221,YH),(223,YI),(225,YJ),(226,YK),(229,YL),(231,YM),(248,YN),(251,YO),(256,YP),(265,YQ),(268,YR),(269,YT),(272,YU),(310,YV),(313,YW),(334,YX),(353,YY),(376,YZ),(378,ZA),(389,ZB),(422,ZC),(425,ZD),(429,ZE)]
def TT:Br:=λt=>TL.lookup t
def AnR:∀p∈TL,Df prog p.1 p.2:=by intro p h;unfold TL at h;repeat' first|(rcases e9.1 h with rfl|h;.exact .a)|cases h
def b3:Ax prog TT:=by
 intro t i h
 have k:∀l:List (Nat×TI),l.lookup t=some i->(t,i)∈l:=by
  intro l
  induction l with
  |nil=>intro h;cases h
  |cons p l ih=>
   intro h;rw[List.lookup_cons]at h;split at h;rename_i e;injection h with h;have a:t=p.1:=by simpa using e
   rw[a,<-h];exact .head _;exact .tail _ (ih h)
 exact AnR _ (k _ h)
def kD:TT 3=some RB/\TT 4=some RD/\TT 5=some RE/\TT 9=some RF/\TT 20=some Kz/\TT 21=some Kc/\TT 22=some JT/\TT 24=some IT/\TT 25=some IN/\TT 27=some ID/\TT 32=some HL/\TT 35=some HA/\TT 38=some Th/\TT 41=some S3/\TT 43=some SW/\TT 45=some SM/\TT 52=some St/\TT 56=some So/\TT 60=some Sh/\TT 62=some WR/\TT 63=some RW/\TT 65=some RT/\TT 67=some RM/\TT 68=some v7/\TT 69=some RK/\TT 71=some xb/\TT 77=some RC/\TT 80=some Rg/\TT 82=some Rd/\TT 84=some Q2/\TT 89=some Q1/\TT 92=some PJ/\TT 101=some WS/\TT 103=some WT/\TT 112=some WU/\TT 113=some WV/\TT 115=some WW/\TT 116=some WX/\TT 119=some WY/\TT 123=some WZ/\TT 125=some XA/\TT 126=some XB/\TT 127=some XC/\TT 128=some XD/\TT 132=some XE/\TT 139=some XF/\TT 140=some XG/\TT 145=some XH/\TT 148=some XI/\TT 151=some XJ/\TT 154=some XK/\TT 159=some XL/\TT 161=some XM/\TT 177=some XN/\TT 180=some XP/\TT 181=some XQ/\TT 183=some XT/\TT 187=some XU/\TT 189=some XV/\TT 192=some XW/\TT 194=some XX/\TT 196=some XY/\TT 197=some XZ/\TT 199=some YA/\TT 201=some YB/\TT 206=some YC/\TT 209=some YD/\TT 211=some YE/\TT 214=some YF/\TT 217=some YG/\TT 221=some YH/\TT 223=some YI/\TT 225=some YJ/\TT 226=some YK/\TT 229=some YL/\TT 231=some YM/\TT 248=some YN/\TT 251=some YO/\TT 256=some YP/\TT 265=some YQ/\TT 268=some YR/\TT 269=some YT/\TT 272=some YU/\TT 310=some YV/\TT 313=some YW/\TT 334=some YX/\TT 353=some YY/\TT 376=some YZ/\TT 378=some ZA/\TT 389=some ZB/\TT 422=some ZC/\TT 425=some ZD/\TT 429=some ZE:=by and_intros<;>rfl
attribute [go_sem] kD zI zS zL eO zF fD mS mO mc ml RB RD RE RF Kz Kc JT IT IN ID HL HA Th S3 SW SM St So Sh WR RW RT RM v7 RK xb RC Rg Rd Q2 Q1 PJ WS WT WU WV WW WX WY WZ XA XB XC XD XE XF XG XH XI XJ XK XL XM XN XP XQ XT XU XV XW XX XY XZ YA YB YC YD YE YF YG YH YI YJ YK YL YM YN YO YP YQ YR YT YU YV YW YX YY YZ ZA ZB ZC ZD ZE
def Cl:prog.follows .mixedOrders=true:=oK
def rW{a:Type}:Result a->World
 |.ok _ w=>w
 |.halt _ w=>w
def AnS{b}:∀(k:Ask b) (w:World),w.drawn<=(w.ask k).2.drawn:=by
 intro k
 induction k with
 |done a=>intro w;exact bx _
 |ask what range k ih=> intro w;unfold World.ask;simp only;split;exact ih _ _;exact cp (Nat.le_succ _) (ih _ {w with drawn:=w.drawn+1})
def Ai7(w:World)(c:Sys):w.drawn<=(w.sys c).2.drawn:=by have h:=AnS (Kernel.perform c w.os) w;unfold World.sys;split;exact Ev;rename_i a;rw[a]at h;exact h
def AkI{p:Program}{w:World}{a k:Addr}{u:TypeId}{v:Value}{b}{x:World×List Addr}(h:w.viewStore p a u k v b=.ok x):x.1.drawn=w.drawn:=by
 unfold World.viewStore at h;simp only[bind,Except.bind,pure,Except.pure]at h;repeat' split at h
 all_goals first
  |(cases h;done)
  |(cases h;rfl)
def Ai8{p:Program}{w:World}{a:Addr}{v:Value}{b}{x:World×List Addr}(h:w.farStore p a v b=.ok x):x.1.drawn=w.drawn:=by
 unfold World.farStore at h;repeat' split at h
 all_goals first
  |(cases h;done)
  |(cases h;rename_i c;exact AkI c)
def rC(w:World)(a:Addr)(n):(w.freeze a n).drawn=w.drawn:=by unfold World.freeze;split<;>rfl
def ZF{b:Type}(p:Program):∀(s:Sem b) (w:World),w.drawn<=(rW (s.run p w)).drawn:=by
 intro s
 induction s with
 |pure a=>intro w;exact bx _
 |load m a k ih=> intro w;unfold Sem.run;split;exact ih _ _;split;exact ih _ _;exact Ev
 |store m a v k ih=>
  intro w
  cases v<;>simp only[Sem.run]<;>first
   |exact bx _
   |(split
     split;exact Ev;exact ih (w.setCell a _);split;rename_i d;have e:=Ai8 d;rw[<-e];exact ih _;exact bx _)
 |new o k ih=>intro w;unfold Sem.run;exact ih _ {w with heap:=w.heap.push o}
 |shape r k ih=>intro w;unfold Sem.run;exact ih _ _
 |freeze a n k ih=>intro w;unfold Sem.run;rw[<-rC w a n];exact ih _
 |frozen a k ih=>intro w;unfold Sem.run;exact ih _ _
 |getObj r k ih=> intro w;unfold Sem.run;split;exact Ev;exact ih _ _;exact Ev
 |setObj r o k ih=> intro w;unfold Sem.run;split;exact Ev;exact ih {w with heap:=w.heap.setIfInBounds r o};exact Ev
 |choose q k ih=> intro w;unfold Sem.run;split;exact ih _ _;exact cp (Nat.le_succ _) (ih _ {w with drawn:=w.drawn+1})
 |sys c k ih=>intro w;unfold Sem.run;exact cp (Ai7 w c) (ih _ _)
 |program k ih=>intro w;unfold Sem.run;exact ih _ _
 |mark m k ih=>intro w;unfold Sem.run;exact ih _
 |halt h=>intro w;exact bx _
def ZG{b:Type}(p:Program):∀(s:Sem b) (w:World) (e:Array Event),w.drawn<=(rW (s.runT p w e).1).drawn:=by
 intro s
 induction s with
 |pure a=>intro w e;exact bx _
 |load m a k ih=> intro w e;unfold Sem.runT;split;exact ih _ _ _;split;exact ih _ _ _;exact Ev
 |store m a v k ih=>
  intro w e
  cases v<;>simp only[Sem.runT]<;>first
   |exact bx _
   |(split
     split;exact Ev;exact ih (w.setCell a _) _;split;rename_i d;have f:=Ai8 d;rw[<-f];exact ih _ _;exact bx _)
 |new o k ih=>intro w e;unfold Sem.runT;exact ih _ {w with heap:=w.heap.push o} _
 |shape r k ih=>intro w e;unfold Sem.runT;exact ih _ _ _
 |freeze a n k ih=>intro w e;unfold Sem.runT;rw[<-rC w a n];exact ih _ _
 |frozen a k ih=>intro w e;unfold Sem.runT;exact ih _ _ _
 |getObj r k ih=> intro w e;unfold Sem.runT;split;exact Ev;exact ih _ _ _;exact Ev
 |setObj r o k ih=> intro w e;unfold Sem.runT;split;exact Ev;exact ih {w with heap:=w.heap.setIfInBounds r o} _;exact Ev
 |choose q k ih=> intro w e;unfold Sem.runT;split;exact ih _ _ _;exact cp (Nat.le_succ _) (ih _ {w with drawn:=w.drawn+1} _)
 |sys c k ih=>intro w e;unfold Sem.runT;exact cp (Ai7 w c) (ih _ _ _)
 |program k ih=>intro w e;unfold Sem.runT;exact ih _ _ _
 |mark m k ih=>intro w e;unfold Sem.runT;exact ih _ _
 |halt h=>intro w e;exact bx _
def ZH{a p}{s:Sem a}{w b es e}{v:a}(h:s.runT p w es=(.ok v b,e)):w.drawn<=b.drawn:=by exact CM
def Aer{b p}{s:Sem b}{w a es e}{v:Halt}(h:s.runT p w es=(.halt v a,e)):w.drawn<=a.drawn:=by exact CM
def I1{a p}{s:Sem a}{w b es}{v:a}(h:(s.runT p w es).1=.ok v b):w.drawn<=b.drawn:=by exact CM
def Ou{b p}{s:Sem b}{w a es}{v:Halt}(h:(s.runT p w es).1=.halt v a):w.drawn<=a.drawn:=by exact CM
def J8{a p}{s:Sem a}{w b}{v:a}(h:s.run p w=.ok v b):w.drawn<=b.drawn:=by have:=ZF p s w;rw[h]at this;exact this
def AkJ{b p}{s:Sem b}{w a}{v:Halt}(h:s.run p w=.halt v a):w.drawn<=a.drawn:=by have:=ZF p s w;rw[h]at this;exact this
def Dg(n:Nat):GStep->Prop
 |.ended .. =>True
 |.go _ w _=>n<=w.drawn
 |.comm _ _ _ _ w _=>n<=w.drawn
 |.spawn _ _ w _=>n<=w.drawn
 |.count _ w _=>n<=w.drawn
 |.timer _ _ w _=>n<=w.drawn
 |.alone _ _ w _=>n<=w.drawn
 |.newcoro _ _ _ w _=>n<=w.drawn
 |.coroswitch _ _ _ w _=>n<=w.drawn
 |.collect _ w _=>n<=w.drawn
 |.watch _ w _=>n<=w.drawn
def Ky{n e}{s:GStep}:Dg n (s.after e)↔Dg n s:=by cases s<;>exact Iff.rfl
def Dg.le{n m}{s:GStep}(h:Dg n s)(a:m<=n):Dg m s:=by cases s<;>first|trivial|exact cp a h
def Ai9{n}{c:Prop}[Decidable c]{a b:GStep}(h1:Dg n a)(h:Dg n b):Dg n (if c then a else b):=by split<;>assumption
def Zp{p m}{f:Frame}{c d v w}:Dg w.drawn (doReturn p m f c d v w):=by unfold doReturn;exact PW
def P2{f:Frame}{m w}:Dg w.drawn (endThrow f m w):=bx _
def Zq{p}{f:Frame}{v w}:Dg w.drawn (endPrinting p f v w):=by unfold endPrinting;simp only;exact PW
def AkK{w n t}{o:Outcome}:Dg w.drawn (endWith w n t o):=by
 unfold endWith;simp only;repeat' split
 all_goals trivial
def EQ{p}{f:Frame}{c d m w}:Dg w.drawn (endFatal p f c d m w):=by unfold endFatal;simp only;split;rename_i h;exact J8 h;trivial;trivial
def JY{p}{a:Frame}{d:Dying}{f:Fatal}{w}:Dg w.drawn (writeOn p a d f w):=by unfold writeOn;simp only;split;trivial;split;rename_i h;exact ZH h;rename_i h;exact Aer h;trivial;trivial
def AnT{p}{f:Frame}{d:Dying}{w}:Dg w.drawn (die p f d w):=by unfold die;simp only;split;exact JY;split;split;exact Ev;exact AkK;split;exact Ev;split;rename_i h;exact J8 h;trivial;rw[Ky];split;rename_i h;exact I1 h;rename_i h;exact I1 h;trivial;rename_i h;exact Zq.le (Ou h);trivial;trivial
def yJ{p}{f:Frame}{c b d w}:Dg w.drawn (callDeferred p f c b d w):=by
 unfold callDeferred;simp only;refine Ai9 trivial ?_;rw[Ky];generalize hq:(invoke d.target d.args).runT p w #[]=q;have a:((invoke d.target d.args).runT p w #[]).1=q.1:=by rw[hq]
 clear hq;repeat' split
 all_goals first
  |trivial
  |(rename_i h;exact I1 (a.trans h))
  |(rename_i h _ _;exact I1 (a.trans h))
  |(rename_i h _ _ _;exact I1 (a.trans h))
  |(rename_i h _ _ _ _;exact I1 (a.trans h))
  |(rename_i h _ _ _ _ _;exact I1 (a.trans h))
  |(rename_i h _ _ _ _ _ _ _ _ _ _ _ _ _ _ _;exact I1 (a.trans h))
  |exact I1 (a.trans (by assumption))
  |exact Ou (a.trans (by assumption))
  |exact EQ.le (Ou (a.trans (by assumption)))
  |exact P2.le (Ou (a.trans (by assumption)))
def ZI{p m}{f:Frame}{c d w}:Dg w.drawn (unwind p m f c d w):=by
 unfold unwind;split
 .simp only;generalize hq:(Instr.takeDeferred _).runT p w #[]=q;obtain⟨r,e⟩:=q;simp only;rw[Ky]
  cases r with
  |ok x w'=>exact ZH hq
  |halt x w'=>trivial
 exact yJ
 .split
  trivial;split;trivial;split;exact Ev;split;split;exact Ev;split;rename_i h;exact J8 h;trivial;trivial;split;exact Zq;trivial
  .split
   exact Zp
   .generalize hq:(results _ f.tmps).runT p w #[]=q;obtain⟨r,e⟩:=q;simp only;rw[Ky]
    cases r with
    |ok x w'=>exact Zp.le (ZH hq)
    |halt x w'=>cases x<;>trivial
def Aes{p}{f:Frame}{c d g w}:Dg w.drawn (early p f c d g w):=by
 unfold early;simp only;repeat' split
 all_goals first
  |trivial
  |exact bx _
  |(rename_i h;exact cp (J8 h) (bx _))
  |(rename_i h _;exact cp (J8 h) (bx _))
  |(rename_i h _ _;exact cp (J8 h) (bx _))
  |(rename_i h _ _ _;exact cp (J8 h) (bx _))
  |(rename_i h _ _ _ _;exact cp (J8 h) (bx _))
def Hg{p}{f:Frame}{c d l}{s:Sem Next}{w}:Dg w.drawn (stepG.apply p l f c d s w):=by
 unfold stepG.apply;simp only;rw[Ky]
 have hq:w.drawn<=(rW (if l=true then s.runT p w #[]else(s.run p w,#[])).1).drawn:=by
  split;exact ZG p s w #[];exact ZF p s w
 generalize (if l=true then s.runT p w #[]else(s.run p w,#[])).1=r at hq;repeat' split
 all_goals first
  |trivial
  |exact hq
  |exact P2.le hq
  |exact EQ.le hq
  |exact Aes.le hq
def AkL{p}{f:Frame}{c d l w}:Dg w.drawn (stepG.oper p l f c d w):=by unfold stepG.oper;split;trivial;split;exact Hg;exact Hg
def ZJ{b}{n:Nat}{o:Option b}{a:GStep}{f:b->GStep}(h1:Dg n a)(h:∀x,Dg n (f x)):Dg n (o.elim a f):=by cases o;exact h1;exact h _
theorem AkM{p m}{f:Frame}{a d l w}:Dg w.drawn (stepG.exec p m l f a d w):=by
 have b:∀(c:Prop) [Decidable c] (j:Option Code),Dg w.drawn (match f.roundOf with
  |none=>if c then GStep.go {frame:={f with mode:=.returning},callers:=a,status:=.running,dying:=d} w else .ended (.stuck "exit, goto: no such block or label" (f.pos p)) w
  |some l=>GStep.after (seen p f.fn ((Instr.endRound l j).runT p w #[]).2) (match((Instr.endRound l j).runT p w #[]).1 with
   |.ok v w=>doReturn p m f a d v w
   |.halt _ w=>.ended (.stuck "range over a function: no such loop" (f.pos p)) w)):=by
  intro c _ j;split
  ·exact Ai9 (bx _) trivial
  ·rw [Ky];split
   ·rename_i h;exact Zp.le (I1 h)
   ·trivial
 unfold stepG.exec;simp only;split
 all_goals first
  |exact b _ _
  |exact bx _
  |trivial
  |exact Hg
  |exact ZJ (b _ _) λ_=>bx _
  |exact ZJ trivial λ_=>Hg
  |(split
    ·exact Ev
    ·trivial)
  |(split
    ·exact AkL
    ·exact bx _)
  |(split
    ·exact Ev
    ·split
     ·rename_i h;exact cp (J8 h) (bx _)
     ·trivial)
  |(rw[Ky]
    split
    ·rename_i h;exact cp (I1 h) (bx _)
    ·rename_i h;exact cp (Ou h) (bx _)
    ·trivial)
  |(rw[Ky]
    split
    ·rename_i h;exact Hg.le (I1 h)
    ·trivial)
  |skip
def AkN{p m}{g:Goroutine}{w l}:Dg w.drawn (stepG p m g w l):=by unfold stepG;simp only;split;exact AnT;exact AkM;exact ZI
def Ds(n:Nat):Stepped->Prop
 |.next m=>n<=m.world.drawn
 |_=>True
def Ds.le{n m}{s:Stepped}(h:Ds n s)(a:m<=n):Ds m s:=by cases s<;>first|trivial|exact cp a h
def AkO{r:Rest}{cases w a}(h:waitingAt r cases w=some a):a.drawn=w.drawn:=by
 unfold waitingAt at h;repeat' split at h
 all_goals first|(cases h;done)|(cases h;rfl)
def AkP{p}{r:Rest}{c i}{g:Goroutine}{cases b}{s:CommShape}{w}:Ds w.drawn (communicate p r c i g cases b s w).1:=by
 unfold communicate;simp only;repeat' split
 all_goals first
  |trivial
  |exact bx _
  |exact Nat.le_of_eq (AkO (by assumption)).symm
  |(have h:=J8 ‹Sem.run p _ w=Result.ok _ _›
    exact h)
  |(have h:=J8 ‹Sem.run p _ w=Result.ok _ _›
    have a:=AkJ ‹Sem.run p (runtimePanic _) _=Result.halt _ _›;exact cp h a)
  |(have h:=J8 ‹Sem.run p _ w=Result.ok _ _›
    have a:=J8 ‹Sem.run p (choose _) _=Result.ok _ _›;exact cp h a)
def ZK{p gs}{rest:Rest}{w}:Ds w.drawn (look p gs rest w):=by
 unfold look;simp only;repeat' split
 all_goals first
  |trivial
  |exact bx _
  |(have h:=J8 ‹Sem.run p _ w=Result.ok _ _›
    exact h)
  |skip
def Aet{m g:Machine}{o:TimerOp}{v}(h:timerOp m o=.ok (v,g)):g.world.drawn=m.world.drawn:=by
 have i:∀w c,(drain w c).2.drawn=w.drawn:=λw c=>by unfold drain;split<;>rfl
 have r:∀(m:Machine) k t a b,(retime m k t a b).2.world.drawn=m.world.drawn:=λm k t a b=>by
  unfold retime;simp only;split;exact i _ _;rfl
 have n:∀{d:Addr} {f:Nat->Timer->Value×Machine} {m2:Machine} {x:Value×Machine},(∀k t,(f k t).2.world.drawn=m.world.drawn)->timerOp.named m d f=.ok x->x.2.world.drawn=m.world.drawn:=by
  intro d f m2 x j e;unfold timerOp.named at e;split at e
  .cases e;exact j _ _
  .cases e
 have o:∀{d:Addr} {m2:Machine},timerOp.opened m d=some m2->m2.world.drawn=m.world.drawn:=by
  intro d m2 e;unfold timerOp.opened at e;repeat' split at e
  all_goals first|(cases e;done)|(cases e;rfl)
 unfold timerOp at h;repeat' split at h
 all_goals first
  |(cases h;done)
  |(cases h;rfl)
  |exact n (m2:=m) (λk t=>r _ _ _ _ _) h
  |exact n (m2:=m) (λk t=>(r _ _ _ _ _).trans (o (by assumption))) h
def AkQ{p}{m:Machine}{i l}:Ds m.world.drawn (runT p m i l).1:=by
 unfold runT;simp only;have a:Dg m.world.drawn (stepG p (i==0) (m.gs.swapAt! i {(default:Goroutine)with status:=.finished}).1 m.world l):=AkN;generalize stepG p (i==0) (m.gs.swapAt! i {(default:Goroutine)with status:=.finished}).1 m.world l=s at a
 cases s with
 |ended=>trivial
 |comm g c b sh w es=>exact AkP.le a
 |go g w es=>exact a
 |spawn g ch w es=>exact a
 |count g w es=> simp only;split;trivial;exact a
 |alone g on w es=>exact a
 |collect g w es=>exact ZK.le a
 |watch g w es=>exact a
 |newcoro g c d w es=>exact a
 |coroswitch g c e w es=>
  simp only;repeat' split
  all_goals first
   |trivial
   |exact a
   |(rename_i h;have f:Dg w.drawn (endThrow g.frame "coroswitch on exited coro" w):=P2;rw[h]at f;exact cp a f)
 |timer g op w es=>
  simp only;repeat' split
  all_goals first
   |trivial
   |(rename_i h;exact cp a (Nat.le_of_eq (Aet h).symm))
   |(rename_i j _ _ _ _ h;have f:Dg w.drawn (endThrow g.frame j w):=P2;rw[h]at f;exact cp a f)
   |(rename_i j _ _ _ _ _ h;have f:Dg w.drawn (endThrow g.frame j w):=P2;rw[h]at f;exact cp a f)
   |(rename_i j _ _ _ _ _ _ h;have f:Dg w.drawn (endThrow g.frame j w):=P2;rw[h]at f;exact cp a f)
def Aeu{p}{m:Machine}{k}:Ds m.world.drawn (serve p m k):=by unfold serve;simp only;exact PW
def Dm(n:Nat):Move->Prop
 |.goroutine m _=>n<=m.world.drawn
 |.machine s _=>Ds n s
def Dm.le{n m}{s:Move}(h:Dm n s)(a:m<=n):Dm m s:=by cases s;exact cp a h;exact Ds.le h a
def lm{p}{m:Machine}:Dm m.world.drawn (askOn p m):=by
 unfold askOn;simp only;repeat' split
 all_goals first
  |trivial
  |exact bx _
  |exact(Aeu (m:={m with world:=_})).le (J8 (by assumption))
  |(have h1:=J8 ‹Sem.run p _ m.world=Result.ok _ _›
    try have h:=J8 ‹Sem.run p (choose (.sched _)) _=Result.ok _ _›
    try have a:=J8 ‹Sem.run p _ _=Result.ok 0 _›
    try have b:=J8 ‹Sem.run p _ _=Result.ok (Nat.succ _) _›
    try (rename_i q _;have c:=J8 q)
    try (rename_i q;have d:=J8 q)
    simp only[Dm,Ds,Machine.advanceTo]at *;omega)
  |skip
def AiA{p}{m:Machine}:Dm m.world.drawn (ask p m):=by unfold ask;split;split;trivial;rename_i h;have h1:=J8 h;have a:=ZK (p:=p) (gs:=m.gs) (rest:=m.rest) (w:= ‹World›);split;rename_i b;rw[b]at a;exact lm.le (cp h1 a);exact Ds.le a h1;rename_i h;exact(lm (m:={m with world:=_})).le (J8 h);exact lm
def AkR{p}{m:Machine}:Dm m.world.drawn (move p m):=by
 unfold move;repeat' split
 all_goals first
  |trivial
  |exact bx _
  |exact AiA
  |exact AiA (m:={m with rest:=_})
def Aev{p}{m:Machine}:Ds m.world.drawn (step p m):=by unfold step stepT;have h:=AkR (p:=p) (m:=m);split;rename_i a;rw[a]at h;exact AkQ.le h;rename_i a;rw[a]at h;exact h
def ZL{p}:∀{n:Nat} {m a:Machine},runN p n m=.next a->m.world.drawn<=a.world.drawn
 |0,m,a,h=>by cases h;exact bx _
 |n+1,m,a,h=>by
  unfold runN at h;have h1:=Aev (p:=p) (m:=m);split at h;rename_i b;rw[b]at h1;exact cp h1 (ZL h);rename_i c;exact(c _ h).elim
def Zr{P f a w}{R:Ending->World->Prop}(h:Calls P f a w R)(d:∀e b,R e b->∃v,e=.returned v):Calls P f a w λe b=>R e b/\w.drawn<=b.drawn:=by intro g;obtain⟨e,b,i,h1,c,j⟩:=h g;refine⟨e,b,i,⟨h1,?_⟩,c,j⟩;obtain⟨v,rfl⟩:=d e b h1;obtain⟨n,k⟩:=(c:Steps P _ _);exact ZL k
section
variable[Env]
section
variable{P:Program}
def P3{w d S c}(i:w.drawn<=d.drawn)(e:Sz w S)(a:Below w.heap.size w d):Stp w S c d S (λ_=>0)/\Sz d S:=by refine jL e ⟨a.os,a.tape,⟨a.output,λ_=>i⟩,a.size,λb f _=>⟨a.block b f,rfl⟩,λb o j=> ?_,λ_=>bx _,λ_ _=>gu _⟩ (λb g=>e b (cp a.size g));apply a.cell (p:=⟨b,o,none⟩);rcases cq b w.heap.size with h|h;exact h;have:=e b h;omega
def Co(m:True){f a}(g:Hr P f)(x)(hx:pb x=true)(h:∀w S b c,Sz w S->Ac w S a b c->Calls P f b.toArray w λe d=>∃v,e=.returned v/\Ac d S [x] [v] (λ_=>0)/\Below w.heap.size w d):Aa P f a (λr=>r=x):=
 ⟨g,⟨_,rfl⟩,λw S b c i n p=>(Zr (h w S b c i n) λe d ⟨v,j,_⟩=>⟨v,j⟩).mono λe d ⟨⟨v,j,o,k⟩,l⟩=>⟨v,x,S,λ_=>0,j,rfl,hx,o,λ_=>gu _,(P3 (c:=c) l i k).2,(P3 (c:=c) l i k).1⟩⟩
def L1{w S v}(h:v.oneCell'=true):Ac w S [.raw v] [v] (λ_=>0):=.raw h (.nil Al)
def Ov{w S v u}(h:v.oneCell'=true):Ac w S [.a6 [.raw v,.any]] [.tuple #[v,u]] (λ_=>0):=
 fh (vs:=[v,u]) (c1:=λ_=>0) (c2:=λ_=>0) (.raw h (.any (.nil Al))) (.nil Al) (λ_=>rfl)
def Bz{w:World}{S c:Δ}{v:Value}{x:Φ}{a:ϴ}(h:Ac w S (.raw v::x) a c):∃u,a=v::u/\Ac w S x u c:=by
 cases h with
 |raw h1 h=>exact⟨_,rfl,h⟩
def Bo(l:Ϟ):ByteArray:=⟨l.toArray⟩
def Bm(l):(Bo l).data.toList=l:=by simp[Bo]
def ZM(z:Ξ):(z.map Bo).map (·.data.toList)=z:=by
 rw[lq]
 conv=>rhs;rw[<-List.map_id z]
 exact te λx _=>by simp[Bo]
def rD{w S}:∀{zs:Ξ} {a:ϴ} {c:Δ},Ac w S (zs.map str) a c->a=zs.map λl=>.string (Bo l)
 |[],a,c,h=>h.zero.1
 |z::zs,a,c,h=>by
  cases h with
  |raw h1 h=>rw[rD (zs:=zs) h];rfl
def P4:∀a:Ξ,flat (a.map str)=a.map str
 |[]=>rfl
 |z::a=>by have:=P4 a;simp only[ev,flat]at this⊢;rw[this];rfl
def Zy{w S}:∀a:Ξ,Ac w S (a.map str) (a.map λl=>.string (Bo l)) (λ_=>0)
 |[]=>.nil Al
 |z::a=>.raw rfl (Zy a)
theorem yK{T:Nat->Option TI}{a K}(d f):On P T (some d) (.assign (.func f)) a K=K (a.set d (.raw (.func (.func f) #[] #[]))):=(rfl)
attribute [go_sem] yK
def Bi(l:Ϟ):Int:=match atoiAll l with
 |.ok v=>v
 |.range=>atoiSat l
 |_=>0
end
end
section
variable[Env]
def mj(o:Option Value):Prop:=∃v,o=some v/\(v=.nilIface\/∃t p,v=.iface t p)
def ZN(o:Option Value):Prop:=∃m,o=some (.int .i64 m)
section
variable{P:Program}{d:Ren}
def rE(L:Lays.n156 P d)(X:Builder.Extra P d)(A:True)(m:Hr P (d.f 156))(b:Ξ)(s:Ϟ)(B:b.length<=140737488355328)(hlen:(join b s).length<=140737488355328):
 Aa P (d.f 156) [.sl 1 (b.map str),str s] (λr=>r=str (join b s)):=by
 refine Co A m _ rfl λw S I c C u=> ?_;generalize l:b.map str=es at u;have none:∀a g,b=[]->Calls P (d.f 156) #[.slice a 0 g,.string (Bo s)] w λe w'=>∃v,e=.returned v/\Ac w' S [str (join b s)] [v] (λ_=>0)/\Below w.heap.size w w':=by rintro a g rfl;exact(Any.strings_Join_none L X a g (Bo s) w).mono PL
 cases u with
 |j4 hcap h=>obtain⟨D,rfl,n⟩:=Bz h;obtain⟨rfl,_⟩:=n.zero;exact none _ _ (List.map_eq_nil_iff.1 l)
 |sl hn' hcap hsp hk h1 h0 hcell hst h=>
  rename_i i g E D J;obtain⟨F,rfl,n⟩:=Bz h;obtain⟨rfl,_⟩:=n.zero;subst l;rw[P4]at h1;have hcv:=rD h1;rw[dB]at hn'⊢;by_cases k:b=[];have o:b.length=0:=by rw[k];rfl
  rw[o];exact none _ _ k
  .have K:0<b.length:=oh.2 k;have G:E.length=b.length:=by rw[hcv,dB]
   have p:i.block<w.heap.size:=by
    rcases cq i.block w.heap.size with h|h;exact h;have:=C i.block h;omega
   have:=Any.strings_Join L X i.block i.off g (b.map Bo) (Bo s) w (λj x y=>by rw[ao]at y;obtain⟨z,q,rfl⟩:=tj.1 y;exact(hcell j (.string (Bo z)) (by rw[hcv,ao,q];rfl)).1) p (by simpa using B) (by simpa using hn') (by rw[ZM,Bm];exact hlen);rw[ZM,Bm,dB]at this;have t:i=⟨i.block,i.off,Option.none⟩:=by cases i;simp only at hsp;rw[hsp]
   rw[t];apply this.mono;rintro e w' ⟨rfl,H⟩;exact⟨_,rfl,L1 rfl,H⟩
def rF(w e s):Below w.heap.size w (bytesWorld w e s):=by refine⟨rfl,rfl,rfl,by simp[bytesWorld,World.freeze],λk a=> ?_⟩;have h:w.heap.size≠k:=om;simp only[bytesWorld,World.freeze];rw[ar oD];simp only[er,h,if_false];exact Below.heap_alloc w.drew _ _ a
theorem ZO(L:LaysC.n172 P d)(u:True)(b:Hr P (d.f 172))(s)(z:s.length<=281474976710656)(i:((d.g 15),0,mj)∈Env.globs)(j:((d.g 16),0,mj)∈Env.globs):
 Aa P (d.f 172) [str s] (λr=>r=.a6 [num (Bi s),.any]):=by
 refine Co u b _ rfl λw S A c p x=> ?_;obtain⟨B,rfl,h⟩:=Bz x;obtain⟨rfl,_⟩:=h.zero;have y:(Bo s).size=s.length:=by simp [Bo,ByteArray.size]
 unfold Bi;have a:=Bm s
 cases k:atoiAll s with
 |ok v=>refine(Any.strconv_Atoi_ok L (Bo s) om v (by rw[a];exact k) w).mono ?_;rintro e q ⟨rfl,hw⟩;refine⟨_,rfl,Ov rfl,?_⟩;exact AhY
 |range=>obtain⟨h1,l,m,n⟩:=p.g _ j;refine(Any.strconv_Atoi_range L (Bo s) om (by rw[a];exact k) l w m n).mono ?_;rintro e q ⟨N,rfl,_,_,o⟩;rw[a];exact⟨_,rfl,Ov rfl,o⟩
 |_=>obtain⟨h1,l,m,n⟩:=p.g _ i;refine(Any.strconv_Atoi_syntax L (Bo s) om (by rw[a];exact k) l w m n).mono ?_;rintro e q ⟨N,rfl,_,_,o⟩;exact⟨_,rfl,Ov rfl,o⟩
def Zz (L:Lays.n147 P d) (o:(P.info? (d.t 9)).map (λi=>(i.zero,i.size,i.bytes))=some (some (.string ByteArray.empty),1,16)) (T:True) (q:Hr P (d.f 147))
 (F:((d.g 1),0,ZN)∈Env.globs) (s a:Ϟ) (n:Nat) (U:s.length<4294967281) (h1:1<=a.length) (G:1<=n) (v:n<=9223372036854775807):
 Aa P (d.f 147) [str s,str a,num n] (λr=>r=.own (d.t 9) 1 ((splitK a 0 (min n (s.length+1)-1) s).map str)):=by
 refine⟨q,⟨_,rfl⟩,λw S V c hz H W=> ?_⟩;obtain⟨D,rfl,z⟩:=Bz H;obtain⟨D,rfl,A⟩:=Bz z;obtain⟨D,rfl,B⟩:=Bz A;obtain⟨rfl,_⟩:=B.zero;obtain⟨I,m,J⟩:=hz.g _ F;have C:(Bo s).size=s.length:=by simp[Bo,ByteArray.size]
 have E:(Bo a).size=a.length:=by simp[Bo,ByteArray.size]
 refine(Any.strings_SplitN L o (Bo s) (Bo a) n m w om J om G v).mono ?_;rintro e X ⟨rfl,rfl⟩;rw[C];have Y:min n (s.length+1)<=4294967282:=om;have K:=splitB_length_le (Bo a) 0 (min n (s.length+1)-1) (Bo s);have h:=splitB_data (Bo a) 0 (min n (s.length+1)-1) (Bo s);rw[Bm,Bm]at h;have Z:1<=min n (s.length+1):=om;generalize M:min n (s.length+1)=N at *;generalize O:splitB (Bo a) 0 (N-1) (Bo s)=ys at *;rw[<-h];have hlen:((ys.map (·.data.toList)).map str).length=ys.length:=oS;have hb:=Below.alloc (Below.refl w.heap.size w) (bx _) (.cells (Lib.cellsOf ys N) (d.t 9));have Q:S w.heap.size=0:=hz _ (bx _);have j:Stp w S c (w.alloc (.cells (Lib.cellsOf ys N) (d.t 9))) (upd S w.heap.size ys.length) (λb=>if b=w.heap.size then 1 else 0)/\Sz (w.alloc (.cells (Lib.cellsOf ys N) (d.t 9))) (upd S w.heap.size ys.length):=by exact ϸ
 refine⟨_,_,_,_,rfl,rfl,rfl,?_,λb=>by split<;>omega,j.2,j.1⟩;rw[<-hlen];have hlist:(Lib.cellsOf ys N).toList=(ys.map Value.string)++List.replicate (N-ys.length) (Value.string ByteArray.empty):=rfl;have k:(Lib.cellsOf ys N).toList.take (((ys.map (·.data.toList)).map str).length*1)=(ys.map (·.data.toList)).map λl=>Value.string (Bo l):=by exact Ag9
 refine Ac.own (c0:=λ_=>0) (c2:=λ_=>0) (cur:=Lib.cellsOf ys N) (by rw[hlen];omega) (by unfold maxLen;omega) (λx hx=> ?_) (by show(w.heap.push _)[w.heap.size]? =_;simp) (by rw[cellsOf_size om,md]) (by rw[hlen];simp[upd]) ?_ Al ?_ (.nil Al) (λx=>rfl);obtain⟨y,_,rfl⟩:=dm.1 hx;rfl;rw[k,P4];exact Zy _;rw[k];intro u R;obtain⟨y,_,rfl⟩:=dm.1 R;rfl
end
end
section
variable[Env]
def lF(g:Nat)(k:IntKind)(zs:List Int):List (Nat×Nat×(Option Value->Prop)):=
 (zs.zipIdx.map λp=>(g,p.2,λo=>o=some (.int k p.1)))++[(g,zs.length,λo=>o=none)]
section
variable{P:Program}{a:Ren}
def JZ{w S g k b}(l:Sz w S)(m:∀x∈lF g k b,x∈Env.globs)(p:0<b.length):
 ∃d T f,w.heap[g]? =some (.cells d T f)/\d=(b.map λz=>Value.int k z).toArray/\b.length<S g:=by
 have e:∀i (h:i<b.length),w.cell? ⟨g,i,none⟩=some (.int k b[i]):=λi h=>
  (l.g _ (m _ (qr _ (dm.2 ⟨(b[i],i),by simp[su],rfl⟩)))).2
 have n:=l.g _ (m _ (List.mem_append_right _ (.head _)));have h1:=e 0 p;unfold World.cell? at h1;split at h1;rename_i d T f o;refine⟨d,T,f,o,?_,n.1⟩;have c:∀i,w.cell? ⟨g,i,none⟩=d[i]? :=λi=>by unfold World.cell?;simp[o]
 have j:d.size=b.length:=by
  have e1:d[b.length]? =none:=by rw[<-c];exact n.2
  have e2:d[b.length-1]? =some (.int k b[b.length-1]):=by rw[<-c];exact e _ om
  have:=Array.getElem?_eq_none_iff.1 e1;have:=(ah.1 e2).1;omega
 apply Array.ext;simp[j];intro i q r;have:=e i om;rw[c,bz q]at this;exact Qs
 .cases h1
def ZP{w S g k z n}(h:Sz w S)(b:∀x∈lF g k z,x∈Env.globs)(c:0<z.length)(d:P.globalNamed n=some g):TabIs P w n k z:=by obtain⟨f,T,i,h1,e,_⟩:=JZ h b c;unfold TabIs World.var?;rw[d];simp[h1,e]
def dN(i:True){f b}{R:AV->Prop}(j:Hr P f)(n:∃r,R r)(h:∀w S d c,Sz w S->Ac w S b d c->Calls P f d.toArray w λe g=>∃v x,e=.returned v/\R x/\pb x=true/\Ac g S [x] [v] (λ_=>0)/\Below w.heap.size w g):Aa P f b R:=
 ⟨j,n,λw S d c k o s=>(Zr (h w S d c k o) λe g ⟨v,x,l,_⟩=>⟨v,l⟩).mono λe g ⟨⟨v,x,l,hx,p,q,m⟩,i⟩=>⟨v,x,S,λ_=>0,l,hx,p,q,λ_=>gu _,(P3 (c:=c) i k m).2,(P3 (c:=c) i k m).1⟩⟩
def rG{w S v u}(h:v.oneCell'=true)(b:u.oneCell'=true):Ac w S [.a6 [.raw v,.raw u]] [.tuple #[v,u]] (λ_=>0):=
 fh (vs:=[v,u]) (c1:=λ_=>0) (c2:=λ_=>0) (.raw h (.raw b (.nil Al))) (.nil Al) (λ_=>rfl)
def ZQ{w S v u x}(h:v.oneCell'=true)(b:u.oneCell'=true)(c:x.oneCell'=true):Ac w S [.a6 [.raw v,.raw u,.raw x]] [.tuple #[v,u,x]] (λ_=>0):=
 fh (vs:=[v,u,x]) (c1:=λ_=>0) (c2:=λ_=>0) (.raw h (.raw b (.raw c (.nil Al)))) (.nil Al) (λ_=>rfl)
theorem KB(L:LaysM.n171 P a)(d:True)(b:Hr P (a.f 171))(g:∀w S,Sz w S->TabIs P w "internal/strconv.uint64pow10" .u64 pow10Tab)(n:Int)(i: -9223372036854775808<=n)(h1:n<=9223372036854775807):
 Aa P (a.f 171) [num n] (λr=>r=str (itoa n)):=by
 refine Co d b _ rfl λw S v c j l=> ?_;obtain⟨u,rfl,h⟩:=Bz l;obtain⟨rfl,_⟩:=h.zero;refine(Any.strconv_Itoa L n i h1 w (g w S j)).mono ?_;rintro e m ⟨rfl,k,o,rfl⟩;exact⟨_,rfl,L1 rfl,below_grow _ _ (bx _) _ _⟩
def K0(l:Ϟ):Bool:=match atoiAll l with
 |.ok _=>true
 |_=>false
theorem KC (L:LaysC.n172 P a) (u:True) (d:Hr P (a.f 172)) (s:Ϟ) (z:s.length<=281474976710656)
 (i:((a.g 15),0,mj)∈Env.globs) (j:((a.g 16),0,mj)∈Env.globs):
 Aa P (a.f 172) [str s] (λr=>∃e,r=.a6 [num (Bi s),.raw e]/\(K0 s=true->e=.nilIface)/\(K0 s=false->∃t p,e=.iface t p)):=by
 refine dN u d ?_ λw S A c o x=> ?_
 .cases h:K0 s with
  |true=>exact⟨_,.nilIface,rfl,λ_=>rfl,λh'=>by cases h'⟩
  |false=>exact⟨_,.iface 0 .nilIface,rfl,λh'=>(by cases h'),λ_=>⟨_,_,rfl⟩⟩
 obtain⟨B,rfl,h⟩:=Bz x;obtain⟨rfl,_⟩:=h.zero;have y:(Bo s).size=s.length:=by simp[Bo,ByteArray.size]
 unfold Bi K0;have b:=Bm s
 cases k:atoiAll s with
 |ok v=>refine(Any.strconv_Atoi_ok L (Bo s) om v (by rw[b];exact k) w).mono ?_;rintro e q ⟨rfl,hw⟩;refine⟨_,_,rfl,⟨.nilIface,rfl,λ_=>rfl,λh'=>by cases h'⟩,rfl,rG rfl rfl,?_⟩;exact AhY
 |range=>obtain⟨h1,l,m,n⟩:=o.g _ j;refine(Any.strconv_Atoi_range L (Bo s) om (by rw[b];exact k) l w m n).mono ?_;rintro e q ⟨N,rfl,_,_,hb⟩;rw[b];exact Ah7
 |_=>obtain⟨h1,l,m,n⟩:=o.g _ i;refine(Any.strconv_Atoi_syntax L (Bo s) om (by rw[b];exact k) l w m n).mono ?_;rintro e q ⟨N,rfl,_,_,hb⟩;exact Ah7
def below_drewN(w n):Below w.heap.size w (w.drewN n):=by exact⟨rfl,rfl,rfl,bx _,λ_ _=>rfl⟩
def Aew(L:Lays.n145 P a)(i:True)(d:Hr P (a.f 145))(j:((a.g 1),0,ZN)∈Env.globs)(s b:Ϟ)(k:s.length<4294967281):
 Aa P (a.f 145) [str s,str b] (λr=>r=.a6 [str (cut s b).1,str (cut s b).2.1,Af (cut s b).2.2]):=by
 refine Co i d _ rfl λw S v c l o=> ?_;obtain⟨u,rfl,h1⟩:=Bz o;obtain⟨u,rfl,h⟩:=Bz h1;obtain⟨rfl,_⟩:=h.zero;obtain⟨_,m,p⟩:=l.g _ j;have:=Any.strings_Cut L (Bo s) (Bo b) m w (by simpa[Bo,ByteArray.size]using k) p;rw[Bm,Bm]at this;refine this.mono ?_;rintro e q ⟨rfl,n,rfl⟩;exact⟨_,rfl,ZQ rfl rfl rfl,below_drewN _ _⟩
def yL(L:Lays.n99 P a)(d:True)(b:Hr P (a.f 99))(s p:Ϟ):Aa P (a.f 99) [str s,str p] (λr=>r=Af (hasPrefix s p)):=by refine Co d b _ rfl λw S v c g e=> ?_;obtain⟨u,rfl,h1⟩:=Bz e;obtain⟨u,rfl,h⟩:=Bz h1;obtain⟨rfl,_⟩:=h.zero;have:=Any.strings_HasPrefix L (Bo s) (Bo p) w;rw[Bm,Bm]at this;refine this.mono ?_;exact PL
def Z9(L:Lays.n160 P a)(g:True)(d:Hr P (a.f 160))(s:Ϟ)(b:UInt8)(i:b.toNat<128)(j:s.length<=9223372036854775807):Aa P (a.f 160) [str s,str [b]] (λr=>r=str (trimB s b)):=by refine Co g d _ rfl λw S v c m k=> ?_;obtain⟨u,rfl,h1⟩:=Bz k;obtain⟨u,rfl,h⟩:=Bz h1;obtain⟨rfl,_⟩:=h.zero;have:=Any.strings_Trim_one L (Bo s) b i w (by simpa[Bo,ByteArray.size]using j);rw[Bm]at this;apply this.mono;rintro e n ⟨rfl,l⟩;refine⟨_,rfl,L1 rfl,?_⟩;rcases l with rfl|rfl;exact Below.refl _ _;exact(Below.refl _ _).drew
theorem KD(L:Lays.n162 P a)(e:True)(d:Hr P (a.f 162))(s b)(g:b.toNat<128)(i:s.length<=9223372036854775807):Aa P (a.f 162) [str s,str [b]] (λr=>r=str (trimRightB s b)):=by refine Co e d _ rfl λw S v c k j=> ?_;obtain⟨u,rfl,h1⟩:=Bz j;obtain⟨u,rfl,h⟩:=Bz h1;obtain⟨rfl,_⟩:=h.zero;have:=Any.strings_TrimRight_one L (Bo s) b g w (by simpa[Bo,ByteArray.size]using i);rw[Bm]at this;refine this.mono ?_;exact PL
end
end
end Go.Proofs.YtobhohikfmlccaaGreatDoor
