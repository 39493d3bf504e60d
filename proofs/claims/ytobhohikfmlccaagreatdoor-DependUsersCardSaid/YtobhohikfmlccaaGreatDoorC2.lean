/- The operations that leave the world as it is. -/
import Derived.Lib.Strings
import Derived.Laws.MakeOwn
import Derived.Test.YtobhohikfmlccaaGreatDoorC1
set_option linter.all false
open Go.RowKit
namespace Go.Proofs.YtobhohikfmlccaaGreatDoor
section
variable[Env]
variable{bg:Ϙ}
def Iy(v:ϴ):Bool:=v.all Value.oneCell'
def dh(i:TI):Nat:=if i.td.agg then i.size else 1
def I7(a:Φ)(i:TI)(x:Operand)(d:Γ)(K:Ψ):Prop:=
 match x with
 |.tmp s=>
  match a.getD s .any with
  |.box T cs=>dh i<=cs.length/\K (am (a.set s (.box T (bv cs 0 (dh i) ((aq cs 0 (dh i)).map v1)))) d (pl (em i.td.agg (aq cs 0 (dh i)))))
  |.ref s' off=>
   match a.getD s' .any with
   |.box T cs=>off+dh i<=cs.length/\K (am (a.set s' (.box T (bv cs off (dh i) ((aq cs off (dh i)).map v1)))) d (pl (em i.td.agg (aq cs off (dh i)))))
   |_=>False
  |.elt y=>Lb y=true/\(cellsOf y).length=dh i/\K (am a d (pl (em i.td.agg (cellsOf y))))
  |_=>False
 |_=>False
def B1(a:Φ)(i:TI)(x:Operand)(f:Nat)(d:Γ)(K:Ψ):Prop:=
 match i.td.ig[f]?,d with
 |some (off,some n,some agg),some d=>
  match x with
  |.tmp s=>
   match a.getD s .any with
   |.box _ _=>n≠0/\s≠d/\K (a.set d (.ref s off))
   |.ref s' o=>match a.getD s' .any with
    |.box _ _=>n≠0/\s'≠d/\K (a.set d (.ref s' (o+off)))
    |_=>False
   |.elt y=>n≠0/\Lb y=true/\(agg=false->n=1)/\off+n<=(cellsOf y).length/\K (a.set d (.elt (em agg (aq (cellsOf y) off n))))
   |_=>False
  |_=>False
 |_,_=>False
def Ur(i:TI)(f:Nat)(x:AV)(K:AV->Prop):Prop:=
 match i.td.ig[f]?,x with
 |some (off,some n,some agg),.agg cs=>(agg=false->n=1)/\off+n<=cs.length/\K (pl (em agg ((aq cs off n).map v1)))
 |_,_=>False
def Ks(a:Φ)(i:TI)(x:Operand)(f:Nat)(d:Γ)(K:Ψ):Prop:=
 match x with
 |.tmp s=>
  match a.getD s .any with
  |.agg cs=>
   match i.td.ig[f]? with
   |some (off,some n,some agg)=>(agg=false->n=1)/\off+n<=cs.length/\K (am (a.set s (.agg (bv cs off n ((aq cs off n).map v1)))) d (pl (em agg (aq cs off n))))
   |_=>False
  |_=>False
 |x=>Ur i f (bj a x) λz=>K (am a d z)
def oC(size:Nat)(agg:Bool):Nat->Nat->List (Nat×Option Nat×Option Bool)
 |_,0=>[]
 |off,n+1=>(off,some size,some agg)::oC size agg (off+size) n
def oE(size agg):∀(n o k:Nat) (p:Nat×Option Nat×Option Bool),(oC size agg o n)[k]? =some p->p=(o+k*size,some size,some agg)
 |0,o,k,p,h=>by simp[oC]at h
 |n+1,o,0,p,h=>by simp[oC]at h;simp[<-h]
 |n+1,o,k+1,p,h=>by
  simp only[oC,aw]at h;have:=oE size agg n (o+size) k p h
  grind
def pA(T:Br)(i:TI):Bool:=i.td.struct||match i.td.arr with
 |some (_,e)=>(T e).isSome
 |none=>false
def Kt(T:Br)(i:TI):List (Nat×Option Nat×Option Bool):=
 if i.td.struct then i.td.ig else match i.td.arr with
  |some (n,e)=>match T e with
   |some j=>oC j.size j.td.agg 0 n
   |none=>[]
  |none=>[]
def Fj(a:Φ)(x:Operand)(n:Nat)(d:Γ)(K:Ψ):Prop:=
 match x with
 |.tmp s=>
  match a.getD s .any with
  |.a6 cs=>n<cs.length/\K (am (a.set s (.a6 (cs.set n (v2 (cs.getD n .any))))) d (pl (cs.getD n .any)))
  |_=>False
 |_=>False
def N9(T:Br)(i:TI)(x y:AV)(K:AV->Prop):Prop:=
 match x,y with
 |.raw (.string s),.raw (.int _ n)=>i.td.str=true/\0<=n/\n.toNat<s.data.toList.length/\K (.raw (.int .u8 ((s.data.toList.getD n.toNat 0).toNat:Int)))
 |.agg cs,.raw (.int _ n)=>
  match i.td.arr with
  |some (len,e)=>
   match T e with
   |some j=>0<=n/\n<len/\(j.td.agg=false->j.size=1)/\n.toNat *j.size+j.size<=cs.length/\K (pl (em j.td.agg ((aq cs (n.toNat *j.size) j.size).map v1)))
   |none=>False
  |none=>False
 |_,_=>False
def Fl(T:Br)(i:TI)(x y:AV)(K:AV->Prop):Prop:=
 match i.td.elem with
 |some e=>
  match T e with
  |some j=>
   match x,y with
   |.sl k es,.raw (.int _ n)=>k=j.size/\0<=n/\n.toNat<es.length/\K (.elt (es.getD n.toNat .any))
   |.own _ k es,.raw (.int _ n)=>k=j.size/\0<=n/\n.toNat<es.length/\K (.elt (es.getD n.toNat .any))
   |_,_=>False
  |none=>False
 |none=>False
def Ck(d:Int):Ϧ->(Int->Prop)->Prop
 |none,K=>K d
 |some (.raw (.int _ n)),K=>K n
 |_,_=>False
def Iz(T:Br)(i:TI)(x:AV)(a b:Ϧ)(K:AV->Prop):Prop:=
 match x with
 |.raw (.string s)=>i.td.str=true/\Ck 0 a λl=>Ck s.data.toList.length b λh=>
  0<=l/\l<=h/\h<=s.data.toList.length/\K (.raw (.string ⟨((s.data.toList.drop l.toNat).take (h.toNat-l.toNat)).toArray⟩))
 |.sl k es=>
  match i.td.elem with
  |some e=>match T e with
   |some j=>k=j.size/\Ck 0 a λl=>Ck es.length b λh=>0<=l/\l<=h/\h<=es.length/\K (.sl k ((es.drop l.toNat).take (h.toNat-l.toNat)))
   |none=>False
  |none=>False
 |.own _ k es=>
  match i.td.elem with
  |some e=>match T e with
   |some j=>k=j.size/\Ck 0 a λl=>Ck es.length b λh=>0<=l/\l<=h/\h<=es.length/\K (.sl k ((es.drop l.toNat).take (h.toNat-l.toNat)))
   |none=>False
  |none=>False
 |.ls k es zs=>
  match i.td.elem with
  |some e=>match T e with
   |some j=>k=j.size/\Ck 0 a λl=>Ck es.length b λh=>(l=0/\h=((es++zs).length:Int))/\K (.sl k (es++zs))
   |none=>False
  |none=>False
 |_=>False
def jP(i:TI):AV->(AV->Prop)->Prop
 |.raw (.string s),K=>i.td.str=true/\K (.raw (.int .i64 (s.data.toList.length:Int)))
 |.sl _ es,K=>i.td.elem.isSome=true/\K (.raw (.int .i64 (es.length:Int)))
 |.own _ _ es,K=>i.td.elem.isSome=true/\K (.raw (.int .i64 (es.length:Int)))
 |.nil,K=>i.td.elem.isSome=true/\K (.raw (.int .i64 0))
 |_,_=>False
section
variable{P:Program}{T:Br}{w:World}{S:Nat->Nat}
def Au{o a next}{Q:Exit->Ϣ}{v w'}(h:(execOp a.eval o).run P w=.ok (.value v) w')(b:next (a.put o.dst v) w'):o.wp P a w next Q:=by unfold Oper.wp;rw[h];exact b
def A8{σ:Φ}{v:ϴ}{c:Δ}(h:Ac w S σ v c){s:Nat}{x:AV}(b:σ.getD s .any=x)(a:x≠ .any):σ[s]? =some x:=by grind
def Ku{t b off n i c f}(m:Df P t i)(g:w.heap[b]? =some (.cells c f (0,0)))(a:n=dh i)(r:off+n<=c.size):
 (Instr.loadAt t (.pointer (some ⟨b,off,none⟩))).run P w=.ok (if i.td.agg then .agg ((c.toList.drop off).take n).toArray else((c.toList.drop off).take n).headD undef) w:=by
 obtain⟨o,z,d,h1,_,_,s,_,k,l⟩:=m.get;unfold dh at a
 cases e:i.td.agg with
 |true=>
  simp only[e,if_true]at a⊢;refine run_loadAt_mid w b off t _ d ?_ k ?_ ?_;intro j v u;rw[cell_of_row w b (off+j) c f (0,0) g]
  grind
  .have:=Ra (P:=P) (d:=d);rw[l,e]at this;cases d<;>simp_all [Uo]
  grind
 |false=>
  simp only[e,f0,if_false]at a⊢;subst a;have h:(isAgg t).run P w=.ok false w:=by have:=Ra (P:=P) (d:=d);rw[l,e]at this;unfold isAgg;rw[ft,fp k w];cases d<;>simp_all [Uo]
  have p:w.cell? ⟨b,off,none⟩=some c[off]:=by rw[cell_of_row w b off c f (0,0) g];simp
  have q:(c.toList.drop off).take 1=[c[off]]:=by rw[j0 (by simp;omega)];simp
  rw[q];simp[Instr.loadAt,Instr.sureAddr,loadVar,h,p]
def Cu{a:Act}{s v}(h:a.tmps.toList[s]? =some v):a.eval (.tmp s)=v:=by
 simp only[Act.eval,vw]
 grind
def Ha{σ:Φ}{a:Act}{c:Δ}(h:Ac w S σ a.tmps.toList c){s t:Nat}{e:Φ}(i:σ.getD s .any=.box t e):
 ∃b d f c2,a.eval (.tmp s)=.pointer (some ⟨b,0,none⟩)/\w.heap[b]? =some (.cells d t (0,0))/\S b=0/\Ac w S e d.toList f/\(∀u∈d.toList,u.oneCell'=true)/\
  Ac w S (σ.set s .any) a.tmps.toList c2/\(∀x,c x=(if x=b then 1 else 0)+f x+c2 x)/\a.tmps.toList[s]? =some (.pointer (some ⟨b,0,none⟩)):=by
 have j:=A8 h i oS;obtain⟨v,c1,c2,g,h1,k,l⟩:=h.take s j
 cases h1 with
 |box hb hS h1 hoc h hcc=>
  cases h with|nil hz=>
  exact⟨_,_,_,c2,Cu g,hb,hS,h1,hoc,k,λx=>by rw[l,hcc,hz x];omega,g⟩
def jQ {e:Φ} {a:Act} {c2 f c:Δ} {s b t:Nat} {g:Φ} {d:Array Value} (h:Ac w S (e.set s .any) a.tmps.toList c2) (i:s<e.length) (j:a.tmps.toList[s]? =some (.pointer (some ⟨b,0,none⟩)))
 (k:w.heap[b]? =some (.cells d t (0,0))) (l:S b=0) (h1:Ac w S g d.toList f) (m:∀u∈d.toList,u.oneCell'=true) (n:∀x,c x=(if x=b then 1 else 0)+f x+c2 x):
 Ac w S (e.set s (.box t g)) a.tmps.toList c:=by
 have:=h.fill (Ac.box (c:=λx=>(if x=b then 1 else 0)+f x) k l h1 m (.nil Al) (λx=>oS)) s (by simp[i]);rw[lu,Ag j]at this;exact this.congr λx=>by rw[n]
def Us{a:Φ}{s:Nat}{x}(b:a.getD s .any=x)(h:x≠ .any):s<a.length:=by grind
def Rb(v:ϴ)(off n:Nat):v.take off++(v.drop off).take n++v.drop (off+n)=v:=by exact AhO
section
variable{g:World}{p c0:Nat->Nat}{σ:Φ}{a:Act}{K:Φ->Prop}{Q:Exit->Act->World->Prop}{o:Oper}
def eQ{t n off s C x i f}(Z:o.op=.load t x)(hi:Df P t i)(r:Bc bg g p c0 σ a w)(hn:n=dh i)(y:σ.getD s .any=.box C f)(D:∀b,a.tmps.toList[s]? =some (.pointer (some ⟨b,0,none⟩))->a.eval x=.pointer (some ⟨b,off,none⟩))(hl:off+n<=f.length)(h:K (am (σ.set s (.box C (bv f off n ((aq f off n).map v1)))) o.dst (pl (em i.td.agg (aq f off n))))):
 o.wp P a w (λH w'=>∃j,K j/\Bc bg g p c0 j H w') Q:=by
 obtain⟨z,S,c,E,h1,I,J,L⟩:=r;obtain⟨b,k,d1,c2,M,hb,N,l,e,A,hc,F⟩:=Ha E y;have D:=D b F;have O:=l.length;obtain⟨e1,e2,G,m,R⟩:=l.part off n;obtain⟨U,q,V⟩:=m _ _ _ (Ac.iv Ac.v1 G);rw[Rb]at q;have B:=jQ (c:=λx=>(if x=b then 1 else 0)+U x+c2 x) A (Us y oS) F hb N q e (λx=>rfl);have d:=G9 G (λu W=>e u (mg (i7 W))) i.td.agg (λX=>by unfold dh at hn;rw[X]at hn;simp at hn;subst hn;simp[aq];omega);obtain⟨e3,d,Y⟩:=d.pl;refine Au (w':=w) (v:=if i.td.agg then .agg ((k.toList.drop off).take n).toArray else((k.toList.drop off).take n).headD undef) PE ⟨_,h,Bc.value (z.o0 _ _ (A8 E y oS)) (N7 _) h1 I J L B d (λx=> ?_) _⟩
 grind
def oF{t x i}(R:o.op=.load t x)(F:Df P t i)(e:Bc bg g p c0 σ a w)(h:I7 σ i x o.dst K):
 o.wp P a w (λZ w'=>∃q,K q/\Bc bg g p c0 q Z w') Q:=by
 unfold I7 at h
 cases x with
 |tmp s=>
  simp only[]at h;split at h;rename_i U V r;exact eQ R F e rfl r (λb hb=>Cu hb) om h.2
  .rename_i s' G r;split at h
   .rename_i U V A;obtain⟨hl,H⟩:=h;have B:=e;obtain⟨k,S,c,m,I⟩:=e;obtain⟨b,J,L⟩:=k.ref s s' G U V (A8 m r oS) (A8 m A oS);exact eQ R F B rfl A (λb' C=>by rw[J]at C;cases C;exact Cu L) hl H
   grind
  .rename_i y r;obtain⟨hok,hlen,H⟩:=h;obtain⟨k,S,c,m,h1,hd,hz,hs⟩:=e;have M:=A8 m r oS;obtain⟨v,c1,c2,hv,hy,h2,hc⟩:=m.take s M
   cases hy with
   |elt hsp hcv h0 hcell e hnil=>
    rename_i ad n ce;have hev:=Cu hv;have l:=hcv.length;unfold dh at hlen;have f:=G9 hcv (λu hu=>by obtain⟨j,N⟩:=dn hu;exact(hcell j u N).2) i.td.agg (λE=>by grind);obtain⟨e3,f,O⟩:=f.pl;obtain⟨W,X,sp⟩:=ad;simp at hsp;subst hsp;obtain⟨inf,z,d,g1,_,_,g4,_,g6,Y⟩:=F.get;have D:=Ra (P:=P) (d:=d);refine Au (w':=w) (v:=if i.td.agg then .agg n.toArray else n.headD undef) ?_ ⟨_,H,Bc.value k (N7 _) h1 hd hz hs m f (λx=>by have:=O x;rw[h0 x]at this;omega) _⟩
    have:(Instr.loadAt t (.pointer (some ⟨W,X,none⟩))).run P w=.ok (if i.td.agg then .agg n.toArray else n.headD undef) w:=by
     cases E:i.td.agg with
     |true=>
      simp only[if_true];refine run_loadAt_mid w W X t n d (λj v N=>(hcell j v N).1) g6 ?_ ?_
      .rw[Y,E]at D;cases d<;>simp_all [Uo]
      grind
     |false=>
      have hagg:(isAgg t).run P w=.ok false w:=by rw[Y,E]at D;exact BV
      rw[E]at hlen;simp at hlen
      match n,l with
      |[u],_=>have:=(hcell 0 u rfl).1;exact AhX
      |[],l=>grind
      |_::_::_,l=>grind
    exact Yc
  grind
 |_=>exact h.elim
def Bs{v y}(d:Bc bg g p c0 σ a w)(j:pb y=true)(h:(execOp a.eval o).run P w=.ok (.value v) w)(k:∀S c,Ac w S σ a.tmps.toList c->∃e,Ac w S [y] [v] e/\Zc e)(l:K (am σ o.dst y)):o.wp P a w (λm n=>∃b,K b/\Bc bg g p c0 b m n) Q:=by obtain⟨f,S,c,i,h1,q,r,s⟩:=d;obtain⟨e,t,u⟩:=k S c i;exact Au h ⟨_,l,Bc.value f j h1 q r s i t (λx=>by rw[u x];omega) _⟩
def Ay{S:Δ}{c:Δ}(h:Ac w S σ a.tmps.toList c)(x:Operand):∃b,Ac w S [bj σ x] [a.eval x] b:=by
 obtain⟨c1,c2,h1,_⟩:=Lm h x
 grind
def jR{f n}(h:(P.info? f.type).map (·.size)=some n)(c:n≠0)(b):(fieldPlace b f).run P w=.ok (b.add f.offset) w:=by
 cases hq:P.info? f.type with
 |none=>grind
 |some inf=>rw[hq]at h;simp at h;simp[fieldPlace,sizeOf,typeInfo,hq,h,c]
def Mu{t f off:Nat}{n c}{i:TI}(j:Df P t i)(h:i.td.ig[f]? =some (off,n,c)):
 ∃e b,P.underlying t=some (.struct e)/\e[f]? =some b/\b.offset=off/\(P.info? b.type).map (·.size)=n/\(P.underlying b.type).map Uo=c:=by
 obtain⟨k,z,d,h1,_,_,m,_,q,l⟩:=j.get;rw[<-l]at h;cases d<;>simp[Gy]at h
 grind
def Fo(b o n):(⟨b,o,none⟩:Addr).add n=⟨b,o+n,none⟩:=by unfold Addr.add;grind
def oG{S:Δ}{z:AV}{u:Value}{c:Δ}(h:Ac w S [z] [u] c)(b:u.oneCell'=true):cellsOf z=[z]:=by
 cases h with
 |agg h1 hoc h hcc=>simp[Value.oneCell']at b
 |_=>rfl
def Ut{s d e b t q}(i:o.dst=some d)(j:Bc bg g p c0 σ a w)(r:σ[s]? =some (.box t q))(k:s≠d)(v:a.tmps.toList[s]? =some (.pointer (some ⟨b,0,none⟩)))(h:(execOp a.eval o).run P w=.ok (.value (.pointer (some ⟨b,e,none⟩))) w)(z:K (σ.set d (.ref s e))):o.wp P a w (λA B=>∃f,K f/\Bc bg g p c0 f A B) Q:=by obtain⟨l,S,c,n,h1,C,D,m⟩:=j;refine Au h ⟨_,z,?_⟩;have E:=n.length;rw[i];refine⟨?_,?_⟩;rw[E4];exact l.o5 r k v E;obtain⟨F,G,H⟩:=n.am (y:=.ref s e) (u:=.pointer (some ⟨b,e,none⟩)) (c1:=λ_=>0) (.ref (.nil Al)) (some d);exact⟨S,F,G,λx=>by grind,by rw[G5];exact C,D,m.drop λx=>by grind⟩
def Uu{t f x i}(ho:o.op=.fieldAddr t x f)(hi:Df P t i)(l:Bc bg g p c0 σ a w)(h:B1 σ i x f o.dst K):
 o.wp P a w (λa' w'=>∃D,K D/\Bc bg g p c0 D a' w') Q:=by
 unfold B1 at h;split at h
 .rename_i e n agg d O r;obtain⟨fs,fd,hu,hfd,hoff,hsz,hag⟩:=Mu hi O
  cases x with
  |tmp s=>
   simp only[]at h;split at h;rename_i Te cs A;obtain⟨hn,B,E⟩:=h;have k:=l;obtain⟨_,S,c,m,_⟩:=l;obtain⟨b,cur,d1,c2,hev,_,_,_,_,_,_,M⟩:=Ha m A;exact Ut r k (A8 m A oS) B M OJ E;rename_i s' o' A;split at h;rename_i Te cs F;obtain⟨hn,B,E⟩:=h;have k:=l;obtain⟨R,S,c,m,_⟩:=l;obtain⟨b,U,V⟩:=R.ref s s' o' Te cs (A8 m A oS) (A8 m F oS);have hev:=Cu V;exact Ut r k (A8 m F oS) B U OJ E
   grind
   .rename_i y A;obtain⟨hn,hok,G,hlen,E⟩:=h;have k:=l;obtain⟨_,S,c,m,_⟩:=l;have W:=A8 m A oS;obtain⟨v,c1,c2,M,hy,h2,hc⟩:=m.take s W
    cases hy with
    |elt hsp hcv h0 hcell ka hnil=>
     rename_i ad cv ce;obtain⟨bb,oo,sp⟩:=ad;simp at hsp;subst hsp;have hev:=Cu M;have X:K (am σ o.dst (.elt (em agg (aq (cellsOf y) e n)))):=by rw[r];exact E
     refine Bs k rfl (v:=.pointer (some ⟨bb,oo+e,none⟩)) OJ (λS' c' H=> ?_) X
     .have I:=A8 H A oS;obtain⟨v',c1',c2',J,Y,_,_⟩:=H.take s I;rw[M]at J;cases J
      cases Y with
      |elt hsp hcv h0 hcell ka hnil=>
       rename_i cv ce;have hcl:=hcv.length;obtain⟨d1,N,hd⟩:=hcv.nl e n;refine⟨λ_=>0,?_,Al⟩;have C:(aq (cellsOf y) e n).length=n:=by simp[aq];omega
       have hce:cellsOf (em agg (aq (cellsOf y) e n))=aq (cellsOf y) e n:=by
        cases agg with
        |true=>rfl
        |false=>
         have:=G rfl;subst this;have Z:((cv.drop e).take 1).length=1:=by simp;omega
         revert N C;generalize aq (cellsOf y) e 1=q;intro N C
         match q,C with
         |[z],_=>
          match L:(cv.drop e).take 1,Z with
          |[u],_=>
           rw[L]at N;apply oG N;have hj:((cv.drop e).take 1)[0]? =some u:=by rw[L];rfl
           grind
       refine .elt (cv:=(cv.drop e).take n) (c0:=d1) rfl (by grind) (λb=>by have:=hd b;rw[h0 b]at this;omega) (λj u hj=> ?_) ?_ (.nil Al)
       grind
       grind
   grind
  |_=>exact h.elim
 grind
def QL{e j}(k:Df P e j){c b}(l:b+j.size<=c.size)(h1:j.td.agg=false->j.size=1):
 (part e c b).run P w=.ok (if j.td.agg then .agg ((c.toList.drop b).take j.size).toArray else((c.toList.drop b).take j.size).headD undef) w:=by
 obtain⟨m,z,d,g1,_,_,g4,_,g6,n⟩:=k.get;have f:=Ra (P:=P) (d:=d);rw[n]at f
 cases i:j.td.agg with
 |true=>
  have h:(isAgg e).run P w=.ok true w:=by rw[i]at f;exact BV
  have q:c.extract b (b+j.size)=((c.toList.drop b).take j.size).toArray:=by
   grind
  simp[part,h,sizeOf,typeInfo,g1,g4,q]
 |false=>
  have h:(isAgg e).run P w=.ok false w:=by rw[i]at f;exact BV
  have r:=h1 i;rw[r]at l⊢;have s:(c.toList.drop b).take 1=[c[b]]:=by rw[j0 (by simp;omega)];simp
  rw[s];have t:c[b]? =some c[b]:=oS;simp[part,h,t]
def WO:AV->Bool
 |.raw _|.nil|.sl _ _|.elt _|.ee _ _|.any=>true
 |_=>false
def oH{S:Δ}{x:AV}{v:Value}{c:Δ}(h:Ac w S [x] [v] c)(b:WO x=true):Zc c:=by
 cases h with
 |any h=>cases h with|nil hc=>exact hc
 |raw h1 h=>cases h with|nil hc=>exact hc
 |gn h=>cases h with|nil hc=>exact hc
 |j4 hcap h=>cases h with|nil hc=>exact hc
 |sl hn hcap hsp hk h1 h0 hcell hst h=>cases h with|nil hc=>exact hc
 |elt hsp h1 h0 hcell hst h=>cases h with|nil hc=>exact hc
 |ee h1 h0 h=>cases h with|nil hc=>exact hc
 |_=>simp[WO]at b
theorem eR{S}:∀{d:Φ} {e:ϴ} {c:Δ},Ac w S d e c->d.all WO=true->Zc c
 |[],e,c,h,_=>h.zero.2
 |x::d,e,c,h,hz=>by obtain⟨v,u,j,k,rfl,h1,f,i⟩:=h.bu;simp only[sn,gk]at hz;have e1:=oH h1 hz.1;have e2:=eR f hz.2;exact λb=>by rw[i,e1 b,e2 b]
def oI{S:Δ}{c:Δ}(e:Ac w S σ a.tmps.toList c):∀(d:List Operand),(d.map (bj σ)).all WO=true->Ac w S (d.map (bj σ)) (d.map a.eval) (λ_=>0)
 |[],_=>.nil Al
 |x::d,h=>by simp only[ev,sn,gk]at h;obtain⟨f,h1⟩:=Ay e x;exact b4 h1 (oI e d h.2) (λb=>by rw[oH h1 h.1 b])
def jS{S:Δ}{e:Φ}{v:Value}{c:Δ}(h:Ac w S [.agg e] [v] c):∃d c1,v=.agg (List.toArray d)/\Ac w S e d c1/\(∀u∈d,u.oneCell'=true)/\∀b,c b=c1 b:=by
 cases h with
 |agg h1' hoc h hcc=>cases h with|nil hz=>exact⟨_,_,rfl,h1',hoc,λb=>by rw[hcc,hz b];omega⟩
def oJ{S:Δ}{f:Φ}{v:Value}{c:Δ}(h:Ac w S [.agg f] [v] c){e:Nat}{j:TI}(i:Df P e j){b:Nat}(q:b+j.size<=f.length)(h1:j.td.agg=false->j.size=1):
 ∃d r,v=.agg d/\(part e d b).run P w=.ok r w/\Ac w S [em j.td.agg ((aq f b j.size).map v1)] [r] (λ_=>0)/\d.size=f.length:=by
 cases h with
 |agg h1' hoc h hcc=>rename_i d c1 c2;have k:=h1'.length;obtain⟨s,l,t⟩:=h1'.nl b j.size;refine⟨d.toArray,_,rfl,QL i (by simp;omega) h1,?_,by grind⟩;exact G9 (Ac.iv Ac.v1 l) (λu m=>hoc u (mg (i7 m))) j.td.agg (λn=>by have:=h1 n;simp[aq];omega)
def jT{t f x i}(O:o.op=.field t x f)(R:Df P t i)(k:Bc bg g p c0 σ a w)(h:Ur i f (bj σ x) λy=>K (am σ o.dst y)):
 o.wp P a w (λU w'=>∃l,K l/\Bc bg g p c0 l U w') Q:=by
 unfold Ur at h;split at h
 .rename_i off n agg cs C L;obtain⟨h1,hl,V⟩:=h;obtain⟨fs,fd,D,E,m,hsz,hag⟩:=Mu R C;have q:=k;obtain⟨_,S,c,W,_⟩:=k;obtain⟨cx,r⟩:=Ay W x;rw[L]at r
  cases hq:P.info? fd.type with
  |none=>grind
  |some inf=>
   cases ux:P.underlying fd.type with
   |none=>grind
   |some d=>
    rw[hq]at hsz;rw[ux]at hag;simp at hsz hag;generalize X:(⟨(inf.zero.map (·.cells.toList)).getD [],inf.size,inf.bytes,Gy P d,none⟩:TI)=j;have Y:j.size=n:=by grind
    have Z:j.td.agg=agg:=by rw[<-X,<-hag];exact Ra.symm
    have s:∀(vs:Array Value),off+n<=vs.size->(part fd.type vs off).run P w=.ok (if agg then .agg ((vs.toList.drop off).take n).toArray else((vs.toList.drop off).take n).headD undef) w:=by exact ϔ
    obtain⟨vs,c1,z,F,G,_⟩:=jS r;have hcl:=F.length;refine Bs q (N7 _) (v:=if agg then .agg ((vs.drop off).take n).toArray else((vs.drop off).take n).headD undef) ?_ (λS' c' H=> ?_) V;unfold execOp;have:=s vs.toArray (by simp;omega);simp only[O,z,Instr.field,ft,fp D,gq,E,asAgg,ia,m,this];obtain⟨wv,e⟩:=Ay H x;rw[L,z]at e;obtain⟨I,c1',M,A,N,_⟩:=jS e;have:I=vs:=by grind
    subst this;obtain⟨d1,hp,hd⟩:=A.nl off n;obtain⟨e3,B,J⟩:=(G9 (Ac.iv Ac.v1 hp) (λu D=>G u (mg (i7 D))) agg (λha=>by have:=h1 ha;simp[aq];omega)).pl;exact⟨_,B,λb=>Nat.le_zero.1 (J b)⟩
 grind
def dC{t f x i}(L:o.op=.field t x f)(M:Df P t i)(k:Bc bg g p c0 σ a w)(h:Ks σ i x f o.dst K):
 o.wp P a w (λW w'=>∃l,K l/\Bc bg g p c0 l W w') Q:=by
 unfold Ks at h;split at h
 .rename_i s;split at h
  .rename_i cs N;split at h
   .rename_i off n agg E;obtain⟨h1,hl,X⟩:=h;obtain⟨fs,fd,F,G,m,hsz,hag⟩:=Mu M E;obtain⟨H,S,c,O,I,hd,Y,hs⟩:=k;obtain⟨v,c1,c2,R,Z,h2,hc⟩:=O.take s (A8 O N oS);have q:=Us N oS;have r:=Cu R
    cases hq:P.info? fd.type with
    |none=>grind
    |some inf=>
     cases ux:P.underlying fd.type with
     |none=>grind
     |some d=>
    rw[hq]at hsz;rw[ux]at hag;simp at hsz hag;generalize hj:(⟨(inf.zero.map (·.cells.toList)).getD [],inf.size,inf.bytes,Gy P d,none⟩:TI)=j;have hjs:j.size=n:=by grind
    have hja:j.td.agg=agg:=by rw[<-hj,<-hag];exact Ra.symm
    have y:∀(vs:Array Value),off+n<=vs.size->(part fd.type vs off).run P w=.ok (if agg then .agg ((vs.toList.drop off).take n).toArray else((vs.toList.drop off).take n).headD undef) w:=by exact ϔ
    obtain⟨vs,e1,rfl,z,A,he1⟩:=jS Z;have hcl:=z.length;obtain⟨d1,d2,U,B,hdd⟩:=z.part off n;obtain⟨c',e,hle⟩:=B _ _ _ (Ac.iv Ac.v1 U);have J:vs.take off++(vs.drop off).take n++vs.drop (off+n)=vs:=by exact AhO
    rw[J]at e;have C:=h2.fill (Ac.agg (c:=λb=>c' b) (xs:=[]) (us:=[]) (c2:=λ_=>0) e A (.nil Al) (λb=>oS)) s (by simp[q]);rw[lu,Ag R]at C;obtain⟨e3,D,V⟩:=(G9 U (λu F=>A u (mg (i7 F))) agg (λha=>by have:=h1 ha;simp[aq];omega)).pl;refine Au (w':=w) (v:=if agg then .agg ((vs.drop off).take n).toArray else((vs.drop off).take n).headD undef) ?_ ⟨_,X,Bc.value (H.less s rfl) (N7 _) I hd Y hs C D (λb=> ?_) _⟩;unfold execOp;have:=y vs.toArray (by simp;omega);simp only[L,r,Instr.field,ft,fp F,gq,G,asAgg,ia,m,this]
    grind
   grind
  grind
 exact jT L M k h
def Ye{n x}(D:o.op=.extract x n)(l:Bc bg g p c0 σ a w)(h:Fj σ x n o.dst K):
 o.wp P a w (λE w'=>∃f,K f/\Bc bg g p c0 f E w') Q:=by
 unfold Fj at h
 cases x with
 |tmp s=>
  simp only[]at h;split at h
  .rename_i t y;obtain⟨z,F⟩:=h;obtain⟨m,S,c,A,h1,G,H,I⟩:=l;obtain⟨v,c1,c2,B,J,L,R⟩:=A.take s (A8 A y oS);have q:=Cu B;have i:=Us y oS
   cases J with
   |a6 hcs hnil hcc=>
    rename_i M U V;cases hnil with|nil hz2=>
    have N:=hcs.length;have j:t[n]? =some (t.getD n .any):=by simp[z]
    obtain⟨u,e1,e2,C,e,r,W⟩:=hcs.take n j;have d:=r.fill e.v2 n (by simp[z]);rw[lu,Ag C]at d;have k:=L.fill (fh (c:=λb=>e2 b) (xs:=[]) (us:=[]) (c2:=λ_=>0) d (.nil Al) (λb=>oS)) s (by simp[i]);rw[lu,Ag B]at k;obtain⟨X,e,O⟩:=e.pl;refine Au (w':=w) (v:=u) ?_ ⟨_,F,Bc.value (m.less s rfl) (N7 _) h1 G H I k e (λb=> ?_) _⟩;unfold execOp;have:M.toArray[n]? =some u:=by simpa using C
    simp[D,q,Instr.extract,this]
    grind
  grind
 |_=>exact h.elim
def jU{t x y i}(O:Ax P T)(ho:o.op=.index t x y)(hi:Df P t i)(C:Bc bg g p c0 σ a w)(h:N9 T i (bj σ x) (bj σ y) λz=>K (am σ o.dst z)):
 o.wp P a w (λa' w'=>∃D,K D/\Bc bg g p c0 D a' w') Q:=by
 have u:=C;obtain⟨_,S,c,hr,_⟩:=C;obtain⟨cx,m⟩:=Ay hr x;obtain⟨cy,q⟩:=Ay hr y;obtain⟨inf,zz,d,g1,_,_,g4,_,g6,g7⟩:=hi.get;unfold N9 at h;split at h;rename_i s k n M R;rw[M]at m;rw[R]at q;have e1:=(Az m).1;have e2:=(Az q).1;obtain⟨hstr,U,N,V⟩:=h;have W:d=.string:=Up (P:=P) (by grind);subst W;have E:n.toNat<s.size:=N;refine Bs u rfl (v:=.int .u8 ((s.data.toList.getD n.toNat 0).toNat:Int)) ?_ (λS' c' F=>⟨_,C2 rfl Al,Al⟩) V;unfold execOp
 have hg:s[n.toNat]? =some (s.data.toList.getD n.toNat 0):=by
  have:s[n.toNat]? =some s[n.toNat]:=getElem?_pos s n.toNat E;rw[this];have G:n.toNat<s.data.size:=E
  have:s.data.toList.getD n.toNat 0=s.data[n.toNat]:=by
   grind
  rw[this];rfl
 simp only[ho,e1,e2,Instr.index,ft,asIntOf,ia,gq,fp g6,U,if_true,hg]
 .rename_i cs k n M R;rw[M]at m;rw[R]at q;have e2:=(Az q).1;split at h
  .rename_i X e f;split at h
   .rename_i j Y;obtain⟨U,G,H,N,V⟩:=h;have W:d=.array X e:=by rw[<-g7]at f;cases d<;>simp[Gy]at f<;>simp[f]
    subst W;obtain⟨vs,r,e1,A,hrr,hsz⟩:=oJ m (O e j Y) N H;refine Bs u (N7 _) (v:=r) ?_ (λS' c' F=> ?_) V;unfold execOp;obtain⟨il,_,_,Z,_,_,g4',_⟩:=(O e j Y).get;have I:(sizeOf e).run P w=.ok j.size w:=by simp[sizeOf,typeInfo,Z,g4']
    simp only[ho,e1,e2,Instr.index,ft,asIntOf,ia,gq,fp g6,U,G,and_self,if_true,I,A]
    .obtain⟨wv,B⟩:=Ay F x;rw[M]at B;obtain⟨vs',r',Bx,l,J,hsz'⟩:=oJ B (O e j Y) N H;have:vs'=vs:=by grind
     subst this;rw[A]at l;cases l;obtain⟨e3,L,hle⟩:=J.pl;exact⟨_,L,λb=>Nat.le_zero.1 (hle b)⟩
   grind
  grind
 grind
def Mv{S:Δ}{k:Nat}{e:Φ}{v:Value}{c:Δ}(h:Ac w S [.sl k e] [v] c):
 ∃a cap,v=.slice a e.length cap/\e.length<=cap/\cap<=maxLen/\(∀x∈e,(cellsOf x).length=k)/\
  (e≠[]->∃ad b c0,a=some ad/\ad.spot=none/\Ac w S (flat e) b c0/\Zc c0/\(∀j u,b[j]? =some u->w.cell? ⟨ad.block,ad.off+j,none⟩=some u/\u.oneCell'=true)/\ad.off+b.length<=S ad.block):=by
 cases h with
 |j4 hcap h=>exact⟨_,_,rfl,gu _,hcap,oS,λh=>cw rfl h⟩
 |sl hn hcap hsp hk h1 h0 hcell hst h=>exact⟨_,_,rfl,hn,hcap,hk,λ_=>⟨_,_,_,rfl,hsp,h1,h0,hcell,hst⟩⟩
def Fp{S:Δ}{e k:Nat}{b:Φ}{v:Value}{c:Δ}(h:Ac w S [.own e k b] [v] c):Ac w S [.sl k b] [v] (λ_=>0):=h.view
def Mw{k}:∀{es:Φ} (n:Nat),(∀x∈es,(cellsOf x).length=k)->n<=es.length->(flat es).take (n*k)=flat (es.take n)/\(flat es).drop (n*k)=flat (es.drop n)
 |es,0,h,_=>by simp[flat]
 |[],n+1,h,hn=>by simp at hn
 |x::es,n+1,h,hn=>by
  have c:=h x oS;have i:=Mw (es:=es) n (λy b=>h y (by simp[b])) (by simpa using hn);simp only[flat,qv,List.drop_succ_cons];have e1:(n+1)*k=(cellsOf x).length+n*k:=by grind
  rw[e1];exact⟨by grind,by rw[List.drop_length_add_append,i.2]⟩
def D8{k}:∀{es:Φ},(∀x∈es,(cellsOf x).length=k)->(flat es).length=es.length*k
 |[],_=>by simp[flat]
 |x::es,h=>by rw[flat,dc,h x oS,D8 (λy b=>h y (by simp[b])),dg,jx];omega
def AcL {S:Δ} {k:Nat} {e:Φ} {c:Addr} {cv:ϴ} {c0:Δ} (l:∀x∈e,(cellsOf x).length=k) (d:c.spot=none) (h1:Ac w S (flat e) cv c0) (q:Zc c0)
 (f:∀j u,cv[j]? =some u->w.cell? ⟨c.block,c.off+j,none⟩=some u/\u.oneCell'=true) (r:c.off+cv.length<=S c.block) (n:Nat) (i:n<e.length):
 Ac w S [.elt (e.getD n .any)] [.pointer (some (c.add (n*k)))] (λ_=>0):=by
 obtain⟨A,B,C⟩:=c;simp at d;subst d;rw[Fo];have s:=h1.length;have t:=D8 l;obtain⟨v,m,y⟩:=h1.nl (n*k) k;have z:e.getD n .any=e[n]:=by simp[i]
 have h:aq (flat e) (n*k) k=cellsOf (e.getD n .any):=by
  rw[aq,(Mw n l om).2,j0 i,flat,z]
  grind
 rw[h]at m
 have D:n*k+k<=e.length*k:=by
  have:(n+1)*k<=e.length*k:=jh k i
  grind
 refine .elt (cv:=(cv.drop (n*k)).take k) (c0:=v) rfl m (λb=>by have:=y b;rw[q b]at this;omega) (λj u E=> ?_) ?_ (.nil Al)
 grind
 grind
def Lo{t x y i}(hT:Ax P T)(ho:o.op=.indexAddr t x y)(hi:Df P t i)(B:Bc bg g p c0 σ a w)(h:Fl T i (bj σ x) (bj σ y) λz=>K (am σ o.dst z)):
 o.wp P a w (λZ w'=>∃b,K b/\Bc bg g p c0 b Z w') Q:=by
 have C:=B;obtain⟨_,S,c,m,_⟩:=B;obtain⟨D,q⟩:=Ay m x;obtain⟨cy,E⟩:=Ay m y;obtain⟨inf,zz,d,g1,_,_,g4,_,g6,g7⟩:=hi.get;unfold Fl at h;split at h;rename_i e he;have hd:d=.slice e:=D7 (P:=P) (by grind);subst hd;split at h;rename_i j hj;obtain⟨il,_,_,g1',_,_,g4',_⟩:=(hT e j hj).get;have F:(sizeOf e).run P w=.ok j.size w:=by simp[sizeOf,typeInfo,g1',g4']
 have G:∀(k:Nat) (f:Φ) (u:IntKind) (n:Int),(∀S c,Ac w S σ a.tmps.toList c->∃D,Ac w S [.sl k f] [a.eval x] D)->bj σ y=.raw (.int u n)->k=j.size->0<=n->n.toNat<f.length->K (am σ o.dst (.elt (f.getD n.toNat .any)))->
  o.wp P a w (λZ w'=>∃b,K b/\Bc bg g p c0 b Z w') Q:=by
  intro k f u n q H I J L M;rw[H]at E;have e2:=(Az E).1;obtain⟨D,N⟩:=q S c m;obtain⟨A,cap,e1,hn,hcap,hks,O⟩:=Mv N;have R:f≠[]:=by grind
  obtain⟨ad,cv,c0',rfl,hsp,h1,hz0,hcell,uo⟩:=O R;refine Bs C rfl (v:=.pointer (some (ad.add (n.toNat *k)))) ?_ (λS' c' hr'=> ?_) M;have hb:n<(f.length:Int):=om;unfold execOp;simp only[ho,e1,e2,Instr.indexAt,ft,asIntOf,ia,gq,fp g6,J,hb,and_self,if_true,F,I];obtain⟨wv,U⟩:=q S' c' hr';obtain⟨A',cap',V,hn',vl,W,r⟩:=Mv U;obtain⟨ad',cv',c0'',hA',X,h1',Y,l,s⟩:=r R;rw[e1]at V;injection V with e3 e4 e5;subst hA';injection e3 with e3;subst e3;exact⟨_,AcL W X h1' Y l s _ L,Al⟩
 split at h;rename_i k f u n hx H;obtain⟨I,J,L,M⟩:=h;exact G k f u n (λS c m=>by obtain⟨D,h⟩:=Ay m x;rw[hx]at h;exact⟨_,h⟩) H I J L M;rename_i e' k f u n hx H;obtain⟨I,J,L,M⟩:=h;exact G k f u n (λS c m=>by obtain⟨D,h⟩:=Ay m x;rw[hx]at h;exact⟨_,Fp h⟩) H I J L M
 grind
 grind
 grind
def Cf(T:Br)(σ:Φ)(i:TI)(x y:Operand)(d:Γ)(K:Ψ):Prop:=
 match x with
 |.tmp s=>
  match σ.getD s .any with
  |.box _ _=>
   match i.td.arr,bj σ y,d with
   |some (len,e),.raw (.int _ n),some d=>
    match T e with
    |some j=>0<=n/\n<len/\s≠d/\K (σ.set d (.ref s (n.toNat *j.size)))
    |none=>False
   |_,_,_=>False
  |_=>Fl T i (bj σ x) (bj σ y) λz=>K (am σ d z)
 |_=>Fl T i (bj σ x) (bj σ y) λz=>K (am σ d z)
def Sa{t x y i}(u:Ax P T)(v:o.op=.indexAddr t x y)(z:Df P t i)(f:Bc bg g p c0 σ a w)(h:Cf T σ i x y o.dst K):
 o.wp P a w (λL M=>∃l,K l/\Bc bg g p c0 l L M) Q:=by
 unfold Cf at h;split at h
 .rename_i s;split at h
  .rename_i Te cs H;split at h
   .rename_i A e kk n d k N B;split at h
    .rename_i j O;obtain⟨R,U,C,V⟩:=h;have m:=f;obtain⟨_,S,c,D,_⟩:=f;obtain⟨b,W,d1,c2,E,_,_,_,_,_,_,X⟩:=Ha D H;obtain⟨cy,q⟩:=Ay D y;rw[N]at q;have e2:=(Az q).1;obtain⟨Y,zz,I,g1,_,_,g4,_,g6,Z⟩:=z.get
     have hd:I=.array A e:=by
      rw[<-Z]at k;cases I<;>simp[Gy]at k
      grind
     subst hd;obtain⟨J,_,_,F,_,_,G,_⟩:=(u e j O).get;have r:(sizeOf e).run P w=.ok j.size w:=by simp[sizeOf,typeInfo,F,G]
     refine Ut B m (A8 D H oS) C X ?_ V;unfold execOp;simp only[v,e2,E,Instr.indexAt,ft,asIntOf,ia,gq,fp g6,Instr.sureAddr,R,U,and_self,if_true,r,Fo,jp]
    grind
   grind
  exact Lo u v z f h
 exact Lo u v z f h
def Hz{b d}{c:Int->Prop}(h:Ck d (b.map (bj σ)) c):∃n:Int,c n/\
 ((b=none/\n=d)\/∃x k,b=some x/\bj σ x=.raw (.int k n)):=by
 cases b with
 |none=>exact⟨d,h,.inl ⟨rfl,rfl⟩⟩
 |some x=>
  simp only[pj,Ck]at h
  grind
def run_sliceBound{k:IntKind}{i:Int}{y:Nat}(h:0<=i)(h1:i<=y)(c:BoundsCode):(Instr.sliceBound (.int k i) y c).run P w=.ok i.toNat w:=by simp[Instr.sliceBound,asIntOf,h,h1]
def Yf {s9:Bool} {len cap:Nat} {b c:Option Operand} {l h:Int} (hl:(b=none/\l=0)\/∃x k,b=some x/\a.eval x=.int k l) (hh:(c=none/\h=len)\/∃x k,c=some x/\a.eval x=.int k h)
 (d:0<=l) (h1:l<=h) (e:h<=len) (f:len<=cap):(Instr.sliceBounds s9 len cap (b.map a.eval) (c.map a.eval) none).run P w=.ok (l.toNat,h.toNat,cap) w:=by
 exact ϰ
def oL {s9:Bool} {len cap:Nat} {b c:Option Operand} {l h:Int} (hl:(b=none/\l=0)\/∃x k,b=some x/\a.eval x=.int k l) (hh:(c=none/\h=len)\/∃x k,c=some x/\a.eval x=.int k h)
 (d:0<=l) (h1:l<=h) (e:h<=cap):(Instr.sliceBounds s9 len cap (b.map a.eval) (c.map a.eval) none).run P w=.ok (l.toNat,h.toNat,cap) w:=by
 exact ϰ
def jV{t x V W i}(hT:Ax P T)(ho:o.op=.slice t x V W none)(hi':Df P t i)(X:Bc bg g p c0 σ a w)(h:Iz T i (bj σ x) (V.map (bj σ)) (W.map (bj σ)) λz=>K (am σ o.dst z)):
 o.wp P a w (λa' w'=>∃E,K E/\Bc bg g p c0 E a' w') Q:=by
 have F:=X;obtain⟨_,S,c,hr,_⟩:=X;obtain⟨cx,y⟩:=Ay hr x;obtain⟨inf,zz,d,g1,_,_,g4,_,g6,g7⟩:=hi'.get
 have hb:∀{op:Option Operand} {n G:Int},((op=none/\n=G)\/∃x k,op=some x/\bj σ x=.raw (.int k n))->(op=none/\n=G)\/∃x k,op=some x/\a.eval x=.int k n:=by
  intro op n G h;rcases h with h|⟨x,k,C,U⟩;exact .inl h;obtain⟨cx,y⟩:=Ay hr x;rw[U]at y;exact .inr ⟨x,k,C,(Az y).1⟩
 have key:∀(k:Nat) (f:Φ) (e:Nat) (j:TI),(∀S c,Ac w S σ a.tmps.toList c->∃cx,Ac w S [.sl k f] [a.eval x] cx)->i.td.elem=some e->T e=some j->k=j.size->
  (Ck 0 (V.map (bj σ)) λl=>Ck f.length (W.map (bj σ)) λh=>0<=l/\l<=h/\h<=f.length/\K (am σ o.dst (.sl k ((f.drop l.toNat).take (h.toNat-l.toNat)))))->
  o.wp P a w (λa' w'=>∃E,K E/\Bc bg g p c0 E a' w') Q:=by
  intro k f e j y U hj hk h;have hd:d=.slice e:=D7 (P:=P) (by grind);subst hd;obtain⟨il,_,_,g1',_,_,g4',_⟩:=(hT e j hj).get;have H:(sizeOf e).run P w=.ok j.size w:=by simp[sizeOf,typeInfo,g1',g4']
  obtain⟨l,h,hL⟩:=Hz h;obtain⟨q,h,hH⟩:=Hz h;obtain⟨h0,h1,h2,hK⟩:=h;obtain⟨cx,y1⟩:=y S c hr;obtain⟨A,cap,e1,hn,hcap,hks,hmem⟩:=Mv y1;have I:=Yf (P:=P) (w:=w) (s9:=true) (cap:=cap) (hb hL) (hb hH) h0 h1 h2 hn;refine Bs F rfl (v:=.slice (if cap=l.toNat then A else A.map (·.add (l.toNat *j.size))) (q.toNat-l.toNat) (cap-l.toNat)) ?_ (λS' c' Y=> ?_) hK;unfold execOp;have J:∀(m:Option Value),(Instr.sliceAt t (a.eval x) (V.map a.eval) (W.map a.eval) m).run P w=(Instr.slice t (a.eval x) (V.map a.eval) (W.map a.eval) m).run P w:=by exact R9
  simp only[ho,Option.map_none,ft,J];rw[e1];simp only[Instr.slice,ft,fp g6,gq,I,H,ia]
  .obtain⟨wv,y2⟩:=y S' c' Y;obtain⟨A',cap',Bx,hn',vl,D,hmem'⟩:=Mv y2;rw[e1]at Bx;injection Bx with e3 e4 e5;subst e3;subst e5;have hlen:((f.drop l.toNat).take (q.toNat-l.toNat)).length=q.toNat-l.toNat:=by simp;omega
   have M:∀x∈(f.drop l.toNat).take (q.toNat-l.toNat),(cellsOf x).length=k:=λx C=>D x (mg (i7 C));have zh:∀x∈f.drop l.toNat,(cellsOf x).length=k:=λx C=>D x (mg C);have hfe:aq (flat f) (l.toNat *k) ((q.toNat-l.toNat)*k)=flat ((f.drop l.toNat).take (q.toNat-l.toNat)):=by rw[aq,(Mw l.toNat D om).2,(Mw (q.toNat-l.toNat) zh (by simp;omega)).1]
   have N:(f.drop l.toNat).take (q.toNat-l.toNat)≠[]->f≠[]:=by grind
   revert hlen M hfe N;generalize (f.drop l.toNat).take (q.toNat-l.toNat)=L;intro hlen M hfe N;rw[<-hlen];refine⟨λ_=>0,?_,Al⟩;by_cases O:L=[];rw[O];exact .j4 om (.nil Al)
   .have hne:f≠[]:=N O
    have hlt:l.toNat<q.toNat:=by
     rcases cq l.toNat q.toNat with h|h;exact h;exact cw (kq (by rw[hlen];omega)) O
    obtain⟨ad,cv,cc,rfl,Z,h1c,hz0,B,uo⟩:=hmem' hne;rw[ar (show¬cap=l.toNat by omega)];obtain⟨bb,oo,sp⟩:=ad;simp at Z;subst Z;simp only[pj,Fo];have hcl:=h1c.length;have hfl:=D8 D;obtain⟨d1,hp,hdd⟩:=h1c.nl (l.toNat *k) ((q.toNat-l.toNat)*k);rw[hfe]at hp;have hpl:=hp.length;refine .sl (c0:=d1) (cap:=cap-l.toNat) (ad:=⟨bb,oo+l.toNat *j.size,none⟩) (by rw[hlen];omega) om rfl M hp (λb=>by have:=hdd b;rw[hz0 b]at this;omega) (λjj u R=> ?_) ?_ (.nil Al)
    .rw[b9]at R;split at R
     rw[List.getElem?_drop]at R;have:=B (l.toNat *k+jj) u R;rw[<-hk];simpa[Nat.add_assoc]using this
     .cases R
    have:l.toNat *k+(q.toNat-l.toNat)*k<=f.length*k:=by
     rw[<-jx];exact jh k om
    simp only[fw,jb,<-hk]at uo⊢;omega
 unfold Iz at h;split at h
 .rename_i s C;rw[C]at y;have e1:=(Az y).1;obtain⟨hstr,h⟩:=h;have hd:d=.string:=Up (P:=P) (by rw[g7];exact hstr);subst hd;obtain⟨l,h,hL⟩:=Hz h;obtain⟨q,h,hH⟩:=Hz h;obtain⟨h0,h1,h2,hK⟩:=h;have hsz:s.data.toList.length=s.size:=rfl;have I:=Yf (P:=P) (w:=w) (s9:=false) (len:=s.size) (cap:=s.size) (hb hL) (hb hH) h0 h1 om (bx _);refine Bs F rfl (v:=.string ⟨((s.data.toList.drop l.toNat).take (q.toNat-l.toNat)).toArray⟩) ?_ (λS' c' Y=>⟨_,C2 rfl Al,Al⟩) hK;have U:s.extract l.toNat q.toNat=⟨((s.data.toList.drop l.toNat).take (q.toNat-l.toNat)).toArray⟩:=by have:=Go.Lib.extract_data s l.toNat q.toNat;generalize s.extract l.toNat q.toNat=r at this;cases r;simp at this;simp[<-this]
  unfold execOp;have J:∀(m:Option Value),(Instr.sliceAt t (a.eval x) (V.map a.eval) (W.map a.eval) m).run P w=(Instr.slice t (a.eval x) (V.map a.eval) (W.map a.eval) m).run P w:=by exact R9
  simp only[ho,Option.map_none,ft,J];rw[e1];simp[Instr.slice,fp g6,I,U]
 rename_i k f C;split at h;rename_i e U;split at h;rename_i j hj;exact key k f e j (λS c hr=>by obtain⟨cx,h⟩:=Ay hr x;rw[C]at h;exact⟨_,h⟩) U hj h.1 h.2;exact A7;exact A7;rename_i e' k f C;split at h;rename_i e U;split at h;rename_i j hj;exact key k f e j (λS c hr=>by obtain⟨cx,h⟩:=Ay hr x;rw[C]at h;exact⟨_,Fp h⟩) U hj h.1 h.2;exact A7;exact A7
 .rename_i k f zs C;split at h
  .rename_i e U;split at h
   .rename_i j hj;obtain⟨hk,h⟩:=h;have hd:d=.slice e:=D7 (P:=P) (by rw[g7];exact U);subst hd;obtain⟨il,_,_,g1',_,_,g4',_⟩:=(hT e j hj).get;have H:(sizeOf e).run P w=.ok j.size w:=by simp[sizeOf,typeInfo,g1',g4']
    obtain⟨l,h,hL⟩:=Hz h;obtain⟨q,h,hH⟩:=Hz h;obtain⟨⟨rfl,rfl⟩,hK⟩:=h;have hx0:=y;rw[C]at hx0;obtain⟨ad,e1⟩:∃ad,a.eval x=.slice (some ad) f.length (f.length+zs.length):=by generalize hv:a.eval x=v at hx0;cases hx0 with|ls=>exact⟨_,rfl⟩
    have I:=oL (P:=P) (w:=w) (s9:=true) (len:=f.length) (cap:=f.length+zs.length) (hb hL) (hb hH) (Int.le_refl 0) (Int.natCast_nonneg _) oS;refine Bs F rfl (v:=.slice (some ad) (f++zs).length (f++zs).length) ?_ (λS' c' Y=> ?_) hK;unfold execOp;have J:∀(m:Option Value),(Instr.sliceAt t (a.eval x) (V.map a.eval) (W.map a.eval) m).run P w=(Instr.slice t (a.eval x) (V.map a.eval) (W.map a.eval) m).run P w:=by exact R9
    simp only[ho,Option.map_none,ft,J];rw[e1];simp only[Instr.slice,ft,fp g6,gq,I,H,ia,Int.toNat_zero,pq,Nat.zero_mul,Nat.sub_zero,dc];split;rfl;have:ad.add 0=ad:=rfl;simp[this]
    .obtain⟨wv,h2⟩:=Ay Y x;rw[C,e1]at h2
     cases h2 with
     |ls hcap Z hks h1 h0 B X h=>exact⟨_,.sl (bx _) (by rw[dc];exact hcap) Z hks h1 h0 B X (.nil Al),Al⟩
   exact A7
  exact A7
 exact A7
def vG{t x c i}(ho:o.op=.call c)(hc:c.callee=.builtin .len)(hca:c.args= #[x])(hct:c.argTypes= #[t])(C:Df P t i)(l:Bc bg g p c0 σ a w)(h:jP i (bj σ x) λz=>K (am σ o.dst z)):o.wp P a w (λq r=>∃f,K f/\Bc bg g p c0 f q r) Q:=by
 have m:=l;obtain⟨_,S,J,D,_⟩:=l;obtain⟨L,b⟩:=Ay D x;obtain⟨E,M,d,g1,_,_,g4,_,g6,B⟩:=C.get
 have key:∀(v:Value) (n:Nat),a.eval x=v->((∃s,v=.string s/\d=.string/\n=s.size)\/(∃A cap e,v=.slice A n cap/\d=.slice e))->K (am σ o.dst (.raw (.int .i64 (n:Int))))->
  o.wp P a w (λq r=>∃f,K f/\Bc bg g p c0 f q r) Q:=by
  intro v n hev F G;refine Bs m rfl (v:=.int .i64 (n:Int)) ?_ (λN O H=>⟨_,C2 rfl Al,Al⟩) G;unfold execOp;rcases F with⟨s,rfl,rfl,rfl⟩|⟨A,cap,e,rfl,rfl⟩;exact AhT;exact AhT
 have u:i.td.str=true->d=.string:=λy=>Up (P:=P) (by rw[B];exact y);have hdl:i.td.elem.isSome=true->∃e,d=.slice e:=λy=>by obtain⟨e,I⟩:=Option.isSome_iff_exists.1 y;exact⟨e,D7 (P:=P) (by rw[B];exact I)⟩
 unfold jP at h;split at h;rename_i s j;rw[j]at b;have e1:=(Az b).1;exact key _ s.size e1 (.inl ⟨s,rfl,u h.1,rfl⟩) h.2;rename_i k es j;rw[j]at b;obtain⟨A,cap,e1,_⟩:=Mv b;exact Aie;rename_i R k es j;rw[j]at b;obtain⟨A,cap,e1,_⟩:=Mv (Fp b);exact Aie
 .rename_i j;rw[j]at b;have e1:a.eval x=.slice none 0 0:=by revert b;generalize a.eval x=v;intro b;cases b with|gn h=>rfl
  obtain⟨e,hd⟩:=hdl h.1;exact key _ 0 e1 (.inr ⟨none,0,e,rfl,hd⟩) h.2
 exact A7
end
end
end
section
variable[Env]
variable{bg:Ϙ}
def V8(o):∀(l:ϴ) (k:Nat) (c:Array Value),o+k+l.length<=c.size->
 ((l.zipIdx k).foldl (λc (x:Value×Nat)=>c.setIfInBounds (o+x.2) x.1) c).toList=c.toList.take (o+k)++l++c.toList.drop (o+k+l.length)
 |[],k,c,h=>by simp
 |v::l,k,c,h=>by
  simp only[List.zipIdx_cons,lc];simp only[dg]at h;rw[V8 o l (k+1) _ (by simp;omega)];apply rh;intro i;simp only[Array.toList_setIfInBounds,dg];have a:c.toList.length=c.size:=rfl;rw[ir,ir,eD,eD,eD (l₁:=c.toList.take (o+k))];simp only[fw,List.length_set,a];have m:min (o+(k+1)) c.size=o+k+1:=om;have b:min (o+k) c.size=o+k:=om;rw[m,b];by_cases h1:i<o+k;rw[bn om,bn h1,b9,b9,bn om,bn h1,bq,ar om];rw[ar h1];by_cases d:i=o+k;subst d;rw[bn om,b9,bn om,bq,bn rfl,bn (by simp;omega)];simp;rw[ar om];have e1:i-(o+k)=(i-(o+k+1))+1:=om;rw[e1,fj,aw,eD];split;rfl;rw[List.getElem?_drop,List.getElem?_drop,bq,ar om];congr 1;omega
def Yg(o)(v c:Array Value)(h:o+v.size<=c.size):
 (v.zipIdx.foldl (λc (x:Value×Nat)=>c.setIfInBounds (o+x.2) x.1) c).toList=c.toList.take o++v.toList++c.toList.drop (o+v.size):=by
 rw[<-Array.foldl_toList,Array.toList_zipIdx];have:=V8 o v.toList 0 c (by simpa using h);exact Qs
section
variable{P:Program}{T:Br}{w:World}{S:Nat->Nat}
variable{w0:World}{S0 c0:Nat->Nat}{σ:Φ}{a:Act}{K:Φ->Prop}{Q:Exit->Act->World->Prop}{o:Oper}
def eS{l}{place:Nat->Option (Nat×Nat)}(M:∀i e size D,l[i]? =some (e,some size,D)->place i=some (e,size)):
 ∀(s:Θ) (m:Φ) (g:Φ) (y:ϴ) (c:Array Value) (c1 c2:Δ) (t:Ψ),s.length=m.length->G8 l (s.zip m) g t->Ac w S m y c1->Ac w S g c.toList c2->(∀u∈c.toList,u.oneCell'=true)->
  ∃j d C,Instr.fill place c (s.zip y)=some d/\t j/\Ac w S j d.toList C/\(∀u∈d.toList,u.oneCell'=true)/\(∀b,C b<=c1 b+c2 b)/\d.size=c.size
 |[],m,g,y,c,c1,c2,t,hl,h,hx,hc,ho=>by
  cases m with
  |nil=>obtain⟨rfl,hz⟩:=hx.zero;exact⟨g,c,c2,by simp[Instr.fill],by simpa[G8]using h,hc,ho,λb=>om,rfl⟩
  |cons x m=>simp at hl
 |i::s,[],g,y,c,c1,c2,t,hl,h,hx,hc,ho=>by simp at hl
 |i::s,x::m,g,y,c,c1,c2,t,hl,h,hx,hc,ho=>by
  obtain⟨v,O,d1,R,rfl,h1,U,V⟩:=hx.bu;simp only[vx,G8]at h;split at h
  .rename_i e size D E;obtain⟨F,hlen,W,h⟩:=h;obtain⟨k,z,X⟩:=Jr h1 F;have G:=hc.length;obtain⟨e1,e2,Y,A,Z⟩:=hc.part e size;obtain⟨C,n,H⟩:=A _ _ _ k;have I:v.cells.size=size:=om;have B:e+v.cells.size<=c.size:=by simp at G;omega
   have f:=Yg e v.cells c B;generalize q:(v.cells.zipIdx.foldl (λg (x:Value×Nat)=>g.setIfInBounds (e+x.2) x.1) c)=mb at f;rw[I]at f;rw[<-f]at n
   have r:∀u∈mb.toList,u.oneCell'=true:=by
    rw[f];intro u p;simp only[ff]at p;rcases p with(p|p)|p
    .exact ho u (i7 p)
    .exact z u p
    .exact ho u (mg p)
   have N:mb.size=c.size:=by have:=fq List.length f;simp at this;omega
   obtain⟨j,d,cc,hf,hK,hr,J,L,hs'⟩:=eS M s m _ O mb R C t (by simpa using hl) h U n r;refine⟨j,d,cc,?_,hK,hr,J,λb=> ?_,om⟩
   .simp only[vx,Instr.fill,M i e size D E];rw[ar]
    .have:(v.cells.zipIdx.foldl (λg x=>g.setIfInBounds (e+x.2) x.1) c)=mb:=q;rw[<-hf,<-this]
    .simp;omega
   .have:=L b;have:=H b;have:=V b;have:=Z b;omega
  .exact A7
def Bc.new {f:Φ} {c c1 c2:Δ} {y:AV} {v:Value} {cur:Array Value} {e s:Nat} (h:bm f a.tmps.toList) (m:pb y=true) (h1:∀b,c b<=1) (g:∀b,0<c b->b<w.heap.size) (n:a.defers=bg) (i:Sz w S) (p:Stp w0 S0 c0 w S c)
 (q:Ac w S f a.tmps.toList c2) (r:Ac (w.alloc (.cells cur e)) (upd S w.heap.size s) [y] [v] (λx=>(if x=w.heap.size then 1 else 0)+c1 x)) (l:∀b,c1 b+c2 b<=c b) (d:Γ):
 Bc bg w0 S0 c0 (am f d y) (a.put d v) (w.alloc (.cells cur e)):=by
 have t:=b6 (c:=λ_=>0) i (.cells cur e) s;have j:=q.step t (λb=>by have:=h1 b;have:=l b;show c2 b+0<=1;omega);have k:=b6 (c:=c) i (.cells cur e) s;refine Bc.value (c:=λx=>(if x=w.heap.size then 1 else 0)+c x) h m ?_ n (i.alloc _ s) (p.trans k) j r (λb=> ?_) d;intro b;show(if b=w.heap.size then 1 else 0)+c b<=1;have:=h1 b;have:=g b;split<;>omega;have:=l b;show(if b=w.heap.size then 1 else 0)+c1 b+c2 b<=(if b=w.heap.size then 1 else 0)+c b;omega
def Bc.jd {e:Φ} {c c1 c2:Δ} {v:Value} {cur:Array Value} {T d:Nat} {f:Φ} (g:bm e a.tmps.toList) (q:e.all (Lj d)=true) (h1:∀b,c b<=1) (i:∀b,0<c b->b<w.heap.size) (r:a.defers=bg) (j:Sz w S) (s:Stp w0 S0 c0 w S c)
 (t:Ac w S e a.tmps.toList c2) (u:Ac (w.alloc (.cells cur T)) (upd S w.heap.size 0) [.box T f] [v] (λx=>(if x=w.heap.size then 1 else 0)+c1 x)) (k:∀b,c1 b+c2 b<=c b):
 Bc bg w0 S0 c0 (e.set d (.box T f)) (a.put (some d) v) (w.alloc (.cells cur T)):=by
 have y:=b6 (c:=λ_=>0) j (.cells cur T) 0;have l:=t.step y (λb=>by have:=h1 b;have:=k b;show c2 b+0<=1;omega);have m:=b6 (c:=c) j (.cells cur T) 0;obtain⟨n,z,p⟩:=l.am u (some d);refine⟨by rw[E4];exact g.jd T f v q,_,n,z,λb=> ?_,by rw[G5];exact r,j.alloc _ 0,(s.trans m).drop λb=> ?_⟩;have h:=p b;have:=h1 b;have:=i b;have:=k b;split at h<;>omega;have h:=p b;have:=k b;show n b<=(if b=w.heap.size then 1 else 0)+c b;omega
def Qt{v}(h:Iy v=true):∀u∈v,u.oneCell'=true:=λu b=>ib.1 h u b
def Uv(σ:Φ)(t:Nat)(i:TI)(d:Γ)(K:Ψ):Prop:=
 match d with
 |some d=>Iy i.zero=true/\σ.all (Lj d)=true/\K (σ.set d (.box t (i.zero.map R5)))
 |none=>False
def jW{t i}(n:o.op=.alloc t)(p:Df P t i)(j:Bc bg w0 S0 c0 σ a w)(h:Uv σ t i o.dst K):
 o.wp P a w (λq w'=>∃e,K e/\Bc bg w0 S0 c0 e q w') Q:=by
 unfold Uv at h;split at h
 .rename_i D k;obtain⟨f,r,s⟩:=h;obtain⟨u,z,d,g1,y,g,g4,_,g6,E⟩:=p.get;obtain⟨l,S,c,m,h1,A,B,C⟩:=j;refine Au (w':=w.alloc (.cells z.cells t)) (v:=.pointer (some ⟨w.heap.size,0,none⟩)) ?_ ⟨_,s,?_⟩
  .unfold execOp;simp[n,Instr.alloc,zeroValue,typeInfo,g1,y,newVar,newRow]
  .rw[k];refine Bc.jd l r h1 m.lt A B C m (c1:=λ_=>0) ?_ (λb=>om);exact .box (cur:=z.cells) (heap_alloc_new w _) (by simp[upd]) (by rw[g];exact N8 i.zero) (by rw[g];exact Qt f) (.nil Al) (λx=>oS)
 .exact A7
def GV(σ:Φ)(t:Nat)(x:Operand)(d:Γ)(K:Ψ):Prop:=
 match d with
 |some d=>Lb (bj σ x)=true/\(d7 σ x).all (Lj d)=true/\K ((d7 σ x).set d (.box t (cellsOf (bj σ x))))
 |none=>False
theorem vH{t:Nat}{x:Operand}(r:o.op=.box t x)(i:Bc bg w0 S0 c0 σ a w)(h:GV σ t x o.dst K):
 o.wp P a w (λs w'=>∃f,K f/\Bc bg w0 S0 c0 f s w') Q:=by
 unfold GV at h;split at h
 .rename_i E j;obtain⟨k,u,y⟩:=h;obtain⟨l,S,c,n,h1,z,p,A⟩:=i;obtain⟨c1,c2,B,m,q⟩:=Lm n x;obtain⟨e,g,C⟩:=Jr B k;have D:=b6 (c:=λ_=>0) p (.cells (a.eval x).cells t) 0;have d:=e.step D (λb=>by have:=h1 b;have:=q b;show c1 b+0<=1;omega);refine Au (w':=w.alloc (.cells (a.eval x).cells t)) (v:=.pointer (some ⟨w.heap.size,0,none⟩)) ?_ ⟨_,y,?_⟩
  .unfold execOp;simp[r,Instr.box,newVar,newRow]
  .rw[j];refine Bc.jd (l.d7 x) u h1 n.lt z p A m (c1:=c1) ?_ (λb=>by rw[q];omega);exact .box (cur:=(a.eval x).cells) (heap_alloc_new w _) (by simp[upd]) d g (.nil Al) (λx=>oS)
 .exact A7
def GW{x:Φ}{v:ϴ}{c:Δ}(h:Ac w S x v c):Ac w S (x.map view) v (λ_=>0):=Ac.iv Ac.view h
def rowOk(k:Nat)(b:Φ):Bool:=b.all λx=>Lb x&&((cellsOf x).length==k)
def Uw{k b}(h:rowOk k b=true):∀x∈b,Lb x=true/\(cellsOf x).length=k:=by intro x c;have:=ib.1 h x c;exact Qs
def oM{k}:∀{e:Φ} {d:ϴ} {c:Δ},Ac w S e d c->(∀x∈e,Lb x=true/\(cellsOf x).length=k)->
 Ac w S (flat e) (d.flatMap (·.cells.toList)) c/\(∀u∈d.flatMap (·.cells.toList),u.oneCell'=true)/\(∀v∈d,v.cells.size=k)
 |[],d,c,h,_=>by obtain⟨rfl,j⟩:=h.zero;exact⟨.nil j,oS,oS⟩
 |x::e,d,c,h,ho=>by
  obtain⟨v,s,t,z,rfl,h1,l,m⟩:=h.bu;obtain⟨f,g,i⟩:=Jr h1 (ho x oS).1;obtain⟨n,p,q⟩:=oM l (λy r=>ho y (by simp[r]));refine⟨du f n m,?_,?_⟩;intro u b;simp only[qt,ff]at b;rcases b with b|b;exact g u b;exact p u b;intro u b;simp only[e9]at b;rcases b with rfl|b;rw[i];exact(ho x oS).2;exact q u b
def oN(k):∀(c:ϴ) (b:Nat) (cur:Array Value),(∀v∈c,v.cells.size=k)->b*k+c.length*k<=cur.size->
 ∃r,Instr.fill (λi=>some (i*k,k)) cur ((List.range' b c.length).zip c)=some r/\r.toList=cur.toList.take (b*k)++c.flatMap (·.cells.toList)++cur.toList.drop (b*k+c.length*k)
 |[],b,cur,_,_=>⟨cur,by simp[Instr.fill],oS⟩
 |v::c,b,cur,hv,hl=>by
  have d:=hv v oS;simp only[dg,jx,Nat.one_mul]at hl;have h:=Yg (b*k) v.cells cur om;generalize e:(v.cells.zipIdx.foldl (λf (x:Value×Nat)=>f.setIfInBounds (b*k+x.2) x.1) cur)=mb at h;have j:mb.size=cur.size:=by have:=fq List.length h;simp at this;omega
  obtain⟨r,l,m⟩:=oN k c (b+1) mb (λu n=>hv u (by simp[n])) (by rw[jx];omega);refine⟨r,?_,?_⟩
  .simp only[dg,List.range'_succ,vx,Instr.fill];rw[ar (by simp;omega)];have:(v.cells.zipIdx.foldl (λf x=>f.setIfInBounds (b*k+x.2) x.1) cur)=mb:=e;rw[this];exact l
  .rw[m,h,d];have e1:(b+1)*k=b*k+k:=by rw[jx];omega
   have p:v.cells.toList.length=k:=by simpa using d
   have g:(cur.toList.take (b*k)++v.cells.toList).length=(b+1)*k:=by simp;omega
   rw[<-g,qq,List.drop_length_add_append,ob];simp only[qt,dg,jx,Nat.one_mul,ir];congr 4;omega
def C8(σ:Φ)(e:Nat)(j:TI)(n:Nat)(p:List (Nat×Operand))(d:Γ)(K:Ψ):Prop:=
 p.map (·.1)=List.range n/\n*j.size<=16777216/\n<=16777216/\0<n*j.size/\rowOk j.size ((bi σ (p.map (·.2))).1.map view)=true/\
  K (am (bi σ (p.map (·.2))).2 d (.own e j.size ((bi σ (p.map (·.2))).1.map view)))
theorem Sc {t e n:Nat} {p:Array (Nat×Operand)} {i j:TI} (ho:o.op=.buildSlice t n p) (hi:Df P t i) (he:i.td.elem=some e) (hj:Df P e j) (R:Bc bg w0 S0 c0 σ a w)
 (h:C8 σ e j n p.toList o.dst K):o.wp P a w (λa' w'=>∃E,K E/\Bc bg w0 S0 c0 E a' w') Q:=by
 obtain⟨F,hbig,hn,hz0,hrow,hK⟩:=h;obtain⟨inf,z,d,g1,gz,pc,g4,_,g6,g7⟩:=hi.get;obtain⟨il,U,d2,f1,fz,sd,f4,_,f6,f7⟩:=hj.get;have V:d=.slice e:=D7 (P:=P) (by rw[g7];exact he);subst V;obtain⟨W,S,c,hr,h1,hd,hz,hs⟩:=R;obtain⟨c1,c2,D,X,hc⟩:=R8 (p.toList.map (·.2)) hr;have Y:=GW D;obtain⟨G,H,Z⟩:=oM Y (Uw hrow);have hxl:=D.length;simp only[dB]at hxl;generalize I:(p.toList.map (·.2)).map a.eval=vs at *;have J:p.toList.length=n:=by have:=fq List.length F;simpa using this
 have L:vs.length=n:=by rw[<-I];simp[J]
 have A:=oN j.size vs 0 ((Array.range (n*j.size)).map (U.cells[·% U.cells.size]!)) Z (by simp[L]);obtain⟨r,hf,M⟩:=A;simp only[Nat.zero_mul,gx,fm,jp]at M;have m:r.toList=vs.flatMap (·.cells.toList):=by rw[M,n9 (by simp[L]),gy]
 have f:=G.length;have q:=D8 (k:=j.size) (es:=(bi σ (p.toList.map (·.2))).1.map view) (λx D=>(Uw hrow x D).2);have hlen:((bi σ (p.toList.map (·.2))).1.map view).length=n:=by simp;omega
 have B:r.size=n*j.size:=by have:=fq List.length m;rw[f,q,hlen]at this;exact Qs
 have hk:=b6 (c:=λ_=>0) hz (.cells r e) (n*j.size);have u:=G.step hk (λb=>oS)
 have y:(p.map λ(x:Nat×Operand)=>(x.1,a.eval x.2)).toList=(List.range' 0 vs.length).zip vs:=by
  rw[<-I,<-List.range_eq_range'];simp only[Array.toList_map,dB];rw[show p.toList.length=n from J,<-F,lq];generalize p.toList=l
  induction l with
  |nil=>rfl
  |cons x l ih=>simp[ih]
 refine Au (w':=w.alloc (.cells r e)) (v:=.slice (some ⟨w.heap.size,0,none⟩) n n) ?_ ⟨_,hK,Bc.new (s:=n*j.size) (W.bi _) rfl h1 hr.lt hd hz hs X (c1:=λ_=>0) ?_ (λb=>by rw[hc];omega) _⟩
 .have N:(sizeOf e).run P w=.ok j.size w:=by simp[sizeOf,typeInfo,f1,f4]
  have hzv:(zeroValue e).run P w=.ok U w:=by simp[zeroValue,typeInfo,f1,fz]
  have C:¬n*j.size>2 ^ 24:=om;have O:p.toList.map (λx=>(x.1,a.eval x.2))=(List.range' 0 vs.length).zip vs:=by rw[<-Array.toList_map];exact y
  unfold execOp;simp only[ho,Instr.buildSlice,ft,fp g6,gq,N];have hn0:n*j.size≠0:=om;simp[C,hn0,hzv,O,hf,newRow]
 .have g:=hlen;revert u g hrow f q;generalize (bi σ (p.toList.map (·.2))).1.map view=es;intro hrow f q u g;subst g;refine .own (cur:=r) (c0:=λ_=>0) (c2:=λ_=>0) (bx _) (by unfold maxLen;omega) (λx D=>(Uw hrow x D).2) (heap_alloc_new w _) B (by simp[upd]) ?_ Al ?_ (.nil Al) (λx=>oS)
  .rw[Are (by simp[B]),m];exact u
  .rw[Are (by simp[B]),m];exact H
def Stp.row{c:Δ}{b s:Nat}{cur new:Array Value}{e:TypeId}(g:w.heap[b]? =some (.cells cur e (0,0)))(i:c b≠0)(f:∀o,o<S b->new[o]? =cur[o]?)(j:S b<=s):Stp w S c (w.setRow b new) (upd S b s) c where
 os:=rfl
 tape:=rfl
 output:=⟨rfl,λ_=>bx _⟩
 size:=by simp[World.setRow]
 keep b' hb' hc':=by have d:b'≠b:=λh=>i (h▸hc');exact⟨setRow_other w b b' new d,by simp[upd,d]⟩
 cell b' o ho:=by
  by_cases d:b'=b;subst d;rw[cell_setRow_same w b' o cur new e (0,0) g,cell_of_row w b' o cur e (0,0) g];exact f o ho;exact cell_setRow_other w b new _ d
 le b':=by
  unfold upd;split;rename_i h;subst h;exact j;exact Ev
 own _ _:=bx _
abbrev fl:=@Stp.row
def Sz.row{b:Nat}{cur new:Array Value}{e:TypeId}{S' c i:Δ}(f:Sz w S)(j:w.heap[b]? =some (.cells cur e (0,0)))(k:Stp w S c (w.setRow b new) S' i)(h:∀x,x≠b->S' x=S x:=by intro x hx;simp[upd,hx]):Sz (w.setRow b new) S':=by have l:b<w.heap.size:=(ah.1 j).1;refine f.nn k λg d=> ?_;simp[World.setRow]at d;rw[h g om];exact f g d
def I0(σ:Φ)(i:TI)(x y:Operand)(d:Γ)(K:Ψ):Prop:=
 match x with
 |.tmp s=>
  match(d7 σ y).getD s .any with
  |.box T cs=>Lb (bj σ y)=true/\(cellsOf (bj σ y)).length=i.size/\i.size<=cs.length/\K (am ((d7 σ y).set s (.box T (bv cs 0 i.size (cellsOf (bj σ y))))) d .any)
  |.ref s' off=>
   match(d7 σ y).getD s' .any with
   |.box T cs=>Lb (bj σ y)=true/\(cellsOf (bj σ y)).length=i.size/\off+i.size<=cs.length/\K (am ((d7 σ y).set s' (.box T (bv cs off i.size (cellsOf (bj σ y))))) d .any)
   |_=>False
  |_=>False
 |_=>False
def Sd{o a next}{Q:Exit->Ϣ}{w'}(h:(execOp a.eval o).run P w=.ok .skip w')(b:next (a.put o.dst undef) w'):o.wp P a w next Q:=by unfold Oper.wp;rw[h];exact b
def Yh{t s e M x y i O}(ho:o.op=.store t x y)(hi:Df P t i)(R:Bc bg w0 S0 c0 σ a w)(hx:(d7 σ y).getD s .any=.box M O)(he:∀b,a.tmps.toList[s]? =some (.pointer (some ⟨b,0,none⟩))->a.eval x=.pointer (some ⟨b,e,none⟩))(U:Lb (bj σ y)=true)(hlen:(cellsOf (bj σ y)).length=i.size)(hl:e+i.size<=O.length)(h:K (am ((d7 σ y).set s (.box M (bv O e i.size (cellsOf (bj σ y))))) o.dst .any)):
 o.wp P a w (λa' w'=>∃q,K q/\Bc bg w0 S0 c0 q a' w') Q:=by
 obtain⟨inf,z,d,g1,gz,pc,g4,_,g6,g7⟩:=hi.get;obtain⟨V,S,c,hr,h1,hd,hz,hs⟩:=R;obtain⟨cy,cr,hy,r,hc⟩:=Lm hr y;obtain⟨k,l,hsz⟩:=Jr hy U;obtain⟨b,f,d1,c2,hev,v,W,A,j,X,B,hv⟩:=Ha r hx;have he:=he b hv;have Y:=A.length;have Z:c b≠0:=by rw[hc,B];simp
 have C:e+(a.eval y).cells.toList.length<=f.size:=by simp at Y⊢;omega
 have hrun:=run_storeCells_at P b e M (a.eval y).cells.toList 0 f w v (by simpa using C) l;simp only[nj]at hrun;generalize D:(f.toList.take e++(a.eval y).cells.toList++f.toList.drop (e+(a.eval y).cells.toList.length)).toArray=new at hrun;have E:new.toList=f.toList.take e++(a.eval y).cells.toList++f.toList.drop (e+i.size):=by rw[<-D];simp;congr 1;omega
 have N:=fl (S:=S) (c:=λx=>if x=b then 1 else 0) (s:=0) (new:=new) v oS (λo ho=>by rw[W]at ho;omega) om;have F:upd S b 0=S:=by funext x;unfold upd;split<;>simp_all
 rw[F]at N;have n:=fl (S:=S) (c:=c) (s:=0) (new:=new) v Z (λo ho=>by rw[W]at ho;omega) om;rw[F]at n;have g:∀x,c x=cy x+((if x=b then 1 else 0)+d1 x+c2 x):=λx=>by rw[hc,B]
 have hy':=k.step N (λx=>by have:=h1 x;have:=g x;omega);have G:=A.step N (λx=>by have:=h1 x;have:=g x;omega);have H:=X.step N (λx=>by have:=h1 x;have:=g x;omega);obtain⟨e1,e2,hp,I,hce⟩:=G.part e i.size;obtain⟨c',J,hc'⟩:=I _ _ _ hy';rw[<-E]at J;have hb':=setRow_heap w b f new M (0,0) v
 have p:∀u∈new.toList,u.oneCell'=true:=by
  rw[E];intro u m;simp only[ff]at m;rcases m with(m|m)|m;exact j u (i7 m);exact l u m;exact j u (mg m)
 have hr3:=jQ (c:=λx=>(if x=b then 1 else 0)+c' x+c2 x) H (Us hx oS) hv hb' W J p (λx=>rfl);have L:Sz (w.setRow b new) S:=hz.row v n (λ_ _=>rfl);refine Sd (w':=w.setRow b new) Agu ⟨_,h,Bc.value ((V.d7 y).o0 _ _ (A8 r hx oS)) rfl h1 hd L (hs.trans n) hr3 (.any (.nil Al)) (λx=> ?_) _⟩;have:=g x;have:=hce x;have:=hc' x;show 0+((if x=b then 1 else 0)+c' x+c2 x)<=c x;omega
def jX{t x y i}(v:o.op=.store t x y)(z:Df P t i)(d:Bc bg w0 S0 c0 σ a w)(h:I0 σ i x y o.dst K):
 o.wp P a w (λD E=>∃f,K f/\Bc bg w0 S0 c0 f D E) Q:=by
 unfold I0 at h
 cases x with
 |tmp s=>
  simp only[]at h;split at h;rename_i A B m;obtain⟨e,hlen,C,n⟩:=h;exact Yh v z d m (λb F=>Cu F) e hlen om n
  .rename_i G p m;split at h
   .rename_i A B g;obtain⟨e,hlen,C,n⟩:=h;have j:=d;obtain⟨q,S,c,H,_⟩:=d;obtain⟨I,J,L,k,M⟩:=Lm H y;obtain⟨b,r,u⟩:=(q.d7 y).ref s G p A B (A8 k m oS) (A8 k g oS);exact Yh v z j g (λN l=>by rw[r]at l;cases l;exact Cu u) e hlen C n
   exact A7
  exact A7
 |_=>exact h.elim
def Hb:∀(b y:Φ),flat (b++y)=flat b++flat y
 |[],y=>rfl
 |x::b,y=>by simp[flat,Hb b y]
def Rc(k:Nat):AV->Option Φ
 |.nil=>some []
 |.sl k' es=>if k'=k then some es else none
 |.own _ k' es=>if k'=k then some es else none
 |_=>none
def Mx(e k:Nat):AV->Option Φ
 |.nil=>some []
 |.own e' k' es=>if e'=e/\k'=k then some es else none
 |.mine e' k' es=>if e'=e/\k'=k then some es else none
 |_=>none
def Xk(e k:Nat)(x:AV)(z:Φ):AV:=match x with
 |.mine _ _ _=>.mine e k z
 |_=>.own e k z
def AcM{e k x z}(h:¬∃b c d,x=.mine b c d):Xk e k x z=.own e k z:=by cases x<;>first|rfl|exact cw ⟨_,_,_,rfl⟩ h
def D9(σ:Φ)(e:Nat)(j:TI)(x y:Operand)(d:Γ)(K:Ψ):Prop:=
 match Mx e j.size (bj σ x),Rc j.size (bj (d7 σ x) y)with
 |some xs,some ys=>0<j.size/\j.zero.length=j.size/\xs.length+ys.length<=9223372036854775807/\(xs.length+ys.length)*j.bytes<=140737488355328/\
  K (am (d7 σ x) d (Xk e j.size (bj σ x) (xs++ys)))
 |_,_=>False
def jY{k:Nat}{y:AV}{v:Value}{d:Φ}{c:Δ}(h:Ac w S [y] [v] c)(b:Rc k y=some d):
 ∃A cap g c0,v=.slice A d.length cap/\(∀x∈d,(cellsOf x).length=k)/\Ac w S (flat d) g c0/\Zc c0/\(∀u∈g,u.oneCell'=true)/\
  (d≠[]->∃f,A=some f/\f.spot=none/\∀j u,g[j]? =some u->w.cell? (f.add j)=some u):=by
 have l:∀{v:Value} {c:Δ},Ac w S [.sl k d] [v] c->∃A cap g c0,v=.slice A d.length cap/\(∀x∈d,(cellsOf x).length=k)/\Ac w S (flat d) g c0/\Zc c0/\(∀u∈g,u.oneCell'=true)/\
  (d≠[]->∃f,A=some f/\f.spot=none/\∀j u,g[j]? =some u->w.cell? (f.add j)=some u):=by
  intro v c h;obtain⟨A,cap,e1,_,_,m,q⟩:=Mv h;by_cases n:d=[];subst n;exact⟨A,cap,[],λ_=>0,e1,oS,.nil Al,Al,oS,λh=>cw rfl h⟩;obtain⟨f,g,c0,rfl,i,h1,r,e,s⟩:=q n;refine⟨_,cap,g,c0,e1,m,h1,r,λu t=> ?_,λ_=>⟨f,rfl,i,λj u p=> ?_⟩⟩;obtain⟨j,p⟩:=dn t;exact(e j u p).2;obtain⟨z,B,C⟩:=f;simp at i;subst i;rw[Fo];exact(e j u p).1
 cases y with
 |nil=>simp[Rc]at b;subst b;cases h with|gn h=>exact⟨none,0,[],λ_=>0,rfl,oS,.nil Al,Al,oS,λh=>cw rfl h⟩
 |sl k' es=>
  simp only[Rc]at b;split at b;rename_i m;subst m;injection b with b;subst b;exact l h
  .cases b
 |own e' k' es=>
  simp only[Rc]at b;split at b;rename_i m;subst m;injection b with b;subst b;exact l (Fp h)
  .cases b
 |_=>simp[Rc]at b
def Yi(t d e)(i:TypeInfo)(h:P.underlying t=some (.slice e))(b:P.info? e=some i)(A n cap)(c:n<=cap)(B f):
 (Builtin.append_ #[t,t] d #[.slice A n cap,.slice B 0 f]).run P w=.ok (.slice A n cap) w:=by
 cases A with
 |none=>cases B<;>simp[Builtin.append_,fp h,sizeOf,typeInfo,b,Builtin.lenOf,Builtin.firstCells,loadCells,loadCellsFrom,c]
 |some A=>cases B<;>simp[Builtin.append_,fp h,sizeOf,typeInfo,b,Builtin.lenOf,Builtin.firstCells,c,storeCells,loadCells,loadCellsFrom]
theorem jZ {t e:Nat} {x y:Operand} {c:Call} {i j:TI} {xs ys:Φ} (ho:o.op=.call c) (hc:c.callee=.builtin .append) (hca:c.args= #[x,y]) (hct:c.argTypes= #[t,t]) (hi:Df P t i) (he:i.td.elem=some e) (hj:Df P e j)
 (hst:Bc bg w0 S0 c0 σ a w) (R:bj σ x=.mine e j.size xs) (hy:Rc j.size (bj (d7 σ x) y)=some ys) (hsz:0<j.size) (hzl:j.zero.length=j.size) (hmax:xs.length+ys.length<=9223372036854775807) (hby:(xs.length+ys.length)*j.bytes<=140737488355328) (hK:K (am (d7 σ x) o.dst (.mine e j.size (xs++ys)))):o.wp P a w (λa' w'=>∃l,K l/\Bc bg w0 S0 c0 l a' w') Q:=by
 obtain⟨inf,z,d,g1,gz,pc,g4,_,g6,g7⟩:=hi.get;obtain⟨il,z2,d2,f1,fz,sd,f4,f5,f6,f7⟩:=hj.get;have hd':d=.slice e:=D7 (P:=P) (by rw[g7];exact he);subst hd';obtain⟨H,S,c',hr,h1,hd,Z,hs⟩:=hst;obtain⟨cx,cr,f,D,m⟩:=Lm hr x;obtain⟨cy,uj⟩:=Ay D y;obtain⟨B,cc,cv,k,eY,hky,hcv,E,kw,I⟩:=jY uj hy;have r7:=hcv.length;have r4:=D8 hky
 have hwp:∀{v:Value} {w':World},(Builtin.append_ #[t,t] o.type #[a.eval x,a.eval y]).run P w=.ok v w'->∀{next:Ϣ},next (a.put o.dst v) w'->o.wp P a w next Q:=by
  intro v w' hrun next J
  refine Au (v:=v) (w':=w') ?_ J;unfold execOp;simp only[ho,resolve,hc,hca,hct,invoke,builtin,ft,ia,gq,List.map_toArray,ev,db,hrun]
 have fresh:∀(ew:ϴ) (dx:Nat) (v:Value),Ac w S (flat xs) ew (λ_=>0)->(∀u∈ew,u.oneCell'=true)->(∀x∈xs,(cellsOf x).length=j.size)->xs.length+ys.length<=dx->dx<=maxLen->
  v=.slice (some ⟨w.heap.size,0,none⟩) (xs.length+ys.length) dx->
  Bc bg w0 S0 c0 (am (d7 σ x) o.dst (.mine e j.size (xs++ys))) (a.put o.dst v) (w.drew.alloc (.cells (ew.toArray++cv.toArray++Builtin.zeroCells z2.cells (dx-(xs.length+ys.length))) e)):=by
  intro ew dx v U hone hkx p hcm hv;have hxl:=U.length;have r5:=D8 hkx;have nu:z2.cells.size=j.size:=by have:=fq List.length sd;simp at this;omega
  have jl:=Hb xs ys;have hxw:Ac w.drew S (flat xs) ew (λ_=>0):=U.keep (λ_ _ _=>rfl) (λ_=>bx _) (λ_ _=>⟨rfl,rfl⟩);have rx:Ac w.drew S (flat ys) cv k:=hcv.keep (λ_ _ _=>rfl) (λ_=>bx _) (λ_ _=>⟨rfl,rfl⟩);have hrw:Ac w.drew S (d7 σ x) a.tmps.toList cr:=D.keep (λ_ _ _=>rfl) (λ_=>bx _) (λ_ _=>⟨rfl,rfl⟩);generalize V:(ew.toArray++cv.toArray++Builtin.zeroCells z2.cells (dx-(xs.length+ys.length)))=cur;have hcl:cur.toList=ew++cv++(Builtin.zeroCells z2.cells (dx-(xs.length+ys.length))).toList:=by rw[<-V];simp
  have htake:cur.toList.take ((xs++ys).length*j.size)=ew++cv:=by exact Ahu
  have hk:=b6 (w:=w.drew) (c:=λ_=>0) (S:=S) Z.drew (.cells cur e) 0;have hboth:=(du hxw rx (c:=k) (λb=>oS)).step hk (λb=>by rw[E b];simp);rw[hv];refine Bc.new (w:=w.drew) (s:=0) (H.d7 x) rfl h1 hr.lt hd Z.drew (hs.trans Stp.drew) hrw (c1:=λ_=>0) ?_ (λb=>by rw[m];omega) _;have hlen:xs.length+ys.length=(xs++ys).length:=oS;rw[hlen];refine .mine (cap:=dx) (cur:=cur) (c0:=k) (c2:=λ_=>0) om hcm (λx hx=> ?_) (heap_alloc_new _ _) ?_ (by simp[upd]) ?_ E ?_ (.nil Al) (λx=>rfl)
  .exact PI
  .exact ϭ
  .exact eM
  .exact ON
 have hlim:xs.length+ys.length<=maxLen:=by unfold maxLen;omega
 by_cases L:ys=[]
 .subst L
  have M:Ac w S [.mine e j.size (xs++[])] [a.eval x] cx/\∃A n cap,a.eval x=.slice A n cap/\n<=cap:=by
   rw[R]at f;rw[gy];revert f;generalize a.eval x=v;intro f;refine⟨f,?_⟩
   cases f with
   |dt h=>exact⟨none,0,0,rfl,bx _⟩
   |mine J p hk hb hsz' hS h1c nf hoc hnil hcnt=>exact⟨_,_,_,rfl,J⟩
  obtain⟨hrz,A,n,cap,e1,J⟩:=M;have hrun:=Yi (P:=P) (w:=w) t o.type e il g6 f1 A n cap J B cc;have r6:a.eval y=.slice B 0 cc:=eY;rw[<-e1,<-r6]at hrun;exact hwp hrun ⟨_,hK,Bc.value (H.d7 x) rfl h1 hd Z hs D hrz (λb=>by rw[m];omega) _⟩
 .obtain⟨ad,hB,hsp,hmem⟩:=I L;subst hB;have hm0:0<ys.length:=oh.2 L;have nw:cv.length=ys.length*il.size:=by rw[f4];omega
  have q:xs=[]->a.eval x=.slice none 0 0->o.wp P a w (λa' w'=>∃l,K l/\Bc bg w0 S0 c0 l a' w') Q:=by exact ϖ
  rw[R]at f;revert f;generalize hev:a.eval x=v;intro f
  cases f with
  |dt h=>exact q rfl hev
  |mine J p hk hb hsz' hS h1c nf hoc hnil hcnt=>
   rename_i g cap cur N c2;cases hnil with|nil hzz=>
   have r:(cur.toList.take (xs.length*j.size)).length=xs.length*j.size:=by have:xs.length*j.size<=cap*j.size:=jh _ J;simp;omega
   by_cases C:xs.length+ys.length<=cap
   .have F:xs.length*il.size+cv.length<=cur.size:=by
     rw[hsz',f4];have:(xs.length+ys.length)*j.size<=cap*j.size:=jh _ C;rw[jx]at this;omega
    have hrun:=run_append_room (P:=P) w t o.type e il g6 f1 g xs.length cap cur hb ad ys.length cc cv nw hmem kw C F;rw[<-hev,<-eY]at hrun;rw[f4]at hrun F;generalize W:(cur.toList.take (xs.length*j.size)++cv++cur.toList.drop (xs.length*j.size+cv.length)).toArray=new at hrun;have hnl:new.toList=cur.toList.take (xs.length*j.size)++cv++cur.toList.drop (xs.length*j.size+cv.length):=by rw[<-W]
    have G:∀o',o'<S g->new[o']? =cur[o']? :=by intro o' ho';rw[hS]at ho';omega
    have hcg:∀x,cx x=(if x=g then 1 else 0):=λx=>by rw[hcnt,hzz x];omega
    have hle:S g<=0:=by rw[hS];exact bx _
    have X:=fl (S:=S) (c:=cx) (s:=0) (new:=new) hb (by rw[hcg];simp) G hle;have Y:=fl (S:=S) (c:=c') (s:=0) (new:=new) hb (by rw[m,hcg];simp) G hle;have hr3:=D.step X (λb=>by rw[Nat.add_comm,<-m];exact h1 b);have jl:=Hb xs ys;have hboth:=(du h1c hcv (c:=λb=>N b+k b) (λb=>rfl)).step X (λb=>by rw[nf b,E b,hcg];split<;>omega)
    have htake:new.toList.take ((xs++ys).length*j.size)=cur.toList.take (xs.length*j.size)++cv:=by
     have:(cur.toList.take (xs.length*j.size)++cv).length=(xs++ys).length*j.size:=by simp[jx]at r⊢;omega
     rw[hnl,<-this,qq]
    refine hwp hrun ⟨_,hK,Bc.value (H.d7 x) rfl h1 hd (Z.row hb Y) (hs.trans Y) hr3 (c1:=cx) (y:=.mine e j.size (xs++ys)) ?_ (λb=>by rw[m];omega) _⟩;have hlen:xs.length+ys.length=(xs++ys).length:=oS;rw[hlen];refine .mine (cur:=new) (c0:=λb=>N b+k b) (c2:=λ_=>0) om p (λx hx=> ?_) (setRow_heap w g cur new e (0,0) hb) ?_ (by simp[upd]) ?_ (λb=>by show N b+k b=0;rw[nf b,E b]) ?_ (.nil Al) (λx=>by rw[hcg];simp)
    .exact PK
    .exact QD
    .exact eM
    .exact OO
   .have O:∀jj u,(cur.toList.take (xs.length*j.size))[jj]? =some u->w.cell? ((⟨g,0,none⟩:Addr).add jj)=some u:=by
     intro jj u hu;rw[Fo,jp,cell_of_row w g jj cur e (0,0) hb];rw[b9]at hu;split at hu
     .simpa using hu
     .cases hu
    have hrun:=run_append_grow (P:=P) w t o.type e il z2 g6 f1 fz ⟨g,0,none⟩ xs.length cap (cur.toList.take (xs.length*j.size)) (by rw[f4];exact r) O ad ys.length cc cv nw hmem om om (growslice_fits om (by rw[f5];exact hby));rw[<-hev,<-eY]at hrun;have hge:=grownCap_ge w (xs.length+ys.length) cap e;have hle:=grownCap_le_maxLen w (xs.length+ys.length) cap e hlim;exact OR
theorem dD {t e:Nat} {x y:Operand} {c:Call} {i j:TI} (ho:o.op=.call c) (hc:c.callee=.builtin .append) (I:c.args= #[x,y]) (J:c.argTypes= #[t,t]) (hi:Df P t i) (he:i.td.elem=some e) (hj:Df P e j)
 (L:Bc bg w0 S0 c0 σ a w) (h:D9 σ e j x y o.dst K):o.wp P a w (λW w'=>∃k,K k/\Bc bg w0 S0 c0 k W w') Q:=by
 obtain⟨inf,z,d,g1,gz,pc,g4,_,g6,g7⟩:=hi.get;obtain⟨il,z2,d2,f1,fz,X,f4,f5,f6,f7⟩:=hj.get;have Y:d=.slice e:=D7 (P:=P) (by rw[g7];exact he);subst Y;unfold D9 at h;split at h
 .rename_i xs ys hx hy;obtain⟨Z,hzl,hmax,hby,hK⟩:=h;by_cases C:∃e' k' es,bj σ x=.mine e' k' es
  .obtain⟨e',k',es,C⟩:=C;rw[C]at hx hK;simp only[Mx]at hx;split at hx
   .rename_i hek;obtain⟨rfl,rfl⟩:=hek;injection hx with hx;subst hx;exact jZ ho hc I J hi he hj L C hy Z hzl hmax hby hK
   .cases hx
  rw[AcM C]at hK;obtain⟨hrf,S,c',hr,h1,hd,hz,hs⟩:=L;obtain⟨cx,cr,hZ,hr1,hcc⟩:=Lm hr x;obtain⟨cy,uj⟩:=Ay hr1 y;obtain⟨B,cc,cv,f,eY,hky,hcv,m,kw,D⟩:=jY uj hy;have r7:=hcv.length;have r4:=D8 hky
  have hwp:∀{v:Value} {w':World},(Builtin.append_ #[t,t] o.type #[a.eval x,a.eval y]).run P w=.ok v w'->∀{next:Ϣ},next (a.put o.dst v) w'->o.wp P a w next Q:=by
   intro v w' hrun next hn
   refine Au (v:=v) (w':=w') ?_ hn;unfold execOp;simp only[ho,resolve,hc,I,J,invoke,builtin,ft,ia,gq,List.map_toArray,ev,db,hrun]
  have fresh:∀(ew:ϴ) (dx:Nat) (v:Value),Ac w S (flat xs) ew (λ_=>0)->(∀u∈ew,u.oneCell'=true)->(∀x∈xs,(cellsOf x).length=j.size)->xs.length+ys.length<=dx->dx<=maxLen->
   v=.slice (some ⟨w.heap.size,0,none⟩) (xs.length+ys.length) dx->
   Bc bg w0 S0 c0 (am (d7 σ x) o.dst (.own e j.size (xs++ys))) (a.put o.dst v) (w.drew.alloc (.cells (ew.toArray++cv.toArray++Builtin.zeroCells z2.cells (dx-(xs.length+ys.length))) e)):=by
   intro ew dx v M hone hkx p hcm hv;have hxl:=M.length;have r5:=D8 hkx;have nu:z2.cells.size=j.size:=by have:=fq List.length X;simp at this;omega
   have jl:=Hb xs ys;have hxw:Ac w.drew S (flat xs) ew (λ_=>0):=M.keep (λ_ _ _=>rfl) (λ_=>bx _) (λ_ _=>⟨rfl,rfl⟩);have rx:Ac w.drew S (flat ys) cv f:=hcv.keep (λ_ _ _=>rfl) (λ_=>bx _) (λ_ _=>⟨rfl,rfl⟩);have hrw:Ac w.drew S (d7 σ x) a.tmps.toList cr:=hr1.keep (λ_ _ _=>rfl) (λ_=>bx _) (λ_ _=>⟨rfl,rfl⟩);generalize N:(ew.toArray++cv.toArray++Builtin.zeroCells z2.cells (dx-(xs.length+ys.length)))=cur;have hcl:cur.toList=ew++cv++(Builtin.zeroCells z2.cells (dx-(xs.length+ys.length))).toList:=by rw[<-N];simp
   have htake:cur.toList.take ((xs++ys).length*j.size)=ew++cv:=by exact Ahu
   have hk:=b6 (w:=w.drew) (c:=λ_=>0) (S:=S) hz.drew (.cells cur e) ((xs++ys).length*j.size);have hboth:=(du hxw rx (c:=f) (λb=>oS)).step hk (λb=>by rw[m b];simp);rw[hv];refine Bc.new (w:=w.drew) (s:=(xs++ys).length*j.size) (hrf.d7 x) rfl h1 hr.lt hd hz.drew (hs.trans Stp.drew) hrw (c1:=λ_=>0) ?_ (λb=>by rw[hcc];omega) _;have hlen:xs.length+ys.length=(xs++ys).length:=oS;rw[hlen];refine .own (cap:=dx) (cur:=cur) (c0:=f) (c2:=λ_=>0) om hcm (λx hx=> ?_) (heap_alloc_new _ _) ?_ (by simp[upd]) ?_ m ?_ (.nil Al) (λx=>rfl)
   .exact PI
   .exact ϭ
   .exact eM
   .exact ON
  have hlim:xs.length+ys.length<=maxLen:=by unfold maxLen;omega
  by_cases E:ys=[]
  .
   subst E
   have F:∃cz,Ac w S [.own e j.size (xs++[])] [a.eval x] cz/\(∀b,cz b<=cx b)/\∃A n cap,a.eval x=.slice A n cap/\n<=cap:=by
    unfold Mx at hx;split at hx
    .exact Agt
    .exact Agk
    .rename_i hxe;exact cw ⟨_,_,_,hxe⟩ C
    .cases hx
   obtain⟨cz,hrz,hcz,A,n,cap,e1,hn⟩:=F;have hrun:=Yi (P:=P) (w:=w) t o.type e il g6 f1 A n cap hn B cc;have r6:a.eval y=.slice B 0 cc:=eY;rw[<-e1,<-r6]at hrun;exact Ahw
  .obtain⟨ad,hB,hsp,hmem⟩:=D E;subst hB;have hm0:0<ys.length:=oh.2 E;have nw:cv.length=ys.length*il.size:=by rw[f4];omega
   have jv:xs=[]->a.eval x=.slice none 0 0->o.wp P a w (λW w'=>∃k,K k/\Bc bg w0 S0 c0 k W w') Q:=by exact ϖ
   unfold Mx at hx;split at hx
   .exact AgN
   .rename_i e' k' es hxe;split at hx
    .rename_i hee;obtain⟨rfl,rfl⟩:=hee;injection hx with hx;subst hx;rw[hxe]at hZ;revert hZ;generalize hev:a.eval x=v;intro hZ
     cases hZ with
     |g9 h=>exact jv rfl hev
     |own hn p hk hb hsz' hS h1c nf hoc hnil hcnt=>
      rename_i g cap cur G c2;cases hnil with|nil hzz=>
      have kb:(cur.toList.take (es.length*j.size)).length=es.length*j.size:=by have:es.length*j.size<=cap*j.size:=jh _ hn;simp;omega
      by_cases l:es.length+ys.length<=cap
      .have q:es.length*il.size+cv.length<=cur.size:=by
        rw[hsz',f4];have:(es.length+ys.length)*j.size<=cap*j.size:=jh _ l;rw[jx]at this;omega
       have hrun:=run_append_room (P:=P) w t o.type e' il g6 f1 g es.length cap cur hb ad ys.length cc cv nw hmem kw l q;rw[<-hev,<-eY]at hrun;rw[f4]at hrun q;generalize O:(cur.toList.take (es.length*j.size)++cv++cur.toList.drop (es.length*j.size+cv.length)).toArray=new at hrun;have hnl:new.toList=cur.toList.take (es.length*j.size)++cv++cur.toList.drop (es.length*j.size+cv.length):=by rw[<-O]
       have r:∀V,V<S g->new[V]? =cur[V]? :=by intro V ho';rw[hS]at ho';exact AgA
       have hcg:∀x,cx x=(if x=g then 1 else 0):=λx=>by rw[hcnt,hzz x];omega
       have hle:S g<=(es++ys).length*j.size:=by rw[hS];simp[jx]
       have R:=fl (S:=S) (c:=cx) (s:=(es++ys).length*j.size) (new:=new) hb (by rw[hcg];simp) r hle;have U:=fl (S:=S) (c:=c') (s:=(es++ys).length*j.size) (new:=new) hb (by rw[hcc,hcg];simp) r hle;have hr3:=hr1.step R (λb=>by rw[Nat.add_comm,<-hcc];exact h1 b);have jl:=Hb es ys;have hboth:=(du h1c hcv (c:=λb=>G b+f b) (λb=>rfl)).step R (λb=>by rw[nf b,m b,hcg];split<;>omega)
       have htake:new.toList.take ((es++ys).length*j.size)=cur.toList.take (es.length*j.size)++cv:=by
        have:(cur.toList.take (es.length*j.size)++cv).length=(es++ys).length*j.size:=by simp[jx]at kb⊢;omega
        rw[hnl,<-this,qq]
       refine hwp hrun ⟨_,hK,Bc.value (hrf.d7 x) rfl h1 hd (hz.row hb U) (hs.trans U) hr3 (c1:=cx) (y:=.own e' j.size (es++ys)) ?_ (λb=>by rw[hcc];omega) _⟩;have hlen:es.length+ys.length=(es++ys).length:=oS;rw[hlen];refine .own (cur:=new) (c0:=λb=>G b+f b) (c2:=λ_=>0) om p (λx hx=> ?_) (setRow_heap w g cur new e' (0,0) hb) ?_ (by simp[upd]) ?_ (λb=>by show G b+f b=0;rw[nf b,m b]) ?_ (.nil Al) (λx=>by rw[hcg];simp)
       .exact PK
       .exact QD
       .exact eM
       .exact OO
      .have H:∀jj u,(cur.toList.take (es.length*j.size))[jj]? =some u->w.cell? ((⟨g,0,none⟩:Addr).add jj)=some u:=by
        exact AgQ
       have hrun:=run_append_grow (P:=P) w t o.type e' il z2 g6 f1 fz ⟨g,0,none⟩ es.length cap (cur.toList.take (es.length*j.size)) (by rw[f4];exact kb) H ad ys.length cc cv nw hmem om om (growslice_fits om (by rw[f5];exact hby));rw[<-hev,<-eY]at hrun;have hge:=grownCap_ge w (es.length+ys.length) cap e';have hle:=grownCap_le_maxLen w (es.length+ys.length) cap e' hlim;exact OR
    .cases hx
   .rename_i hxe;exact cw ⟨_,_,_,hxe⟩ C
   .cases hx
 .exact A7
end
end
end Go.Proofs.YtobhohikfmlccaaGreatDoor
