/- Conversions, made rows, calls; all operations in one. -/
import Derived.Lib.SliceRun
import Derived.Test.YtobhohikfmlccaaGreatDoorC2
set_option linter.all false
open Go.RowKit
namespace Go.Proofs.YtobhohikfmlccaaGreatDoor
section
variable[Env]
variable{bg:Ϙ}
def oO(c:UInt8):AV:=.raw (.int .u8 (c.toNat:Int))
def Aj(l:Ϟ):Φ:=l.map oO
def Ea(l c):Aj l++[.raw (.int .u8 (c.toNat:Int))]=Aj (l++[c]):=by simp[Aj,oO]
theorem Re:Aj []=[]:=rfl
def V9(u):cellsOf (R5 u)=[R5 u]:=by unfold R5;split<;>rfl
def J2(T:Br)(s d:TI)(x:AV)(K:AV->Prop):Prop:=
 match x with
 |.raw (.int _ n)=>match d.td.ik with
  |some k=>K (.raw (.int k (k.wrap n)))
  |none=>False
 |.raw (.string t)=>d.td.str=true/\K (.raw (.string t))
 |.sl 1 es=>d.td.str=true/\(match s.td.elem with
  |some e=>(match T e with
   |some j=>j.td.ik=some .u8
   |none=>False)
  |none=>False)/\∃l,es=Aj l/\K (.raw (.string ⟨l.toArray⟩))
 |.own _ 1 es=>d.td.str=true/\(match s.td.elem with
  |some e=>(match T e with
   |some j=>j.td.ik=some .u8
   |none=>False)
  |none=>False)/\∃l,es=Aj l/\K (.raw (.string ⟨l.toArray⟩))
 |_=>False
def J3(e:Nat)(j:TI)(x y:AV)(K:AV->Prop):Prop:=
 match x,y with
 |.raw (.int _ l),.raw (.int _ c)=>0<=l/\l<=c/\c<=9223372036854775807/\(j.bytes:Int)*c<=281474976710656/\(l=0\/(j.size=1/\j.zero.length=1/\Iy j.zero=true))/\K (.own e j.size (List.replicate l.toNat (R5 (j.zero.headD undef))))
 |_,_=>False
def Yj(m:Bool):AV->AV->(AV->Prop)->Prop
 |.raw (.int k a),.raw (.int k' b),K=>k=k'/\K (.raw (.int k (if m then(if b>a then b else a)else(if b<a then b else a))))
 |_,_,_=>False
section
variable{P:Program}{T:Br}{w:World}
variable{w0:World}{S0 c0:Nat->Nat}{σ:Φ}{a:Act}{K:Φ->Prop}{Q:Exit->Act->World->Prop}{o:Oper}
def Ux{S}:∀(l:Ϟ) {b:ϴ} {c:Δ},Ac w S (flat (Aj l)) b c->b=l.map λc=>Value.int .u8 (c.toNat:Int)
 |[],b,c,h=>h.zero.1
 |x::l,b,c,h=>by simp only[Aj,ev,flat,oO,cellsOf,fj,fm]at h;obtain⟨v,u,c1,c2,rfl,h1,d,_⟩:=h.bu;rw[(Az h1).1,Ux l d];rfl
def oP{s d x i j}(hT:Ax P T)(U:o.op=.convert s d x)(hi:Df P s i)(E:Df P d j)(F:Bc bg w0 S0 c0 σ a w)(h:J2 T i j (bj σ x) λz=>K (am σ o.dst z)):o.wp P a w (λV W=>∃m,K m/\Bc bg w0 S0 c0 m V W) Q:=by
 have p:=F;obtain⟨_,S,c,hr,_⟩:=F;obtain⟨X,f⟩:=Ay hr x;obtain⟨inf,z,Y,g1,gz,pc,g4,_,g6,g7⟩:=hi.get;obtain⟨il,z2,Z,f1,fz,sd,f4,f5,G,f7⟩:=E.get
 have H:∀(k:Nat) (u:Φ) (l:Ϟ),k=1->(∃X,Ac w S [.sl k u] [a.eval x] X)->j.td.str=true->(match i.td.elem with
  |some e=>(match T e with
   |some j=>j.td.ik=some .u8
   |none=>False)
  |none=>False)->u=Aj l->K (am σ o.dst (.raw (.string ⟨l.toArray⟩)))->o.wp P a w (λV W=>∃m,K m/\Bc bg w0 S0 c0 m V W) Q:=by
  intro k u l hk ⟨X,f⟩ b g q y;subst hk;subst q;have r:Z=.string:=Up (P:=P) (by rw[f7];exact b);subst r;split at g
  .rename_i e he;split at g
   .rename_i je hje;have hds:Y=.slice e:=D7 (P:=P) (by rw[g7];exact he);subst hds;obtain⟨_,_,de,_,_,_,_,_,e6,e7⟩:=(hT e je hje).get;have hde:de=.int .u8:=Aio (P:=P) (by rw[e7];exact g);subst hde;obtain⟨A,B,e1,hn,hcap,hks,I⟩:=Mv f
    have J:(convert s d (a.eval x)).run P w=.ok (.string ⟨l.toArray⟩) w:=by
     rw[e1];by_cases L:l=[]
     .subst L
      cases A with
      |none=>rw[show(Aj []).length=0 from rfl,run_convert_bytes_nil w s e g6 e6 0 B d G];rfl
      |some R=>exact run_convert_bytes_back w s d e R B [] g6 e6 G (λj E=>by simp at E)
     obtain⟨R,cv,cc,rfl,M,h1,hz0,C,_⟩:=I (by simpa[Aj]using L);have hcv:=Ux l h1;have:=run_convert_bytes_back w s d e R B l g6 e6 G (λj E=>by obtain⟨bb,oo,sp⟩:=R;simp at M;subst M;rw[Fo];refine(C j _ ?_).1;rw[hcv];simp[E]);simpa[Aj]using this
    refine Bs p rfl (v:=.string ⟨l.toArray⟩) ?_ (λS' c' N=>⟨_,C2 rfl Al,Al⟩) y;unfold execOp;simp only[U,ft,J,gq,ia]
   exact g.elim
  exact g.elim
 unfold J2 at h;split at h
 .rename_i k n D;split at h
  .rename_i O hk;have r:Z=.int O:=Aio (P:=P) (by rw[f7];exact hk);subst r;rw[D]at f;have e1:=(Az f).1;refine Bs p rfl (v:=.int O (O.wrap n)) ?_ (λS' c' N=>⟨_,C2 rfl Al,Al⟩) h;unfold execOp;have:(convert s d (.int k n)).run P w=.ok (.int O (O.wrap n)) w:=by cases Y<;>simp[convert,fp g6,fp G,Conv.intToInt]
   simp only[U,e1,ft,this,gq,ia]
  exact A7
 .rename_i t D;obtain⟨b,y⟩:=h;have r:Z=.string:=Up (P:=P) (by rw[f7];exact b);subst r;rw[D]at f;have e1:=(Az f).1;refine Bs p rfl (v:=.string t) ?_ (λS' c' N=>⟨_,C2 rfl Al,Al⟩) y;unfold execOp;have:(convert s d (.string t)).run P w=.ok (.string t) w:=by cases Y<;>simp[convert,fp g6,fp G]
  simp only[U,e1,ft,this,gq,ia]
 rename_i u D;obtain⟨b,g,l,q,y⟩:=h;rw[D]at f;exact H 1 u l rfl ⟨_,f⟩ b g q y;rename_i e' u D;obtain⟨b,g,l,q,y⟩:=h;rw[D]at f;exact H 1 u l rfl ⟨_,Fp f⟩ b g q y;exact A7
def Uy{t e x y i j}(ho:o.op=.makeSlice t x y)(V:Df P t i)(he:i.td.elem=some e)(W:Df P e j)(G:Bc bg w0 S0 c0 σ a w)(h:J3 e j (bj σ x) (bj σ y) λz=>K (am σ o.dst z)):o.wp P a w (λX w'=>∃m,K m/\Bc bg w0 S0 c0 m X w') Q:=by
 obtain⟨H,S,c,E,h1,Y,R,Z⟩:=G;obtain⟨cx,p⟩:=Ay E x;obtain⟨cy,r⟩:=Ay E y;obtain⟨inf,z,ds,g1,gz,pc,g4,_,g6,g7⟩:=V.get;obtain⟨A,f,dd,f1,fz,sd,f4,f5,f6,f7⟩:=W.get;have I:ds=.slice e:=D7 (P:=P) (by grind);subst I;unfold J3 at h;split at h;rename_i kl l kc d J hy;rw[J]at p;rw[hy]at r;have e1:=(Az p).1;have e2:=(Az r).1;obtain⟨h0,L,B,hby,M,hK⟩:=h;have C:=run_make (P:=P) (w:=w) t e A f g6 f1 fz kl kc l d h0 L (by grind) B;rw[<-e1,<-e2,f4]at C;refine Au (w':=w.alloc (.cells (madeCells f.cells (d.toNat *j.size)) e)) (v:=.slice (some ⟨w.heap.size,0,none⟩) l.toNat d.toNat) Yc ⟨_,hK,Bc.new (s:=l.toNat *j.size) H rfl h1 E.lt Y R Z E (c1:=λ_=>0) ?_ (λb=>om) _⟩;have D:d.toNat<=maxLen:=by unfold maxLen;omega
 rcases M with rfl|⟨hs1,hzl,hone⟩;refine .own (cur:=madeCells f.cells (d.toNat *j.size)) (c0:=λ_=>0) (c2:=λ_=>0) (gu _) D oS (heap_alloc_new w _) (size_madeCells _ _) (by simp[upd]) ?_ Al oS (.nil Al) (λx=>rfl);simp[flat];exact .nil Al
 obtain⟨u,U⟩:∃u,j.zero=[u]:=by
  match R:j.zero,hzl with
  |[u],_=>grind
 have huo:u.oneCell'=true:=by rw[U]at hone;simpa[Iy]using hone
 have N:f.cells= #[u]:=by grind
 have F:(madeCells f.cells (d.toNat *j.size)).toList=List.replicate d.toNat u:=by
  rw[hs1,md,N];apply rh;intro q;by_cases hq:q<d.toNat;simp[madeCells,hq,Nat.mod_one];simp[madeCells,hq]
 have hrow:∀n,Ac (w.alloc (.cells (madeCells f.cells (d.toNat *j.size)) e)) (upd S w.heap.size (l.toNat *j.size)) (flat (List.replicate n (R5 u))) (List.replicate n u) (λ_=>0):=by
  intro n
  induction n with
  |zero=>exact .nil Al
  |succ n ih=>have:cellsOf (R5 u)=[R5 u]:=V9 u;simp only[mc,flat,this,fj,fm];exact b4 (jM u) ih (λb=>oS)
 rw[U];simp only[List.headD_cons];have hlen:(List.replicate l.toNat (R5 u)).length=l.toNat:=oS;have g:=hrow l.toNat;have k:∀x∈List.replicate l.toNat (R5 u),(cellsOf x).length=j.size:=by intro x J;rw[vu J,hs1,V9];rfl
 have O:(madeCells f.cells (d.toNat *j.size)).toList.take (l.toNat *j.size)=List.replicate l.toNat u:=by
  grind
 revert hlen g k;generalize List.replicate l.toNat (R5 u)=es;intro hlen g k;rw[<-hlen];rw[<-hlen]at g O;refine .own (cur:=madeCells f.cells (d.toNat *j.size)) (c0:=λ_=>0) (c2:=λ_=>0) om D k (heap_alloc_new w _) (size_madeCells _ _) (by simp[upd]) (by grind) Al ?_ (.nil Al) (λx=>rfl)
 grind
 grind
def ke{mx x y c}(m:o.op=.call c)(n:c.callee=.builtin (if mx then .max else .min))(b:c.args= #[x,y])(d:Bc bg w0 S0 c0 σ a w)(h:Yj mx (bj σ x) (bj σ y) λz=>K (am σ o.dst z)):o.wp P a w (λq r=>∃e,K e/\Bc bg w0 S0 c0 e q r) Q:=by
 have f:=d;obtain⟨_,S,B,p,_⟩:=d;obtain⟨C,g⟩:=Ay p x;obtain⟨D,i⟩:=Ay p y;unfold Yj at h;split at h
 .rename_i E k j F l s t;rw[s]at g;rw[t]at i;have e1:=(Az g).1;have e2:=(Az i).1;obtain⟨rfl,u⟩:=h;refine Bs f rfl (v:=.int k (if mx then(if l>j then l else j)else(if l<j then l else j))) ?_ (λG H A=>⟨_,C2 rfl Al,Al⟩) u;unfold execOp;cases mx
  simp[m,resolve,n,b,invoke,builtin,Builtin.min_,Builtin.min2,e1,e2];simp[m,resolve,n,b,invoke,builtin,Builtin.max_,Builtin.max2,e1,e2]
 grind
def Stp.frame{S S' c c1 c2 d:Δ}{w':World}(h:Stp w S c1 w' S' d)(f:∀b,c b=c1 b+c2 b):Stp w S c w' S' (λb=>d b+c2 b):=
 ⟨h.os,h.tape,h.output,h.size,λb e g=>h.keep b e (by grind),h.cell,h.le,λb e=>by have:=h.own b e;have:=f b;show d b+c2 b<=c b;omega⟩
def F2{f d c}(e:P.funcs[f]? =some d)(h:(d.name== "runtime.NumGoroutine")=false)(g:d.body=some c)(b w):
 (callFunc f b).run P w=.ok (.enter f b) w:=by
 have h1:d.name≠ "runtime.NumGoroutine" :=by grind
 simp [callFunc,e,h1,g]
def Et(P:Program)(σ:Φ)(f:Operand)(b:List Operand)(d:Γ)(K:Ψ):Prop:=
 match bj σ f with
 |.raw (.func (.func g) first caps)=>first.toList=[]/\Aa P g ((bi σ b).1++caps.toList.map R5) λr=>K (am (bi σ b).2 d r)
 |.ee g cs=>Aa P g ((bi σ b).1++cs) λr=>K (am (bi σ b).2 d r)
 |_=>False
def Wa{f c}(ho:o.op=.call c)(hc:c.callee=.value f)(p:Bc bg w0 S0 c0 σ a w)(h:Et P σ f c.args.toList o.dst K):
 o.wp P a w (λE w'=>∃q,K q/\Bc bg w0 S0 c0 q E w') Q:=by
 unfold Et at h;split at h;rename_i g first d x
 obtain⟨t,⟨F,r,m,e,i⟩,_,j⟩:=h;obtain⟨hrf,S,G,s,h1,hd,y,hs⟩:=p;obtain⟨H,l⟩:=Ay s f;rw[x]at l;have e1:=(Az l).1;obtain⟨c1,c2,z,hr2,hcc⟩:=R8 c.args.toList s;have n:=du z (N8 (w:=w) (S:=S) d.toList) (c:=c1) (λb=>oS);have hrun:=F2 (P:=P) m i e ((c.args.map a.eval)++d) w;have A:first= #[]:=by grind
 subst A
 have k:((c.args.toList.map a.eval)++d.toList).toArray=c.args.map a.eval++d:=by
  grind
 have:=j w S _ c1 y n (λb=>by grind);rw[k]at this;have kx:(execOp a.eval o).run P w=.ok (.enter g (c.args.map a.eval++d)) w:=by exact BY
 exact Ϲ
 .rename_i g I x;obtain⟨⟨F,r,m,e,i⟩,_,j⟩:=h;obtain⟨hrf,S,G,s,h1,hd,y,hs⟩:=p;obtain⟨H,l⟩:=Ay s f;rw[x]at l
  obtain⟨u,B,e1,C,D⟩:∃(u:ϴ) (B:Δ),a.eval f=.func (.func g) #[] u.toArray/\Ac w S I u B/\Zc B:=by
   generalize a.eval f=v at l
   cases l with
   |ee h1 h0 h=>grind
  obtain⟨c1,c2,z,hr2,hcc⟩:=R8 c.args.toList s;have n:=du z C (c:=c1) (λb=>by rw[D b];rfl);have hrun:=F2 (P:=P) m i e ((c.args.map a.eval)++u.toArray) w
  have k:((c.args.toList.map a.eval)++u).toArray=c.args.map a.eval++u.toArray:=by
   grind
  have:=j w S _ c1 y n (λb=>by grind);rw[k]at this;have kx:(execOp a.eval o).run P w=.ok (.enter g (c.args.map a.eval++u.toArray)) w:=by exact BY
  exact Ϲ
 grind
def Gm(P:Program)(T:Br)(o:Oper)(σ:Φ)(K:Ψ):Prop:=
 match o.op with
 |.move x=>K (am (d7 σ x) o.dst (bj σ x))
 |.assign x=>K (am (d7 σ x) o.dst (bj σ x))
 |.pick c x y=>
  match bj σ c with
  |.raw (.bool e)=>Dx e (K (am (d7 σ x) o.dst (bj σ x))) (K (am (d7 σ y) o.dst (bj σ y)))
  |_=>False
 |.alloc t=>match T t with
  |some i=>Uv σ t i o.dst K
  |none=>False
 |.box t x=>GV σ t x o.dst K
 |.build t ps=>match T t with
  |some i=>pA T i=true/\((Kt T i).all λf=>f.2.1.isSome)=true/\Iy i.zero=true/\
   G8 (Kt T i) ((ps.toList.map (·.1)).zip (bi σ (ps.toList.map (·.2))).1) (i.zero.map R5) λb=>K (am (bi σ (ps.toList.map (·.2))).2 o.dst (.agg b))
  |none=>False
 |.buildSlice t n ps=>match T t with
  |some i=>match i.td.elem with
   |some e=>match T e with
    |some j=>C8 σ e j n ps.toList o.dst K
    |none=>False
   |none=>False
  |none=>False
 |.load t x=>match T t with
  |some i=>I7 σ i x o.dst K
  |none=>False
 |.store t x y=>match T t with
  |some i=>I0 σ i x y o.dst K
  |none=>False
 |.binOp op t x y _=>Ln T op t (bj σ x) (bj σ y) λz=>K (am σ o.dst z)
 |.unOp op _ x=>WE op (bj σ x) λz=>K (am σ o.dst z)
 |.nilCheck x=>oZ (bj σ x) λz=>K (am σ o.dst z)
 |.convert s d x=>match T s,T d with
  |some i,some j=>J2 T i j (bj σ x) λz=>K (am σ o.dst z)
  |_,_=>False
 |.makeFunc (.func f) first caps=>match first.toList,caps.toList with
  |[],[]=>K (am σ o.dst (.raw (.func (.func f) #[] #[])))
  |[],x::xs=>((x::xs).map (bj σ)).all WO=true/\K (am σ o.dst (.ee f ((x::xs).map (bj σ))))
  |_,_=>False
 |.makeSlice t x y=>match T t with
  |some i=>match i.td.elem with
   |some e=>match T e with
    |some j=>J3 e j (bj σ x) (bj σ y) λz=>K (am σ o.dst z)
    |none=>False
   |none=>False
  |none=>False
 |.slice t x lo hi none=>match T t with
  |some i=>Iz T i (bj σ x) (lo.map (bj σ)) (hi.map (bj σ)) λz=>K (am σ o.dst z)
  |none=>False
 |.fieldAddr t x f=>match T t with
  |some i=>B1 σ i x f o.dst K
  |none=>False
 |.field t x f=>match T t with
  |some i=>Ks σ i x f o.dst K
  |none=>False
 |.indexAddr t x y=>match T t with
  |some i=>Cf T σ i x y o.dst K
  |none=>False
 |.index t x y=>match T t with
  |some i=>N9 T i (bj σ x) (bj σ y) λz=>K (am σ o.dst z)
  |none=>False
 |.extract x n=>Fj σ x n o.dst K
 |.call c=>
  match c.callee with
  |.value f=>Et P σ f c.args.toList o.dst K
  |.builtin .len=>match c.args.toList,c.argTypes.toList with
   |[x],[t]=>match T t with
    |some i=>jP i (bj σ x) λz=>K (am σ o.dst z)
    |none=>False
   |_,_=>False
  |.builtin .append=>match c.args.toList,c.argTypes.toList with
   |[x,y],[t,t']=>t=t'/\match T t with
    |some i=>match i.td.elem with
     |some e=>match T e with
      |some j=>D9 σ e j x y o.dst K
      |none=>False
     |none=>False
    |none=>False
   |_,_=>False
  |.builtin .min=>match c.args.toList with
   |[x,y]=>Yj false (bj σ x) (bj σ y) λz=>K (am σ o.dst z)
   |_=>False
  |.builtin .max=>match c.args.toList with
   |[x,y]=>Yj true (bj σ x) (bj σ y) λz=>K (am σ o.dst z)
   |_=>False
  |_=>False
 |_=>False
end
end
section
variable[Env]
variable{B:Ϙ}
section
variable{P:Program}{T:Br}{w:World}
variable{g:World}{m A:Nat->Nat}{σ:Φ}{a:Act}{K:Φ->Prop}{Q:Exit->Act->World->Prop}{o:Oper}
def ij{x}(d:∀w,(execOp a.eval o).run P w=.ok (.value (a.eval x)) w)(f:Bc B g m A σ a w)(h:K (am (d7 σ x) o.dst (bj σ x))):
 o.wp P a w (λk l=>∃e,K e/\Bc B g m A e k l) Q:=by
 obtain⟨i,S,c,n,h1,p,q,r⟩:=f;obtain⟨c1,c2,s,j,t⟩:=Lm n x;exact Au (d w) ⟨_,h,Bc.value (i.d7 x) (QK σ x) h1 p q r j s (λb=>by rw[t];omega) _⟩
def eV:∀(b:List Field),((b.map λf=>(f.offset,(P.info? f.type).map (·.size),(P.underlying f.type).map Uo)).all λf=>f.2.1.isSome)=true->
 ∃p,b.mapM (λf=>(P.info? f.type).map λi=>(f.offset,i.size))=some p/\
  ∀(d c size:Nat) (e:Option Bool),(b.map λf=>(f.offset,(P.info? f.type).map (·.size),(P.underlying f.type).map Uo))[d]? =some (c,some size,e)->p[d]? =some (c,size)
 |[],_=>⟨[],rfl,oS⟩
 |f::b,h=>by
  simp only[ev,sn,gk]at h;obtain⟨h1,j⟩:=h;obtain⟨pl,k,l⟩:=eV b j
  cases hq:P.info? f.type with
  |none=>grind
  |some inf=>
   refine⟨(f.offset,inf.size)::pl,by grind,?_⟩
   grind
def oQ(hT:Ax P T){t q i}(ho:o.op=.build t q)(hi:Df P t i)(R:Bc B g m A σ a w)(hs:pA T i=true)(hsz:((Kt T i).all λf=>f.2.1.isSome)=true)(I:Iy i.zero=true)(h:G8 (Kt T i) ((q.toList.map (·.1)).zip (bi σ (q.toList.map (·.2))).1) (i.zero.map R5) λcs=>K (am (bi σ (q.toList.map (·.2))).2 o.dst (.agg cs))):
 o.wp P a w (λU w'=>∃r,K r/\Bc B g m A r U w') Q:=by
 obtain⟨inf,z,d,g1,gz,J,g4,_,g6,V⟩:=hi.get;obtain⟨W,S,c,hr,h1,hd,hz,L⟩:=R;obtain⟨c1,c2,hx,X,hc⟩:=R8 (q.toList.map (·.2)) hr;have hxl:=hx.length
 have M:(q.map λ(x:Nat×Operand)=>(x.1,a.eval x.2)).toList=(q.toList.map (·.1)).zip ((q.toList.map (·.2)).map a.eval):=by
  simp only[Array.toList_map,lq]
  grind
 have D:∀(place:Nat->Option (Nat×Nat)),(∀(N F size:Nat) (ag:Option Bool),(Kt T i)[N]? =some (F,some size,ag)->place N=some (F,size))->
  (∀l,Instr.fill place z.cells ((q.toList.map (·.1)).zip ((q.toList.map (·.2)).map a.eval))=some l->P.built t (q.map λ(x:Nat×Operand)=>(x.1,a.eval x.2)).toList=some l)->
  o.wp P a w (λU w'=>∃r,K r/\Bc B g m A r U w') Q:=by
  intro place G u;obtain⟨Y,l,c',Z,hK,hrr,hon,hcc,_⟩:=eS (place:=place) G (q.toList.map (·.1)) _ _ _ z.cells c1 (λ_=>0) _ (by grind) h hx (by rw[J];exact N8 i.zero) (by rw[J];exact Qt I);refine Au (w':=w) (v:=.agg l) ?_ ⟨_,hK,Bc.value (c1:=c') (y:=.agg Y) (W.bi _) rfl h1 hd hz L X ?_ (λb=>by grind) _⟩;have hb:=u l Z;unfold execOp;simp only[ho,ft];have:=run_build (P:=P) w t (q.map λ(x:Nat×Operand)=>(x.1,a.eval x.2)) l hb;simp[this];have:=Ac.agg (c:=c') hrr hon (.nil Al) (λb=>oS);exact Qs
 cases p:i.td.struct with
 |true=>
  have H:∃O,d=.struct O:=by
   rw[<-V]at p;cases d<;>simp[Gy]at p
   grind
  obtain⟨O,rfl⟩:=H;have hfl:Kt T i=O.toList.map λf=>(f.offset,(P.info? f.type).map (·.size),(P.underlying f.type).map Uo):=by rw[Kt,p,bn rfl,<-V];rfl
  obtain⟨C,hmp,G⟩:=eV (P:=P) O.toList (by grind);rw[<-hfl]at G;refine D (C.toArray[·]?) (by grind) λl Z=> ?_;unfold Program.built
  grind
 |false=>
  rw[pA,p,qm]at hs
  cases s:i.td.arr with
  |none=>grind
  |some ne=>
   obtain⟨n,e⟩:=ne
   have H:d=.array n e:=by
    rw[<-V]at s;cases d<;>simp[Gy]at s
    grind
   subst H
   cases hj:T e with
   |none=>grind
   |some j=>
    obtain⟨E,z2,d2,k1,_,_,k4,_,_,_⟩:=(hT e j hj).get;refine D (λk=>some (k*E.size,E.size)) (λN F size ag hg=> ?_) λl Z=> ?_;have hb:Kt T i=oC j.size j.td.agg 0 n:=by simp[Kt,p,s,hj]
    rw[hb]at hg;have:=oE j.size j.td.agg n 0 N _ hg
    grind
    unfold Program.built
    grind
def Yk{t}(h:P.underlying t=some .bool)(p q):(Op.equal t (.bool p) (.bool q)).run P w=.ok (p==q) w:=by have h1:Op.equal t (.bool p) (.bool q)=Op.equalIn (9999+1) t (.bool p) (.bool q):=rfl;rw[h1];unfold Op.equalIn;simp[fp h]
def QM:Value->Value->Nat->Option Bool
 |.int k a,.int k' b,0=>if k=k' then some (a==b)else none
 |.string s,.string t,1=>some (s==t)
 |.bool a,.bool b,2=>some (a==b)
 |_,_,_=>none
def AcN{t}{d:TypeDesc}{u v k b}(n)(h:P.underlying t=some d)(c:fI d=some k)(e:QM u v k=some b):(Op.equalIn (n+1) t u v).run P w=.ok b w:=by unfold Op.equalIn;cases d<;>simp only[fI,reduceCtorEq,dq]at c<;>subst c<;>unfold QM at e<;>split at e<;>simp_all [fp h]
def vI(x y:Array Value):Ϥ->Option Bool
 |[]=>some true
 |(o,k)::r=>match x[o]?,y[o]? with
  |some u,some v=>(match QM u v k,vI x y r with
   |some b,some c=>some (b&&c)
   |_,_=>none)
  |_,_=>none
def eW{t}{d:TypeDesc}{k o x u}(h:P.underlying t=some d)(b:fI d=some k)(c:x[o]? =some u):(part t x o).run P w=.ok u w:=by unfold part isAgg;cases d<;>simp only[fI,reduceCtorEq]at b<;>simp[fp h,ft,c]
def oR(n x y):∀(l:List Field) (q:Ϥ) (b:Bool),vD P l=some q->vI x y q=some b->
 Sem.run P (forIn l ((none,()):Option Bool×Unit) λf j=>
         if f.name= "_" then pure (ForInStep.yield (none,()))
         else do
          let __do_lift<-part f.type x f.offset;let __do_lift_1<-part f.type y f.offset;let __do_lift<-Op.equalIn (n+1) f.type __do_lift __do_lift_1
          if __do_lift=false then pure (ForInStep.done (some false,()))else pure (ForInStep.yield (none,()))) w=.ok (if b then(none,())else(some false,())) w
 |[],q,b,h1,h=>by simp only[vD,dq]at h1;subst h1;simp only[vI,dq]at h;subst h;simp
 |f::r,q,b,h1,h=>by
  simp only[vD]at h1;split at h1
  ·cases h1
  ·rename_i p;split at h1
   ·rename_i k l i s;injection h1 with h1;subst h1;simp only[vI]at h;split at h
    ·rename_i u v t z;split at h
     ·rename_i C c1 e1 e2;injection h with h;subst h
      cases e:P.underlying f.type with
      |none=>grind
      |some d=>
       rw[e]at i;have c:fI d=some k:=i;rw[List.forIn_cons];simp only[p,if_false,ft,eW e c t,eW e c z,AcN n e c e1,gq]
       cases C with
       |false=>simp
       |true=>simp only[Bool.true_eq_false,if_false,ia,gq,ph];exact oR n x y r l c1 s e2
     ·cases h
    ·cases h
   ·cases h1
def AcO{t f x y}(n)(h:P.underlying t=some (.struct f))(c:P.stoodInHeld t=false){q b}(h1:vD P f.toList=some q)(d:vI x y q=some b):(Op.equalIn (n+2) t (.agg x) (.agg y)).run P w=.ok b w:=by unfold Op.equalIn;simp only[ft,fp h,gq];simp[c,ft];rw[<-Array.forIn_toList];rw[oR n x y f.toList q b h1 d];cases b<;>simp
def Js:∀{x:Φ} {v:ϴ} {c:Δ} {S:Δ} {o:Nat} {u:Value},Ac w S x v c->x[o]? =some (.raw u)->v[o]? =some u:=by intro x v c S o u h;induction h generalizing o<;>intro b<;>cases o<;>simp_all
def QN{f i:Φ}{p q:ϴ}{c d:Δ}{S:Δ}(j:Ac w S f p c)(n:Ac w S i q d){o k:Nat}{b:Bool}(h:oB (f.getD o .any) (i.getD o .any) k=some b):
 ∃u v,p[o]? =some u/\q[o]? =some v/\QM u v k=some b:=by
 have e:∀{l:Φ} {u:Value},l.getD o .any=.raw u->l[o]? =some (.raw u):=by
  grind
 generalize e1:f.getD o .any=x at h;generalize e2:i.getD o .any=y at h;unfold oB at h;split at h;exact⟨_,_,Js j (e e1),Js n (e e2),h⟩
 .refine⟨_,_,Js j (e e1),Js n (e e2),?_⟩;rw[<-h];rename_i s t
  have r:(s==t)=(s.data.toList==t.data.toList):=by
   have:(s==t)=(s.data==t.data):=by
    first
     |rfl
     |(cases s;cases t;rfl)
     |(cases s;cases t;simp[BEq.beq])
   simp_all
  simp only[QM,r]
 exact⟨_,_,Js j (e e1),Js n (e e2),h⟩
 .cases h
def oT{x y:Φ}{e f:ϴ}{c d:Δ}{S:Δ}(i:Ac w S x e c)(j:Ac w S y f d):∀(q:Ϥ) (b:Bool),Uq x y q=some b->vI e.toArray f.toArray q=some b
 |[],b,h=>h
 |(o,k)::r,b,h=>by
  simp only[Uq]at h;unfold x9 at h;split at h;rename_i s c1 e1 e2;obtain⟨u,v,l,n,p⟩:=QN i j e1;simp only[vI,List.getElem?_toArray,l,n,p,oT i j r c1 e2];exact h
  .cases h
def CS{i x y}{K:AV->Prop}{neg}(h:vF i x y K neg):∃j q b,i=some j/\j.eqs=some q/\Uq x y q=some b/\K (.raw (.bool (b != neg))):=by
 unfold vF at h;split at h;unfold GU at h;split at h;unfold vE at h
 grind
 grind
 grind
def oU{x:Φ}{v:Value}{c:Δ}{S:Δ}(h:Ac w S [.agg x] [v] c):∃b d,v=.agg b.toArray/\Ac w S x b d:=by cases h with|agg h1 ho h hc=>exact⟨_,_,rfl,h1⟩
def eX(n:Ax P T){t:Nat}{j:TI}{q:Ϥ}{b:Bool}(p:T t=some j)(hq:j.eqs=some q){f i:Φ}{v u:ϴ}{c d:Δ}{S:Δ}(r:Ac w S f v c)(s:Ac w S i u d)(h:Uq f i q=some b):
 (Op.equal t (.agg v.toArray) (.agg u.toArray)).run P w=.ok b w/\∀(l:BinOp) (x y:Operand),(eqGuard l t x y (.agg v.toArray) (.agg u.toArray)).run P w=.ok () w:=by
 have e:=(n t j p).z4;rw[hq]at e;simp only[WD,gk,Bool.not_eq_true']at e;obtain⟨⟨k1,k2⟩,k3⟩:=e;split at k3;rename_i z C;have k:vD P z.toList=some q:=by simpa using k3
 refine⟨AcO 9998 C k1 k (oT r s q b h),λl x y=> ?_⟩;unfold eqGuard;simp_all
 .cases k3
def eZ(O:Ax P T){l t t' x y}(Z:o.op=.binOp l t x y t')(R:Bc B g m A σ a w)(h:Ln T l t (bj σ x) (bj σ y) λz=>K (am σ o.dst z)):
 o.wp P a w (λa' w'=>∃C,K C/\Bc B g m A C a' w') Q:=by
 obtain⟨e,S,c,n,h1,D,E,F⟩:=R;obtain⟨cx,f⟩:=Ay n x;obtain⟨cy,k⟩:=Ay n y;unfold Ln at h;split at h
 .rename_i p q U hq;rw[U]at f;rw[hq]at k;have e1:=(Az f).1;have e2:=(Az k).1
  have G:(T t).map (·.td.bl)=some true->P.underlying t=some .bool:=by
   intro h
   cases hi:T t with
   |none=>grind
   |some i=>
    rw[hi]at h;obtain⟨inf,z,d,g1,gz,pc,g4,_,g6,g7⟩:=(O t i hi).get;have hd':d=.bool:=AmM (P:=P) (by grind)
    grind
  have V:∀(l:BinOp),(eqGuard l t x y (.bool p) (.bool q)).run P w=.ok () w:=by intro l;unfold eqGuard;split<;>simp
  cases l<;>simp only[]at h<;>try exact h.elim
  refine Au (v:=.bool (p==q)) (w':=w) ?_ ⟨_,h.2,Bc.value e rfl h1 D E F n (c1:=λ_=>0) (C2 rfl Al) (λb=>om) _⟩;have H:binOp .eql t (.bool p) (.bool q)=(do pure (.bool (<-Op.equal t (.bool p) (.bool q)))):=rfl;unfold execOp;simp only[Z,e1,e2,V,H,ft,Yk (G h.1),ia,gq];refine Au (v:=.bool (p != q)) (w':=w) ?_ ⟨_,h.2,Bc.value e rfl h1 D E F n (c1:=λ_=>0) (C2 rfl Al) (λb=>om) _⟩;have H:binOp .neq t (.bool p) (.bool q)=(do pure (.bool (!(<-Op.equal t (.bool p) (.bool q))))):=rfl;unfold execOp;simp only[Z,e1,e2,V,H,ft,Yk (G h.1),ia,gq];rfl
 .rename_i xs ys U hq;rw[U]at f;rw[hq]at k;obtain⟨M,c1,e1,I⟩:=oU f;obtain⟨N,c2,e2,J⟩:=oU k;cases l<;>simp only[]at h<;>try exact h.elim
  obtain⟨j,q,b,W,s,u,L⟩:=CS h;obtain⟨r1,r2⟩:=eX (P:=P) (w:=w) O W s I J u;refine Au (v:=.bool (b != false)) (w':=w) ?_ ⟨_,L,Bc.value e rfl h1 D E F n (c1:=λ_=>0) (C2 rfl Al) (λb=>om) _⟩;have H:binOp .eql t (.agg M.toArray) (.agg N.toArray)=(do pure (.bool (<-Op.equal t (.agg M.toArray) (.agg N.toArray)))):=rfl;exact Yc;obtain⟨j,q,b,W,s,u,L⟩:=CS h;obtain⟨r1,r2⟩:=eX (P:=P) (w:=w) O W s I J u;refine Au (v:=.bool (b != true)) (w':=w) ?_ ⟨_,L,Bc.value e rfl h1 D E F n (c1:=λ_=>0) (C2 rfl Al) (λb=>om) _⟩;have H:binOp .neq t (.agg M.toArray) (.agg N.toArray)=(do pure (.bool (!(<-Op.equal t (.agg M.toArray) (.agg N.toArray))))):=rfl;exact Yc
 obtain⟨r,z,hrun,L,X,Y,V⟩:=AcK (P:=P) f k h t;exact Au (v:=r) (w':=w) Yc ⟨_,L,Bc.value e X h1 D E F n Y (λb=>om) _⟩
def QO{n t x}(q:o.op=.unOp n t x)(f:Bc B g m A σ a w)(h:WE n (bj σ x) λz=>K (am σ o.dst z)):
 o.wp P a w (λs w'=>∃d,K d/\Bc B g m A d s w') Q:=by
 obtain⟨i,S,c,p,h1,u,y,C⟩:=f;obtain⟨E,j⟩:=Ay p x;obtain⟨r,z,e,D,k,l⟩:=Ajh (P:=P) j h;refine Au (v:=r) (w':=w) ?_ ⟨_,D,Bc.value i k h1 u y C p l (λb=>om) _⟩;unfold execOp;simp[q,e]
def QP{x}(k:o.op=.nilCheck x)(f:Bc B g m A σ a w)(h:oZ (bj σ x) λz=>K (am σ o.dst z)):
 o.wp P a w (λl w'=>∃e,K e/\Bc B g m A e l w') Q:=by
 obtain⟨i,S,c,j,h1,n,p,q⟩:=f;obtain⟨s,d⟩:=Ay j x;revert d h;generalize r:a.eval x=v;generalize bj σ x=y;intro h d;cases y<;>simp only[oZ]at h
 cases d with
 |elt hsp hcv h0 hcell ka hnil=>
  cases hnil with|nil hzz=>
  refine Au (v:=.pointer (some _)) (w':=w) ?_ ⟨_,h,Bc.value i rfl h1 n p q j (c1:=λ_=>0) (.elt hsp hcv h0 hcell ka (.nil Al)) (λb=>om) _⟩;unfold execOp;simp[k,r]
def x8{b c}{x:b}(h:c.toList=[x]):c= #[x]:=by grind
def GX{b c}{x y:b}(h:c.toList=[x,y]):c= #[x,y]:=by grind
def fB(p:Ax P T)(b:Bc B g m A σ a w)(h:Gm P T o σ K):o.wp P a w (λI J=>∃D,K D/\Bc B g m A D I J) Q:=by
 unfold Gm at h;split at h;rename_i x k;exact ij (λw=>by unfold execOp;simp[k]) b h;rename_i x k;exact ij (λw=>by unfold execOp;simp[k]) b h
 .rename_i c x y k;split at h
  .rename_i e q;have r:=b;obtain⟨_,S,U,G,_⟩:=b;obtain⟨V,E⟩:=Ay G c;rw[q]at E;have e1:=(Az E).1
   cases e with
   |true=>exact ij (x:=x) (λw=>by unfold execOp;simp[k,e1,asBool]) r (h.1 rfl)
   |false=>exact ij (x:=y) (λw=>by unfold execOp;simp[k,e1,asBool]) r (h.2 rfl)
  grind
 rename_i t k;split at h;rename_i i l;exact jW k (p t i l) b h
 grind
 rename_i t x k;exact vH k b h;rename_i t L k;split at h;rename_i i l;exact oQ p k (p t i l) b h.1 h.2.1 h.2.2.1 h.2.2.2
 grind
 rename_i t n L k;split at h;rename_i i l;split at h;rename_i e F;split at h;rename_i j z;exact Sc k (p t i l) F (p e j z) b h
 grind
 grind
 grind
 rename_i t x k;split at h;rename_i i l;exact oF k (p t i l) b h
 grind
 rename_i t x y k;split at h;rename_i i l;exact jX k (p t i l) b h
 grind
 rename_i M t x y N k;exact eZ p k b h;rename_i M t x k;exact QO k b h;rename_i x k;exact QP k b h;rename_i s d x k;split at h;rename_i i j l z;exact oP p k (p s i l) (p d j z) b h
 grind
 rename_i f first u k
 split at h;rename_i O q;have e1:first= #[]:=by grind
 have e2:u= #[]:=by grind
 subst e1;subst e2;refine Bs b rfl (v:=.func (.func f) #[] #[]) ?_ (λS c G=>⟨_,C2 rfl Al,Al⟩) h;unfold execOp;simp[k,Instr.makeFunc];rename_i x H O q;have e1:first= #[]:=by grind
 subst e1;refine Bs b rfl (v:=.func (.func f) #[] ((x::H).map a.eval).toArray) ?_ (λS c G=>⟨_,.ee (oI G _ h.1) Al (.nil Al),Al⟩) h.2;unfold execOp;have e2:u=(x::H).toArray:=by grind
 simp[k,Instr.makeFunc,e2]
 grind
 rename_i t x y k;split at h;rename_i i l;split at h;rename_i e F;split at h;rename_i j z;exact Uy k (p t i l) F (p e j z) b h
 grind
 grind
 grind
 rename_i t x W R k;split at h;rename_i i l;exact jV p k (p t i l) b h
 grind
 rename_i t x f k;split at h;rename_i i l;exact Uu k (p t i l) b h
 grind
 rename_i t x f k;split at h;rename_i i l;exact dC k (p t i l) b h
 grind
 rename_i t x y k;split at h;rename_i i l;exact Sa p k (p t i l) b h
 grind
 rename_i t x y k;split at h;rename_i i l;exact jU p k (p t i l) b h
 grind
 rename_i x n k;exact Ye k b h;rename_i c k;split at h;rename_i f q;exact Wa k q b h;rename_i q;split at h;rename_i x t C mr;split at h;rename_i i l;exact vG k q (x8 C) (x8 mr) (p t i l) b h
 grind
 grind
 rename_i q;split at h;rename_i x y t N C mr;obtain⟨rfl,h⟩:=h;split at h;rename_i i l;split at h;rename_i e F;split at h;rename_i j z;exact dD k q (GX C) (GX mr) (p t i l) F (p e j z) b h
 grind
 grind
 grind
 grind
 rename_i q;split at h;rename_i x y C;exact ke (mx:=false) k (by simpa using q) (GX C) b h
 grind
 rename_i q;split at h;rename_i x y C;exact ke (mx:=true) k (by simpa using q) (GX C) b h
 grind
 grind
 grind
def Oa(ops:Ϡ)(j:Nat):Γ:=(ops[j]?).bind (·.dst)
def Lp(h:Bc B g m A σ a w)(d):Bc B g m A (am σ d (.a6 [])) (a.put d undef) w:=by obtain⟨e,S,c,f,h1,i,j,k⟩:=h;exact Bc.value e rfl h1 i j k f (c1:=λ_=>0) (fh (vs:=[]) (c1:=λ_=>0) (c2:=λ_=>0) (.nil Al) (.nil Al) (λb=>rfl)) (λb=>om) d
def Dh(a:Act)(d:Γ)(v s)(h:d≠some s):(a.put d v).tmps[s]? =a.tmps[s]? :=by
 cases d with
 |none=>rfl
 |some d=>have b:d≠s:=λe=>h (by rw[e]);simp[Act.put,Array.getElem?_setIfInBounds_ne b]
theorem I9{n}(h:o.wp P a w n Q):o.wp P a w (λl i=>n l i/\∀s,o.dst≠some s->l.tmps[s]? =a.tmps[s]?) Q:=by
 unfold Oper.wp at *;revert h;generalize (execOp a.eval o).run P w=r;intro b
 cases r with
 |ok x i=>
  cases x with
  |value v=>exact⟨b,λs c=>Dh a o.dst v s c⟩
  |skip=>exact⟨b,λs c=>Dh a o.dst _ s c⟩
  |defer d=>exact⟨b,λs c=>Dh {a with defers:=d::a.defers} o.dst _ s c⟩
  |enter f args=>
   rw[Oper.upon_enter]at b⊢;refine Calls.mono b λe j k=> ?_
   cases e with
   |returned v=>exact⟨k,λs c=>Dh a o.dst v s c⟩
   |panicked ch=>exact k
   |outgrown=>exact k
  |row r args=>rw[Oper.upon_row]at b⊢;exact Rows.mono b λv j p=>⟨p,λs c=>Dh a o.dst v s c⟩
  |_=>exact b.elim
 |halt h i=>cases h<;>exact b
def Ba{n j}(c:∀a w,n a w->j a w)(h:o.wp P a w n Q):o.wp P a w j Q:=by
 unfold Oper.wp at *;revert h;generalize (execOp a.eval o).run P w=r;intro b
 cases r with
 |ok x w'=>
  cases x with
  |value v=>exact c _ _ b
  |skip=>exact c _ _ b
  |defer d=>exact c _ _ b
  |enter f args=>
   rw[Oper.upon_enter]at b⊢;refine Calls.mono b λe i l=> ?_
   grind
  |row r args=>rw[Oper.upon_row]at b⊢;exact Rows.mono b λv i k=>c _ _ k
  |_=>exact b.elim
 |halt h w'=>cases h<;>exact b
end
end
section
variable[Env]
variable{bg:Ϙ}
def Gz(σ:Φ)(t:Nat):Option (Nat×Nat×Nat×List AV):=
 match σ.getD t .any with
 |.row e k es=>some (t,e,k,es)
 |.alias s=>match σ.getD s .any with
  |.row e k es=>some (s,e,k,es)
  |_=>none
 |_=>none
def Ps(a:Φ)(e:Nat)(j:TI)(t s b k:Nat)(x:Φ)(y:Operand)(d:Γ)(K:Ψ):Prop:=
 match Rc j.size (bj a y),d with
 |some ys,some d=>b=e/\k=j.size/\0<j.size/\j.zero.length=j.size/\x.length+ys.length<=9223372036854775807/\(x.length+ys.length)*j.bytes<=140737488355328/\
  ((a.set s .any).set t .any).all (Lj d)=true/\K (((a.set s .any).set t .any).set d (.row e j.size (x++ys)))
 |_,_=>False
def Cm(P:Program)(f:Nat)(x:AV)(a:Φ)(R:AV->AV->Prop):Prop:=
 Hr P f/\(∃r y,R r y)/\∀w S v h c,Sz w S->Ac w S (x::a) (v::h) c->(∀b,c b<=1)->Calls P f (v::h).toArray w λe d=>
  ∃u r y s g,e=.returned u/\R r y/\pb r=true/\(y=.any\/∃e k i,y=.row e k i)/\Ac d s [r,y] [u,v] g/\(∀b,g b<=1)/\Sz d s/\Stp w S c d s g
def Yl(P:Program)(b:Φ)(g s e k:Nat)(c:Φ)(a:List Operand)(d:Γ)(K:Ψ):Prop:=
 d≠some s/\Cm P g (.row e k c) (bi (b.set s .any) a).1 λr y=>K (am ((bi (b.set s .any) a).2.set s y) d r)
def pC(n:Nat)(pos:Bool)(K:AV->Prop):Prop:=(n=0->K (.raw (.bool pos)))/\K (.raw (.bool (!pos)))
def fC(pos:Bool)(K:AV->Prop):AV->Prop
 |.nil=>K (.raw (.bool pos))
 |.sl _ es=>pC es.length pos K
 |.own _ _ es=>pC es.length pos K
 |.mine _ _ es=>pC es.length pos K
 |_=>False
def GY(o:Option TI):Bool:=match o with
 |some i=>i.td.elem.isSome
 |none=>false
def vJ(T:Br)(o:BinOp)(t:Nat)(x y:AV)(K:AV->Prop):Prop:=match y with
 |.nil=>(match o with
  |.eql=>GY (T t)=true/\fC true K x
  |.neq=>GY (T t)=true/\fC false K x
  |_=>False)
 |y=>Ln T o t x y K
def QQ(T:Br)(t n:Nat)(K:AV->Prop):Prop:=match T t with
 |some i=>match i.td.elem with
  |some e=>match T e with
   |some j=>n=0/\K (.mine e j.size [])
   |none=>False
  |none=>False
 |none=>False
def kB(j:TI)(s k n:Nat)(y:AV)(d:Γ)(σ:Φ)(K:Ψ):Prop:=match y,d with
 |.raw (.int _ m),some d=>k=j.size/\0<=m/\m.toNat<n/\s≠d/\K (σ.set d (.pref s k m.toNat 0))
 |_,_=>False
def Qk(T:Br)(t s k n:Nat)(y:AV)(d:Γ)(σ:Φ)(K:Ψ):Prop:=match T t with
 |some i=>match i.td.elem with
  |some e=>match T e with
   |some j=>kB j s k n y d σ K
   |none=>False
  |none=>False
 |none=>False
def Uz(p:Option (Nat×Option Nat×Option Bool))(x:AV)(s k j off:Nat)(d:Γ)(a:Φ)(K:Ψ):Prop:=match p,x,d with
 |some (f,some n,some _),.row _ _ _,some d=>n≠0/\s≠d/\K (a.set d (.pref s k j (off+f)))
 |_,_,_=>False
def W5(i:TI)(x:AV)(k j off:Nat)(d:Γ)(a:Φ)(K:Ψ):Prop:=match x with
 |.row _ k' es=>k'=k/\j<es.length/\off+dh i<=k/\K (am a d (pl (em i.td.agg (aq (cellsOf (es.getD j .any)) off (dh i)))))
 |_=>False
def li(x:AV)(c:Φ):AV:=match x with
 |.agg _=>.agg c
 |_=>c.headD .any
def W6(i:TI)(x:AV)(s k j o:Nat)(y:AV)(d:Γ)(a:Φ)(K:Ψ):Prop:=match x with
 |.row e k' es=>k'=k/\j<es.length/\o+i.size<=k/\Lb y=true/\(cellsOf y).length=i.size/\K (am (a.set s (.row e k (es.set j (li (es.getD j .any) (bv (cellsOf (es.getD j .any)) o i.size (cellsOf y)))))) d .any)
 |_=>False
def Wb(P:Program)(T:Br)(o:Oper)(a:Φ)(K:Ψ):Prop:=
 match o.op with
 |.move (.tmp t)=>
  match a.getD t .any,o.dst with
  |.row _ _ _,some d=>t≠d/\K (a.set d (.alias t))
  |.alias s,some d=>s≠d/\K (a.set d (.alias s))
  |_,_=>Gm P T o a K
 |.assign (.tmp t)=>
  match a.getD t .any,o.dst with
  |.row e k es,some d=>t≠d/\(a.set t .any).all (Lj d)=true/\K ((a.set t .any).set d (.row e k es))
  |_,_=>Gm P T o a K
 |.call c=>
  match c.callee,c.args.toList with
  |.builtin .len,[.tmp t]=>
   match Gz a t with
   |some (s,e,k,es)=>match c.argTypes.toList with
    |[ty]=>match T ty with
     |some i=>i.td.elem.isSome=true/\K (am a o.dst (.raw (.int .i64 (es.length:Int))))
     |none=>False
    |_=>False
   |none=>Gm P T o a K
  |.builtin .append,[.tmp t,y]=>
   match Gz a t with
   |some (s,e,k,es)=>match c.argTypes.toList with
    |[ty,ty']=>ty=ty'/\match T ty with
     |some i=>match i.td.elem with
      |some e'=>match T e' with
       |some j=>Ps a e' j t s e k es y o.dst K
       |none=>False
      |none=>False
     |none=>False
    |_=>False
   |none=>Gm P T o a K
  |.value (.func g),.tmp t::rest=>
   match Gz a t with
   |some (s,e,k,es)=>Yl P a g s e k es rest o.dst K
   |none=>Gm P T o a K
  |_,_=>Gm P T o a K
 |.indexAddr t (.tmp q) y=>match Gz a q with
  |some (s,_,k,es)=>Qk T t s k es.length (bj a y) o.dst a K
  |none=>Gm P T o a K
 |.fieldAddr t (.tmp q) f=>match a.getD q .any with
  |.pref s k j off=>(match T t with
   |some i=>Uz i.td.ig[f]? (a.getD s .any) s k j off o.dst a K
   |none=>False)
  |_=>Gm P T o a K
 |.load t (.tmp q)=>match a.getD q .any with
  |.pref s k j off=>(match T t with
   |some i=>W5 i (a.getD s .any) k j off o.dst a K
   |none=>False)
  |_=>Gm P T o a K
 |.store t (.tmp q) y=>match a.getD q .any with
  |.pref s k j off=>(match T t with
   |some i=>W6 i ((d7 a y).getD s .any) s k j off (view (bj a y)) o.dst (d7 a y) K
   |none=>False)
  |_=>Gm P T o a K
 |.binOp op t x y _=>vJ T op t (bj a x) (bj a y) λz=>K (am a o.dst z)
 |.buildSlice t n ps=>match ps.toList with
  |[]=>QQ T t n λz=>K (am a o.dst z)
  |_=>Gm P T o a K
 |_=>Gm P T o a K
section
variable{P:Program}{T:Br}{w:World}{S:Nat->Nat}
variable{w0:World}{S0 c0:Nat->Nat}{σ:Φ}{a:Act}{K:Φ->Prop}{Q:Exit->Act->World->Prop}{o:Oper}
def Ym{c:Δ}{t s e k:Nat}{f:Φ}(g:Ac w S σ a.tmps.toList c)(b:bm σ a.tmps.toList)(h:Gz σ t=some (s,e,k,f)):
 σ[s]? =some (.row e k f)/\a.tmps.toList[t]? =a.tmps.toList[s]?/\(t=s\/σ[t]? =some (.alias s)):=by
 unfold Gz at h;split at h
 grind
 .rename_i m j;split at h
  .rename_i n p l d;injection h with h;cases h;have h1:=A8 g j oS;have i:=A8 g d oS;exact⟨i,b.al _ _ _ _ _ h1 i,.inr h1⟩
  .cases h
 .cases h
def Xi{t v}(h:a.tmps.toList[t]? =some v):a.eval (.tmp t)=v:=by
 simp only[Act.eval,vw]
 grind
def Bc.j5 {e:Φ} {c c1 c2:Δ} {v:Value} {cur:Array Value} {T d k:Nat} {es:Φ} (h:bm e a.tmps.toList) (j:e.all (Lj d)=true) (h1:∀b,c b<=1) (l:∀b,0<c b->b<w.heap.size) (m:a.defers=bg) (f:Sz w S) (n:Stp w0 S0 c0 w S c)
 (p:Ac w S e a.tmps.toList c2) (q:Ac (w.alloc (.cells cur T)) (upd S w.heap.size 0) [.row T k es] [v] (λx=>(if x=w.heap.size then 1 else 0)+c1 x)) (u:∀b,c1 b+c2 b<=c b):
 Bc bg w0 S0 c0 (e.set d (.row T k es)) (a.put (some d) v) (w.alloc (.cells cur T)):=by
 have r:=b6 (c:=λ_=>0) f (.cells cur T) 0;have g:=p.step r (λb=>by grind);have i:=b6 (c:=c) f (.cells cur T) 0;obtain⟨s,t,y⟩:=g.am q (some d);refine⟨by rw[E4];exact h.j5 T k es v j,_,s,t,λb=> ?_,by rw[G5];exact m,f.alloc _ 0,(n.trans i).drop λb=> ?_⟩
 grind
 grind
def Bc.mo {e:Φ} {c c1 c2:Δ} {v:Value} {T d k:Nat} {es:Φ} (h:bm e a.tmps.toList) (f:e.all (Lj d)=true) (h1:∀b,c b<=1) (g:a.defers=bg) (i:Sz w S) (j:Stp w0 S0 c0 w S c)
 (l:Ac w S e a.tmps.toList c2) (m:Ac w S [.row T k es] [v] c1) (q:∀b,c1 b+c2 b<=c b):
 Bc bg w0 S0 c0 (e.set d (.row T k es)) (a.put (some d) v) w:=by
 obtain⟨n,p,r⟩:=l.am m (some d);refine⟨by rw[E4];exact h.j5 T k es v f,_,n,p,λb=> ?_,by rw[G5];exact g,i,j.drop λb=> ?_⟩
 grind
 grind
def Se{c:Δ}{t s e k:Nat}{p:Φ}(q:Ac w S σ a.tmps.toList c)(d:bm σ a.tmps.toList)(h:Gz σ t=some (s,e,k,p)):
 ∃v c1 c2,a.eval (.tmp t)=v/\a.tmps.toList[s]? =some v/\Ac w S [.row e k p] [v] c1/\Ac w S (σ.set s .any) a.tmps.toList c2/\(∀b,c b=c1 b+c2 b)/\
  Ac w S ((σ.set s .any).set t .any) a.tmps.toList c2/\bm ((σ.set s .any).set t .any) a.tmps.toList/\bm (σ.set s .any) a.tmps.toList/\s<σ.length:=by
 obtain⟨h1,u,g⟩:=Ym q d h;obtain⟨v,c1,c2,r,x,f,y⟩:=q.take s h1;have i:=(ab.1 h1).1;refine⟨v,c1,c2,Xi (u.trans r),r,x,f,y,?_,(d.less s rfl).less t rfl,d.less s rfl,i⟩;rcases g with rfl|g;simp_all
 .by_cases j:t=s
  grind
  .have z:(σ.set s .any)[t]? =some (.alias s):=by rw[Bf (λh=>j h.symm)];exact g
   obtain⟨D,A,E,B,l,m,C⟩:=f.take t z;have n:Zc A:=by cases l with|alias h=>cases h with|nil n=>exact n
   exact m.congr λb=>by rw[C,n b];omega
def CU{e k:Nat}{b:Φ}{v:Value}{c:Δ}(h:Ac w S [.row e k b] [v] c):∃A cap,v=.slice A b.length cap/\b.length<=cap/\(∀x∈b,(cellsOf x).length=k):=by
 cases h with
 |ge h=>simp_all
 |row hn hcap hk hb hs hS h1 h0 hoc h hcc=>grind
end
end
section
variable[Env]
variable{E:Ϙ}
section
variable{P:Program}{T:Br}{w:World}{S:Nat->Nat}
variable{C:World}{D c0:Nat->Nat}{σ:Φ}{a:Act}{K:Φ->Prop}{Q:Exit->Act->World->Prop}{o:Oper}
def dE{M e r k t s l y c i j}(ho:o.op=.call c)(hc:c.callee=.builtin .append)(hca:c.args= #[.tmp t,y])(hct:c.argTypes= #[M,M])(hi:Df P M i)(he:i.td.elem=some e)(hj:Df P e j)(hst:Bc E C D c0 σ a w)(hrb:Gz σ t=some (s,r,k,l))(h:Ps σ e j t s r k l y o.dst K):o.wp P a w (λa' w'=>∃σ',K σ'/\Bc E C D c0 σ' a' w') Q:=by
 obtain⟨inf,z,d,g1,gz,pc,g4,_,g6,g7⟩:=hi.get;obtain⟨p,V,d2,f1,fz,sd,f4,f5,f6,f7⟩:=hj.get;have hd':d=.slice e:=D7 (P:=P) (by grind);subst hd';unfold Ps at h;split at h
 .rename_i m d hy hdst;obtain⟨rfl,rfl,hsz,hzl,hmax,hby,W,hK⟩:=h;obtain⟨hrf,S,c',hr,h1,hd,hz,hs⟩:=hst;obtain⟨v,cx,cr,G,hvs,X,_,hcc,Y,H,_,_⟩:=Se hr hrf hrb;generalize hσ1:(σ.set s .any).set t .any=σ1 at *;obtain⟨cy,uj⟩:=Ay hr y;obtain⟨B,cc,q,F,eY,hky,hcv,N,Z,u4⟩:=jY uj hy;have r7:=hcv.length;have r4:=D8 hky
  have hwp:∀{v:Value} {w':World},(Builtin.append_ #[M,M] o.type #[a.eval (.tmp t),a.eval y]).run P w=.ok v w'->∀{next:Ϣ},next (a.put o.dst v) w'->o.wp P a w next Q:=by
   intro v w' hrun next hn
   refine Au (v:=v) (w':=w') ?_ hn;unfold execOp;simp only[ho,resolve,hc,hca,hct,invoke,builtin,ft,ia,gq,List.map_toArray,ev,db,hrun]
  have fresh:∀(f:ϴ) (n:Nat) (v:Value),Ac w S (flat l) f (λ_=>0)->(∀u∈f,u.oneCell'=true)->(∀x∈l,(cellsOf x).length=j.size)->l.length+m.length<=n->n<=maxLen->
   v=.slice (some ⟨w.heap.size,0,none⟩) (l.length+m.length) n->
   Bc E C D c0 (σ1.set d (.row r j.size (l++m))) (a.put (some d) v) (w.drew.alloc (.cells (f.toArray++q.toArray++Builtin.zeroCells V.cells (n-(l.length+m.length))) r)):=by
   intro f n v hxc hone hkx O hcm hv;have hxl:=hxc.length;have r5:=D8 hkx;have nu:V.cells.size=j.size:=by grind
   have jl:=Hb l m;have hxw:Ac w.drew S (flat l) f (λ_=>0):=hxc.keep (λ_ _ _=>rfl) (λ_=>bx _) (λ_ _=>⟨rfl,rfl⟩);have rx:Ac w.drew S (flat m) q F:=hcv.keep (λ_ _ _=>rfl) (λ_=>bx _) (λ_ _=>⟨rfl,rfl⟩);have hrw:Ac w.drew S σ1 a.tmps.toList cr:=Y.keep (λ_ _ _=>rfl) (λ_=>bx _) (λ_ _=>⟨rfl,rfl⟩);generalize hcur:(f.toArray++q.toArray++Builtin.zeroCells V.cells (n-(l.length+m.length)))=cur;have hcl:cur.toList=f++q++(Builtin.zeroCells V.cells (n-(l.length+m.length))).toList:=by grind
   have htake:cur.toList.take ((l++m).length*j.size)=f++q:=by
    have:(f++q).length=(l++m).length*j.size:=by grind
    grind
   have hk:=b6 (w:=w.drew) (c:=λ_=>0) (S:=S) hz.drew (.cells cur r) 0;have hboth:=(du hxw rx (c:=F) (λb=>oS)).step hk (λb=>by rw[N b];simp);rw[hv];refine Bc.j5 (w:=w.drew) H W h1 hr.lt hd hz.drew (hs.trans Stp.drew) hrw (c1:=λ_=>0) ?_ (λb=>by grind);have hlen:l.length+m.length=(l++m).length:=oS;rw[hlen];refine .row (cap:=n) (cur:=cur) (c0:=F) (c2:=λ_=>0) om hcm (λx hx=> ?_) (heap_alloc_new _ _) ?_ (by simp[upd]) ?_ N ?_ (.nil Al) (λx=>rfl)
   grind
   have hl2:=fq List.length hcl;have hzc:(Builtin.zeroCells V.cells (n-(l.length+m.length))).size=(n-(l.length+m.length))*j.size:=by rw[size_zeroCells,nu]
   have e3:n*j.size=l.length*j.size+m.length*j.size+(n-(l.length+m.length))*j.size:=by rw[<-jx,<-jx];congr 1;omega
   grind
   grind
   grind
  rw[hdst]at hwp;have hlim:l.length+m.length<=maxLen:=by unfold maxLen;omega
  by_cases hye:m=[];subst hye;obtain⟨A,cap,e1,hn,_⟩:=CU X;have hrun:=Yi (P:=P) (w:=w) M o.type r p g6 f1 A _ cap hn B cc;have r6:a.eval y=.slice B 0 cc:=eY;rw[<-e1,<-r6,<-G]at hrun;refine hwp hrun ⟨_,hK,?_⟩;rw[G,gy];exact Bc.mo H W h1 hd hz hs Y X (λb=>by grind)
  .obtain⟨ad,hB,hsp,I⟩:=u4 hye;subst hB;have hm0:0<m.length:=oh.2 hye;have J:q.length=m.length*p.size:=by rw[f4];omega
   cases X with
   |ge hnil=>
    have hrun:=run_append_nil (P:=P) w M o.type r p V g6 f1 fz ad m.length cc q J I hm0 (by grind) (by grind);rw[<-G,<-eY]at hrun;have hge:=grownCap_ge w m.length 0 r;have hle:=grownCap_le_maxLen w m.length 0 r (by grind);have:=fresh [] (grownCap w m.length 0 r) _ (.nil Al) oS oS (by grind) hle rfl
    grind
   |row hn O hk hb hsz' hS h1c nf hoc hnil hcnt=>
    rename_i g cap cur ccc c2;cases hnil with|nil hzz=>
    have kb:(cur.toList.take (l.length*j.size)).length=l.length*j.size:=by simp_all
    by_cases L:l.length+m.length<=cap
    have R:l.length*p.size+q.length<=cur.size:=by
     rw[hsz',f4];have:(l.length+m.length)*j.size<=cap*j.size:=jh _ L
     grind
    have hrun:=run_append_room (P:=P) w M o.type r p g6 f1 g l.length cap cur hb ad m.length cc q J I Z L R;rw[<-G,<-eY]at hrun;rw[f4]at hrun R;generalize hnew:(cur.toList.take (l.length*j.size)++q++cur.toList.drop (l.length*j.size+q.length)).toArray=new at hrun;have hnl:new.toList=cur.toList.take (l.length*j.size)++q++cur.toList.drop (l.length*j.size+q.length):=by rw[<-hnew]
    have U:∀o',o'<S g->new[o']? =cur[o']? :=by
     grind
    have hcg:∀x,cx x=(if x=g then 1 else 0):=λx=>by rw[hcnt,hzz x];omega
    have hle:S g<=0:=by grind
    have hk1:=fl (S:=S) (c:=cx) (s:=0) (new:=new) hb (by rw[hcg];simp) U hle;have hk2:=fl (S:=S) (c:=c') (s:=0) (new:=new) hb (by grind) U hle;have hr3:=Y.step hk1 (λb=>by grind);have jl:=Hb l m;have hboth:=(du h1c hcv (c:=λb=>ccc b+F b) (λb=>rfl)).step hk1 (λb=>by rw[nf b,N b,hcg];split<;>omega)
    have htake:new.toList.take ((l++m).length*j.size)=cur.toList.take (l.length*j.size)++q:=by
     have:(cur.toList.take (l.length*j.size)++q).length=(l++m).length*j.size:=by grind
     grind
    refine hwp hrun ⟨_,hK,Bc.mo H W h1 hd (hz.row hb hk2) (hs.trans hk2) hr3 (c1:=cx) ?_ (λb=>by grind)⟩;have hlen:l.length+m.length=(l++m).length:=oS;rw[hlen];refine .row (cur:=new) (c0:=λb=>ccc b+F b) (c2:=λ_=>0) om O (λx hx=> ?_) (setRow_heap w g cur new r (0,0) hb) ?_ (by simp[upd]) ?_ (λb=>by show ccc b+F b=0;rw[nf b,N b]) ?_ (.nil Al) (λx=>by rw[hcg];simp)
    grind
    grind
    grind
    grind
    have holds:∀jj u,(cur.toList.take (l.length*j.size))[jj]? =some u->w.cell? ((⟨g,0,none⟩:Addr).add jj)=some u:=by
     intro jj u hu;rw[Fo,jp,cell_of_row w g jj cur r (0,0) hb]
     grind
    have hrun:=run_append_grow (P:=P) w M o.type r p V g6 f1 fz ⟨g,0,none⟩ l.length cap (cur.toList.take (l.length*j.size)) (by grind) holds ad m.length cc q J I om om (growslice_fits om (by grind));rw[<-G,<-eY]at hrun;have hge:=grownCap_ge w (l.length+m.length) cap r;have hle:=grownCap_le_maxLen w (l.length+m.length) cap r hlim;exact OR
 grind
def oV{x:Operand}{i:Nat}{y:AV}(h:(d7 σ x)[i]? =some y)(b:pb y=false):σ[i]? =some y:=by
 cases x with
 |tmp t=>
  simp only[d7]at h;revert h;generalize σ.getD t .any=v;intro h;have k:∀z,pb z=true->(σ.set t z)[i]? =some y->σ[i]? =some y:=λz c h=>(Ai h (by grind)).2
  cases v<;>simp only[Qj]at h<;>first
   |exact h
   |exact k _ Xh h
 |_=>exact h
theorem Rf:∀(b:List Operand) {σ:Φ} {i:Nat} {y:AV},(bi σ b).2[i]? =some y->pb y=false->σ[i]? =some y
 |[],σ,i,y,h,hp=>h
 |x::b,σ,i,y,h,hp=>oV (Rf b h hp) hp
def oW{g t s e k es d c}(ho:o.op=.call c)(hc:c.callee=.value (.func g))(Y:c.args.toList=.tmp t::d)(Z:Bc E C D c0 σ a w)(L:Gz σ t=some (s,e,k,es))(h:Yl P σ g s e k es d o.dst K):o.wp P a w (λa' w'=>∃M,K M/\Bc E C D c0 M a' w') Q:=by
 obtain⟨hds,⟨fn,code,hfn,B,F⟩,_,G⟩:=h;obtain⟨l,S,cc,hr,h1,hd,hz,hs⟩:=Z;obtain⟨v,cx,cr,hev,hvs,hZ,hr1,hcc,_,_,N,hsl⟩:=Se hr l L;obtain⟨c1,c2,hv,hr2,O⟩:=R8 d hr1;have z:=b4 hZ hv (c:=λb=>cx b+c1 b) (λb=>rfl);have R:=F2 (P:=P) hfn F B (c.args.map a.eval) w;have H:(v::d.map a.eval).toArray=c.args.map a.eval:=by apply Array.ext';simp[Y,hev]
 have:=G w S v _ _ hz z (λb=>by grind);rw[H]at this;have I:(execOp a.eval o).run P w=.ok (.enter g (c.args.map a.eval)) w:=by unfold execOp;simp[ho,resolve,hc,Act.eval,Deferred.ofValue,invoke,R]
 unfold Oper.wp;rw[I,Oper.upon_enter];refine this.mono λe' w' ⟨u,r,y,S',c',he,hR,hpb,hy,hrr,hc1,hz',n⟩=> ?_;subst he;have hr3:=hr2.step n (λb=>by grind);have hfr:=n.frame (c:=cc) (c2:=c2) (λb=>by grind);obtain⟨vr,us,d1,d2,hvu,U,V,hdd⟩:=hrr.bu;injection hvu with e1 e2;subst e1;subst e2;have u7:(bi (σ.set s .any) d).2.length=σ.length:=by have:=hr2.length;have:=hr.length;omega
 obtain⟨cb,A,hle⟩:=hr3.put V s om;rw[Ag hvs]at A
 have W:bm ((bi (σ.set s .any) d).2.set s y) a.tmps.toList:=by
  rcases hy with rfl|⟨e',k',es',rfl⟩;exact(N.bi d).less s rfl
  .have p:=(Ym hr l L).1;have f:∀{i:Nat} {x:AV},(bi (σ.set s .any) d).2[i]? =some x->pb x=false->σ[i]? =some x:=λh hp=>(Ai (Rf d h hp) (by rintro rfl;cases hp)).2;refine⟨λi J off T2 cs2 X m=> ?_,λi J e2 k2 es2 X m=> ?_,λi J k3 j o e2 k2 es2 X m=> ?_⟩
   obtain⟨n1,g1⟩:=Ai X (by grind);obtain⟨n2,g2⟩:=Ai m (by grind);exact l.ref i J off T2 cs2 (f g1 rfl) (f g2 rfl);obtain⟨n1,g1⟩:=Ai X (by grind);by_cases q:s=J;subst q;exact l.al i s _ _ _ (f g1 rfl) p;rw[Bf q]at m;exact l.al i J _ _ _ (f g1 rfl) (f m rfl);obtain⟨n1,g1⟩:=Ai X (by grind);by_cases q:s=J;subst q;exact l.pr i s k3 j o _ _ _ (f g1 rfl) p;rw[Bf q]at m;exact l.pr i J k3 j o _ _ _ (f g1 rfl) (f m rfl)
 refine⟨_,hR,Bc.value (c:=λb=>c' b+c2 b) W hpb ?_ hd hz' (hs.trans hfr) A U (λb=>by grind) _⟩;intro b;show c' b+c2 b<=1;have:=h1 b;have:=hcc b;have:=O b;have:=hc1 b;rcases cq b w.heap.size with hb|hb;have h5:=n.own b hb
 grind
 have:c2 b=0:=by
  exact OZ
 omega
def QS{S:Δ}{x:AV}{v:Value}{c:Δ}{pos:Bool}{K:AV->Prop}(h:Ac w S [x] [v] c)(b:fC pos K x):∃A n d,v=.slice A n d/\K (.raw (.bool (if A.isNone then pos else !pos))):=by
 cases h with
 |gn h=>exact⟨_,_,_,rfl,b⟩
 |j4 hcap h=>
  rename_i k a d
  cases a with
  |none=>exact⟨_,_,_,rfl,b.1 rfl⟩
  |some a=>exact⟨_,_,_,rfl,b.2⟩
 |sl hn hcap hsp hk h1 h0 hcell hst h=>exact⟨_,_,_,rfl,b.2⟩
 |g9 h=>exact⟨_,_,_,rfl,b.1 rfl⟩
 |own hn hcap hk hb hs' hS h1 h0 hoc h hcc=>exact⟨_,_,_,rfl,b.2⟩
 |dt h=>exact⟨_,_,_,rfl,b.1 rfl⟩
 |mine hn hcap hk hb hs' hS h1 h0 hoc h hcc=>exact⟨_,_,_,rfl,b.2⟩
 |_=>exact b.elim
def GZ(g:Ax P T){t}(h:GY (T t)=true):∃e,P.underlying t=some (.slice e):=by
 unfold GY at h;split at h;rename_i i j;obtain⟨k,z,d,g1,n,l,g4,_,g6,m⟩:=(g t i j).get;obtain⟨f,b⟩:=Option.isSome_iff_exists.1 h;have c:d=.slice f:=D7 (P:=P) (by rw[m];exact b);exact⟨f,by rw[<-c];exact g6⟩
 .cases h
def vK(J:Ax P T){g t L x y}(j:o.op=.binOp g t x y L)(k:Bc E C D c0 σ a w)(h:vJ T g t (bj σ x) (bj σ y) λz=>K (am σ o.dst z)):
 o.wp P a w (λu w'=>∃f,K f/\Bc E C D c0 f u w') Q:=by
 unfold vJ at h;split at h
 .rename_i M;obtain⟨B,S,c,F,h1,N,O,R⟩:=k;obtain⟨X,G⟩:=Ay F x;obtain⟨Y,i⟩:=Ay F y;rw[M]at i;have e2:a.eval y=.slice none 0 0:=by generalize a.eval y=v at i;cases i with|gn h=>rfl
  have l:∀(g:BinOp) (pos:Bool),o.op=.binOp g t x y L->GY (T t)=true->fC pos (λz=>K (am σ o.dst z)) (bj σ x)->
   (∀(A:Option Addr) (n d e:Nat),P.underlying t=some (.slice e)->(binOp g t (.slice A n d) (.slice none 0 0)).run P w=.ok (.bool (if A.isNone then pos else !pos)) w)->
   o.wp P a w (λu w'=>∃f,K f/\Bc E C D c0 f u w') Q:=by
   intro g pos j H m r;obtain⟨e,s⟩:=GZ J H;obtain⟨A,n,d,e1,U⟩:=QS G m;have V:∀(p q:Operand),(eqGuard g t p q (.slice A n d) (.slice none 0 0)).run P w=.ok () w:=by intro p q;unfold eqGuard;split<;>simp
   refine Au (v:=.bool (if A.isNone then pos else !pos)) (w':=w) ?_ ⟨_,U,Bc.value B rfl h1 N O R F (c1:=λ_=>0) (C2 rfl Al) (λb=>om) _⟩;unfold execOp;simp only[j,e1,e2,V,r A n d e s,ft,gq];rfl
  cases g<;>simp only[]at h<;>try exact h.elim
  .refine l .eql true j h.1 h.2 λA n d e s=> ?_;rw[Lib.run_eql_slice_nil w t e A n d 0 0 s];cases A<;>rfl
  .refine l .neq false j h.1 h.2 λA n d e s=> ?_;have W:binOp .neq t (.slice A n d) (.slice none 0 0)=(do pure (.bool (!(<-Op.equal t (.slice A n d) (.slice none 0 0))))):=rfl;have I:(Op.equal t (.slice A n d) (.slice none 0 0)).run P w=.ok A.isNone w:=by simp[Op.equal,Op.maxDepth,Lib.run_equalIn_slice_nil w 9999 t e A n d 0 0 s]
   rw[W];simp only[ft,I,gq,ia];cases A<;>rfl
 exact eZ J j k h
def vL(A:Ax P T){t n p}(G:o.op=.buildSlice t n p)(l:p.toList=[])(m:Bc E C D c0 σ a w)(h:QQ T t n λz=>K (am σ o.dst z)):
 o.wp P a w (λH w'=>∃g,K g/\Bc E C D c0 g H w') Q:=by
 unfold QQ at h;split at h;rename_i i I;split at h;rename_i e J;split at h;rename_i j L;obtain⟨rfl,M⟩:=h;obtain⟨N,z,d,g1,Z,O,g4,_,g6,R⟩:=(A t i I).get;obtain⟨B,z2,d2,f1,fz,U,f4,_,f6,f7⟩:=(A e j L).get;have q:d=.slice e:=D7 (P:=P) (by rw[R];exact J);subst q;obtain⟨r,S,c,F,h1,V,W,X⟩:=m;have k:(sizeOf e).run P w=.ok j.size w:=by simp[sizeOf,typeInfo,f1,f4]
 have u:p= #[]:=by apply Array.ext';simpa using l
 refine Au (w':=w.alloc (.cells #[] e)) (v:=.slice (some ⟨w.heap.size,0,none⟩) 0 0) ?_ ⟨_,M,Bc.new (s:=0) r rfl h1 F.lt V W X F (c1:=λ_=>0) ?_ (λb=>by show 0+c b<=c b;omega) _⟩;unfold execOp;simp only[G,u,Instr.buildSlice,ft,fp g6,gq,k];have y:∀f:Nat->Value,Array.map f (Array.range 0)= #[]:=λf=>by apply Array.ext';simp
 simp[Instr.fill,newRow,y];exact .mine (es:=[]) (cur:= #[]) (c0:=λ_=>0) (c2:=λ_=>0) (bx _) oD (λx Y=>by simp at Y) (heap_alloc_new w _) oS (by simp[upd]) (by simp only[flat,eh,Nat.zero_mul,gx];exact .nil Al) Al oS (.nil Al) (λx=>oS);all_goals exact A7
def CV{k}:∀{es:Φ} {j:Nat} (off n:Nat),(∀x∈es,(cellsOf x).length=k)->j<es.length->off+n<=k->aq (flat es) (j*k+off) n=aq (cellsOf (es.getD j .any)) off n
 |[],j,off,n,_,h,_=>by simp at h
 |x::es,j,off,n,hk,hj,ho=>by
  have b:=hk x oS
  cases j with
  |zero=>simp only[aq,flat,Nat.zero_mul,jp,List.getD_cons_zero];rw[sv om,sw (by simp;omega)]
  |succ j=>have i:=CV (es:=es) (j:=j) off n (λy c=>hk y (by simp[c])) (by simpa using hj) ho;rw[List.getD_cons_succ,<-i];simp only[aq,flat];rw[show(j+1)*k+off=(cellsOf x).length+(j*k+off) by rw[b,jx];omega,<-ob,List.drop_left]
def oX{k}:∀{es:Φ} {j:Nat} {el:AV} (b n:Nat) (c:Φ),(∀x∈es,(cellsOf x).length=k)->j<es.length->b+n<=k->cellsOf el=bv (cellsOf (es.getD j .any)) b n c->bv (flat es) (j*k+b) n c=flat (es.set j el)
 |[],j,el,b,n,c,_,h,_,_=>by simp at h
 |x::es,j,el,b,n,c,hk,hj,ho,he=>by
  have d:=hk x oS
  cases j with
  |zero=>rw[List.getD_cons_zero]at he;simp only[DA,flat,he,bv,Nat.zero_mul,jp];rw[sw om,sv om];simp only[ir]
  |succ j=>rw[List.getD_cons_succ]at he;have i:=oX (es:=es) (j:=j) (el:=el) b n c (λy e=>hk y (by simp[e])) (by simpa using hj) ho he;simp only[Β,flat];rw[<-i];simp only[bv];rw[show(j+1)*k+b=(cellsOf x).length+(j*k+b) by rw[d,jx];omega];rw[show(cellsOf x).length+(j*k+b)+n=(cellsOf x).length+(j*k+b+n) by omega,<-ob,List.drop_left];rw[List.take_append,Are om,show(cellsOf x).length+(j*k+b)-(cellsOf x).length=j*k+b by omega];simp only[ir]
def oY{d s k j off b n f}(g:o.dst=some d)(i:Bc E C D c0 σ a w)(l:s≠d)(r:a.tmps.toList[s]? =some (.slice (some ⟨b,0,none⟩) n f))(h:(execOp a.eval o).run P w=.ok (.value (.pointer (some ⟨b,j*k+off,none⟩))) w)(t:K (σ.set d (.pref s k j off))):o.wp P a w (λu w'=>∃e,K e/\Bc E C D c0 e u w') Q:=by obtain⟨m,S,c,p,h1,x,y,z⟩:=i;refine Au (v:=.pointer (some ⟨b,j*k+off,none⟩)) (w':=w) h ⟨_,t,?_⟩;rw[g];obtain⟨A,B,q⟩:=p.am (Ac.pref (s:=s) (k:=k) (j:=j) (o:=off) (v:=.pointer (some ⟨b,j*k+off,none⟩)) (.nil Al)) (some d);exact⟨by rw[E4];exact m.m6 l r p.length,S,A,B,λb=>by have:=h1 b;have:=q b;omega,by rw[G5];exact x,y,z.drop λb=>by have:=q b;omega⟩
def fE(M:Ax P T){t q s e k y es}(R:o.op=.indexAddr t (.tmp q) y)(f:Bc E C D c0 σ a w)(r:Gz σ q=some (s,e,k,es))(h:Qk T t s k es.length (bj σ y) o.dst σ K):
 o.wp P a w (λU w'=>∃g,K g/\Bc E C D c0 g U w') Q:=by
 unfold Qk at h;split at h
 .rename_i i V;split at h
  .rename_i u W;split at h
   .rename_i j X;unfold kB at h;split at h
    .rename_i kk m d Y x;obtain⟨Z,h0,hm,z,hK⟩:=h;have l:=f;obtain⟨A,S,c,N,_⟩:=f;obtain⟨inf,zz,dd,g1,_,_,g4,_,g6,g7⟩:=(M t i V).get;have hd:dd=.slice u:=D7 (P:=P) (by rw[g7];exact W);subst hd;obtain⟨O,_,_,B,_,_,F,_⟩:=(M u j X).get;have n:(sizeOf u).run P w=.ok j.size w:=by simp[sizeOf,typeInfo,B,F]
     obtain⟨cy,p⟩:=Ay N y;rw[Y]at p;have e2:=(Az p).1;obtain⟨v,cx,cr,G,H,I,_⟩:=Se N A r;have J:es≠[]:=by intro h;subst h;simp at hm
     cases I with
     |ge h=>exact cw rfl J
     |row hn hcap hkk hb hs' hS hx1 h0' hoc h hcc=>rename_i b cap cur d0 d2;refine oY (k:=k) (j:=m.toNat) (off:=0) x l z H ?_ hK;have L:m<(es.length:Int):=om;unfold execOp;simp only[R,G,e2,Instr.indexAt,ft,asIntOf,ia,gq,fp g6,h0,L,and_self,if_true,n,Z,Fo,jp,nj]
    exact A7
   exact A7
  exact A7
 exact A7
def CW{q s k j off e f:Nat}{g:Φ}{c:Δ}(i:Ac w S σ a.tmps.toList c)(h:bm σ a.tmps.toList)(hq:σ.getD q .any=.pref s k j off)(l:σ.getD s .any=.row e f g):
 ∃b n d,a.tmps.toList[s]? =some (.slice (some ⟨b,0,none⟩) n d)/\a.eval (.tmp q)=.pointer (some ⟨b,j*k+off,none⟩):=by
 obtain⟨b,n,d,h1,m⟩:=h.pr q s k j off e f g (A8 i hq oS) (A8 i l oS);exact⟨b,n,d,h1,Cu m⟩
def Yn{t q s k j off f i}(A:o.op=.fieldAddr t (.tmp q) f)(B:Df P t i)(g:Bc E C D c0 σ a w)(hq:σ.getD q .any=.pref s k j off)(h:Uz i.td.ig[f]? (σ.getD s .any) s k j off o.dst σ K):
 o.wp P a w (λF w'=>∃l,K l/\Bc E C D c0 l F w') Q:=by
 unfold Uz at h;split at h;rename_i G n R e U es d r H u;obtain⟨I,v,J⟩:=h;obtain⟨V,W,L,x,m,y,M⟩:=Mu B r;have p:=g;obtain⟨z,S,c,N,_⟩:=g;obtain⟨b,X,cap,h1,O⟩:=CW N z hq H;refine oY (k:=k) (j:=j) (off:=off+G) u p v h1 ?_ J;unfold execOp;simp[A,O,Instr.fieldAt,fp L,x,Instr.sureAddr,jR y I,Fo,m,Nat.add_assoc];exact A7
def Yo{t q s k j off i}(ho:o.op=.load t (.tmp q))(N:Df P t i)(A:Bc E C D c0 σ a w)(hq:σ.getD q .any=.pref s k j off)(h:W5 i (σ.getD s .any) k j off o.dst σ K):
 o.wp P a w (λO w'=>∃l,K l/\Bc E C D c0 l O w') Q:=by
 unfold W5 at h;split at h
 .rename_i e k' es L;obtain⟨rfl,hj,m,R⟩:=h;obtain⟨p,S,c,z,h1,U,V,W⟩:=A;obtain⟨b,n,cap,X,hev⟩:=CW z p hq L;obtain⟨v,d1,d2,f,B,Y,Z⟩:=z.take s (A8 z L oS);rw[X]at f;injection f with f;subst f
  cases B with
  |row hn hcap hkk hb hs' hS hx1 h0 hoc hnil r9=>
   rename_i g e0 e2;have F:=CV off (dh i) hkk hj m;have hlen:(flat es).length=es.length*k':=D8 hkk;obtain⟨p1,M,r⟩:=hx1.nl (j*k'+off) (dh i);rw[F]at M;have G:j*k'+k'<=es.length*k':=by exact Ah8
   have hjc:j*k'+k'<=cap*k':=cp G (jh k' hn)
   have d:=G9 M (λu hu=>hoc u (mg (i7 hu))) i.td.agg (λha=>by
    have hl1:dh i=1:=by unfold dh;rw[ha];rfl
    have H:=hkk _ (show es.getD j .any∈es by rw[fk,ac hj];exact ko hj);rw[aq,fw,jb,H];omega)
   obtain⟨e3,d,y⟩:=d.pl;have I:((g.toList.take (es.length*k')).drop (j*k'+off)).take (dh i)=(g.toList.drop (j*k'+off)).take (dh i):=by rw[List.drop_take,List.take_take,pp om]
   rw[I]at d;have J:Zc p1:=λx=>by have:=r x;have:=h0 x;omega
   refine Au (w':=w) (v:=if i.td.agg then .agg ((g.toList.drop (j*k'+off)).take (dh i)).toArray else((g.toList.drop (j*k'+off)).take (dh i)).headD undef) ?_ ⟨_,R,Bc.value p (N7 _) h1 U V W z d (λx=> ?_) _⟩;have hrun:=Ku (P:=P) (w:=w) (t:=t) (off:=j*k'+off) N hb rfl (by rw[hs'];omega);exact Aid;have:=y x;have:=J x;omega
 exact A7
def vM{x c k}(f:(cellsOf x).length=k)(g:c.length=k)(h1:(∀y,x≠ .agg y)->k=1->∀z,c=[z]->cellsOf z=[z]):cellsOf (li x c)=c:=by
 by_cases e:∃y,x=.agg y;obtain⟨y,rfl⟩:=e;rfl
 .have b:∀y,x≠ .agg y:=λy h=>e ⟨y,h⟩;have d:k=1:=by rw[<-f];cases x<;>first|rfl|exact cw rfl (b _)
  subst d
  match c,g with
  |[z],_=>
   have:=h1 b rfl z rfl;have i:li x [z]=z:=by cases x<;>first|rfl|exact cw rfl (b _)
   rw[i];exact this
def Yp{t q s k j off y i}(ho:o.op=.store t (.tmp q) y)(hi:Df P t i)(hst:Bc E C D c0 σ a w)(hq:σ.getD q .any=.pref s k j off)(h:W6 i ((d7 σ y).getD s .any) s k j off (view (bj σ y)) o.dst (d7 σ y) K):
 o.wp P a w (λa' w'=>∃σ',K σ'/\Bc E C D c0 σ' a' w') Q:=by
 unfold W6 at h;split at h
 .rename_i e k' es hx;obtain⟨rfl,hj,hoff,hok,hlen,hK⟩:=h;obtain⟨inf,z,d,g1,gz,pc,g4,_,g6,g7⟩:=hi.get;obtain⟨hrf,S,c,hr,h1,hd,hz,hs⟩:=hst;obtain⟨cy,cr,hy0,hr1,hc⟩:=Lm hr y;have hy:=hy0.view;obtain⟨m,B,hsz⟩:=Jr hy hok;have p:=A8 hr1 hx oS;have R:=oV p rfl;have yq:=A8 hr hq oS;obtain⟨b,n,cap,hv,hpq⟩:=hrf.pr q s k' j off e k' es yq R;have hev:=Cu hpq;obtain⟨v,d1,d2,L,U,hr2,hcr⟩:=hr1.take s p;rw[hv]at L;injection L with L;subst L;generalize V:AV.row e k' es=xr at U;generalize hvv:Value.slice (some ⟨b,0,none⟩) n cap=vv at U
  cases U with
  |row hn hcap hkk hb hs' hS hx1 h0 hoc hnil r9=>
   rename_i e1 k1 es1 b1 F g e0 e2;injection V with he1 he2 he3;subst he1;subst he2;subst he3;injection hvv with G hv2 hv3;injection G with G;injection G with G;subst G;have hfl:(flat es).length=es.length*k':=D8 hkk;have hjk:j*k'+k'<=es.length*k':=by exact Ah8
   have hjc:es.length*k'<=F*k':=jh k' hn;have hcb:c b≠0:=by rw[hc,hcr,r9];simp
   have hcsz:j*k'+off+(a.eval y).cells.toList.length<=g.size:=by rw[hs'];simp at hsz⊢;omega
   have H:=run_storeCells_at P b (j*k'+off) e (a.eval y).cells.toList 0 g w hb (by simpa using hcsz) B;simp only[nj]at H;generalize hnew:(g.toList.take (j*k'+off)++(a.eval y).cells.toList++g.toList.drop (j*k'+off+(a.eval y).cells.toList.length)).toArray=new at H;have M:(a.eval y).cells.toList.length=i.size:=by simp;omega
   have hnl:new.toList=g.toList.take (j*k'+off)++(a.eval y).cells.toList++g.toList.drop (j*k'+off+i.size):=by rw[<-hnew,M]
   have hk:=fl (S:=S) (c:=λx=>if x=b then 1 else 0) (s:=0) (new:=new) hb oS (λo ho=>by rw[hS]at ho;omega) om;have hSS:upd S b 0=S:=by funext x;unfold upd;split<;>simp_all
   rw[hSS]at hk;have W:=fl (S:=S) (c:=c) (s:=0) (new:=new) hb hcb (λo ho=>by rw[hS]at ho;omega) om;rw[hSS]at W;have r:∀x,c x=cy x+((if x=b then 1 else 0)+e2 x+d2 x):=λx=>by rw[hc,hcr,r9]
   have hy':=m.step hk (λx=>by have:=h1 x;have:=r x;omega);have yt:=hx1.step hk (λx=>by have:=h1 x;have:=r x;have:=h0 x;omega);have hr2':=hr2.step hk (λx=>by have:=h1 x;have:=r x;omega);have hb':=setRow_heap w b g new e (0,0) hb;obtain⟨p1,p2,hp,hput,hce⟩:=yt.part (j*k'+off) i.size;obtain⟨c',X,hc'⟩:=hput _ _ _ hy'
   have hel:cellsOf (li (es.getD j .any) (bv (cellsOf (es.getD j .any)) off i.size (cellsOf (view (bj σ y)))))=bv (cellsOf (es.getD j .any)) off i.size (cellsOf (view (bj σ y))):=by
    have I:es.getD j .any∈es:=by exact AhP
    have A:=hkk _ I;refine vM A (by simp only[bv,dc,fw,jb,A,hlen];omega) λhna hk1 z f=> ?_;rcases jz i.size with h0s|h1s
    .have zo:cellsOf (view (bj σ y))=[]:=kq om;rw[h0s,zo]at f;simp only[bv,gy,nj,ki]at f;generalize hxx:es.getD j .any=xx at *;have:cellsOf xx=[xx]:=by cases xx<;>first|rfl|exact cw rfl (hna _)
     rw[this]at f;injection f with f;rw[<-f];exact this
    have ho0:off=0:=om;have Y:i.size=1:=om;subst ho0;rw[Y]at f;simp only[bv,gx,fm,jp]at f;rw[tq om,gy]at f;have Z:=m;rw[f]at Z
    match K_:(a.eval y).cells.toList,M with
    |[u],_=>rw[K_]at Z;exact oG Z (B u (by rw[K_];simp))
    |[],hl=>rw[Y]at hl;simp at hl
    |_::_::_,hl=>rw[Y]at hl;simp at hl
   rw[oX off i.size _ hkk hj hoff hel]at X
   have htk:(g.toList.take (es.length*k')).take (j*k'+off)++(a.eval y).cells.toList++(g.toList.take (es.length*k')).drop (j*k'+off+i.size)=new.toList.take (es.length*k'):=by
    rw[hnl,List.take_append,List.take_append,List.take_take,pp om,List.drop_take];simp only[fw,dc,M];have A:g.toList.length=F*k':=by simp[hs']
    rw[A,pp om,Are (show(List.take (j*k'+off) g.toList).length<=es.length*k' by rw[fw];omega),Are (show(a.eval y).cells.toList.length<=es.length*k'-(j*k'+off) by omega)]
   rw[htk]at X
   have uz:∀u∈new.toList.take (es.length*k'),u.oneCell'=true:=by
    rw[<-htk];intro u O;simp only[ff]at O;rcases O with(O|O)|O;exact hoc u (i7 O);exact B u O;exact hoc u (mg O)
   have f:Zc c':=λx=>by have:=hc' x;have:=hce x;have:=h0 x;simp only at *;omega
   have N:(es.set j (li (es.getD j .any) (bv (cellsOf (es.getD j .any)) off i.size (cellsOf (view (bj σ y)))))).length=es.length:=oS
   have hrow:Ac (w.setRow b new) S [.row e k' (es.set j (li (es.getD j .any) (bv (cellsOf (es.getD j .any)) off i.size (cellsOf (view (bj σ y))))))] [.slice (some ⟨b,0,none⟩) es.length F] (λx=>if x=b then 1 else 0):=by
    rw[<-N];refine .row (c2:=λ_=>0) (by rw[N];exact hn) hcap (λz J=> ?_) hb' (by have:=fq List.length hnl;simp at this;rw[this];simp at M;omega) hS (by rw[N];exact X) f (by rw[N];exact uz) (.nil Al) (λx=>oS);rcases ww J with J|rfl;exact hkk z J;rw[hel];have I:es.getD j .any∈es:=by exact AhP
    have A:=hkk _ I;simp only[bv,dc,fw,jb,A,hlen];omega
   have hr3:=hr2'.fill hrow s (by have:=(ab.1 p).1;simp[this]);rw[lu,Ag (l:=a.tmps.toList) (by rw[hv,hv2,hv3])]at hr3;have hsz2:Sz (w.setRow b new) S:=hz.row hb W (λ_ _=>rfl);refine Sd (w':=w.setRow b new) ?_ ⟨_,hK,Bc.value ((hrf.d7 y).ua _ _ _ p) rfl h1 hd hsz2 (hs.trans W) hr3 (.any (.nil Al)) (λx=> ?_) _⟩;have J:(sizeOf t).run P w=.ok i.size w:=by simp[sizeOf,typeInfo,g1,g4]
   have hne:¬(a.eval y).cells.size≠i.size:=om;unfold execOp;simp[ho,hev,Instr.storeAt,Instr.sureAddr,storeVar,J,hne,H];have:=r x;show 0+((if x=b then 1 else 0)+d2 x)<=c x;omega
  |ge h=>injection V with _ _ he;subst he;simp at hj
  |_=>cases V
 exact A7
def Lq(hT:Ax P T)(hst:Bc E C D c0 σ a w)(h:Wb P T o σ K):o.wp P a w (λa' w'=>∃H,K H/\Bc E C D c0 H a' w') Q:=by
 have l:∀{t s d:Nat} {v:Value},o.op=.move (.tmp t)->o.dst=some d->a.tmps.toList[t]? =some v->s≠d->a.tmps.toList[s]? =some v->K (σ.set d (.alias s))->o.wp P a w (λa' w'=>∃H,K H/\Bc E C D c0 H a' w') Q:=by
  intro t s d v p M hvt hsd W hK;obtain⟨m,S,c,B,h1,u,N,O⟩:=hst;refine Au (v:=v) (w':=w) ?_ ⟨_,hK,?_⟩;unfold execOp;simp[p,Xi hvt];rw[M];obtain⟨c',h2,X⟩:=B.am (Ac.alias (s:=s) (v:=v) (.nil Al)) (some d);refine⟨by rw[E4];exact m.uc hsd W B.length,S,c',h2,λb=>by have:=h1 b;have:=X b;omega,by rw[G5];exact u,N,O.drop λb=>by have:=X b;omega⟩
 unfold Wb at h;split at h
 .rename_i t p;split at h
  rename_i e k F d Y M;have I:=hst;obtain⟨m,S,c,B,h1,u,N,O⟩:=I;obtain⟨v,c1,c2,R,_⟩:=B.take t (A8 B Y oS);exact l p M R h.1 R h.2
  .rename_i s d Y M;have I:=hst;obtain⟨m,S,c,B,h1,u,N,O⟩:=I;have mr:=A8 B Y oS;obtain⟨v,c1,c2,R,_⟩:=B.take t mr;by_cases hrow:∃e k F,σ[s]? =some (.row e k F)
   obtain⟨e,k,F,hrow⟩:=hrow;exact l p M R h.1 ((m.al t s e k F mr hrow).symm.trans R) h.2
   .
    refine Au (v:=v) (w':=w) ?_ ⟨_,h.2,?_⟩;unfold execOp;simp[p,Xi R]
    .rw[M];obtain⟨c',h2,X⟩:=B.am (Ac.alias (s:=s) (v:=v) (.nil Al)) (some d);refine⟨?_,S,c',h2,λb=>by have:=h1 b;have:=X b;omega,by rw[G5];exact u,N,O.drop λb=>by have:=X b;omega⟩;rw[E4];refine⟨λi Z off2 T2 cs2 r J=> ?_,λi Z e k F r J=> ?_,λi Z k j o e k' F r J=> ?_⟩
     .obtain⟨n1,g1⟩:=Ai r (by intro h;cases h);obtain⟨n2,g2⟩:=Ai J (by intro h;cases h);obtain⟨b,k1,k2⟩:=m.ref i Z off2 T2 cs2 g1 g2;exact⟨b,by rw[Bf n2];exact k1,by rw[Bf n1];exact k2⟩
     .obtain⟨n2,g2⟩:=Ai J (by intro h;cases h);rw[bq]at r;split at r
      .split at r
       .injection r with r;cases r;exact cw ⟨e,k,F,g2⟩ hrow
       .cases r
      rename_i hdi;rw[Bf hdi,Bf n2];exact m.al i Z e k F r g2
     .obtain⟨n1,g1⟩:=Ai r (by intro h;cases h);obtain⟨n2,g2⟩:=Ai J (by intro h;cases h);obtain⟨b,n,cap,k1,k2⟩:=m.pr i Z k j o e k' F g1 g2;exact⟨b,n,cap,by rw[Bf n2];exact k1,by rw[Bf n1];exact k2⟩
  exact Nt
 rename_i t p;split at h;rename_i e k F d Y M;obtain⟨htd,hnr,hK⟩:=h;obtain⟨m,S,c,B,h1,u,N,O⟩:=hst;obtain⟨v,c1,c2,R,U,hr2,V⟩:=B.take t (A8 B Y oS);refine Au (v:=v) (w':=w) ?_ ⟨_,hK,?_⟩;unfold execOp;simp[p,Xi R];rw[M];exact Bc.mo (m.less t rfl) hnr h1 u N O hr2 U (λb=>by rw[V];omega);exact Nt;rename_i c p;split at h;rename_i t V L;split at h;rename_i s e k F G;split at h;rename_i ty mr;split at h;rename_i i r;obtain⟨hel,h⟩:=h;obtain⟨inf,z,d,g1,gz,pc,g4,_,g6,g7⟩:=(hT ty i r).get;obtain⟨e',he'⟩:=Option.isSome_iff_exists.1 hel;have hd':d=.slice e':=D7 (P:=P) (by rw[g7];exact he');subst hd';obtain⟨m,S,cc,B,h1,u,N,O⟩:=hst;obtain⟨v,cx,cr,hev,W,U,_⟩:=Se B m G;obtain⟨A,cap,rfl,_⟩:=CU U;refine Au (v:=.int .i64 (F.length:Int)) (w':=w) ?_ ⟨_,h,Bc.value m rfl h1 u N O B (c1:=λ_=>0) (C2 rfl Al) (λb=>om) _⟩;unfold execOp;simp[p,resolve,V,x8 L,x8 mr,invoke,builtin,hev,Builtin.len_,fp g6,goInt];exact A7;exact A7;exact Nt;rename_i t y V L;split at h;rename_i s e k F G;split at h;rename_i ty ty' mr;obtain⟨rfl,h⟩:=h;split at h;rename_i i r;split at h;rename_i e' he;split at h;rename_i j hj;exact dE p V (GX L) (GX mr) (hT ty i r) he (hT e' j hj) hst G h;exact A7;exact A7;exact A7;exact A7;exact Nt;rename_i g t rest V L;split at h;rename_i s e k F G;exact oW p V L hst G h;exact Nt;exact Nt;rename_i t q y p;split at h;rename_i s e k F G;exact fE hT p hst G h;exact Nt;rename_i t q f p;split at h;rename_i s k j off hq;split at h;rename_i i r;exact Yn p (hT t i r) hst hq h;exact A7;exact Nt;rename_i t q p;split at h;rename_i s k j off hq;split at h;rename_i i r;exact Yo p (hT t i r) hst hq h;exact A7;exact Nt;rename_i t q y p;split at h;rename_i s k j off hq;split at h;rename_i i r;exact Yp p (hT t i r) hst hq h;exact A7;exact Nt;rename_i op t x y t' p;exact vK hT p hst h;rename_i t n ps p;split at h;rename_i hps;exact vL hT p hps hst h;exact Nt;exact Nt
def W7(P:Program)(T:Br)(b:Ϡ)(K:Ψ):List Oper->Ψ
 |[],σ=>K σ
 |o::l,σ=>
  match o.guard with
  |none=>Wb P T o σ (W7 P T b K l)
  |some (j,want)=>
   match Oa b j with
   |some t=>
    match σ.getD t .any with
    |.raw (.bool e)=>
     Dx e
      (if want then Wb P T o (σ.set t (.raw (.bool true))) (W7 P T b K l)else W7 P T b K l (am (σ.set t (.raw (.bool true))) o.dst (.a6 [])))
      (if want then W7 P T b K l (am (σ.set t (.raw (.bool false))) o.dst (.a6 []))else Wb P T o (σ.set t (.raw (.bool false))) (W7 P T b K l))
    |.a6 []=>W7 P T b K l (am σ o.dst (.a6 []))
    |_=>False
   |none=>False
def H0(F:Ax P T){d:Ϡ}{K:Ψ}{Q:Exit->Ϣ}{fr:Θ}:
 ∀(l:Θ) (m:List Oper) (σ:Φ) (a:Act) (w:World),l.map (d[·]?)=m.map some->(∀s∈fr,∀o∈m,o.dst≠some s)->Bc E C D c0 σ a w->W7 P T d K m σ->(∀σ n y,Bc E C D c0 σ n y->K σ->(∀s∈fr,n.tmps[s]? =a.tmps[s]?)->Q .normal n y)->wpOps P d Q l a w
 |[],m,σ,a,w,p,hfr,hst,h,hQ=>by
  cases m with
  |nil=>exact hQ σ a w hst h (λ_ _=>rfl)
  |cons o m=>simp at p
 |i::l,[],σ,a,w,p,hfr,hst,h,hQ=>by simp at p
 |i::l,o::m,σ,a,w,p,hfr,hst,h,hQ=>by
  simp only[ev,b5]at p;obtain⟨O,p⟩:=p;have B:=λs z=>hfr s z o oS;have g:∀s∈fr,∀o∈m,o.dst≠some s:=λs z o O=>hfr s z o (by simp[O])
  have q:o.wp P a w (λn y=>∃A,W7 P T d K m A/\Bc E C D c0 A n y) Q->o.wp P a w (wpOps P d Q l) Q:=λh=>
   Ba (λn y ⟨⟨A,h1,R⟩,V⟩=>H0 F l m A n y p g R h1 λr G H g1 g2 g3=>hQ r G H g1 g2 λs z=>(g3 s z).trans (V s (B s z))) (I9 h)
  have I:∀v σ n y,Bc E C D c0 σ n y->K σ->(∀s∈fr,n.tmps[s]? =(a.put o.dst v).tmps[s]?)->Q .normal n y:=λv r G H g1 g2 g3=>
   hQ r G H g1 g2 λs z=>(g3 s z).trans (Dh a o.dst v s (B s z))
  simp only[wpOps,O];unfold W7 at h;split at h;rename_i N;have W:Region.wanted o (yielded d a.tmps)=true:=by simp[Region.wanted,N]
  rw[bn W];exact .inl (q (Lq F hst h))
  .rename_i j u N;split at h
   .rename_i t ht;split at h
    .rename_i e L;have x:=hst;obtain⟨_,S,c,M,_⟩:=hst;have U:=Us L oS;obtain⟨v,c1,c2,hv,hy,R,X⟩:=M.take t (A8 M L oS);have e1:=(Az hy).1;subst e1;have J:yielded d a.tmps j=some e:=by exact Ah3
     have k:∀b,e=b->Bc E C D c0 (σ.set t (.raw (.bool b))) a w:=by intro b Y;subst Y;rw[set_self U L];exact x
     have f:Region.wanted o (yielded d a.tmps)=(e==u):=by simp[Region.wanted,N,J]
     rw[f]
     cases e with
     |true=>
      have h:=h.1 rfl
      cases u with
      |true=>rw[bn (show(true==true)=true from rfl)];exact .inl (q (Lq F (k true rfl) h))
      |false=>rw[ar oS];exact H0 F l m _ _ w p g (Lp (k true rfl) _) h (I _)
     |false=>
      have h:=h.2 rfl
      cases u with
      |true=>rw[ar oS];exact H0 F l m _ _ w p g (Lp (k false rfl) _) h (I _)
      |false=>rw[bn (show(false==false)=true from rfl)];exact .inl (q (Lq F (k false rfl) h))
    rename_i L;have x:=hst;obtain⟨_,S,c,M,_⟩:=hst;obtain⟨v,c1,c2,hv,hy,R,X⟩:=M.take t (A8 M L oS);have e1:v=.tuple #[]:=by exact CB
    have J:yielded d a.tmps j=none:=by exact Ahz
    have f:Region.wanted o (yielded d a.tmps)=false:=by simp[Region.wanted,N,J]
    rw[f,ar oS];exact H0 F l m _ _ w p g (Lp x _) h (I _);exact A7
   exact A7
end
end
end Go.Proofs.YtobhohikfmlccaaGreatDoor
