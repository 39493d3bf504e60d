/- What the regions of a code are made of; what is only looked at; rows made and frozen. -/
import Derived.OrdersHeld
import Derived.Test.YtobhohikfmlccaaGreatDoorC3
set_option linter.all false
open Go.RowKit
namespace Go.Proofs.YtobhohikfmlccaaGreatDoor
section
variable[Env]
variable{bg:Ϙ}
def E5{l:Φ}{t:Nat}(h:l.length<=t):l.getD t .any=.any:=by simp[fk,eq h]
def Ys{l m}(h:Aj l=Aj m):l=m:=by
 induction l generalizing m with
 |nil=>cases m with
  |nil=>rfl
  |cons b m=>simp[Aj]at h
 |cons a l ih=>cases m with
  |nil=>simp[Aj]at h
  |cons b m=>simp only[Aj,ev,b5,oO,AV.raw.injEq,Value.int.injEq,true_and]at h;have h1:a=b:=UInt8.toNat_inj.1 om;have c:=ih (by simpa[Aj]using h.2);rw[h1,c]
structure CO where
 dst:Γ
 op:Op
 gd:Ϫ
def El(o:Ϡ):Ϫ->Option Ϫ
 |none=>some none
 |some (j,want)=>match Oa o j with
  |some t=>some (some (t,want))
  |none=>none
def Dz(a:Ϡ):List Oper->Option (List CO)
 |[]=>some []
 |o::l=>match El a o.guard,Dz a l with
  |some g,some r=>some (⟨o.dst,o.op,g⟩::r)
  |_,_=>none
section
variable(P:Program)(T:Br)
def On(d:Option Nat)(o:Op)(a:List AV)(K:List AV->Prop):Prop:=Wb P T {dst:=d,op:=o,type:=0,pos:= "",after:= #[],guard:=none} a K
def Fq(K:Ψ):List CO->Ψ
 |[],σ=>K σ
 |⟨d,op,none⟩::l,σ=>On P T d op σ (Fq K l)
 |⟨d,op,some (t,want)⟩::l,σ=>
  match σ.getD t .any with
  |.raw (.bool e)=>
   Dx e
    (if want then On P T d op (σ.set t (.raw (.bool true))) (Fq K l)else Fq K l (am (σ.set t (.raw (.bool true))) d (.a6 [])))
    (if want then Fq K l (am (σ.set t (.raw (.bool false))) d (.a6 []))else On P T d op (σ.set t (.raw (.bool false))) (Fq K l))
  |.a6 []=>Fq K l (am σ d (.a6 []))
  |_=>False
end
section
variable{P:Program}{T:Br}
def nv:AV->AV
 |.box T cs=>.box T (cs.map v1)
 |.ref s o=>.ref s o
 |.pref s k j o=>.pref s k j o
 |.bp b T cs=>.bp b T cs
 |.bw b ks vs=>.bw b ks vs
 |.row e k es=>.row e k es
 |.alias s=>.alias s
 |.mine e k es=>.mine e k es
 |x=>view x
def rv(x y:AV):AV:=match x with
 |.own _ _ _=>x
 |.agg _=>x
 |.a6 _=>x
 |_=>y
def RS(r:Ψ->Ψ):Θ->Ψ->Ψ
 |[],K,σ=>r K σ
 |s::vs,K,σ=>RS r vs (λa=>K (a.set s (rv (σ.getD s .any) (a.getD s .any)))) (σ.set s (nv (σ.getD s .any)))
def fL(X:Act->World->Ϣ->Prop)(h:Θ)(r:Ψ->Ψ):Prop:=
 ∀(bg:Ϙ) (d:World) (S e:Δ) (f:Φ) (a:Act) (w:World) (K:Ψ) (p:Ϣ),Bc bg d S e f a w->r K f->
  (∀b c g,Bc bg d S e b c g->K b->(∀s∈h,c.tmps[s]? =a.tmps[s]?)->p c g)->X a w p
def Ih{a:Φ}{s:Nat}:a.set s (a.getD s .any)=a:=by by_cases h:s<a.length;simp_all;rw[sy om]
def Pv{X:Act->World->Ϣ->Prop}{W}{J:Ψ->Ψ}(C:fL X W J):
 ∀(L:Θ),(∀s∈L,s∈W)->fL X W (RS J L)
 |[],_=>C
 |s::L,hvs=>by
  have V:=Pv C L λt ht=>hvs t (by simp[ht]);have hsf:=hvs s oS;intro bg Y Z c0 n a w K p A h m;simp only[RS]at h;by_cases hs:s<n.length
  case neg=>
   have e1:n.set s (nv (n.getD s .any))=n:=sy om;rw[e1]at h;refine V bg Y Z c0 n a w _ p A h λq D E g1 g2 g3=>m _ D E ?_ g2 g3;have:rv (n.getD s .any) (q.getD s .any)=q.getD s .any:=by rw[E5 om];rfl
   rw[this,Ih];exact g1
  case pos=>
  have r:∀x,n.getD s .any=x->pb x=true->nv x=view x->rv x=(λ_=>x)->X a w p:=by
   intro x f hp F G;rw[f,F,G]at h;have B:n[s]? =some x:=by grind
   obtain⟨H,S,c,hr,h1,hd,hz,u⟩:=A;obtain⟨v,c1,c2,hv,hZ,I,hc⟩:=hr.take s B;have z:=I.fill hZ.view s (by simp[hs]);rw[lu,Ag hv]at z;have M:Bc bg w S c2 (n.set s (view x)) a w:=⟨H.less s Xh,S,c2,z.congr λb=>oS,λb=>by grind,hd,hz,bt w S c2⟩;refine V bg w S c2 _ a w _ p M h λq D E g1 g2 g3=>m _ D E ?_ g2 g3;obtain⟨krf,S',c',kr,k1,kd,kz,i⟩:=g1
   have hv':D.tmps.toList[s]? =some v:=by
    grind
   have N:Ac E S' [x] [v] c1:=hZ.step i λb=>by grind
   have hlen:s<q.length:=by
    have:=kr.length
    grind
   obtain⟨c'',O,Q⟩:=kr.put N s hlen;rw[Ag hv']at O;refine⟨krf.less s hp,S',c'',O,λb=> ?_,kd,kz,?_⟩;have:=Q b;by_cases hb:b<w.heap.size;have:=i.own b hb
   grind
   exact Aht;refine u.trans ⟨i.os,i.tape,i.output,i.size,λb hb hcb=>i.keep b hb (by grind),i.cell,i.le,λb hb=> ?_⟩;have:=Q b;have:=i.own b hb
   grind
  have d:∀x,n.getD s .any=x->nv x=x->rv x=(λy=>y)->X a w p:=by intro x f F G;rw[f,F,G,<-f,Ih]at h;refine V bg Y Z c0 n a w _ p A h λq D E g1 g2 g3=>m _ D E ?_ g2 g3;simp only[Ih];exact g1
  cases f:n.getD s .any with
  |any=>exact d _ f rfl rfl
  |raw v=>exact d _ f rfl rfl
  |agg cs=>exact r _ f rfl rfl rfl
  |a6 cs=>exact r _ f rfl rfl rfl
  |nil=>exact d _ f rfl rfl
  |sl k es=>exact d _ f rfl rfl
  |own e k es=>exact r _ f rfl rfl rfl
  |ref s o=>exact d _ f rfl rfl
  |pref s k j o=>exact d _ f rfl rfl
  |ls k es zs=>exact d _ f rfl rfl
  |bp b T cs=>exact d _ f rfl rfl
  |bw b ks L=>exact d _ f rfl rfl
  |fu ad x=>exact d _ f rfl rfl
  |row e k es=>exact d _ f rfl rfl
  |alias s=>exact d _ f rfl rfl
  |mine e k es=>exact d _ f rfl rfl
  |elt y=>exact d _ f rfl rfl
  |ee g cs=>exact d _ f rfl rfl
  |mm l st=>exact d _ f rfl rfl
  |box U cs=>
   rw[f]at h;refine V bg Y Z c0 _ a w _ p ?_ h λq D E g1 g2 g3=>m _ D E ?_ g2 g3
   .have B:n[s]? =some (.box U cs):=by rw[<-f];simp[fk,hs]
    obtain⟨H,S,c,hr,h1,hd,hz,u⟩:=A;obtain⟨v,c1,c2,hv,hZ,I,hc⟩:=hr.take s B
    cases hZ with
    |box hb hS h3 ho h4 hcc=>
     rename_i b cur d1 d2
     cases h4 with
     |nil J_=>
     have R:=Ac.box (c:=λx=>if x=b then 1 else 0) (T:=U) hb hS (Ac.iv Ac.v1 h3) ho (.nil (c:=λ_=>0) Al) (λx=>oS);have z:=I.fill R s (by simp[hs]);rw[lu,Ag hv]at z;refine⟨H.o0 U _ B,S,_,z,λx=> ?_,hd,hz,u.drop λx=> ?_⟩
     grind
     grind
   simp only[rv,Ih];exact g1
def wE(x:AV)(m:Bool)(s:Nat)(A:Ψ)(a:Φ):Prop:=match x with
 |.own e k []=>a.all (Lj s)=true/\A (a.set s (.row e k []))
 |.row e k es=>A (a.set s (bif m then .mine e k es else .own e k es))
 |.mine e k es=>(bif m then(a.all (Lj s)=true/\A (a.set s (.row e k es)))else A a)
 |.alias _=>A (a.set s .any)
 |.pref _ _ _ _=>A (a.set s .any)
 |.box _ cs=>cs.all WO=true/\A (a.set s (.elt (.agg cs)))
 |_=>A a
def vY:Θ->Ψ->Ψ
 |[],K,σ=>K σ
 |s::ts,K,σ=>wE (σ.getD (s % 100000) .any) (decide (100000<=s)) (s % 100000) (vY ts K) σ
def pP{c v d e k g}(h:bm c v)(f:c.all (Lj d)=true):bm (c.set d (.row e k g)) v:=by
 refine⟨λi s off T2 cs2 hi hs=> Ahn,λi s e2 k2 a hi hs=> ?_,λi s k3 j o e2 k2 a hi hs=> ?_⟩;obtain⟨n1,h1⟩:=Ai hi (by grind);have b:d≠s:=by have:=Yd f h1;simp[Lj]at this;exact λh=>this h.symm
 rw[Bf b]at hs;exact h.al i s e2 k2 a h1 hs;obtain⟨n1,h1⟩:=Ai hi (by grind);have b:d≠s:=by have:=Yd f h1;simp[Lj]at this;exact λh=>this h.symm
 rw[Bf b]at hs;exact h.pr i s k3 j o e2 k2 a h1 hs
def C9:∀(ts:Θ) {A:World} {B C:Δ} {q:Φ} {a:Act} {w:World} {K:Ψ},Bc bg A B C q a w->vY ts K q->∃r,K r/\Bc bg A B C r a w
 |[],A,B,C,q,a,w,K,hst,h=>⟨q,h,hst⟩
 |s::ts,A,B,C,q,a,w,K,hst,h=>by
  simp only[vY]at h;generalize s % 100000=s at h;generalize decide (100000<=_)=m at h;unfold wE at h;split at h
  .rename_i e k hx;obtain⟨hn,h⟩:=h;refine C9 ts ?_ h;obtain⟨hrf,S,c,hr,h1,hd,hz,hs⟩:=hst;obtain⟨v,c1,c2,hv,hZ,hr2,hc⟩:=hr.take s (A8 hr hx oS);have hlt:=Us hx oS
   have hrow:Ac w S [.row e k []] [v] c1:=by
    cases hZ with
    |g9 h=>exact .ge h
    |own hn hcap hk hb hs' hS h1 h0 hoc h hcc=>exact .row hn hcap hk hb hs' (by simpa using hS) h1 h0 hoc h hcc
   exact AgK
  .rename_i e k i hx;refine C9 ts ?_ h;obtain⟨hrf,S,c,hr,h1,hd,hz,hs⟩:=hst;obtain⟨v,c1,c2,hv,hZ,hr2,hc⟩:=hr.take s (A8 hr hx oS);have hlt:=Us hx oS
   cases m with
   |true=>
    have l:Ac w S [.mine e k i] [v] c1:=by
     cases hZ with
     |ge h=>exact .dt h
     |row hn hcap hk hb hs' hS hx1 h0 hoc h hcc=>exact .mine hn hcap hk hb hs' hS hx1 h0 hoc h hcc
    have:=hr2.fill l s (by simp[hlt]);exact Ahy
   |false=>
   cases hZ with
   |ge h=>have:=hr2.fill (Ac.g9 (e:=e) (k:=k) h) s (by simp[hlt]);exact Ahy
   |row hn hcap hk hb hs' hS hx1 h0 hoc h hcc=>
    rename_i b D f M I
    cases h with
    |nil hz2=>
    have E:0<c b:=by grind
    have n:∀x,S x<=upd S b (i.length*k) x:=by
     intro x;unfold upd
     grind
    have d:∀{xs vs c'},Ac w S xs vs c'->c' b=0->Ac w (upd S b (i.length*k)) xs vs c':=λh F=>
     h.keep (λ_ _ _=>rfl) n (λx hx=>⟨rfl,by unfold upd;rw[ar];intro hxb;subst hxb;omega⟩)
    have t:Ac w (upd S b (i.length*k)) [.own e k i] [.slice (some ⟨b,0,none⟩) i.length D] c1:=
     .own hn hcap hk hb hs' (by simp[upd]) (d hx1 (h0 b)) h0 hoc (.nil hz2) hcc
    have y:c1 b=1:=by grind
    have o:c2 b=0:=by grind
    have:=(d hr2 o).fill t s (by simp[hlt]);rw[lu,Ag hv]at this;refine⟨hrf.less s rfl,_,c,this.congr λb=>hc b,h1,hd,⟨λx hx=> ?_,hz.g.p5 hS _⟩,⟨hs.os,hs.tape,hs.output,hs.size,λx hx hx0=>⟨(hs.keep x hx hx0).1,?_⟩,hs.cell,λx=> ?_,hs.own⟩⟩;unfold upd;rw[ar];exact hz x hx
    grind
    exact Ah2;exact AhW
  .rename_i e k i hx
   cases m with
   |false=>exact C9 ts hst h
   |true=>
    obtain⟨hn,h⟩:=h;refine C9 ts ?_ h;obtain⟨hrf,S,c,hr,h1,hd,hz,hs⟩:=hst;obtain⟨v,c1,c2,hv,hZ,hr2,hc⟩:=hr.take s (A8 hr hx oS);have hlt:=Us hx oS
    have hrow:Ac w S [.row e k i] [v] c1:=by
     cases hZ with
     |dt h=>exact .ge h
     |mine hn hcap hk hb hs' hS hx1 h0 hoc h hcc=>exact .row hn hcap hk hb hs' hS hx1 h0 hoc h hcc
    exact AgK
  rename_i J hx;exact Agp;rename_i J N O Q hx;exact Agp
  .rename_i T L hx;obtain⟨G,h⟩:=h;refine C9 ts ?_ h;obtain⟨hrf,S,c,hr,h1,hd,hz,hs⟩:=hst;obtain⟨v,c1,c2,hv,hZ,hr2,hc⟩:=hr.take s (A8 hr hx oS);have hlt:=Us hx oS
   cases hZ with
   |box hb hS hx1 ho hn hcc=>
    rename_i b f R I
    cases hn with
    |nil hz2=>
    have p:=eR hx1 G;have E:0<c b:=by rw[hc,hcc];simp;omega
    have n:∀x,S x<=upd S b f.size x:=by
     intro x;unfold upd;split;exact QG;exact Ev
    have d:∀{xs vs c'},Ac w S xs vs c'->c' b=0->Ac w (upd S b f.size) xs vs c':=λh F=>
     h.keep (λ_ _ _=>rfl) n (λx hx=>⟨rfl,by unfold upd;rw[ar];intro hxb;subst hxb;omega⟩)
    have z:Ac w (upd S b f.size) [.elt (.agg L)] [.pointer (some ⟨b,0,none⟩)] (λ_=>0):=by refine .elt (cv:=f.toList) rfl (d hx1 (p b)) p (λj u H=>⟨?_,ho u (cu H)⟩) (by simp[upd]) (.nil Al);simp only[jp];rw[cell_of_row w b j f T (0,0) hb];simpa using H
    have y:c1 b=1:=by rw[hcc,p b,hz2 b];simp
    have o:c2 b=0:=by have:=h1 b;rw[hc,y]at this;omega
    have:=(d hr2 o).fill z s (by simp[hlt]);rw[lu,Ag hv]at this;refine⟨hrf.less s rfl,_,c2,this.congr λb=>oS,λb=>by have:=h1 b;have:=hc b;omega,hd,⟨λx hx=> ?_,hz.g.p5 hS _⟩,⟨hs.os,hs.tape,hs.output,hs.size,λx hx hx0=>⟨(hs.keep x hx hx0).1,?_⟩,hs.cell,λx=> ?_,λx hx=>by have:=hs.own x hx;have:=hc x;omega⟩⟩;unfold upd;rw[ar];exact hz x hx;exact PN;exact Ah2;exact AhW
  exact C9 ts hst h
def XO(P:Program)(o:Ϡ)(l:Θ)(a:Act)(w:World)(p:Ϣ):Prop:=∀Q:Exit->Ϣ,(∀a w,p a w->Q .normal a w)->wpOps P o Q l a w
def Yy(v:Θ)(a:List Oper):Bool:=v.all λs=>a.all λo=>o.dst != some s
def U0{vs a}(h:Yy vs a=true):∀s∈vs,∀o∈a,o.dst≠some s:=by intro s b o c;have:=ib.1 (ib.1 h s b) o c;exact Qs
def kI{c}(K):∀(l:List Oper) (r:List CO),Dz c l=some r->W7 P T c K l=Fq P T K r
 |[],r,h=>by simp[Dz]at h;subst h;rfl
 |o::l,r,h=>by
  simp only[Dz]at h;split at h
  .rename_i g d a e;injection h with h;subst h;have i:=kI K l d e;funext σ
   cases b:o.guard with
   |none=>rw[b]at a;simp only[El]at a;injection a with a;subst a;simp only[W7,b,Fq,i];rfl
   |some jw=>
    obtain⟨j,w⟩:=jw;rw[b]at a;simp only[El]at a;split at a;rename_i t f;injection a with a;subst a;simp only[W7,b,f,Fq,i];rfl
    .cases a
  .cases h
def run_text(j:Ax P T){o f}(d:Dz o o.toList=some f){vs}(k:Yy vs o.toList=true):
 fL (XO P o (List.range o.size)) vs λK c=>Fq P T K f c:=by
 intro bg q s r c a w K p e h b Q l;rw[<-kI K _ _ d]at h;refine H0 j (List.range o.size) o.toList c a w ?_ (U0 k) e h λc a w h1 m n=>l _ _ (b c a w h1 m n);apply rh;intro i;by_cases g:i<o.size;simp[g];simp[g]
end
end
section
variable[Env]
variable{bg:Ϙ}
def W1(x y:AV):Prop:=∀(w:World) (S:Δ) (v:Value) (c:Δ),Ac w S [x] [v] c->∃a,Ac w S [y] [v] a/\∀b,a b<=c b
inductive Wk:Ω
 |nil:Wk [] []
 |same {x xs ys} (h:Wk xs ys):Wk (x::xs) (x::ys)
 |cons {x y xs ys} (h1:W1 x y) (hp:pb y=true) (h:Wk xs ys):Wk (x::xs) (y::ys)
 |box {T cs ds xs ys} (h1:W1 (.box T cs) (.box T ds)) (h:Wk xs ys):Wk (.box T cs::xs) (.box T ds::ys)
abbrev c9:=@Wk.same
abbrev fb:=@Wk.nil
def W1.refl(x):W1 x x:=λ_ _ _ c h=>⟨c,h,λ_=>bx _⟩
abbrev bh:=@W1.refl
def W1.any(x):W1 x .any:=λ_ _ _ c h=>⟨_,.any (.nil Al),λ_=>gu _⟩
def W1.nilown(e k):W1 .nil (.own e k []):=λ_ _ _ c h=>by cases h with|gn h=>exact⟨_,.g9 (.nil Al),λ_=>gu _⟩
def W1.lh(e k):W1 .nil (.mine e k []):=λ_ _ _ c h=>by cases h with|gn h=>exact⟨_,.dt (.nil Al),λ_=>gu _⟩
def W1.view(x):W1 x (view x):=λ_ _ _ c h=>⟨_,h.view,λ_=>gu _⟩
def W1.gg(e k es):W1 (.own e k es) (.sl k es):=W1.view _
abbrev dy:=@W1.gg
def W1.o4(k):W1 .nil (.sl k []):=λ_ _ _ c h=>by cases h with|gn h=>exact⟨_,.j4 oD (.nil Al),λ_=>gu _⟩
def Wk.refl:∀(a:Φ),Wk a a
 |[]=>.nil
 |x::a=>.same (Wk.refl a)
abbrev br:=@Wk.refl
def Wk.rep{w:World}{S:Δ}{x ys:Φ}(h:Wk x ys):∀{d:ϴ} {c:Δ},Ac w S x d c->∃k,Ac w S ys d k/\∀b,k b<=c b:=by
 induction h with
 |nil=>grind
 |same h ih=>intro d c e;obtain⟨v,us,j,l,rfl,f,g,m⟩:=e.bu;obtain⟨e2,g2,a⟩:=ih g;exact⟨_,b4 f g2 (λb=>rfl),λb=>by grind⟩
 |cons h1 hp h ih=>intro d c e;obtain⟨v,us,j,l,rfl,f,g,m⟩:=e.bu;obtain⟨e1,g1,i⟩:=h1 w S v j f;obtain⟨e2,g2,a⟩:=ih g;exact⟨_,b4 g1 g2 (λb=>rfl),λb=>by grind⟩
 |box h1 h ih=>intro d c e;obtain⟨v,us,j,l,rfl,f,g,m⟩:=e.bu;obtain⟨e1,g1,i⟩:=h1 w S v j f;obtain⟨e2,g2,a⟩:=ih g;exact⟨_,b4 g1 g2 (λb=>rfl),λb=>by grind⟩
def Lr:AV->Bool
 |.box _ _=>true
 |_=>false
def Wk.sk{x ys:Φ}(h:Wk x ys):∀(i:Nat) {T:Nat} {a:Φ},ys[i]? =some (.box T a)->∃c,x[i]? =some (.box T c):=by
 induction h with
 |nil=>grind
 |same h ih=>
  grind
 |cons h1 hp h ih=>
  intro i T a b
  cases i with
  |zero=>simp at b;subst b;simp[pb]at hp
  |succ i=>grind
 |box h1 h ih=>
  grind
def Wk.at_{x ys:Φ}(h:Wk x ys):∀(i:Nat) {y:AV},ys[i]? =some y->pb y=false->Lr y=false->x[i]? =some y:=by
 induction h with
 |nil=>grind
 |same h ih=>
  grind
 |cons h1 hp h ih=>
  grind
 |box h1 h ih=>
  intro i y a b c
  cases i with
  |zero=>simp at a;subst a;simp[Lr]at c
  |succ i=>grind
def Wk.stt{w0 S0 c0 a w}{v g:Φ}(h:Wk v g)(n:Bc bg w0 S0 c0 v a w):Bc bg w0 S0 c0 g a w:=by obtain⟨d,S,c,x,h1,y,z,f⟩:=n;obtain⟨A,p,l⟩:=h.rep x;exact⟨⟨λi s q T C m f=>by obtain⟨r,t⟩:=h.sk s f;exact d.ref i s q T r (h.at_ i m rfl rfl) t,λi s e k u m f=>d.al i s e k u (h.at_ i m rfl rfl) (h.at_ s f rfl rfl),λi s k j o e B u m f=>d.pr i s k j o e B u (h.at_ i m rfl rfl) (h.at_ s f rfl rfl)⟩,S,A,p,λb=>cp (l b) (h1 b),y,z,f.drop l⟩
end
section
variable[Env]
variable{p:Ϙ}
def Ah(p:Ϙ)(d:World)(s e:Δ)(f σ:Φ)(a:Act)(w:World):Prop:=
 ∃S c c1 g,bm σ a.tmps.toList/\Ac w S σ a.tmps.toList c/\Ac w S f g c1/\(∀b,c b+c1 b<=1)/\a.defers=p/\Sz w S/\Stp d s e w S (λb=>c b+c1 b)
def Lu(b:Nat):Φ->Γ
 |[]=>none
 |.bp b' _ _::r=>if b'=b then some 0 else(Lu b r).map (·+1)
 |.bw b' _ _::r=>if b'=b then some 0 else(Lu b r).map (·+1)
 |_::r=>(Lu b r).map (·+1)
def Qm:AV->Γ
 |.bp b _ _=>some b
 |.bw b _ _=>some b
 |_=>none
def qJ{b}:∀{a:Φ} {i:Nat},Lu b a=some i->∃x,a[i]? =some x/\Qm x=some b
 |[],i,h=>by simp[Lu]at h
 |x::r,i,h=>by
  have k:∀{i:Nat},(Lu b r).map (·+1)=some i->∃y,(x::r)[i]? =some y/\Qm y=some b:=λ{i} h=>by
   cases c:Lu b r with
   |none=>grind
   |some j=>
    rw[c]at h;simp only[pj,dq]at h;subst h;obtain⟨y,h1,e⟩:=qJ c
    grind
  cases x<;>simp only[Lu]at h<;>first
   |exact k h
   |(split at h
     rename_i d;injection h with h;subst h;subst d;exact⟨_,rfl,rfl⟩;exact k h)
section
variable{P:Program}{T:Br}{k w:World}{l m:Nat->Nat}{g σ:Φ}{a:Act}{o:Oper}{Q:Exit->Act->World->Prop}
def Ah.open(h:Ah p k l m g σ a w):∃S c,Bc p w S c σ a w/\∀d i w',Bc p w S c d i w'->Ah p k l m g d i w':=by
 obtain⟨S,c,c1,u,j,v,hg,h1,x,y,z⟩:=h;refine⟨S,c,⟨j,S,c,v,λb=>by grind,x,y,bt w S c⟩,λd i w' ⟨f,A,B,n,C,q,r,e⟩=> ?_⟩;have s:=e.frame (c:=λb=>c b+c1 b) (c2:=c1) (λb=>rfl);refine⟨A,B,c1,u,f,n,hg.step e (λb=>by grind),λb=> ?_,q,r,z.trans s⟩;rcases cq b w.heap.size with t|t;have:=e.own b t;grind
 have:c1 b=0:=by
  exact Aik
 grind
def Ah.old{K:Ψ}(h:Ah p k l m g σ a w)(hop:∀(k:World) (l m:Δ),Bc p k l m σ a w->o.wp P a w (λd w'=>∃b,K b/\Bc p k l m b d w') Q):
 o.wp P a w (λd w'=>∃b,K b/\Ah p k l m g b d w') Q:=by
 obtain⟨S,c,h1,e⟩:=h.open;exact Ba (λd w' ⟨b,f,i⟩=>⟨b,f,e _ _ _ i⟩) (hop w S c h1)
def Ah.drew(h:Ah p k l m g σ a w):Ah p k l m g σ a w.drew:=by obtain⟨S,c,h1,b⟩:=h.open;exact b _ _ _ h1.drew
def Ah.wk{b:Φ}(h:Ah p k l m g σ a w)(d:Wk σ b):Ah p k l m g b a w:=by obtain⟨S,c,h1,e⟩:=h.open;exact e _ _ _ (d.stt h1)
def Ah.raw{t v}(h:Ah p k l m g σ a w)(d:σ.getD t .any=.raw v):a.eval (.tmp t)=v:=by
 obtain⟨S,c,c1,i,e,f,_⟩:=h;obtain⟨cy,b⟩:=Ay f (.tmp t);have:bj σ (.tmp t)=.raw v:=by show pl (σ.getD t .any)=_;rw[d];rfl
 rw[this]at b;exact(Az b).1
def Ah.ic{x v}(h:Ah p k l m g σ a w)(d:bj σ x=.raw v):a.eval x=v:=by obtain⟨S,c,c1,i,e,f,_⟩:=h;obtain⟨cy,b⟩:=Ay f x;rw[d]at b;exact(Az b).1
theorem UZ{v y}(d:Ah p k l m g σ a w)(q:pb y=true)(h:(execOp a.eval o).run P w=.ok (.value v) w)(r:∀S c,Ac w S σ a.tmps.toList c->∃f,Ac w S [y] [v] f/\Zc f):
 o.wp P a w (λi j=>Ah p k l m g (am σ o.dst y) i j) Q:=
 Ba (λi j ⟨b,e,n⟩=>by grind) (d.old (K:=λb=>b=am σ o.dst y) λk l m n=>Bs n q h r rfl)
def AdM{v}(b:Ah p k l m g σ a w)(d:v.oneCell'=true)(h:(execOp a.eval o).run P w=.ok (.value v) w):
 o.wp P a w (λe f=>Ah p k l m g (am σ o.dst (.raw v)) e f) Q:=
 UZ b rfl h λS c i=>⟨_,.raw d (.nil Al),Al⟩
def wZ{t f b c r n q s i}(u:o.op=.fieldAddr t (.tmp q) f)(v:Df P t i)(h:Ah p k l m g σ a w)(hq:σ.getD q .any=.raw (.pointer (some ⟨b,c,none⟩)))(x:i.td.ig[f]? =some (r,some n,s))(y:n≠0):
 o.wp P a w (λz w'=>Ah p k l m g (am σ o.dst (.raw (.pointer (some ⟨b,c+r,none⟩)))) z w') Q:=by
 obtain⟨C,D,A,e,d,j,B⟩:=Mu v x;apply AdM h rfl;unfold execOp;simp[u,h.raw hq,Instr.fieldAt,fp A,e,Instr.sureAddr,jR j y,Fo,d]
def Ah.ju{gi b t:Nat}{q:Φ}{i:ϴ}{S c1:Δ}(z:Ac w S g i c1)(r:g[gi]? =some (.bp b t q)):
 ∃e y c2,w.heap[b]? =some (.cells e t (0,0))/\S b=0/\Ac w S q e.toList y/\(∀u∈e.toList,u.oneCell'=true)/\Ac w S (g.set gi .any) i c2/\(∀x,c1 x=(if x=b then 1 else 0)+y x+c2 x)/\
  ∀(w':World) (s:Δ) (c:Array Value) (f:Φ) (d j:Δ),Ac w' s (g.set gi .any) i j->w'.heap[b]? =some (.cells c t (0,0))->s b=0->Ac w' s f c.toList d->(∀u∈c.toList,u.oneCell'=true)->
   Ac w' s (g.set gi (.bp b t f)) i (λx=>(if x=b then 1 else 0)+d x+j x):=by
 obtain⟨v,e1,e2,A,B,C,D⟩:=z.take gi r
 cases B with
 |bp hb hS h1 hoc h hcc=>
  cases h with|nil hz=>
  refine⟨_,_,e2,hb,hS,h1,hoc,C,λx=>by rw[D,hcc,hz x];omega,λw' s c f d j k1 k2 k3 k4 k5=> ?_⟩;have E:=(ab.1 r).1;have n:=k1.fill (Ac.bp (v:=v) k2 k3 k4 k5 (.nil Al) (λx=>rfl)) gi (by grind);rw[lu,Ag A]at n
  grind
def qK{t n off D b E q i f}(ho:o.op=.load t (.tmp q))(hi:Df P t i)(j:Ah p k l m g σ a w)(hq:σ.getD q .any=.raw (.pointer (some ⟨b,off,none⟩)))(G:g[D]? =some (.bp b E f))(hn:n=dh i)(hl:off+n<=f.length):
 o.wp P a w (λH w'=>Ah p k l m (g.set D (.bp b E (bv f off n ((aq f off n).map v1)))) (am σ o.dst (pl (em i.td.agg (aq f off n)))) H w') Q:=by
 have he:=j.raw hq;obtain⟨S,c,c1,I,z,J,K,h1,L,M,N⟩:=j;obtain⟨e,d1,c2,hb,O,r,d,A,hc,s⟩:=Ah.ju K G;have R:=r.length;obtain⟨e1,e2,F,B,U⟩:=r.part off n;obtain⟨V,y,W⟩:=B _ _ _ (Ac.iv Ac.v1 F);rw[Rb]at y;have C:=s w S e _ V c2 A hb O y d;have h:=G9 F (λu X=>d u (mg (i7 X))) i.td.agg (λY=>by unfold dh at hn;rw[Y]at hn;simp at hn;subst hn;simp[aq];omega);obtain⟨e3,h,Z⟩:=h.pl;obtain⟨c4,h2,h3⟩:=J.am h o.dst;refine Au (w':=w) (v:=if i.td.agg then .agg ((e.toList.drop off).take n).toArray else((e.toList.drop off).take n).headD undef) ?_ ⟨S,c4,_,I,z.am _ _ (N7 _),h2,C,λx=> ?_,by rw[G5];exact L,M,N.drop λx=> ?_⟩;exact PE
 grind
 grind
def kW{t e gi b K q y i L}(ho:o.op=.store t (.tmp q) y)(hi:Df P t i)(r:Ah p k l m g σ a w)(hq:σ.getD q .any=.raw (.pointer (some ⟨b,e,none⟩)))(hx:g[gi]? =some (.bp b K L))(M:Lb (bj σ y)=true)(hlen:(cellsOf (bj σ y)).length=i.size)(hl:e+i.size<=L.length):
 o.wp P a w (λa' w'=>Ah p k l m (g.set gi (.bp b K (bv L e i.size (cellsOf (bj σ y))))) (am (d7 σ y) o.dst .any) a' w') Q:=by
 have he:=r.raw hq;obtain⟨inf,z,d,g1,gz,pc,g4,_,g6,g7⟩:=hi.get;obtain⟨S,c,N,gv,O,hr,hg,h1,hd,hz,hs⟩:=r;obtain⟨cy,cr,hy,R,hc⟩:=Lm hr y;obtain⟨h,A,hsz⟩:=Jr hy M;obtain⟨f,d1,c2,B,hS,C,U,V,hcg,D⟩:=Ah.ju hg hx;have hcl:=C.length
 have hcsz:e+(a.eval y).cells.toList.length<=f.size:=by
  grind
 have hrun:=run_storeCells_at P b e K (a.eval y).cells.toList 0 f w B (by grind) A;simp only[nj]at hrun;generalize hnew:(f.toList.take e++(a.eval y).cells.toList++f.toList.drop (e+(a.eval y).cells.toList.length)).toArray=new at hrun
 have W:new.toList=f.toList.take e++(a.eval y).cells.toList++f.toList.drop (e+i.size):=by
  grind
 have E:=fl (S:=S) (c:=λx=>if x=b then 1 else 0) (s:=0) (new:=new) B oS (λo ho=>by grind) om;have F:upd S b 0=S:=by funext x;unfold upd;split<;>simp_all
 rw[F]at E;have X:c b+N b≠0:=by grind
 have j:=fl (S:=S) (c:=λx=>c x+N x) (s:=0) (new:=new) B X (λo ho=>by grind) om;rw[F]at j;have htot:∀x,c x+N x=cy x+cr x+((if x=b then 1 else 0)+d1 x+c2 x):=λx=>by grind
 have Y:=h.step E (λx=>by grind);have G:=C.step E (λx=>by grind);have Z:=R.step E (λx=>by grind);have H:=V.step E (λx=>by grind);obtain⟨e1,e2,hp,hpt,hce⟩:=G.part e i.size;obtain⟨c',I,hc'⟩:=hpt _ _ _ Y;rw[<-W]at I;have hb':=setRow_heap w b f new K (0,0) B
 have n:∀u∈new.toList,u.oneCell'=true:=by
  grind
 have hg3:=D _ S new _ c' c2 H hb' hS I n;have J:Sz (w.setRow b new) S:=hz.row B j (λ_ _=>rfl);obtain⟨c4,h2,h3⟩:=Z.am (.any (v:=undef) (.nil Al)) o.dst;refine Sd (w':=w.setRow b new) ?_ ⟨S,c4,_,gv,(O.d7 y).am _ _ rfl,h2,hg3,λx=> ?_,by rw[G5];exact hd,J,(hs.trans j).drop λx=> ?_⟩;exact Agu
 grind
 grind
def Ah.name{d t q}(f:Ah p k l m g σ a w)(z:σ[d]? =some (.box t q)):
 ∃b,(∀x∈g,Qm x≠some b)/\Ah p k l m (.bp b t q::g) (σ.set d (.raw (.pointer (some ⟨b,0,none⟩)))) a w:=by
 obtain⟨S,c,c1,A,i,B,r,h1,C,D,E⟩:=f;obtain⟨v,e1,e2,s,F,G,K⟩:=B.take d z
 cases F with
 |box hb hS hcs hoc h hcc=>
  rename_i b H L M;cases h with|nil hz3=>
  have e:=G.fill (Ac.raw (v:=.pointer (some ⟨b,0,none⟩)) rfl (.nil Al)) d (by grind);rw[lu,Ag s]at e;refine⟨b,λx n=> ?_,S,_,_,undef::A,?_,e,Ac.bp hb hS hcs hoc r (λx=>rfl),λx=> ?_,C,D,E.drop λx=> ?_⟩;intro he;obtain⟨j,I⟩:=dn n;obtain⟨u,f1,f2,_,hu,_,J⟩:=r.take j I;have:0<f1 b:=by exact Agv
  grind
  have:=i.set d (.pointer (some ⟨b,0,none⟩)) (y:=.raw (.pointer (some ⟨b,0,none⟩))) rfl;rwa [Ag s]at this
  grind
  grind
def Ah.skip(h:Ah p k l m g σ a w)(d):Ah p k l m g (am σ d (.a6 [])) (a.put d undef) w:=by obtain⟨S,c,h1,b⟩:=h.open;exact b _ _ _ (Lp h1 d)
end
end
def dead{α:Type}(P:Program):Sem α->Prop
 |.pure _=>False
 |.program k=>dead P (k P)
 |.mark _ k=>dead P k
 |.choose _ k=>∀n,dead P (k n)
 |.new _ k=>∀n,dead P (k n)
 |.halt _=>True
 |_=>False
def Cz{a:Type}(P:Program):Sem a->Prop
 |.pure _=>True
 |.program k=>Cz P (k P)
 |.mark _ k=>Cz P k
 |.choose _ k=>∀n,dead P (k n)
 |.new _ k=>∀n,dead P (k n)
 |.halt _=>True
 |_=>False
def still{a:Type}(P:Program):Sem a->Prop
 |.pure _=>True
 |.program k=>still P (k P)
 |.mark _ k=>still P k
 |.choose _ k=>∀n,dead P (k n)
 |.new _ k=>∀n,dead P (k n)
 |.halt _=>True
 |.load _ _ k=>∀v,still P (k v)
 |.shape _ k=>∀s,still P (k s)
 |.frozen _ k=>∀b,still P (k b)
 |.getObj _ k=>∀o,still P (k o)
 |_=>False
section
variable{b c:Type}{P:Program}
def E9:∀{s:Sem b} {f:b->Sem c},dead P s->dead P (s.bind f)
 |.program k,f,hs=>E9 (s:=k P) hs
 |.mark _ k,f,hs=>E9 (s:=k) hs
 |.choose _ k,f,hs=>λn=>E9 (hs n)
 |.new _ k,f,hs=>λn=>E9 (hs n)
 |.halt _,f,_=>trivial
 |.pure ..,_,hs|.load ..,_,hs|.store ..,_,hs|.shape ..,_,hs|.freeze ..,_,hs|.frozen ..,_,hs|.getObj ..,_,hs|.setObj ..,_,hs|.sys ..,_,hs=>hs.elim
def G0:∀{s:Sem b} {f:b->Sem c},Cz P s->(∀x,Cz P (f x))->Cz P (s.bind f)
 |.pure a,f,_,h=>h a
 |.program k,f,hs,h=>G0 (s:=k P) hs h
 |.mark _ k,f,hs,h=>G0 (s:=k) hs h
 |.choose _ k,f,hs,_=>λn=>E9 (hs n)
 |.new _ k,f,hs,_=>λn=>E9 (hs n)
 |.halt _,f,_,_=>trivial
 |.load ..,_,hs,_|.store ..,_,hs,_|.shape ..,_,hs,_|.freeze ..,_,hs,_|.frozen ..,_,hs,_|.getObj ..,_,hs,_|.setObj ..,_,hs,_|.sys ..,_,hs,_=>hs.elim
def Gu:∀{s:Sem b} {f:b->Sem c},still P s->(∀x,still P (f x))->still P (s.bind f)
 |.pure a,f,_,h=>h a
 |.program k,f,hs,h=>Gu (s:=k P) hs h
 |.mark _ k,f,hs,h=>Gu (s:=k) hs h
 |.choose _ k,f,hs,_=>λn=>E9 (hs n)
 |.new _ k,f,hs,_=>λn=>E9 (hs n)
 |.halt _,f,_,_=>trivial
 |.load _ _ k,f,hs,h=>λv=>Gu (hs v) h
 |.shape _ k,f,hs,h=>λv=>Gu (hs v) h
 |.frozen _ k,f,hs,h=>λv=>Gu (hs v) h
 |.getObj _ k,f,hs,h=>λv=>Gu (hs v) h
 |.store ..,_,hs,_|.freeze ..,_,hs,_|.setObj ..,_,hs,_|.sys ..,_,hs,_=>hs.elim
def Fa:∀{s:Sem b},Cz P s->still P s
 |.pure a,_=>trivial
 |.program k,hs=>Fa (s:=k P) hs
 |.mark _ k,hs=>Fa (s:=k) hs
 |.choose _ k,hs=>hs
 |.new _ k,hs=>hs
 |.halt _,_=>trivial
 |.load ..,hs|.store ..,hs|.shape ..,hs|.freeze ..,hs|.frozen ..,hs|.getObj ..,hs|.setObj ..,hs|.sys ..,hs=>hs.elim
def A9:∀{s:Sem b},dead P s->Cz P s
 |.pure a,h=>h.elim
 |.program k,hs=>A9 (s:=k P) hs
 |.mark _ k,hs=>A9 (s:=k) hs
 |.choose _ k,hs=>hs
 |.new _ k,hs=>hs
 |.halt _,_=>trivial
 |.load ..,hs|.store ..,hs|.shape ..,hs|.freeze ..,hs|.frozen ..,hs|.getObj ..,hs|.setObj ..,hs|.sys ..,hs=>hs.elim
def Ri{f:b->Sem c}(h:∀x,dead P (f x)):∀{s:Sem b},Cz P s->dead P (s.bind f)
 |.pure a,_=>h a
 |.program k,hs=>Ri h (s:=k P) hs
 |.mark _ k,hs=>Ri h (s:=k) hs
 |.choose _ k,hs=>λn=>E9 (hs n)
 |.new _ k,hs=>λn=>E9 (hs n)
 |.halt _,_=>trivial
 |.load ..,hs|.store ..,hs|.shape ..,hs|.freeze ..,hs|.frozen ..,hs|.getObj ..,hs|.setObj ..,hs|.sys ..,hs=>hs.elim
def Gg{a}{x:b}:∀{s:Sem b} {w:World},dead P s->s.run P w≠ .ok x a
 |.program k,w,hs=>by simp only[Sem.run];exact Gg (s:=k P) hs
 |.mark _ k,w,hs=>by simp only[Sem.run];exact Gg (s:=k) hs
 |.choose _ k,w,hs=>by
  simp only[Sem.run];split;all_goals exact Gg (hs _)
 |.new _ k,w,hs=>by simp only[Sem.run];exact Gg (hs _)
 |.halt _,w,_=>by simp[Sem.run]
 |.pure ..,_,hs|.load ..,_,hs|.store ..,_,hs|.shape ..,_,hs|.freeze ..,_,hs|.frozen ..,_,hs|.getObj ..,_,hs|.setObj ..,_,hs|.sys ..,_,hs=>hs.elim
def Y6{w e}{x:b}:∀{s:Sem b},Cz P s->s.run P w=.ok x e->∀d,s.run P d=.ok x d
 |.pure a,_,h,d=>by simp_all
 |.program k,hs,h,d=>by simp only[Sem.run]at h⊢;exact Y6 (s:=k P) hs h d
 |.mark _ k,hs,h,d=>by simp only[Sem.run]at h⊢;exact Y6 (s:=k) hs h d
 |.choose q k,hs,h,d=>cw h (Gg (s:=.choose q k) hs)
 |.new o k,hs,h,d=>cw h (Gg (s:=.new o k) hs)
 |.halt _,_,h,d=>by simp_all
 |.load ..,hs,_,_|.store ..,hs,_,_|.shape ..,hs,_,_|.freeze ..,hs,_,_|.frozen ..,hs,_,_|.getObj ..,hs,_,_|.setObj ..,hs,_,_|.sys ..,hs,_,_=>hs.elim
def G3{w d}{x:b}:∀{s:Sem b},still P s->s.run P w=.ok x d->d=w
 |.pure a,_,h=>by simp_all
 |.program k,hs,h=>G3 (s:=k P) hs (by simpa only[Sem.run]using h)
 |.mark _ k,hs,h=>G3 (s:=k) hs (by simpa only[Sem.run]using h)
 |.halt _,_,h=>by simp_all
 |.choose q k,hs,h=>cw h (Gg (s:=.choose q k) hs)
 |.new o k,hs,h=>cw h (Gg (s:=.new o k) hs)
 |.load m a k,hs,h=>by
  simp only[Sem.run]at h;split at h;exact G3 (hs _) h
  .split at h
   exact G3 (hs _) h
   .cases h
 |.shape _ k,hs,h=>G3 (hs _) (by simpa only[Sem.run]using h)
 |.frozen _ k,hs,h=>G3 (hs _) (by simpa only[Sem.run]using h)
 |.getObj r k,hs,h=>by
  simp only[Sem.run]at h;split at h
  .cases h
  exact G3 (hs _) h
  .cases h
 |.store ..,hs,_|.freeze ..,hs,_|.setObj ..,hs,_|.sys ..,hs,_=>hs.elim
end
section
variable{P:Program}{f:Ϡ}{Q:Exit->Act->World->Prop}{cl:Nat->Nat}{C:World->Prop}
def wpC (P:Program) (f:Ϡ) (cl:Δ) (C:World->Prop) (Q:Exit->Ϣ):Θ->Ϣ
 |[],a,w=>Q .normal a w
 |i::l,a,w=>∃o,f[i]? =some o/\((cl i=0/\∃v,Yields P f o v a/\wpC P f cl C Q l (a.put o.dst v) w)\/(cl i=1/\C w/\∃v,YieldsIf P f C o v a/\wpC P f cl C Q l (a.put o.dst v) w)\/
  (cl i=2/\wpOp P f Q i (λa w=>C w/\wpC P f cl C Q l a w) a w)\/(3<=cl i/\cl i≠4/\wpOp P f Q i (wpC P f cl C Q l) a w)\/(cl i=4/\∃v,YieldsIf P f (·=w) o v a/\wpC P f cl C Q l (a.put o.dst v) w))
def Px (f:Ϡ) (cl:Δ) (x y:Nat):Bool:=match f[x]?,f[y]? with
 |some ox,some oy=>ox.apart f oy&&(cl x==0||(cl x==1&&decide (cl y<=2))||(cl x==4&&cl y==4))
 |_,_=>false
theorem qF {x y:Nat} {o a:Oper} (h:Px f cl x y=true) (b:f[x]? =some o) (c:f[y]? =some a):o.apart f a=true/\(cl x=0\/(cl x=1/\cl y<=2)\/(cl x=4/\cl y=4)):=by simpa[Px,b,c,or_assoc]using h
def UU(f:Ϡ):Prop:=∀(j:Nat) (o:Oper) cs b,f[j]? =some o->o.op≠ .select cs b
def DZ{o c:Oper}{a:Act}{v u:Value}(g:∀i b,o.op≠ .select i b)(h:∀d,c.dst=some d->d∉o.looksAt f):YieldsIf P f C o v (a.put c.dst u)↔YieldsIf P f C o v a:=
 ⟨λe=>e.of_same (execOp_put o g a c.dst u h).symm (wanted_put o a c.dst u h).symm,λe=>e.of_same (execOp_put o g a c.dst u h) (wanted_put o a c.dst u h)⟩
def Y7{o c:Oper}{a:Act}{v u:Value}(g:∀i b,o.op≠ .select i b)(h:∀d,c.dst=some d->d∉o.looksAt f):Yields P f o v (a.put c.dst u)↔Yields P f o v a:=
 ⟨λe=>e.of_same (execOp_put o g a c.dst u h).symm (wanted_put o a c.dst u h).symm,λe=>e.of_same (execOp_put o g a c.dst u h) (wanted_put o a c.dst u h)⟩
theorem xe (c:UU f) {j:Nat} {o:Oper} (p:f[j]? =some o) (k:cl j<=1\/cl j=4):∀(l:Θ) (a:Act) (w:World),j∈l->l.Pairwise (λx y=>y=j->Px f cl x j=true)->wpC P f cl C Q l a w->
 ∃u,(if cl j=0 then Yields P f o u a else if cl j=4 then YieldsIf P f (·=w) o u a else C w/\YieldsIf P f C o u a)/\wpC P f cl C Q (l.erase j) (a.put o.dst u) w
 |[],a,w,h,_,_=>by cases h
 |x::l,a,w,hm,hp,h=>by
  simp only[wpC]at h;obtain⟨g,d,h⟩:=h;by_cases D:x=j
  ·grind
  ·have i:j∈l:=(e9.1 hm).resolve_left λh=>D h.symm;rw[List.erase_cons_tail (by simpa using D)];obtain⟨s,m⟩:=mh.1 hp;obtain⟨t,E⟩:=qF (s j i rfl) d p;obtain⟨k1,k2,k3⟩:=Oper.apart_spec t;have z:=λA b=>c x g A b d;have B:=λA b=>c j o A b p;have e:∀{u v:Value},(if cl j=0 then Yields P f o u (a.put g.dst v)else if cl j=4 then YieldsIf P f (·=w) o u (a.put g.dst v)else C w/\YieldsIf P f C o u (a.put g.dst v))->(if cl j=0 then Yields P f o u a else if cl j=4 then YieldsIf P f (·=w) o u a else C w/\YieldsIf P f C o u a):=λ{u v} n=>by rwa [Y7 B k1,DZ B k1,DZ B k1]at n
   rcases h with⟨F,v,q,h⟩|⟨h1,hc,v,q,h⟩|⟨h2,h⟩|⟨h2,h4,h⟩|⟨h4,v,q,h⟩
   ·obtain ⟨u,n,r⟩:=xe c p k l (a.put g.dst v) w i m h;exact⟨u,e n,g,d,.inl ⟨F,v,(Y7 z k3).2 q,by rw[<-Act.put_comm a v u k2];exact r⟩⟩
   ·obtain ⟨u,n,r⟩:=xe c p k l (a.put g.dst v) w i m h;exact⟨u,e n,g,d,.inr (.inl ⟨h1,hc,v,(DZ z k3).2 q,by rw[<-Act.put_comm a v u k2];exact r⟩)⟩
   ·omega
   ·omega
   ·obtain ⟨u,n,r⟩:=xe c p k l (a.put g.dst v) w i m h;exact⟨u,e n,g,d,.inr (.inr (.inr (.inr ⟨h4,v,(DZ z k3).2 q,by rw[<-Act.put_comm a v u k2];exact r⟩)))⟩
theorem f_ (e:UU f) (s:∀c a d v w,Q (.panic c) (a.put d v) w->Q (.panic c) a w) {j:Nat} {D:Oper} (m:f[j]? =some D) (n:2<=cl j/\cl j≠4):∀(l:Θ) (a:Act) (w:World),j∈l->l.Pairwise (λx y=>y=j->Px f cl x j=true)->wpC P f cl C Q l a w->
 wpOp P f Q j (λa w=>(cl j=2->C w)/\wpC P f cl C Q (l.erase j) a w) a w
 |[],a,w,h,_,_=>by cases h
 |x::l,a,w,hm,hp,h=>by
  simp only[wpC]at h;obtain⟨o,i,h⟩:=h;by_cases t:x=j
  ·subst t;rw[List.erase_cons_head];rcases h with⟨E,v,p,h⟩|⟨h1,hc,v,p,h⟩|⟨h2,h⟩|⟨h2,h4,h⟩|⟨h4,h⟩
   ·omega
   ·omega
   ·grind
   ·exact wpOp_mono (λa w g=>⟨λh=>om,g⟩) h
   ·omega
  ·have k:j∈l:=(e9.1 hm).resolve_left λh=>t h.symm;rw[List.erase_cons_tail (by simpa using t)];obtain⟨u,q⟩:=mh.1 hp;obtain⟨r,H⟩:=qF (u j k rfl) i m;have F:=λz b=>e x o z b i;have G:=λz b=>e j D z b m;rcases h with⟨E,v,p,h⟩|⟨h1,hc,v,p,h⟩|⟨h2,h⟩|⟨h2,h4,h⟩|⟨h4,h⟩
   ·have A:=f_ e s m n l (a.put o.dst v) w k q h;exact wpOp_mono (λI J ⟨g1,g2,g3⟩=>⟨g2,o,i,.inl ⟨E,v,g1,g3⟩⟩) (wpOp_put m r F G (λc a w=>s c a _ _ w) p A)
   ·have A:=f_ e s m n l (a.put o.dst v) w k q h;have B:cl j=2:=om;exact wpOp_mono (λI J ⟨g1,g2,g3⟩=>⟨g2,o,i,.inr (.inl ⟨h1,g2 B,v,g1,g3⟩)⟩) (wpOp_putIf m r F G (λc a w=>s c a _ _ w) p A)
   ·omega
   ·omega
   ·omega
def U4(m:Ϥ):List Edge->Nat
 |[]=>0
 |e::es=>bif Region.binds .any e then 2 ^ e.on ||| ((m.lookup e.on).getD 0 ||| U4 m es)else U4 m es
def EA(f:Ϡ):Θ->Ϥ->Ϥ
 |[],m=>m
 |i::l,m=>EA f l ((i,U4 m (((f[i]?).map (·.after.toList)).getD []))::m)
def IQ(f:Ϡ):Θ->Θ->Bool
 |[],_=>true
 |i::l,seen=> !seen.contains i&&decide (i<f.size)&&(((f[i]?).map (·.after.toList)).getD []).all (λe=> !Region.binds .any e||seen.contains e.on)&&IQ f l (i::seen)
def EB(f:Ϡ)(cl:Δ)(m:Ϥ):Θ->Bool
 |[]=>true
 |x::l=>l.all (λy=>((m.lookup y).getD 0).testBit x||Px f cl x y)&&EB f cl m l
def pD(f:Ϡ)(cl:Δ)(L:Θ):Bool:=
 Nat.ble L.length f.size&&Region.noSelect f&&IQ f L []&&(List.range f.size).all (λi=>L.contains i)&&EB f cl (EA f L []) L
def Dn(f:Ϡ)(l:Array Bool):Prop:=∀k o,f[k]? =some o->l.getD k false=true->∀e∈o.after,Region.binds .any e=true->l.getD e.on false=true
def Gd(f:Ϡ)(m:Ϥ):Prop:=∀y o x,f[y]? =some o->((m.lookup y).getD 0).testBit x=true->∀l,Dn f l->(∀e∈o.after,Region.binds .any e=true->l.getD e.on false=true)->l.getD x false=true
def fS{m}(hm:Gd f m){x l}(hd:Dn f l):∀(es:List Edge),(∀e∈es,Region.binds .any e=true->l.getD e.on false=true/\∃o,f[e.on]? =some o)->(U4 m es).testBit x=true->l.getD x false=true
 |[],_,h=>by simp[U4]at h
 |e::es,he,h=>by
  simp only[U4]at h
  cases a:Region.binds .any e with
  |false=>rw[a]at h;exact Ain
  |true=>
   rw[a]at h;simp only[cond_true,Nat.testBit_or,n8,Nat.testBit_two_pow]at h;obtain⟨g1,o,g2⟩:=he e (vq) a;rcases h with h|h|h
   grind
   exact hm e.on o x g2 h l hd (hd e.on o g2 g1);exact Ain
def qG:∀(L s:Θ) (m:Ϥ),(∀i∈s,i<f.size)->IQ f L s=true->Gd f m->Gd f (EA f L m)
 |[],_,m,_,_,h=>h
 |i::L,s,m,hs,ht,hm=>by
  simp only[IQ,gk,i6]at ht;obtain⟨⟨⟨h1,r⟩,j⟩,n⟩:=ht;refine qG L (i::s) _ (λk t=> ?_) n λy o x d c l g a=> ?_
  grind
  by_cases b:y=i;subst b;simp only[List.lookup_cons_self,jy,d,pj]at c j;refine fS hm g _ (λe p q=>⟨a e (by simpa using p) q,?_⟩) c
  grind
  have:(y==i)=false:=by simpa using b
  rw[List.lookup_cons,this]at c;exact hm y o x d c l g a
theorem UV (t:UU f) (hQ:∀c a d v w,Q (.panic c) (a.put d v) w->Q (.panic c) a w) {m:Ϥ} (hm:Gd f m):
 ∀(n:Nat) (b:Array Bool) (l:Θ) (a:Act) (w:World),l.length<=n->b.size=f.size->Dn f b->l.Nodup->(∀i,i<f.size->(b.getD i false=false↔i∈l))->(∀i∈l,i<f.size)->
  l.Pairwise (λx y=>(((m.lookup y).getD 0).testBit x||Px f cl x y)=true)->l.Pairwise (λx y=>∀o,f[x]? =some o->∀e∈o.after,Region.binds .any e=true->e.on≠y)->(∀x∈l,∀o,f[x]? =some o->∀e∈o.after,Region.binds .any e=true->e.on≠x/\e.on<f.size)->
  wpC P f cl C Q l a w->wpAny P .any f Q n b a w:=by
 intro n
 induction n with
 |zero=>
  intro b l a w hf N O R s A S T U h;have:l=[]:=kq om;subst this;refine⟨?_,h⟩;refine tb.2 λj V=> ?_;obtain⟨h0,o,ho,_⟩:=mem_ready.1 V
  grind
 |succ n ih=>
  intro b l a w hf N O R s A S T U h;refine⟨λh0=> ?_,λj V=> ?_⟩
  ·cases l with
   |nil=>exact h
   |cons x l=>
    exfalso;have B:=A x oS
    have hmem:x∈Region.ready .any f b:=by
     rw[mem_ready];have D:=(s x B).2 oS;refine⟨by grind,_,bz B,λe G H=> ?_⟩;obtain⟨k1,k2⟩:=U x oS _ (bz B) e G H
     cases hg:b.getD e.on false with
     |true=>rfl
     |false=>
      have:=(s e.on k2).1 hg;rcases e9.1 this with h1|h1
      ·grind
      ·exact cw rfl ((mh.1 T).1 e.on h1 _ (bz B) e G H)
    grind
  ·obtain ⟨hj0,oj,q,z⟩:=mem_ready.1 V;have W:=(ah.1 q).1;have X:b.getD j false=false:=by grind
   have I:=(s j W).1 X
   have J:l.Pairwise (λx y=>y=j->Px f cl x j=true):=by
    refine S.imp_of_mem λ{x y} B hy F Y=> ?_;subst Y;simp only[n8]at F;rcases F with F|F
    ·have:=hm y oj x q F b O z
     grind
    ·exact F
   have p:∀a w,wpC P f cl C Q (l.erase j) a w->wpAny P .any f Q n (b.setIfInBounds j true) a w:=λa w h=>by
    have r:=List.erase_sublist (a:=j) (l:=l);refine ih _ (l.erase j) a w ?_ (by grind) ?_ (R.erase j) (λi Z=> ?_) (λi Z=>A i (r.mem Z)) (S.sublist r) (T.sublist r) (λx B=>U x (r.mem B)) h
    ·grind
    ·intro k o K L e G H;by_cases M:j=k
     ·subst M;rw[q]at K;injection K with K;subst K;exact getD_set_true (z e G H)
     ·rw [getD_set_ne false M]at L;exact getD_set_true (O k o K L e G H)
    ·by_cases E:j=i
     ·subst E;have:¬j∈l.erase j:=λh=>(List.Nodup.mem_erase_iff R).1 h |>.1 rfl;simp_all
     ·rw [getD_set_ne false E,s i Z,List.mem_erase_of_ne (λh=>E h.symm)]
   by_cases hc:cl j<=1\/cl j=4
   ·obtain ⟨u,D,h'⟩:=xe t q hc l a w I J h;split at D
    ·exact D.wpOp q (p _ _ h')
    ·split at D
     ·exact D.wpOp q rfl (p _ _ h')
     ·exact D.2.wpOp q D.1 (p _ _ h')
   ·exact wpOp_mono (λa w g=>p a w g.2) (f_ t hQ q om l a w I J h)
def fT:∀(L s:Θ),IQ f L s=true->L.Nodup/\(∀i∈L,i<f.size/\i∉s)/\(∀x∈L,∀o,f[x]? =some o->∀e∈o.after,Region.binds .any e=true->e.on∈s\/e.on∈L/\e.on≠x)/\
 L.Pairwise (λx y=>∀o,f[x]? =some o->∀e∈o.after,Region.binds .any e=true->e.on≠y)
 |[],s,_=>⟨List.nodup_nil,oS,oS,List.Pairwise.nil⟩
 |i::L,s,h=>by
  simp only[IQ,gk,i6,Bool.not_eq_true',List.contains_eq_mem,decide_eq_false_iff_not]at h;obtain⟨⟨⟨h1,l⟩,m⟩,g⟩:=h;obtain⟨g1,g2,g3,g4⟩:=fT L (i::s) g
  have n:∀o,f[i]? =some o->∀e∈o.after,Region.binds .any e=true->e.on∈s:=λo b e c d=>by
   grind
  have a:i∉L:=λh=>(g2 i h).2 oS;refine⟨qp.2 ⟨a,g1⟩,λk p=> ?_,λx q o b e c d=> ?_,mh.2 ⟨λy r o b e c d j=> ?_,g4⟩⟩
  grind
  grind
  grind
def Y8{m}:∀(L:Θ),EB f cl m L=true->L.Pairwise (λx y=>(((m.lookup y).getD 0).testBit x||Px f cl x y)=true)
 |[],_=>List.Pairwise.nil
 |x::L,h=>by simp only[EB,gk]at h;exact mh.2 ⟨λy a=>ib.1 h.1 y a,Y8 L h.2⟩
def U5{L}(h:pD f cl L=true)(n:∀c a d v w,Q (.panic c) (a.put d v) w->Q (.panic c) a w){a w}(p:wpC P f cl C Q L a w):wpAny P .any f Q f.size (Array.replicate f.size false) a w:=by
 simp only[pD,gk]at h;obtain⟨⟨⟨⟨s,h1⟩,j⟩,t⟩,q⟩:=h;obtain⟨g1,g2,g3,g4⟩:=fT L [] j;have g:∀i,i<f.size->i∈L:=λi b=>by simp_all
 have r:∀i,(Array.replicate f.size false).getD i false=false:=λi=>by by_cases b:i<f.size<;>simp[b]
 refine UV (Region.noSelect_spec h1) n (m:=EA f L []) (qG L [] [] oS j λy o x _ l=>by simp at l) f.size _ L a w ?_ oS (λk o _ u=>by grind) g1 (λi b=>⟨λ_=>g i b,λ_=>r i⟩) (λi b=>(g2 i b).1) (Y8 L q) g4 (λx l o z e A B=> ?_) p;simp_all
 grind
end
section
variable{P:Program}{α g:Type}
def Cs{s:Sem α}{f:α->Sem g}(a:Cz P s)(h:∀x,Cz P (f x)):Cz P (s >>= f):=G0 a h
def Ls{s:Sem α}{f:α->Sem g}(a:still P s)(h:∀x,still P (f x)):still P (s >>= f):=Gu a h
def Ii(t):Cz P (underlying t):=by unfold underlying;show Cz P (match P.underlying t with|some d=>pure d|none=>stuck "no such type" :Sem TypeDesc);split<;>trivial
def Kw(t):Cz P (typeInfo t):=by unfold typeInfo;show Cz P (match P.info? t with|some d=>pure d|none=>stuck "no such type" :Sem TypeInfo);split<;>trivial
def Je(t):Cz P (sizeOf t):=Cs (Kw t) λ_=>trivial
def Ep(e:RuntimeError):dead P (runtimePanic e:Sem α):=by
 have h:∀t,Cz P (elemOf t):=λt=>by unfold elemOf;refine Cs (Ii t) λd=> ?_;split<;>trivial
 unfold runtimePanic;cases e<;>first|exact trivial|(refine Ri (s:=elemOf _) (λx=> ?_) (h _);exact λn=>trivial)
def Hf(t):Cz P (isAgg t):=by unfold isAgg;refine Cs (Ii t) λd=> ?_;split<;>trivial
def Sr(v):Cz P (asIntOf v):=by unfold asIntOf;split<;>trivial
def Ss(k x y)(c:BoundsCode):dead P (boundsPanic k x y c:Sem α):=by unfold boundsPanic;split;exact λn=>Ep (P:=P) (α:=α) (.bounds (IntKind.i64.wrap x) y (n==1) c);exact Ep (P:=P) (α:=α) (.bounds (IntKind.i64.wrap x) y (k !=.u64) c)
def Su(v):Cz P (asAgg v):=by unfold asAgg;split<;>trivial
def M0(v):Cz P (Instr.sureAddr v):=by unfold Instr.sureAddr;split<;>trivial
def M1(t c n):Cz P (part t c n):=by unfold part;refine Cs (Hf t) λb=> ?_;split;exact Cs (Je t) λ_=>trivial;split<;>trivial
def Acz(t x f):Cz P (Instr.field t x f):=by unfold Instr.field;exact Kv
def kS(x n):Cz P (Instr.extract x n):=by unfold Instr.extract;exact Kv
def wW(t x i):Cz P (Instr.index t x i):=by unfold Instr.index;dsimp only;exact Kv
def kT(t x i):Cz P (Instr.indexAt t x i):=by unfold Instr.indexAt;dsimp only;exact Kv
def AdC(x y)(c:BoundsCode):Cz P (Instr.sliceBound x y c):=by unfold Instr.sliceBound;dsimp only;exact Kv
def qH(b n m l h x):Cz P (Instr.sliceBounds b n m l h x):=by unfold Instr.sliceBounds;dsimp only;repeat' first|exact AdC _ _ _|exact trivial|exact Ii _|exact Kw _|exact Je _|exact Hf _|exact Sr _|exact Su _|exact M0 _|exact M1 _ _ _|exact A9 (Ss _ _ _ _)|exact A9 (Ep _)|refine Cs ?_ (λ_=> ?_)|split
def AdD(v):Cz P (asAddr v):=by unfold asAddr;exact Kv
def wX(t x l h m):Cz P (Instr.slice t x l h m):=by unfold Instr.slice;dsimp only;repeat' first|exact qH _ _ _ _ _ _|exact AdD _|exact trivial|exact Ii _|exact Kw _|exact Je _|exact Hf _|exact Sr _|exact Su _|exact M0 _|exact M1 _ _ _|exact A9 (Ss _ _ _ _)|exact A9 (Ep _)|refine Cs ?_ (λ_=> ?_)|split
def kU(t x l h m):Cz P (Instr.sliceAt t x l h m):=by unfold Instr.sliceAt;dsimp only;repeat' first|exact qH _ _ _ _ _ _|exact wX _ _ _ _ _|exact trivial|exact Ii _|exact Kw _|exact Je _|exact Hf _|exact Sr _|exact Su _|exact M0 _|exact M1 _ _ _|exact A9 (Ss _ _ _ _)|exact A9 (Ep _)|refine Cs ?_ (λ_=> ?_)|split
def EC(o k x y):Cz P (Op.intArith o k x y):=by unfold Op.intArith;exact Kv
def ED(o k x y):Cz P (Op.intBits o k x y):=by unfold Op.intBits;dsimp only;exact Kv
def AdE(o x):Cz P (Op.unary o x):=by unfold Op.unary;repeat' first|exact EC _ _ _ _|exact ED _ _ _ _|exact trivial|exact Ii _|exact Kw _|exact Je _|exact Hf _|exact Sr _|exact Su _|exact M0 _|exact M1 _ _ _|exact A9 (Ss _ _ _ _)|exact A9 (Ep _)|refine Cs ?_ (λ_=> ?_)|split
def AdF(t x):Cz P (Instr.makeInterface t x):=by unfold Instr.makeInterface;exact Kv
def AdG{f n}(h:(P.info? f.type).map (·.size)=some n)(a:n≠0)(b):Cz P (fieldPlace b f):=by
 cases hq:P.info? f.type with
 |none=>grind
 |some inf=>rw[hq]at h;simp at h;simp[fieldPlace,sizeOf,typeInfo,program,Bind.bind,Sem.bind,Cz,hq,h,a,Pure.pure]
def AiM{f:α->Sem g}(h:∀x,Cz P (f x)):∀l:List α,Cz P (l.mapM f)
 |[]=>by rw[List.mapM_nil];trivial
 |x::l=>by rw[List.mapM_cons];exact Cs (h x) λ_=>Cs (AiM h l) λ_=>trivial
def Anc(t:TypeId)(p):Cz P (Instr.build t p):=by
 have h:Cz P (zeroValue t):=by unfold zeroValue;refine Cs (Kw t) λi=> ?_;split<;>trivial
 unfold Instr.build;refine Cs h λz=>Cs (Ii t) λd=> ?_;split;rw[Array.mapM_eq_mapM_toList,map_eq_pure_bind];refine Cs (Cs (AiM (λf=> ?_) _) λ_=>trivial) λpl=> ?_;exact Cs (Je _) λ_=>trivial;split<;>trivial;refine Cs (Je _) λn=> ?_;split<;>trivial;trivial
def M3{s:Sem Value}(h:Cz P s):Cz P (do pure (.value (<-s)):Sem Next):=Cs h λ_=>trivial
def AdH{s:Sem Value}(h:still P s):still P (do pure (.value (<-s)):Sem Next):=Ls h λ_=>trivial
def qI(a):∀(n i:Nat) (b:Array Value),still P (loadCellsFrom a i n b)
 |0,i,b=>trivial
 |n+1,i,b=>by unfold loadCellsFrom;exact Ls (λv=>trivial) λv=>qI a n (i+1) _
def wY(t x):still P (Instr.loadAt t x):=by unfold Instr.loadAt loadVar;refine Ls (Fa (M0 _)) λa=>Ls (Fa (Hf _)) λb=> ?_;split;exact Ls (Fa (Je _)) λn=>Ls (qI _ _ _ _) λ_=>trivial;exact λv=>trivial
def UW{c}{d:TypeDesc}(h:P.underlying c=some d)(f:∀k e,d≠ .map k e)(i:∀a b,d≠ .chan a b)(j:∀e,d≠ .pointer e)(t x):Cz P (Builtin.len_ #[c] t #[x]):=by unfold Builtin.len_;simp only[underlying,program,Bind.bind,Sem.bind,List.getElem?_toArray,ba,Cz,h,Pure.pure];cases d<;>cases x<;>first|exact cw rfl (f _ _)|exact cw rfl (i _ _)|exact cw rfl (j _)|trivial
def AdI(o t x y){a b}(h1:a≠ .nilIface\/∃v,y=.const v)(h:∀c,a≠ .agg c):Cz P (eqGuard o t x y a b):=by
 unfold eqGuard;rcases h1 with h1|⟨v,rfl⟩
 .repeat' first|exact trivial|exact cw rfl h1|exact cw rfl (h _)|split
 .simp only[Bool.or_true,if_true];repeat' first|exact trivial|exact cw rfl (h _)|split
def Y9{a b}(t)(h:(∃x y,a=.bool x/\b=.bool y)\/(a=.nilIface\/∃u v,a=.iface u v)/\b=.nilIface):Cz P (Op.equal t a b):=by unfold Op.equal;show Cz P (Op.equalIn (9999+1) t a b);unfold Op.equalIn;refine Cs (Ii t) λd=> ?_;rcases h with⟨x,y,rfl,rfl⟩|⟨rfl|⟨u,v,rfl⟩,rfl⟩<;>cases d<;>exact trivial
def JR:Value->Value->Nat
 |.int _ _,.int _ _=>1
 |.string _,.string _=>2
 |.bool _,.bool _=>3
 |.nilIface,.nilIface=>4
 |.iface _ _,.nilIface=>4
 |_,_=>0
def UX(o t){a b}(h:JR a b≠0):Cz P (binOp o t a b):=by
 unfold JR at h;split at h
 .rename_i k x c y
  cases o<;>unfold binOp<;>simp only[]<;>first
   |(unfold Op.shift;split<;>first|exact A9 (Ep _)|exact trivial)
   |(split<;>first|exact trivial|exact EC _ _ _ _|exact ED _ _ _ _|(unfold Op.intDiv;split<;>first|exact A9 (Ep _)|exact trivial)|(unfold Op.intCmp;exact trivial))
 .cases o<;>unfold binOp<;>simp only[]<;>unfold Op.stringOp<;>simp only[]<;>first|exact trivial|(split<;>exact trivial)
 .rename_i x y;cases o<;>unfold binOp<;>simp only[]<;>first|exact trivial|exact Cs (Y9 t (.inl ⟨_,_,rfl,rfl⟩)) λ_=>trivial
 .cases o<;>unfold binOp<;>simp only[]<;>first|exact trivial|exact Cs (Y9 t (.inr ⟨.inl rfl,rfl⟩)) λ_=>trivial
 .cases o<;>unfold binOp<;>simp only[]<;>first|exact trivial|exact Cs (Y9 t (.inr ⟨.inr ⟨_,_,rfl⟩,rfl⟩)) λ_=>trivial
 grind
def EF:∀(l:List FieldStep) (t:TypeId) (x:Option Value),Cz P (followBlind l t x)
 |[],t,x=>trivial
 |s::l,t,x=>by unfold followBlind;repeat' first|exact trivial|exact Ii _|exact Kw _|exact Je _|exact Hf _|exact M1 _ _ _|exact A9 (Ep _)|exact EF l _ _|refine Cs ?_ (λ_=> ?_)|split
def EG:∀(n:Nat) (t:TypeId) (v:Value) (a:String),Cz P (nilAhead n t v a)
 |0,t,v,a=>trivial
 |n+1,t,v,a=>by unfold nilAhead;repeat' first|exact trivial|exact Ii _|exact Kw _|exact Je _|exact Hf _|exact M1 _ _ _|exact A9 (Ep _)|exact EG n _ _ _|exact EF _ _ _|refine Cs ?_ (λ_=> ?_)|split
def kV:∀(l:ϴ) (x:Value),(∀v∈x::l,∃k n,v=.int k n)->Cz P (l.foldlM Builtin.min2 x)/\Cz P (l.foldlM Builtin.max2 x)
 |[],x,_=>⟨trivial,trivial⟩
 |y::l,x,h=>by
  obtain⟨k,n,rfl⟩:=h x oS;obtain⟨a,b,rfl⟩:=h y oS
  have i:=λm=>kV l (.int k m) λv c=>by
   grind
  rw[List.foldlM_cons,List.foldlM_cons];exact⟨(i _).1,(i _).2⟩
end
def vS:Option TI->Nat->Bool
 |some i,f=>(match i.td.ig[f]? with
  |some (_,some n,_)=>n != 0
  |_=>false)
 |none,_=>false
def vT:Option TI->Bool
 |some i=>i.td.str||i.td.elem.isSome||i.td.arr.isSome
 |none=>false
def Yq(T:Br)(c:Call):Nat:=match c.callee,c.args.toList,c.argTypes.toList with
 |.builtin .len,[_],[ty]=>bif vT (T ty)then 0 else 3
 |.builtin .min,_,_=>0
 |.builtin .max,_,_=>0
 |_,_,_=>3
def kc(T:Br):Op->Nat
 |.build .. |.makeFunc .. |.move _|.assign _|.pick .. |.field .. |.extract .. |.indexAddr .. |.index .. |.slice .. |.unOp .. |.makeInterface .. |.nilCheck _|.binOp .. =>0
 |.fieldAddr t _ f=>bif vS (T t) f then 0 else 3
 |.load .. =>1
 |.call c=>Yq T c
 |_=>3
abbrev Bt:=Γ->Op->Φ->Φ->Ω->(Value->Ω)->Prop
def gE(X:Θ)(q:Nat):AV->Bool
 |.elt _=>true
 |.ref s _=>X.contains s
 |.box _ _=>X.contains q
 |_=>false
def xN:AV->Bool
 |.elt _=>true
 |.ref _ _=>true
 |.box _ _=>true
 |.raw (.pointer (some ⟨_,_,none⟩))=>true
 |_=>false
def RV(T:Br)(t q:Nat)(a:Act)(w:World):Prop:=∃(i:TI) (b o:Nat) (c:ϴ),T t=some i/\a.eval (.tmp q)=.pointer (some ⟨b,o,none⟩)/\c.length=dh i/\∀(j:Nat) (u:Value),c[j]? =some u->w.cell? ⟨b,o+j,none⟩=some u
def Rk{a}{x:Array a}{l:List a}(h:x.toList=l):x=l.toArray:=by grind
section
variable[Env]{P:Program}{T:Br}
structure Dy (P:Program) (T:Br) (hp:Bt):Prop where
 sound:∀{bg:Ϙ} {w0 w:World} {S0 c0:Δ} {γ σ:Φ} {a:Act} {o:Oper} {K:Ω} {E:Value->Ω} {Q:Exit->Ϣ},Ah bg w0 S0 c0 γ σ a w->hp o.dst o.op γ σ K E->
  (∀v γ' σ' w',E v γ' σ'->Ah bg w0 S0 c0 γ' σ' a w'->Q (.panic [{v:=v,recovered:=false}]) a w')->o.wp P a w (λa' w'=>∃γ' σ',K γ' σ'/\Ah bg w0 S0 c0 γ' σ' a' w') Q
 qE:∀{d:Γ} {op:Op} {γ σ:Φ} {K:Ω} {E E':Value->Ω},kc T op<=1->hp d op γ σ K E->hp d op γ σ K E'
 yp:∀{X:Θ} {t q:Nat} {d:Γ} {γ σ:Φ} {K:Ω} {E:Value->Ω},hp d (.load t (.tmp q)) γ σ K E->gE X q (σ.getD q .any)=true->On P T d (.load t (.tmp q)) σ (K γ)
 ld:∀{bg:Ϙ} {w0 w:World} {S0 c0:Δ} {γ σ:Φ} {a:Act} {t q:Nat} {d:Γ} {K:Ω} {E:Value->Ω},Ah bg w0 S0 c0 γ σ a w->hp d (.load t (.tmp q)) γ σ K E->xN (σ.getD q .any)=true->RV T t q a w
end
def RY:Operand->Bool
 |.const _=>true
 |_=>false
def qk(y:Operand):Nat->Prop
 |0=>False
 |4=>RY y=true
 |_=>True
def wN(y:Operand):AV->AV->Prop
 |.raw a,.raw b=>qk y (JR a b)
 |_,_=>False
def pE:AV->Bool
 |.raw (.int _ _)=>true
 |_=>false
def qb(o:Op)(a:Φ):Prop:=match o with
 |.binOp _ _ x y _=>wN y (bj a x) (bj a y)
 |.call c=>(match c.callee with
  |.builtin .len=>True
  |_=>(c.args.toList.map (bj a)).all pE=true)
 |_=>True
section
variable[Env]{g:Ϙ}{P:Program}{T:Br}{D:Bt}{q w:World}{A B:Nat->Nat}{C j:Φ}{a:Act}{o:Oper}
def AdV(b:Ax P T){t}(h:vT (T t)=true):∃d,P.underlying t=some d/\(∀k e,d≠ .map k e)/\(∀x y,d≠ .chan x y)/\∀e,d≠ .pointer e:=by
 unfold vT at h;split at h
 .rename_i i c;obtain⟨f,z,d,_,_,_,_,_,l,m⟩:=(b t i c).get;refine⟨d,l,?_⟩;rw[<-m]at h;cases d<;>simp[Gy]at h<;>exact⟨λ_ _=>oS,λ_ _=>oS,λ_=>oS⟩
 .cases h
def ints{b:List Operand}(h:Ah g q A B C j a w)(hq:(b.map (bj j)).all pE=true):∀v∈b.map a.eval,∃k n,v=.int k n:=by
 intro v c;obtain⟨x,d,rfl⟩:=dm.1 c;have:=ib.1 hq _ (dm.2 ⟨x,d,rfl⟩);unfold pE at this;split at this;rename_i k n e;exact⟨k,n,h.ic e⟩
 .cases this
theorem EJ(Q:Ax P T)(E:kc T o.op=0)(hq:qb o.op j)(z:Ah g q A B C j a w):Cz P (execOp a.eval o):=by
 unfold execOp;dsimp only;cases S:o.op<;>rw[S]at E hq<;>simp only[kc,reduceCtorEq]at E<;>try (first|exact trivial|cases E;done)
 case pick c x y=>exact Cs (by unfold asBool;split<;>trivial) λ_=>trivial
 case fieldAddr t x f=>
  cases s:vS (T t) f with
  |false=>grind
  |true=>
   unfold vS at s;split at s
   .rename_i i F;split at s
    .rename_i fo n ag U;obtain⟨fs,fd,K,L,R,M,V⟩:=Mu (Q t i F) U;refine M3 ?_;simp only[Instr.fieldAt,underlying,program,Bind.bind,Sem.bind,Cz,K,Pure.pure,L];exact G0 (M0 _) λW=>G0 (AdG M (by grind) W) λ_=>trivial
    .cases s
   .cases s
 case field t x f=>exact M3 (Acz _ _ _)
 case extract x n=>exact M3 (kS _ _)
 case build t ps=>exact M3 (Anc _ _)
 case index t x y=>exact M3 (wW _ _ _)
 case indexAddr t x y=>exact M3 (kT _ _ _)
 case slice t x l h m=>exact M3 (kU _ _ _ _ _)
 case unOp u t x=>exact M3 (AdE _ _)
 case makeInterface t x=>exact M3 (AdF _ _)
 case nilCheck x=>
  dsimp only;split
  .exact A9 (Ep _)
  .exact A9 (Ep _)
  .exact A9 (Ep _)
  .split
   .exact A9 (Ep _)
   .refine Cs trivial λp=>Cs (EG _ _ _ _) λb=> ?_;split<;>trivial
   .trivial
  .trivial
 case binOp b t x y t'=>
  dsimp only;simp only[qb]at hq;unfold wN at hq;split at hq
  .rename_i u v K X;rw[z.ic K,z.ic X];have G:JR u v≠0:=λh=>by rw[h]at hq;exact hq
   refine M3 (Cs (AdI _ _ _ _ ?_ ?_) λ_=>UX _ _ G)
   .by_cases I:JR u v=4
    .rw[I]at hq;simp only[qk]at hq;cases y<;>simp only[RY,f0]at hq
     grind
    .left;rintro rfl;cases v<;>simp[JR]at G I
   .rintro cs rfl;cases v<;>simp[JR]at G
  grind
 case call c=>
  obtain⟨J,e,Y⟩:=c;unfold Yq at E;simp only at E;split at E
  .rename_i _ x Z N O
   cases H:vT (T Z)with
   |false=>grind
   |true=>obtain⟨d,h1,h2,h3,I⟩:=AdV Q H;have e1:=Rk N;have e2:=Rk O;subst e1;subst e2;simp only[resolve,Bind.bind,Pure.pure,Sem.bind,invoke,builtin,List.map_toArray,ev,db];exact G0 (UW h1 h2 h3 I _ _) λ_=>trivial
  .have F:∀v∈e.toList.map a.eval,∃k n,v=.int k n:=ints z (show(e.toList.map (bj j)).all pE=true from hq);simp only[resolve,Bind.bind,Pure.pure,Sem.bind,invoke,builtin,Builtin.min_,Array.toList_map];refine G0 ?_ λ_=>trivial
   cases H:e.toList.map a.eval with
   |nil=>trivial
   |cons x r=>rw[H]at F;exact(kV r x F).1
  .have F:∀v∈e.toList.map a.eval,∃k n,v=.int k n:=ints z (show(e.toList.map (bj j)).all pE=true from hq);simp only[resolve,Bind.bind,Pure.pure,Sem.bind,invoke,builtin,Builtin.max_,Array.toList_map];refine G0 ?_ λ_=>trivial
   cases H:e.toList.map a.eval with
   |nil=>trivial
   |cons x r=>rw[H]at F;exact(kV r x F).2
  .cases E
def kZ(T c):Yq T c=0\/Yq T c=3:=by
 unfold Yq
 grind
def VG(k:Ax P T)(d:kc T o.op<=1)(hq:kc T o.op=0->qb o.op j)(e:Ah g q A B C j a w):still P (execOp a.eval o):=by
 by_cases b:kc T o.op=0;exact Fa (EJ k b (hq b) e)
 .unfold execOp;dsimp only;cases l:o.op<;>rw[l]at d b<;>simp only[kc,reduceCtorEq]at d b<;>try (first|exact cw trivial b|omega)
  case fieldAddr t x f=>cases i:vS (T t) f<;>rw[i]at d b<;>simp at d b
  case load t x=>exact AdH (wY _ _)
  case call c=>
   rcases kZ T c with h|h<;>rw[h]at d b
   grind
   omega
def VH{s:Sem Value}{n:Next}{w b}(h:(do pure (.value (<-s)):Sem Next).run P w=.ok n b):∃v,n=.value v:=by
 rw[ft]at h
 cases c:s.run P w with
 |ok x w1=>
  rw[c]at h;simp only[gq,ia]at h
  grind
 |halt x w1=>simp_all
def VI{l:Operand->Value}{n:Next}{m}(r:kc T o.op<=1)(h:(execOp l o).run P w=.ok n m):∃v,n=.value v:=by
 unfold execOp at h;dsimp only at h;cases t:o.op<;>rw[t]at r h<;>simp only[kc,reduceCtorEq]at r<;>try (first|exact VH h|omega)
 case move x=>simp only[ia]at h;injection h with h _;exact⟨_,h.symm⟩
 case assign x=>simp only[ia]at h;injection h with h _;exact⟨_,h.symm⟩
 case pick c x y=>
  rw[ft]at h
  cases i:(asBool (l c)).run P w with
  |ok b w1=>
   rw[i]at h;simp only[gq,ia]at h
   grind
  |halt x w1=>simp_all
 case nilCheck x=>
  dsimp only at h;have k:∀{u:Value},(pure (.value u):Sem Next).run P w=.ok n m->∃v,n=.value v:=λh=>by simp only[ia]at h;grind
  split at h;exact CQ;exact CQ;exact CQ
  .split at h
   exact CQ
   .rw[ft]at h
    cases i:(program).run P w with
    |halt x w1=>simp_all
    |ok p w1=>
     rw[i]at h;simp only[gq]at h;rw[ft]at h
     cases d:(nilAhead (p.types.size+Made.depth) _ _ _).run P w1 with
     |halt x w1=>rw[d]at h;cases h
     |ok b w2=> rw[d]at h;simp only[gq]at h;split at h;simp_all;simp only[ia]at h;grind
   exact k h
  exact k h
 case call c=>
  rcases kZ T c with e|e
  .obtain⟨f,s,z⟩:=c;unfold Yq at e;simp only at e;split at e
   exact OV;exact OV;exact OV
   .cases e
  grind
def H2(k:Ax P T)(l:Dy P T D){K}{E:Value->Ω}(i:kc T o.op<=1)(hq:kc T o.op=0->qb o.op j)(c:Ah g q A B C j a w)(h:D o.dst o.op C j K E):
 ∃v,(execOp a.eval o).run P w=.ok (.value v) w/\(kc T o.op=0->∀m,(execOp a.eval o).run P m=.ok (.value v) m)/\∃d e,K d e/\Ah g q A B d e (a.put o.dst v) w:=by
 have b:=l.sound (Q:=λ_ _ _=>False) c (l.qE (E':=λ_ _ _=>False) i h) λ_ _ _ _ r _=>r;unfold Oper.wp at b
 cases f:(execOp a.eval o).run P w with
 |halt x w1=>rw[f]at b;cases x<;>exact b.elim
 |ok n w1=>obtain⟨v,rfl⟩:=VI i f;have s:=G3 (VG k i hq c) f;subst s;rw[f]at b;exact⟨v,rfl,λp=>Y6 (EJ k p (hq p) c) f,b⟩
end
section
variable[Env]
variable{I:Ϙ}
def vU(X:Θ)(o:Op)(a:Φ):Bool:=match o with
 |.load _ (.tmp q)=>gE X q (a.getD q .any)
 |_=>false
def vV(o:Op)(a:Φ):Bool:=match o with
 |.load _ (.tmp q)=>xN (a.getD q .any)
 |_=>false
def nq(X:Θ)(f:Nat)(o:Op)(a:Φ)(A:Prop):Prop:=match f with
 |0=>qb o a/\A
 |1=>vU X o a=true/\A
 |5=>vV o a=true/\A
 |_=>A
def Ct(h:Bt)(X:Θ)(K:Ω)(E:Value->Ω):List (CO×Nat)->Ω
 |[],γ,σ=>K γ σ
 |(⟨d,op,none⟩,f)::l,γ,σ=>nq X f op σ (h d op γ σ (Ct h X K E l) E)
 |(⟨d,op,some (t,want)⟩,f)::l,γ,σ=>
  match σ.getD t .any with
  |.raw (.bool e)=>
   Dx e
    (if want then nq X f op (σ.set t (.raw (.bool true))) (h d op γ (σ.set t (.raw (.bool true))) (Ct h X K E l) E)else Ct h X K E l γ (am (σ.set t (.raw (.bool true))) d (.a6 [])))
    (if want then Ct h X K E l γ (am (σ.set t (.raw (.bool false))) d (.a6 []))else nq X f op (σ.set t (.raw (.bool false))) (h d op γ (σ.set t (.raw (.bool false))) (Ct h X K E l) E))
  |.a6 []=>Ct h X K E l γ (am σ d (.a6 []))
  |_=>False
def F5(a:Ϡ):Ϥ->Option (List (CO×Nat))
 |[]=>some []
 |(i,f)::l=>match a[i]? with
  |some o=>(match El a o.guard,F5 a l with
   |some g,some r=>some ((⟨o.dst,o.op,g⟩,f)::r)
   |_,_=>none)
  |none=>none
section
variable{P:Program}{T:Br}{B:Bt}{G w:World}{D H:Nat->Nat}{A σ:Φ}{a:Act}{m:Ϡ}{cl:Nat->Nat}{C:World->Prop}{Q:Exit->Act->World->Prop}{K:Φ->Φ->Prop}{E:Value->Φ->Φ->Prop}{X:Θ}
def Lv{i f l L}(d:F5 m ((i,f)::l)=some L)(hst:Ah I G D H A σ a w)(h:Ct B X K E L A σ):
 ∃o r,m[i]? =some o/\F5 m l=some r/\((Region.wanted o (yielded m a.tmps)=true/\∃k,Ah I G D H A k a w/\nq X f o.op k (B o.dst o.op A k (Ct B X K E r) E))\/
  (Region.wanted o (yielded m a.tmps)=false/\∃k,Ah I G D H A k (a.put o.dst undef) w/\Ct B X K E r A k)):=by
 simp only[F5]at d;split at d
 .rename_i o M;split at d
  .rename_i g r n hr;injection d with d;subst d;refine⟨o,r,M,hr,?_⟩
   cases p:o.guard with
   |none=>rw[p]at n;simp only[El]at n;injection n with n;subst n;exact .inl ⟨by simp[Region.wanted,p],σ,hst,h⟩
   |some jw=>
    obtain⟨j,q⟩:=jw;rw[p]at n;simp only[El]at n;split at n
    .rename_i t ht;injection n with n;subst n;simp only[Ct]at h
     have z:∀{x:AV},σ.getD t .any=x->x≠ .any->∃v S c,yielded m a.tmps j=(match v with
      |.bool b=>some b
      |_=>none)/\Ac w S [x] [v] c:=λ{x} hx hne=>by
      exact AgC
     split at h
     .rename_i e F;obtain⟨v,S,c,u,hy⟩:=z F oS;have e1:=(Az hy).1;subst e1;have J:=Us F oS;have s:∀b,e=b->Ah I G D H A (σ.set t (.raw (.bool b))) a w:=by intro b N;subst N;rw[set_self J F];exact hst
      have y:Region.wanted o (yielded m a.tmps)=(e==q):=by simp[Region.wanted,p,u]
      rw[y]
      cases e with
      |true=>
       have h:=h.1 rfl
       cases q with
       |true=>grind
       |false=>exact .inr ⟨rfl,_,(s true rfl).skip _,h⟩
      |false=>
       have h:=h.2 rfl
       cases q with
       |true=>exact .inr ⟨rfl,_,(s false rfl).skip _,h⟩
       |false=>grind
     rename_i F;obtain⟨v,S,c,u,hy⟩:=z F oS;have e1:v=.tuple #[]:=by exact CB
     subst e1;exact .inr ⟨by simp[Region.wanted,p,u],_,hst.skip _,h⟩
     grind
    .cases n
  .cases d
 .cases d
def Ah.base(h:Ah I G D H A σ a w):∃S c,(∀b,D b<=S b)/\Ah I w S c A σ a w/\∀d e f w',Ah I w S c d e f w'->Ah I G D H d e f w':=by obtain⟨S,c,c1,l,g,n,o,h1,p,q,k⟩:=h;refine⟨S,λb=>c b+c1 b,k.le,⟨S,c,c1,l,g,n,o,h1,p,q,bt w S _⟩,λd e f w' ⟨s,r,i,j,k1,k2,k3,k4,k5,k6,k7⟩=>⟨s,r,i,j,k1,k2,k3,k4,k5,k6,k.trans k7⟩⟩
def CF(F:List (Nat×Nat×Value))(w:World):Prop:=∀p∈F,w.cell? ⟨p.1,p.2.1,none⟩=some p.2.2
def Sf(F:List (Nat×Nat×Value))(w:World)(S c:Δ):Prop:=∀p∈F,p.2.1<S p.1\/(c p.1=0/\p.1<w.heap.size)
def CF.keep{F b S s c d}(h:CF F w)(e:Sf F w S c)(k:Stp w S c b s d):CF F b:=λp B=>by
 rcases e p B with h1|⟨h1,h2⟩;rw[k.cell _ _ h1];exact h p B;have:=(k.keep _ h2 h1).1;have f:=h p B;unfold World.cell? at f⊢
 grind
theorem J6 (Z:Ax P T) (V:Dy P T B) {F:List (Nat×Nat×Value)} {M c1:Δ} {J:World} {n:Nat} (W:n=2\/n=3) (hF:n=2->CF F J/\Sf F J M c1) (O:C=CF F\/n=3) {l2:Θ}:
 ∀(l:Ϥ) (Y:List (CO×Nat)) (A σ:Φ) (a:Act) (w:World),F5 m l=some Y->(∀p∈l,(p.2=0/\cl p.1=0/\∀o,m[p.1]? =some o->kc T o.op=0)\/(p.2≠0/\p.2≠4/\cl p.1=n)\/(p.2=4/\cl p.1=4/\∀o,m[p.1]? =some o->kc T o.op=1))->Ah I J M c1 A σ a w->Ct B X K E Y A σ->
  (∀A σ u j,Ah I J M c1 A σ u j->K A σ->(∀s,(∀p∈l,∀o,m[p.1]? =some o->o.dst≠some s)->u.tmps[s]? =a.tmps[s]?)->wpC P m cl C Q l2 u j)->(∀v A σ u j,E v A σ->Ah I J M c1 A σ u j->Q (.panic [{v:=v,recovered:=false}]) u j)->wpC P m cl C Q (l.map (·.1)++l2) a w
 |[],Y,A,σ,a,w,x,hl,k,h,hK,hE=>by simp only[F5]at x;injection x with x;subst x;exact hK A σ a w k h λs _=>rfl
 |(i,f)::l,Y,A,σ,a,w,x,hl,k,h,hK,hE=>by
  obtain⟨o,r,N,hr,q⟩:=Lv x k h
  have R:∀{A σ:Φ} {u:Act} {j:World},Ah I J M c1 A σ u j->n=2->C j:=λ{A σ u j} k z=>by
   rcases O with O|O
   ·obtain ⟨S,c,c1,gv,_,_,_,_,_,_,t⟩:=k;rw[O];exact(hF z).1.keep (hF z).2 t
   ·omega
  have b:∀(A σ:Φ) (U:Act) (w:World),(∀s,o.dst≠some s->U.tmps[s]? =a.tmps[s]?)->Ah I J M c1 A σ U w->Ct B X K E r A σ->wpC P m cl C Q (l.map (·.1)++l2) U w:=λA σ U w ht k h=>
   J6 Z V W hF O l r A σ U w hr (λp B=>hl p (nh _ B)) k h (λd e u j k1 k2 k3=>hK d e u j k1 k2 λs t=>(k3 s λp B=>t p (nh _ B)).trans (ht s (t (i,f) oS o N))) hE
  simp only[ev,fj,wpC];refine⟨o,N,?_⟩;rcases hl (i,f) oS with⟨L,h1,z⟩|⟨L,h04,h1⟩|⟨L,h1,z⟩
  ·simp only at L h1;subst L;refine .inl ⟨h1,?_⟩;rcases q with⟨q,g,dp,hq,y⟩|⟨q,g,dp,y⟩
   ·obtain ⟨v,k1,k2,d,e,k3,k4⟩:=H2 Z V (by grind) (λ_=>hq) dp y;exact⟨v,.inl ⟨q,k2 (z o N)⟩,b d e _ w (λs t=>Dh _ _ _ s t) k4 k3⟩
   ·exact ⟨undef,.inr ⟨q,rfl⟩,b A g _ w (λs t=>Dh _ _ _ s t) dp y⟩
  ·simp only at L h1
   have one:wpOp P m Q i (λa w=>(n=2->C w)/\wpC P m cl C Q (l.map (·.1)++l2) a w) a w:=by
    unfold wpOp;simp only[N];rcases q with⟨q,g,dp,y⟩|⟨q,g,dp,y⟩
    ·rw [bn q]
     have y:B o.dst o.op A g (Ct B X K E r) E:=by
      unfold nq at y
      grind
     left;refine Ba (λu j ⟨⟨d,e,k1,k2⟩,k3⟩=>⟨λz=>R k2 z,b d e u j k3 k2 k1⟩) (I9 (V.sound dp y λv d e j g1 g2=>hE v d e a j g1 g2))
    ·rw [ar (by simp [q])];exact⟨λz=>R dp z,b A g _ w (λs t=>Dh _ _ _ s t) dp y⟩
   rcases W with W|W
   ·grind
   simp_all
  ·simp only at L h1;subst L;refine .inr (.inr (.inr (.inr ⟨h1,?_⟩)));rcases q with⟨q,g,dp,y⟩|⟨q,g,dp,y⟩
   ·obtain ⟨v,k1,k2,d,e,k3,k4⟩:=H2 Z V (by rw[z o N];exact bx _) (λhz=>by rw[z o N]at hz;cases hz) dp y;exact⟨v,.inl ⟨q,λj hw'=>by rw[hw'];exact k1⟩,b d e _ w (λs t=>Dh _ _ _ s t) k4 k3⟩
   ·exact ⟨undef,.inr ⟨q,rfl⟩,b A g _ w (λs t=>Dh _ _ _ s t) dp y⟩
def LC(T:Br)(X:Θ)(t q:Nat)(S:Δ)(a:Act)(w:World):Prop:=∃(i:TI) (b o:Nat) (c:ϴ),T t=some i/\a.eval (.tmp q)=.pointer (some ⟨b,o,none⟩)/\c.length=dh i/\
 (∀(j:Nat) (u:Value),c[j]? =some u->w.cell? ⟨b,o+j,none⟩=some u)/\(o+c.length<=S b\/∃s∈X,a.tmps.toList[s]? =some (.pointer (some ⟨b,0,none⟩)))
def xO(hT:Ax P T){X:Θ}{t q:Nat}{d:Γ}{L:Ψ}{S c:Δ}(x:bm σ a.tmps.toList)(l:Ac w S σ a.tmps.toList c)(h:On P T d (.load t (.tmp q)) σ L)(p:gE X q (σ.getD q .any)=true):
 LC T X t q S a w:=by
 unfold On Wb at h;dsimp only at h
 have box:∀{s o f:Nat} {g:Φ} {i:TI},T t=some i->σ.getD s .any=.box f g->s∈X->o+dh i<=g.length->(∀b,a.tmps.toList[s]? =some (.pointer (some ⟨b,0,none⟩))->a.eval (.tmp q)=.pointer (some ⟨b,o,none⟩))->
  LC T X t q S a w:=λ{s o f g i} e k R hl U=>by
  obtain⟨b,n,d1,c2,V,z,hS,F,N,W,Y,r⟩:=Ha l k;have J:=F.length;simp at J;refine⟨i,b,o,(n.toList.drop o).take (dh i),e,U b r,by simp;omega,λj u O=> ?_,.inr ⟨s,R,r⟩⟩;rw[cell_of_row w b (o+j) n f (0,0) z]
  grind
 cases hq:σ.getD q .any<;>rw[hq]at p<;>simp only[gE,f0]at p
 case box f g=>
  rw[hq]at h;unfold Gm at h;dsimp only at h;split at h;rename_i i e;unfold I7 at h;simp only[hq]at h;exact box e hq (by simpa using p) om λb k=>Cu k
  grind
 case ref s o=>
  rw[hq]at h;unfold Gm at h;dsimp only at h;split at h
  .rename_i i e;unfold I7 at h;simp only[hq]at h;split at h
   .rename_i f g k;refine box e k (by simpa using p) h.1 λb M=> ?_;obtain⟨b2,g1,g2⟩:=x.ref q s o f g (A8 l hq oS) (A8 l k oS);rw[M]at g1;cases g1;exact Cu g2
   grind
  grind
 case elt y=>
  rw[hq]at h;unfold Gm at h;dsimp only at h;split at h
  .rename_i i e;unfold I7 at h;simp only[hq]at h;obtain⟨v,c1,c2,r,Z,h2,Y⟩:=l.take q (A8 l hq oS)
   cases Z with
   |elt hsp hcv h0 hcell hst hnil=>rename_i ad cv ce;obtain⟨bb,oo,sp⟩:=ad;simp at hsp;subst hsp;exact⟨i,bb,oo,cv,e,Cu r,by rw[hcv.length];exact h.2.1,λj u O=>(hcell j u O).1,.inl hst⟩
  grind
def VJ{t b off:Nat}{i:TI}{cv:ϴ}(k:Df P t i)(c:cv.length=dh i)(f:∀j u,cv[j]? =some u->w.cell? ⟨b,off+j,none⟩=some u):(Instr.loadAt t (.pointer (some ⟨b,off,none⟩))).run P w=.ok (if i.td.agg then .agg cv.toArray else cv.headD undef) w:=by
 obtain⟨l,z,d,g1,_,_,g4,_,g6,g⟩:=k.get;have h:=Ra (P:=P) (d:=d);unfold dh at c
 cases e:i.td.agg with
 |true=>
  simp only[if_true];apply run_loadAt_mid w b off t cv d f g6
  .rw[g,e]at h;cases d<;>simp_all [Uo]
  grind
 |false=>
  have hagg:(isAgg t).run P w=.ok false w:=by rw[g,e]at h;exact BV
  rw[e]at c;simp at c
  match cv,c with
  |[u],_=>have:=f 0 u rfl;exact AhX
def fU(hT:Ax P T)(hH:Dy P T B){l2}:∀(l:Ϥ) (j:List (CO×Nat)) (A σ:Φ) (a:Act),F5 m l=some j->(∀p∈l,(∀o,m[p.1]? =some o->kc T o.op<=1)/\((p.2=0/\cl p.1=0/\∀o,m[p.1]? =some o->kc T o.op=0)\/(p.2=2/\cl p.1=1/\∀o,m[p.1]? =some o->kc T o.op=1)))->Ah I G D H A σ a w->Ct B X K E j A σ->
 (∀A σ g,Ah I G D H A σ g w->K A σ->(∀s,(∀p∈l,∀o,m[p.1]? =some o->o.dst≠some s)->g.tmps[s]? =a.tmps[s]?)->wpC P m cl (·=w) Q l2 g w)->wpC P m cl (·=w) Q (l.map (·.1)++l2) a w
 |[],j,A,σ,a,b,hl,c,h,hK=>by simp only[F5]at b;injection b with b;subst b;exact hK A σ a c h λs _=>rfl
 |(i,f)::l,j,A,σ,a,b,hl,c,h,hK=>by
  obtain⟨o,r,ho,q,hw⟩:=Lv b c h;obtain⟨d,k⟩:=hl (i,f) oS;have hle:=d o ho;clear d
  have rest:∀(A σ:Φ) (v:Value),Ah I G D H A σ (a.put o.dst v) w->Ct B X K E r A σ->wpC P m cl (·=w) Q (l.map (·.1)++l2) (a.put o.dst v) w:=λA σ v c h=>
   fU hT hH l r A σ _ q (λp B=>hl p (nh _ B)) c h λγ' σ' g k1 k2 k3=>hK γ' σ' g k1 k2 λs n=>(k3 s λp B=>n p (nh _ B)).trans (Dh _ _ _ s (n (i,f) oS o ho))
  simp only[ev,fj,wpC];refine⟨o,ho,?_⟩;rcases hw with⟨hw,e,dp,hh⟩|⟨hw,e,dp,hh⟩;rcases k with⟨h0,h1,h2⟩|⟨h0,h1,h2⟩;exact Ag4;simp only at h0 h1;subst h0;obtain⟨v,k1,k2,γ',σ',k3,k4⟩:=H2 hT hH hle (λu=>by grind) dp hh;exact .inr (.inl ⟨h1,trivial,v,.inl ⟨hw,λx t=>by grind⟩,rest γ' σ' v k4 k3⟩);rcases k with⟨h0,h1,h2⟩|⟨h0,h1,h2⟩;exact .inl ⟨h1,undef,.inr ⟨hw,rfl⟩,rest A e undef dp hh⟩;exact .inr (.inl ⟨h1,trivial,undef,.inr ⟨hw,rfl⟩,rest A e undef dp hh⟩)
def fV(hT:Ax P T)(hH:Dy P T B):∀(l:Ϥ) (cs:List (CO×Nat)) (A σ:Φ) (a:Act) (S c:Δ),F5 m l=some cs->(∀p∈l,(p.2=0/\cl p.1=0/\∀o,m[p.1]? =some o->kc T o.op=0)\/(p.2=1/\cl p.1=1/\∀o,m[p.1]? =some o->kc T o.op=1))->
 (∀p∈l,∀o,m[p.1]? =some o->∀s∈X,o.dst≠some s)->Ah I w S c A σ a w->Ct B X K E cs A σ->
 ∃F J d e y O,(∀b,S b<=y b)/\CF F w/\(∀p∈F,p.2.1<y p.1\/∃s∈X,J.tmps.toList[s]? =some (.pointer (some ⟨p.1,0,none⟩)))/\Ah I w y O d e J w/\(∀A σ a g,Ah I w y O A σ a g->Ah I w S c A σ a g)/\K d e/\
  (∀s,(∀p∈l,∀o,m[p.1]? =some o->o.dst≠some s)->J.tmps[s]? =a.tmps[s]?)/\∀n,(∀p∈F,p∈n)->CF n w->∀l2,wpC P m cl (CF n) Q l2 J w->wpC P m cl (CF n) Q (l.map (·.1)++l2) a w
 |[],cs,A,σ,a,S,c,z,hl,hX,hst,h=>by simp only[F5]at z;injection z with z;subst z;exact⟨[],a,A,σ,S,c,λ_=>bx _,by simp[CF],oS,hst,λ_ _ _ _ h=>h,h,λ_ _=>rfl,λn _ _ l2 h=>h⟩
 |(i,f)::l,cs,A,σ,a,S,c,z,hl,hX,hst,h=>by
  obtain⟨o,r,ho,hr,W⟩:=Lv z hst h;have hc:=hl (i,f) oS;have hXo:=hX (i,f) oS o ho
  have L:∀(R k:Φ) (v:Value) (Z c1:Δ) (F1:List (Nat×Nat×Value)),(∀b,S b<=Z b)->CF F1 w->(∀p∈F1,p.2.1<Z p.1\/∃s∈X,(a.put o.dst v).tmps.toList[s]? =some (.pointer (some ⟨p.1,0,none⟩)))->Ah I w Z c1 R k (a.put o.dst v) w->(∀A σ a g,Ah I w Z c1 A σ a g->Ah I w S c A σ a g)->Ct B X K E r R k->
   ((cl i=0/\Yields P m o v a)\/(cl i=1/\∀n,(∀p∈F1,p∈n)->YieldsIf P m (CF n) o v a))->
   ∃F J d e y O,(∀b,S b<=y b)/\CF F w/\(∀p∈F,p.2.1<y p.1\/∃s∈X,J.tmps.toList[s]? =some (.pointer (some ⟨p.1,0,none⟩)))/\Ah I w y O d e J w/\(∀A σ a g,Ah I w y O A σ a g->Ah I w S c A σ a g)/\K d e/\
    (∀s,(∀p∈(i,f)::l,∀o,m[p.1]? =some o->o.dst≠some s)->J.tmps[s]? =a.tmps[s]?)/\∀n,(∀p∈F,p∈n)->CF n w->∀l2,wpC P m cl (CF n) Q l2 J w->wpC P m cl (CF n) Q (((i,f)::l).map (·.1)++l2) a w:=by
   intro R k v Z c1 F1 hS hF hP dp x M hy;obtain⟨F,J,d,e,y,O,k1,k2,k3,k4,k5,k6,k7,k8⟩:=fV hT hH l r R k _ Z c1 hr (λp B=>hl p (nh _ B)) (λp B=>hX p (nh _ B)) dp M;refine⟨F1++F,J,d,e,y,O,λb=>cp (hS b) (k1 b),λp B=> ?_,λp B=> ?_,k4,λA σ a g h=>x _ _ _ _ (k5 _ _ _ _ h),k6,λs U=>(k7 s λp B=>U p (nh _ B)).trans (Dh _ _ _ s (U (i,f) oS o ho)),λn hF' hCF l2 h=> ?_⟩;rcases ff.1 B with B|B;exact hF p B;exact k2 p B
   grind
   simp only[ev,fj,wpC]
   grind
  rcases W with⟨W,k,dp,M⟩|⟨W,k,dp,M⟩
  .rcases hc with⟨Y,h1,h2⟩|⟨Y,h1,h2⟩
   simp only at Y h1;subst Y;obtain⟨v,k1,k2,d,e,k3,k4⟩:=H2 hT hH (by grind) (λ_=>M.1) dp M.2;exact L d e v S c [] (λ_=>bx _) (by simp[CF]) oS k4 (λ_ _ _ _ h=>h) k3 (.inl ⟨h1,.inl ⟨W,k2 (h2 o ho)⟩⟩)
   .simp only at Y h1;subst Y;obtain⟨hld,M⟩:=M;obtain⟨S2,c2,c3,gv,hrf,hrr,hg,g1,hd,hz,U⟩:=dp;have ka:Ah I w S2 (λb=>c2 b+c3 b) A k a w:=⟨S2,c2,c3,gv,hrf,hrr,hg,g1,hd,hz,bt w S2 _⟩;have x:∀A σ a g,Ah I w S2 (λb=>c2 b+c3 b) A σ a g->Ah I w S c A σ a g:=λA σ a g ⟨y,O,c1',gv',q1,q2,q3,q4,q5,q6,q7⟩=>⟨y,O,c1',gv',q1,q2,q3,q4,q5,q6,U.trans q7⟩;obtain⟨v,k1,k2,d,e,k3,k4⟩:=H2 hT hH (by grind) (λhz=>by grind) ka M;unfold vU at hld;split at hld
    rename_i t q qg;have zp:On P T o.dst (.load t (.tmp q)) k (Ct B X K E r A):=by rw[qg]at M;exact hH.yp M hld
    obtain⟨j,b,N,V,e1,e2,e3,e4,e5⟩:=xO hT hrf hrr zp hld;have hrun:∀g,(∀(j:Nat) (u:Value),V[j]? =some u->g.cell? ⟨b,N+j,none⟩=some u)->(execOp a.eval o).run P g=.ok (.value (if j.td.agg then .agg V.toArray else V.headD undef)) g:=λg hcw=>by exact Ah4
    have hv:v=(if j.td.agg then .agg V.toArray else V.headD undef):=by
     grind
    have hmem:∀p∈(V.zipIdx.map λ(u,j)=>(b,N+j,u)),∃j,V[j]? =some p.2.2/\p.1=b/\p.2.1=N+j:=λp B=>by
     grind
    refine L d e v S2 _ (V.zipIdx.map λ(u,j)=>(b,N+j,u)) U.le (λp B=> ?_) (λp B=> ?_) k4 x k3 (.inr ⟨h1,λn hF'=>.inl ⟨W,λg hw'=> ?_⟩⟩)
    grind
    obtain⟨j,g1,g2,g3⟩:=hmem p B;have hj:=(ab.1 g1).1;rcases e5 with e5|⟨s,U,e5⟩
    grind
    right;refine⟨s,U,?_⟩;rw[g2];rw[ak]at e5⊢;rw[Dh _ _ _ s (hXo s U)];exact e5;rw[hv];refine hrun g λj u hj=>hw' (b,N+j,u) (hF' _ (dm.2 ⟨(u,j),su.2 (by simpa using hj),rfl⟩))
    .cases hld
  refine L A k undef S c [] (λ_=>bx _) (by simp[CF]) oS dp (λ_ _ _ _ h=>h) M ?_;rcases hc with⟨Y,h1,h2⟩|⟨Y,h1,h2⟩;exact .inl ⟨h1,.inr ⟨W,rfl⟩⟩;exact .inr ⟨h1,λn _=>.inr ⟨W,rfl⟩⟩
end
end
section
variable[Env]
variable{bg:Ϙ}
def rst(s:Nat)(x:AV)(K:Ψ)(a:Φ):Prop:=match x with
 |.box T cs=>a.all (Lj s)=true/\K (a.set s (.box T cs))
 |.ref t off=>Lr (a.getD t .any)=true/\t≠s/\K (a.set s (.ref t off))
 |.row _ _ _|.alias _|.pref _ _ _ _=>False
 |x=>K (a.set s x)
def hcd(X:Θ)(x:AV)(σ:Φ):Prop:=match x with
 |.ref t _=>X.contains t=true/\Lr (σ.getD t .any)=true
 |.bp _ _ _|.bw _ _ _=>False
 |_=>True
def vW(s:Nat)(x:AV)(K:Ω)(a b:Φ):Prop:=rst s x (K a) b
def qN(r:Ω->Ω):Θ->Ω->Ω
 |[],K,γ,σ=>r K γ σ
 |s::X,K,γ,σ=>hcd X (σ.getD s .any) σ/\qN r X (vW s (σ.getD s .any) K) γ (σ.set s .any)
section
variable{P:Program}{T:Br}{hp:Bt}{w0 w:World}{S0 c0:Nat->Nat}{g σ:Φ}{a:Act}{f:Ϡ}{cl:Nat->Nat}{C:World->Prop}{Q:Exit->Act->World->Prop}{K:Φ->Φ->Prop}{E:Value->Φ->Φ->Prop}{X:Θ}
def Ah.forget(h:Ah bg w0 S0 c0 g σ a w)(s):Ah bg w0 S0 c0 g (σ.set s .any) a w:=by
 by_cases k:s<σ.length;obtain⟨S,c,c1,m,e,l,n,h1,o,p,i⟩:=h;have j:s<a.tmps.toList.length:=by rw[l.length];exact k
 obtain⟨q,d,r⟩:=l.put (.any (v:=a.tmps.toList[s]) (.nil Al)) s k;rw[Ag (ac j)]at d;exact⟨S,q,c1,m,e.less s rfl,d,n,λb=>by grind,o,p,i.drop λb=>by grind⟩;rw[sy om];exact h
def Stp.more{w' S S' c d i}(h:Stp w S c w' S' i)(j:∀b,c b<=d b):Stp w S d w' S' i:=
 ⟨h.os,h.tape,h.output,h.size,λb e k=>h.keep b e (by have:=j b;omega),h.cell,h.le,λb e=>cp (h.own b e) (j b)⟩
def ϑ(Q:Exit->Ϣ)(F:List (Nat×Nat×Value))(i:Θ)(j:Ϣ->Ϣ)(r:Ω->Ω)(E:Value->Ψ):Prop:=
 ∀(bg:Ϙ) (w:World) (S c:Δ) (g σ:Φ) (a:Act) (K:Ω) (p:Ϣ),Ah bg w S c g σ a w->CF F w->Sf F w S c->r K g σ->
  (∀b d e h,Ah bg w S c b d e h->K b d->(∀s∈i,e.tmps[s]? =a.tmps[s]?)->p e h)->(∀v b d e h,E v b->Ah bg w S c b d e h->Q (.panic [{v:=v,recovered:=false}]) e h)->j p a w
def fW{F fr}{go:Ϣ->Ϣ}{O:Ω->Ω}{E:Value->Ψ}(B:ϑ Q F fr go O E):
 ∀(X:Θ),(∀s∈X,s∈fr)->∀(bg:Ϙ) (w:World) (S c:Δ) (g σ:Φ) (a:Act) (K:Ω) (l:Ϣ),Ah bg w S c g σ a w->CF F w->
  (∀p∈F,p.2.1<S p.1\/(c p.1=0/\p.1<w.heap.size)\/∃s∈X,Lr (σ.getD s .any)=true/\a.tmps.toList[s]? =some (.pointer (some ⟨p.1,0,none⟩)))->qN O X K g σ->
  (∀m i r q,Ah bg w S c m i r q->K m i->(∀s∈fr,r.tmps[s]? =a.tmps[s]?)->l r q)->(∀v m i r q,E v m->Ah bg w S c m i r q->Q (.panic [{v:=v,recovered:=false}]) r q)->go l a w
 |[],_,bg,w,S,c,g,σ,a,K,l,hst,hC,hS,h,hp,hE=>B bg w S c g σ a K l hst hC (λp hp=>by
  rcases hS p hp with h|h|⟨s,hs,_⟩;exact .inl h;exact .inr h
  .cases hs) h hp hE
 |s::X,hX,bg,w,S,c,g,σ,a,K,l,hst,hC,hS,h,hp,hE=>by
  have ih:=fW B X λt R=>hX t (by simp[R]);have hsf:=hX s oS;simp only[qN]at h;obtain⟨hcd,h⟩:=h;by_cases hs:s<σ.length
  case neg=>
   have e1:σ.set s .any=σ:=sy om;have e2:σ.getD s .any=.any:=E5 om;rw[e1,e2]at h;refine ih bg w S c g σ a _ l hst hC (λp hp=> ?_) h (λm i r q g1 g2 g3=>hp m _ r q (g1.forget s) g2 g3) hE;rcases hS p hp with h|h|⟨t,R,hb,hv⟩;exact .inl h
   grind
   .rcases e9.1 R with rfl|R
    .rw[e2]at hb;cases hb
    grind
  case pos=>
   obtain⟨N,D,G,gv,U,hr,hg,h1,hd,hz,u⟩:=hst;obtain⟨x,V⟩:∃x,σ[s]? =some x:=⟨_,ac hs⟩;have W:σ.getD s .any=x:=by grind
   obtain⟨v,c1,c2,hv,hZ,hr2,hc⟩:=hr.take s V;have Y:Ah bg w N (λb=>c2 b+G b) g (σ.set s .any) a w:=⟨N,c2,G,gv,U.less s rfl,hr2,hg,λb=>by grind,hd,hz,bt w N _⟩;have up:∀{q:World} {H d:Δ},Stp w N (λb=>c2 b+G b) q H d->Stp w N (λb=>D b+G b) q H d:=λk=>k.more λb=>by grind
   rw[W]at h;refine ih bg w N (λb=>c2 b+G b) g _ a _ l Y hC (λp hp=> ?_) h (λm i r q g1 g2 g3=> ?_) λv m i r q g1 ⟨H,c',y,I,q1,q2,q3,q4,q5,q6,q7⟩=>hE v m i r q g1 ⟨H,c',y,I,q1,q2,q3,q4,q5,q6,u.trans (up q7)⟩
   .rcases hS p hp with h|⟨h,z⟩|⟨t,R,hb,A⟩
    exact .inl (og h (u.le _));refine .inr (.inl ⟨?_,z⟩);have:=u.own _ z;grind
    .by_cases hts:t=s
     .subst hts;rw[W]at hb;rw[hv]at A;injection A with A;subst A
      have z:0<c1 p.1:=by
       cases x<;>simp only[Lr,f0]at hb
       cases hZ with
       |box hb' hS' h3 ho h4 hcc=>grind
      refine .inr (.inl ⟨?_,hZ.lt _ z⟩)
      grind
     grind
   .obtain⟨H,c',y,I,J,kr,kg,k1,kd,kz,n⟩:=g1
    have L:r.tmps.toList[s]? =some v:=by
     grind
    have Z:Ac q H [x] [v] c1:=hZ.step n λb=>by grind
    have hlen:s<i.length:=by
     have:=kr.length
     grind
    obtain⟨c'',wl,kle⟩:=kr.put Z s hlen;rw[Ag L]at wl
    have M:bm (i.set s x) r.tmps.toList->K m (i.set s x)->l r q:=λmt hK=>by
     refine hp m _ r q ⟨H,c'',y,I,mt,wl,kg,λb=> ?_,kd,kz,u.trans ?_⟩ hK g3;have:=kle b;by_cases hb:b<w.heap.size;have e1:c' b+y b<=c2 b+G b:=n.own b hb
     grind
     exact Aht;refine⟨n.os,n.tape,n.output,n.size,λb hb hcb=>n.keep b hb (by grind),n.cell,n.le,λb hb=> ?_⟩;have e1:c' b+y b<=c2 b+G b:=n.own b hb
     grind
    cases x with
    |box T D=>exact M (by
     have:=J.jd (d:=s) T D v g2.1;rwa [Ag L]at this) g2.2
    |ref t off=>
     obtain⟨q1,q2,q3⟩:=g2;refine M ?_ q3;rw[W]at hcd;obtain⟨p1,p2⟩:=hcd
     obtain⟨T0,cs0,hb0⟩:∃T D,σ.getD t .any=.box T D:=by
      cases hq:σ.getD t .any<;>rw[hq]at p2<;>simp[Lr]at p2
      grind
     obtain⟨T1,cs1,hb1⟩:∃T D,i.getD t .any=.box T D:=by
      cases hq:i.getD t .any<;>rw[hq]at q1<;>simp[Lr]at q1
      grind
     obtain⟨b,r1,r2⟩:=U.ref s t off T0 cs0 V (A8 hr hb0 oS);have htf:=g3 t (hX t (nh _ (by simpa using p1)));rw[hv]at r2;injection r2 with r2;have:=J.o5 (d:=s) (off:=off) (b:=b) (A8 kr hb1 oS) q2 (by grind) kr.length;rw[<-r2,Ag L]at this;exact this
    |row e k es=>exact g2.elim
    |alias t=>exact g2.elim
    |pref t k j o=>exact g2.elim
    |bp b T D=>rw[W]at hcd;exact hcd.elim
    |bw b ks vs=>rw[W]at hcd;exact hcd.elim
    |_=>exact M (J.less s rfl) g2
def Ol (b l2:Ϥ) (l:Ϥ) (i:Nat):Nat:=match l.lookup i with
 |some 0=>0
 |some 4=>4
 |some _=>bif (b.lookup i).isSome then 1 else bif (l2.lookup i).isSome then 2 else 3
 |none=>3
def RZ(hp:Bt)(K:Ω)(E:Value->Ω)(l b:List (CO×Nat)):Ω:=Ct hp [] (Ct hp [] K E b) E l
def ϐ(X:Θ)(σ:Φ):Bool:=X.all λs=>match σ.getD s .any with
 |.box _ _=>true
 |.ref t _=>X.contains t&&Lr (σ.getD t .any)
 |_=>false
def vX(hp:Bt)(E:Value->Ω)(l2:List (CO×Nat))(K:Ω):Ω:=Ct hp [] K E l2
def hd2(hp:Bt)(K:Ω)(E:Value->Ω)(X:Θ)(l b:List (CO×Nat))(g σ:Φ):Prop:=ϐ X σ=true/\qN (vX hp E l) X (Ct hp [] K E b) g σ
def SC(hp:Bt)(K:Ω)(E:Value->Ω)(X Y:Θ)(l l2 b:List (CO×Nat)):Ω:=Ct hp X (hd2 hp K E Y l2 b) E l
def wD(T:Br)(f:Ϡ)(n:Nat)(p:Nat×Nat):Bool:=match f[p.1]? with
 |some o=>(p.2==0&&kc T o.op==0)||(p.2==n&&kc T o.op==1)
 |none=>false
def VK (T:Br) (f:Ϡ) (p:Nat×Nat):Bool:=match f[p.1]? with
 |some o=>(p.2 != 0||kc T o.op==0)&&(p.2 != 4||kc T o.op==1)
 |none=>false
def Ql (cl:Δ) (n:Nat) (p:Nat×Nat):Bool:=cl p.1==bif p.2==0 then 0 else bif p.2==4 then 4 else n
def xZ(f:Ϡ)(X:Θ)(p:Nat×Nat):Bool:=match f[p.1]? with
 |some o=>X.all λs=>o.dst != some s
 |none=>false
def IV(T:Br)(f:Ϡ)(n:Nat)(X Y:Θ)(l l2 b:Ϥ):Bool:=
 pD f (Ol l l2 (l++(l2++b))) ((l++(l2++b)).map (·.1))&&(l.all (wD T f n)&&(l2.all (VK T f)&&(b.all (VK T f)&&(l.all (Ql (Ol l l2 (l++(l2++b))) 1)&&(l2.all (Ql (Ol l l2 (l++(l2++b))) 2)&&(b.all (Ql (Ol l l2 (l++(l2++b))) 3)&&((l.all (xZ f X)&&(l2.all (xZ f Y)&&X.all (λs=>Y.contains s))))))))))
def qO{n p}(h:wD T f n p=true):(p.2=0/\∀o,f[p.1]? =some o->kc T o.op=0)\/(p.2=n/\∀o,f[p.1]? =some o->kc T o.op=1):=by
 unfold wD at h
 grind
def fX{p}(h:VK T f p=true)(b:p.2=0):∀o,f[p.1]? =some o->kc T o.op=0:=by
 unfold VK at h
 grind
theorem dv {p:Nat×Nat} (h:VK T f p=true) (b:p.2=4):∀o,f[p.1]? =some o->kc T o.op=1:=by
 unfold VK at h
 grind
theorem Om {n:Nat} {p:Nat×Nat} (h:Ql cl n p=true):(p.2=0->cl p.1=0)/\(p.2≠0->p.2≠4->cl p.1=n)/\(p.2=4->cl p.1=4):=by
 unfold Ql at h
 grind
def qP{p}(h:xZ f X p=true):∀o,f[p.1]? =some o->∀s∈X,o.dst≠some s:=by
 unfold xZ at h
 grind
def QR(bg:Ϙ)(w0:World)(S0 c0:Δ)(K:Ω)(E:Value->Ψ):Exit->Ϣ
 |.normal,a,w=>∃g σ,K g σ/\Ah bg w0 S0 c0 g σ a w
 |.panic [⟨v,false,false⟩],a,w=>∃g σ,E v g/\Ah bg w0 S0 c0 g σ a w
 |_,_,_=>False
def Ah.blank{d v}(h:Ah bg w0 S0 c0 g σ (a.put d v) w):∃n,Ah bg w0 S0 c0 g n a w:=by
 obtain⟨S,c,c1,r,t,D,y,h1,z,A,B⟩:=h
 have p:∀(us:ϴ),Ac w S (List.replicate us.length .any) us (λ_=>0):=λus=>by
  induction us with
  |nil=>exact .nil Al
  |cons u us ih=>exact .any ih
 have q:a.defers=bg:=by rw[<-z,G5]
 refine⟨_,S,_,c1,r,?_,p a.tmps.toList,y,λb=>by grind,q,A,B.drop λb=>Nat.add_le_add_right (gu _) _⟩;have l:∀{i:Nat} {x:AV},(List.replicate a.tmps.toList.length AV.any)[i]? =some x->x=.any:=λm=>vu (cu m);exact⟨λi s off T F m _=>cw (l m) oS,λi s e k es m _=>cw (l m) oS,λi s k j o e G es m _=>cw (l m) oS⟩
def xP{E:Value->Ψ}{c d v}(h:QR bg w0 S0 c0 K E (.panic c) (a.put d v) w):QR bg w0 S0 c0 K E (.panic c) a w:=by
 match c,h with
 |[⟨v',false,false⟩],⟨g,σ,hE,h⟩=>obtain⟨b,h⟩:=h.blank;exact⟨g,b,hE,h⟩
def IW(q:Ax P T)(r:Dy P T hp){E:Value->Ψ}{l e c1 k}(h1:F5 f l=some c1)(t:F5 f e=some k)(i:IV T f 2 [] [] l [] e=true)(b:Ah bg w0 S0 c0 g σ a w)(h:RZ hp K (λv g _=>E v g) c1 k g σ):
 wpAny P .any f (QR bg w0 S0 c0 K E) f.size (Array.replicate f.size false) a w:=by
 simp only[IV,gk,fm,List.all_nil]at i;obtain⟨k1,k2,_,k4,k5,_,k7,_⟩:=i
 have s:wpC P f (Ol l [] (l++e)) (·=w) (QR bg w0 S0 c0 K E) (l.map (·.1)++e.map (·.1)) a w:=by
  refine fU q r l c1 g σ a h1 (λp hp=> AgV) b h λm o u j x _=> ?_;have:=J6 (C:=(·=w)) (n:=3) (l2:=[]) (F:=[]) q r (.inr rfl) (λh=>om) (.inr rfl) (Q:=QR bg w0 S0 c0 K E) e k m o u w t (cl:=Ol l [] (l++e)) (λp hp=> ?_) j x (λg σ a w b y _=>⟨g,σ,y,b⟩) (λv g σ a w z b=>⟨g,σ,z,b⟩)
  grind
  exact XR
 rw[<-ip]at s;exact U5 k1 (λc a d v w h=>xP h) s
theorem IX {Y:Θ} (z:Ax P T) (A:Dy P T hp) {E:Value->Ψ} {l l2 j:Ϥ} {c1 c2 B:List (CO×Nat)} (h1:F5 f l=some c1) (h2:F5 f l2=some c2) (h3:F5 f j=some B) (r:IV T f 1 X Y l l2 j=true) (e:Ah bg w0 S0 c0 g σ a w) (h:SC hp K (λv g _=>E v g) X Y c1 c2 B g σ):
 wpAny P .any f (QR bg w0 S0 c0 K E) f.size (Array.replicate f.size false) a w:=by
 simp only[IV,gk]at r;obtain⟨k1,k2,k3,k4,k5,k6,k7,k8,k9,k10⟩:=r;obtain⟨S,c,_,dp,d⟩:=e.base
 obtain⟨F,a',D,q,S',c',q1,q2,q3,q4,G,H,q7,q8⟩:=fV (Q:=QR bg w0 S0 c0 K E) (cl:=Ol l l2 (l++(l2++j))) z A l c1 g σ a S c h1 (λp hp=>by
  have g1:=Om (ib.1 k5 p hp);rcases qO (ib.1 k2 p hp)with⟨g2,g3⟩|⟨g2,g3⟩
  ·grind
  ·exact .inr ⟨g2,g1.2.1 om om,g3⟩) (λp hp=>qP (ib.1 k8 p hp)) dp h
 have I:∀s∈X,s∈Y:=λs i=>by grind
 have J:∀s∈Y,∀p∈l2,∀o,f[p.1]? =some o->o.dst≠some s:=λs i p hp o M=>qP (ib.1 k9 p hp) o M s i
 have u:ϑ (QR bg w0 S0 c0 K E) F Y (λm a w=>∀L,(∀a w,m a w->wpC P f (Ol l l2 (l++(l2++j))) (CF F) (QR bg w0 S0 c0 K E) L a w)->wpC P f (Ol l l2 (l++(l2++j))) (CF F) (QR bg w0 S0 c0 K E) (l2.map (·.1)++L) a w) (vX hp (λv g _=>E v g) c2) E:=by
  intro dfs' w' S2 c2' N O a2 K2 m x hC hS hh hp R L hL
  exact J6 (C:=CF F) (n:=2) z A (.inl rfl) (λ_=>⟨hC,hS⟩) (.inl rfl) l2 c2 N O a2 w' h2 (λp hp=>by
   have g1:=Om (ib.1 k6 p hp);by_cases hp0:p.2=0
   ·exact .inl ⟨hp0,g1.1 hp0,fX (ib.1 k3 p hp) hp0⟩
   by_cases o8:p.2=4
   ·exact .inr (.inr ⟨o8,g1.2.2 o8,dv (ib.1 k3 p hp) o8⟩)
   ·exact .inr (.inl ⟨hp0,o8,g1.2.1 hp0 o8⟩)) x hh (λg σ a w g1 g2 g3=>hL a w (hp g σ a w g1 g2 λs i=>g3 s λp hp o M=>J s i p hp o M)) (λv g σ a w g1 g2=>R v g σ a w g1 g2)
 obtain⟨U,H⟩:=H;have y:=fW u Y (λs i=>i) bg w S' c' D q a' _ (λa w=>wpC P f (Ol l l2 (l++(l2++j))) (CF F) (QR bg w0 S0 c0 K E) (j.map (·.1)) a w) q4 q2 (λp hp=> ?_) H (λV W a3 w3 g1 g2 _=> ?_) (λv g σ a w g1 g2=>⟨g,σ,g1,d _ _ _ _ (G _ _ _ _ g2)⟩) (j.map (·.1)) (λa w h=>h)
 ·have hw:=q8 F (λp hp=>hp) q2 _ y;exact AhB
 ·rcases q3 p hp with h|⟨s,i,h⟩
  ·exact .inl h
  ·right;right;have i:=I s i;have k:=ib.1 U s i;split at k
   ·rename_i Te cs Z;exact⟨s,i,by rw[Z];rfl,h⟩
   ·rename_i t off Z;simp only[gk]at k;obtain⟨Sx,cx,iq,gvx,hrf,hr,_⟩:=q4
    obtain⟨T0,cs0,hb0⟩:∃T cs,q.getD t .any=.box T cs:=by
     have p2:=k.2;cases hq:q.getD t .any<;>rw[hq]at p2<;>simp [Lr]at p2
     grind
    obtain⟨b,r1,r2⟩:=hrf.ref s t off T0 cs0 (A8 hr Z oS) (A8 hr hb0 oS)
    grind
   ·cases k
 ·have:=J6 (C:=CF F) (n:=3) (l2:=[]) (F:=[]) z A (.inr rfl) (λh=>om) (.inr rfl) (Q:=QR bg w0 S0 c0 K E) j B V W a3 w3 h3 (cl:=Ol l l2 (l++(l2++j))) (λp hp=> ?_) g1 g2 (λg σ a w e hK _=>⟨g,σ,hK,d _ _ _ _ (G _ _ _ _ e)⟩) (λv g σ a w R e=>⟨g,σ,R,d _ _ _ _ (G _ _ _ _ e)⟩)
  ·grind
  ·exact XR
end
end
def p4{a:Type}(P:Program):Sem a->Prop
 |.pure _=>True
 |.program k=>p4 P (k P)
 |.mark _ k=>p4 P k
 |.new _ k=>∀n,p4 P (k n)
 |.halt _=>True
 |_=>False
def C3(w a:World):Prop:=∀b,b<w.heap.size->a.heap[b]? =w.heap[b]?
def C3.refl(w):C3 w w:=λ_ _=>rfl
def C3.size{w a}(h:C3 w a){b}(c:b<w.heap.size):b<a.heap.size:=by
 have:=h b c
 grind
def C3.trans{w a c}(h:C3 w a)(k:C3 a c):C3 w c:=λb d=>(k b (h.size d)).trans (h b d)
section
variable{c d:Type}{P:Program}
def G4:∀{s:Sem c} {f:c->Sem d},p4 P s->(∀x,p4 P (f x))->p4 P (s.bind f)
 |.pure a,f,_,h=>h a
 |.program k,f,hs,h=>G4 (s:=k P) hs h
 |.mark _ k,f,hs,h=>G4 (s:=k) hs h
 |.new _ k,f,hs,h=>λn=>G4 (hs n) h
 |.halt _,f,_,_=>trivial
 |.choose ..,_,hs,_|.load ..,_,hs,_|.store ..,_,hs,_|.shape ..,_,hs,_|.freeze ..,_,hs,_|.frozen ..,_,hs,_|.getObj ..,_,hs,_|.setObj ..,_,hs,_|.sys ..,_,hs,_=>hs.elim
def Sv{e}{x:c}:∀{s:Sem c} {w:World},p4 P s->s.run P w=.ok x e->C3 w e
 |.pure a,w,_,h=>by simp only[Sem.run]at h;injection h with h1 f;rw[<-f];exact C3.refl w
 |.program k,w,hs,h=>Sv (s:=k P) hs (by simpa only[Sem.run]using h)
 |.mark _ k,w,hs,h=>Sv (s:=k) hs (by simpa only[Sem.run]using h)
 |.new o k,w,hs,h=>by simp only[Sem.run]at h;exact C3.trans (λb g=>by grind) (Sv (hs _) h)
 |.halt _,_,_,h=>by simp_all
 |.choose ..,_,hs,_|.load ..,_,hs,_|.store ..,_,hs,_|.shape ..,_,hs,_|.freeze ..,_,hs,_|.frozen ..,_,hs,_|.getObj ..,_,hs,_|.setObj ..,_,hs,_|.sys ..,_,hs,_=>hs.elim
def xQ(t):p4 P (Instr.alloc t true (.tuple #[])):=by
 have h:p4 P (zeroValue t):=by
  unfold zeroValue typeInfo;refine G4 (G4 (s:=program) trivial λp=> ?_) λi=> ?_;split<;>trivial;split<;>trivial
 unfold Instr.alloc;exact G4 h λz=>G4 (s:=newVar t z) (λn=>trivial) λ_=>trivial
end
section
variable[Env]{g:Ϙ}{P:Program}{T:Br}{hp:Bt}{k w:World}{m s:Nat->Nat}{d e:Φ}{a:Act}{c:Ϡ}{cl:Nat->Nat}{Q:Exit->Act->World->Prop}{K:Φ->Φ->Prop}{E:Value->Φ->Φ->Prop}{X:Θ}
def fY(hT:Ax P T)(hH:Dy P T hp){l2}:∀(l:Ϥ) (D:List (CO×Nat)) (d e:Φ) (a:Act),F5 c l=some D->(∀p∈l,(∀o,c[p.1]? =some o->kc T o.op<=1)/\((p.2=0/\cl p.1=0/\∀o,c[p.1]? =some o->kc T o.op=0)\/(p.2=5/\cl p.1=1/\∀o,c[p.1]? =some o->kc T o.op=1)))->Ah g k m s d e a w->Ct hp X K E D d e->
 (∀d e I,Ah g k m s d e I w->K d e->wpC P c cl (C3 w) Q l2 I w)->wpC P c cl (C3 w) Q (l.map (·.1)++l2) a w
 |[],D,d,e,a,n,hl,x,h,hK=>by simp only[F5]at n;injection n with n;subst n;exact hK d e a x h
 |(i,f)::l,D,d,e,a,n,hl,x,h,hK=>by
  obtain⟨o,r,ho,L,hw⟩:=Lv n x h;obtain⟨y,J⟩:=hl (i,f) oS;have hle:=y o ho;clear y
  have rest:∀(d e:Φ) (v:Value),Ah g k m s d e (a.put o.dst v) w->Ct hp X K E r d e->wpC P c cl (C3 w) Q (l.map (·.1)++l2) (a.put o.dst v) w:=λd e v x h=>
   fY hT hH l r d e _ L (λp hp=>hl p (nh _ hp)) x h hK
  simp only[ev,fj,wpC];refine⟨o,ho,?_⟩;rcases hw with⟨hw,z,dp,hh⟩|⟨hw,z,dp,hh⟩
  .rcases J with⟨h0,h1,h2⟩|⟨h0,h1,h2⟩
   exact Ag4
   .simp only at h0 h1;subst h0;obtain⟨hld,hh⟩:=hh;obtain⟨v,k1,k2,γ',σ',k3,k4⟩:=H2 hT hH hle (λS=>by grind) dp hh;refine .inr (.inl ⟨h1,C3.refl w,v,.inl ⟨hw,λA F=> ?_⟩,rest γ' σ' v k4 k3⟩);unfold vV at hld;split at hld
    rename_i t q qg;rw[qg]at hh;obtain⟨j,b,G,B,e1,e2,e3,M⟩:=hH.ld dp hh hld;have C:∀A,(∀(j:Nat) (u:Value),B[j]? =some u->A.cell? ⟨b,G+j,none⟩=some u)->(execOp a.eval o).run P A=.ok (.value (if j.td.agg then .agg B.toArray else B.headD undef)) A:=λA hcw=>by exact Ah4
    have N:v=(if j.td.agg then .agg B.toArray else B.headD undef):=by
     grind
    rw[N];refine C A λj u O=> ?_;have H:=M j u O
    have R:b<w.heap.size:=by
     unfold World.cell? at H
     grind
    unfold World.cell? at H⊢;rw[F b R];exact H
    .cases hld
  rcases J with⟨h0,h1,h2⟩|⟨h0,h1,h2⟩;exact .inl ⟨h1,undef,.inr ⟨hw,rfl⟩,rest d z undef dp hh⟩;exact .inr (.inl ⟨h1,C3.refl w,undef,.inr ⟨hw,rfl⟩,rest d z undef dp hh⟩)
def IY:Op->Bool
 |.alloc _=>true
 |_=>false
def AdX{ρ:Operand->Value}{o}(h:IY o.op=true):p4 P (execOp ρ o):=by
 unfold IY at h;split at h;rename_i t b;unfold execOp;rw[b];exact G4 (xQ t) λ_=>trivial
 .cases h
def AdY{o:Oper}{j:Ϣ}{l:World}(h:IY o.op=true)(p:C3 l w)(f:o.wp P a w j Q):o.wp P a w (λq i=>C3 l i/\j q i) Q:=by
 unfold Oper.wp at *;have r:=AdX (P:=P) (ρ:=a.eval) h
 cases b:(execOp a.eval o).run P w with
 |halt x i=>rw[b]at f;cases x<;>exact f
 |ok n i=>
  have u:=p.trans (Sv r b);rw[b]at f;unfold IY at h;split at h;rename_i t y;have:∃v,n=.value v:=by simp only[execOp,y]at b;exact VH b
  obtain⟨v,rfl⟩:=this;exact⟨u,f⟩
  .cases h
theorem qQ(J:Ax P T)(I:Dy P T hp){y l2}:∀(l:Ϥ) (B:List (CO×Nat)) (d e:Φ) (a:Act) (w:World),F5 c l=some B->(∀p∈l,cl p.1=2/\∀o,c[p.1]? =some o->IY o.op=true)->C3 y w->Ah g k m s d e a w->Ct hp X K E B d e->
 (∀d e q n,Ah g k m s d e q n->K d e->wpC P c cl (C3 y) Q l2 q n)->(∀v d e q n,E v d e->Ah g k m s d e q n->Q (.panic [{v:=v,recovered:=false}]) q n)->wpC P c cl (C3 y) Q (l.map (·.1)++l2) a w
 |[],B,d,e,a,w,b,hl,C,j,h,hK,hE=>by simp only[F5]at b;injection b with b;subst b;exact hK d e a w j h
 |(i,f)::l,B,d,e,a,w,b,hl,C,j,h,hK,hE=>by
  obtain⟨o,r,G,L,D⟩:=Lv b j h;obtain⟨H,t⟩:=hl (i,f) oS;have t:=t o G;simp only[ev,fj,wpC];refine⟨o,G,.inr (.inr (.inl ⟨H,?_⟩))⟩;unfold wpOp;simp only[G];have z:∀(d e:Φ) (a:Act) (w:World),C3 y w->Ah g k m s d e a w->Ct hp X K E r d e->wpC P c cl (C3 y) Q (l.map (·.1)++l2) a w:=λd e a w C j h=>qQ J I l r d e a w L (λp hp=>hl p (nh _ hp)) C j h hK hE;rcases D with⟨D,A,dp,F⟩|⟨D,A,dp,F⟩
  ·rw [bn D]
   have F:hp o.dst o.op d A (Ct hp X K E r) E:=by
    unfold nq at F
    grind
   exact .inl (Ba (λq n ⟨g1,u,x,g2,g3⟩=>⟨g1,z u x q n g1 g3 g2⟩) (AdY t C (I.sound dp F λv u x n g1 g2=>hE v u x a n g1 g2)))
  grind
def SK (c:Ϡ) (p:Nat×Nat):Bool:=match c[p.1]? with
 |some o=>IY o.op&&p.2 != 0&&p.2 != 4
 |none=>false
def VL(T:Br)(c:Ϡ)(l l2 b:Ϥ):Bool:=
 pD c (Ol l l2 (l++(l2++b))) ((l++(l2++b)).map (·.1))&&(l.all (wD T c 5)&&(l2.all (SK c)&&(b.all (VK T c)&&(l.all (Ql (Ol l l2 (l++(l2++b))) 1)&&(l2.all (Ql (Ol l l2 (l++(l2++b))) 2)&&b.all (Ql (Ol l l2 (l++(l2++b))) 3))))))
def SL(hp:Bt)(K:Ω)(E:Value->Ω)(l l2 b:List (CO×Nat)):Ω:=Ct hp [] (Ct hp [] (Ct hp [] K E b) E l2) E l
def IZ(q:Ax P T)(r:Dy P T hp){E:Value->Ψ}{l l2 f c1 c2 t}(h1:F5 c l=some c1)(D:F5 c l2=some c2)(G:F5 c f=some t)(i:VL T c l l2 f=true)(b:Ah g k m s d e a w)(h:SL hp K (λv d _=>E v d) c1 c2 t d e):
 wpAny P .any c (QR g k m s K E) c.size (Array.replicate c.size false) a w:=by
 simp only[VL,gk]at i;obtain⟨k1,k2,k3,k4,k5,k6,k7⟩:=i
 have hw:wpC P c (Ol l l2 (l++(l2++f))) (C3 w) (QR g k m s K E) (l.map (·.1)++(l2.map (·.1)++f.map (·.1))) a w:=by
  refine fY q r l c1 d e a h1 (λp hp=> AgV) b h λu x H j I=> ?_;refine qQ q r l2 c2 u x H w D (λp hp=> ?_) (C3.refl w) j I (λy z J L o A=> ?_) (λv d e a w B b=>⟨d,e,B,b⟩);have g1:=Om (ib.1 k6 p hp);have g2:=ib.1 k3 p hp;unfold SK at g2
  grind
  have:=J6 (C:=C3 w) (n:=3) (l2:=[]) (F:=[]) q r (.inr rfl) (λh=>om) (.inr rfl) (Q:=QR g k m s K E) f t y z J L G (cl:=Ol l l2 (l++(l2++f))) (λp hp=> ?_) o A (λd e a w b M _=>⟨d,e,M,b⟩) (λv d e a w B b=>⟨d,e,B,b⟩)
  grind
  exact XR
 exact AhB
end
inductive DR where
 |d1 (l1 l3:List (CO×Nat))
 |d2 (X Y:Θ) (l1 l2 l3:List (CO×Nat))
 |d3 (l1 l2 l3:List (CO×Nat))
def fZ(n:Nat):Nat×Nat:=(n % 1000,n / 1000)
def JA:Option (List (CO×Nat))->Option (List (CO×Nat))->Option DR
 |some x,some y=>some (.d1 x y)
 |_,_=>none
def xB:Θ->Θ
 |[]=>[]
 |x::r=>bif x / 10000==0 then xB r else(x % 10000)::xB r
def xY:Θ->Θ
 |[]=>[]
 |x::r=>(x % 10000)::xY r
def JB(X Y:Θ):Option (List (CO×Nat))->Option (List (CO×Nat))->Option (List (CO×Nat))->Option DR
 |some x,some y,some z=>some (.d2 X Y x y z)
 |_,_,_=>none
def JC:Option (List (CO×Nat))->Option (List (CO×Nat))->Option (List (CO×Nat))->Option DR
 |some x,some y,some z=>some (.d3 x y z)
 |_,_,_=>none
def xR:Θ->Bool
 |[x]=>x==100000
 |_=>false
def xS(o:Ϡ)(x:List Nat×List Nat×List Nat×List Nat):Option DR:=match x with
 |(X,l1,l2,l3)=>bif xR X then JC (F5 o (l1.map fZ)) (F5 o (l2.map fZ)) (F5 o (l3.map fZ))else bif X.isEmpty&&l2.isEmpty then JA (F5 o (l1.map fZ)) (F5 o (l3.map fZ))else JB (xB X) (xY X) (F5 o (l1.map fZ)) (F5 o (l2.map fZ)) (F5 o (l3.map fZ))
def v4(T:Br)(o:Ϡ)(x:List Nat×List Nat×List Nat×List Nat):Bool:=match x with
 |(X,l1,l2,l3)=>bif xR X then VL T o (l1.map fZ) (l2.map fZ) (l3.map fZ)else bif X.isEmpty&&l2.isEmpty then IV T o 2 [] [] (l1.map fZ) [] (l3.map fZ)else IV T o 1 (xB X) (xY X) (l1.map fZ) (l2.map fZ) (l3.map fZ)
def Qu(h:Bt)(K:Ω)(E:Value->Ω):DR->Ω
 |.d1 l1 l3=>RZ h K E l1 l3
 |.d2 X Y l1 l2 l3=>SC h K E X Y l1 l2 l3
 |.d3 l1 l2 l3=>SL h K E l1 l2 l3
def hp0[Env](P:Program)(T:Br):Bt:=λd o a b K _=>On P T d o b (K a)
def kQ(K:Ψ):Ω:=λ_ a=>K a
def nE:Value->Ω:=λ_ _ _=>False
def CY[Env](P:Program)(T:Br)(d:DR)(K:Ψ)(a:Φ):Prop:=Qu (hp0 P T) (kQ K) nE d [] a
section
variable[Env]{bg:Ϙ}{P:Program}{T:Br}{j:Bt}{w0 w:World}{S0 c0:Nat->Nat}{k σ:Φ}{a:Act}{f:Ϡ}{K:Φ->Φ->Prop}{E:Value->Φ->Prop}
def AiO(i:Ax P T)(l:Dy P T j){x d}(b:xS f x=some d)(c:v4 T f x=true)(g:Ah bg w0 S0 c0 k σ a w)(h:Qu j K (λv k _=>E v k) d k σ):
 wpAny P .any f (QR bg w0 S0 c0 K E) f.size (Array.replicate f.size false) a w:=by
 obtain⟨X,q,p,r⟩:=x;simp only[xS,v4]at b c
 cases e:xR X with
 |true=>
  rw[e]at b c;simp only[cond_true]at b c;unfold JC at b;split at b;rename_i c1 c2 n h1 m e;injection b with b;subst b;exact IZ i l h1 m e c g h
  .cases b
 |false=>
  rw[e]at b c;simp only[cond_false]at b c
  cases o:(X.isEmpty&&p.isEmpty)with
  |true=>
   rw[o]at b c;simp only[cond_true]at b c;unfold JA at b;split at b;rename_i c1 n h1 e;injection b with b;subst b;exact IW i l h1 e c g h
   .cases b
  |false=>
   rw[o]at b c;simp only[cond_false]at b c;unfold JB at b;split at b;rename_i c1 c2 n h1 m e;injection b with b;subst b;exact IX i l h1 m e c g h
   .cases b
def Ah.stt(h:Ah bg w0 S0 c0 k σ a w):Bc bg w0 S0 c0 σ a w:=by obtain⟨S,c,c1,m,d,e,n,h1,g,i,l⟩:=h;exact⟨d,S,c,e,λb=>by have:=h1 b;omega,g,i,l.drop λb=>qu _ _⟩
def Bc.h(h:Bc bg w0 S0 c0 σ a w):Ah bg w0 S0 c0 [] σ a w:=by obtain⟨b,S,c,d,h1,e,g,i⟩:=h;exact⟨S,c,λ_=>0,[],b,d,.nil Al,h1,e,g,i⟩
theorem Atw(l:Ax P T):Dy P T (hp0 P T) where
 sound hst h _:=Ba (λA B ⟨m,z,n⟩=>⟨_,m,z,n⟩) (hst.old λw0 S0 c0 n=>Lq l n h)
 qE _ h:=h
 yp h _:=h
 ld {_ _ _ _ _ _ σ _ t q _ _ _} hst h hx:=by
  obtain⟨S,c,c1,C,e,x,_⟩:=hst
  have g:gE (List.range (σ.length+q+1)) q (σ.getD q .any)=true\/∃s o,σ.getD q .any=.ref s o:=by
   cases hq:σ.getD q .any<;>rw[hq]at hx<;>simp only[xN,f0]at hx
   case elt y=>exact .inl rfl
   case ref s o=>exact .inr ⟨s,o,rfl⟩
   case box U cs=>left;simp[gE];omega
   case raw v=>
    exfalso;simp only[hp0,On,Wb,hq,Gm]at h;split at h
    .simp only[I7,hq]at h
    .exact h
  rcases g with g|⟨s,o,g⟩
  .obtain⟨i,b,d,p,e1,e2,r,u,_⟩:=xO l e x h g;exact⟨i,b,d,p,e1,e2,r,u⟩
  .obtain⟨i,b,d,p,e1,e2,r,u,_⟩:=xO (X:=[s]) l e x h (by rw[g];simp[gE]);exact⟨i,b,d,p,e1,e2,r,u⟩
def Apx{o:Oper}{i:Ϣ}{Q q:Exit->Ϣ}(b:∀e a w,q e a w->e=.normal)(h:o.wp P a w i q):o.wp P a w i Q:=by
 have j:∀c a w,¬q (.panic c) a w:=λc a w h=>by cases b _ _ _ h
 unfold Oper.wp at *;generalize (execOp a.eval o).run P w=r at *
 cases r with
 |ok n w'=>
  cases n<;>simp only[Oper.upon]at h⊢<;>
   first
    |exact h
    |exact Calls.mono h (λe l d=>by cases e<;>first|exact d|exact(j _ _ _ d).elim|(obtain⟨_,_,g⟩:=d;cases b _ _ _ g))
 |halt x w'=>cases x<;>simp only[Oper.upon]at h⊢<;>first|exact h|exact(j _ _ _ h).elim|exact(by cases b _ _ _ h)
def Fx{v:Θ}(g:Yy v f.toList=true){t:Array Value}{Q q:Exit->Ϣ}(d:∀e a w,q e a w->e=.normal)(m:∀a w,q .normal a w->(∀s∈v,a.tmps[s]? =t[s]?)->Q .normal a w):
 ∀(l:Θ) (a:Act) (w:World),(∀s∈v,a.tmps[s]? =t[s]?)->wpOps P f q l a w->wpOps P f Q l a w
 |[],a,w,hk,h=>m a w h hk
 |i::l,a,w,hk,h=>by
  simp only[wpOps]at h⊢;split at h
  .rename_i n;try simp only[n]
   exact Fx g d m l a w hk h
  .rename_i o n;try simp only[n]
   have r:∀s∈v,o.dst≠some s:=λs c=>U0 g s c o (cu (by simpa using n));split at h
   .rename_i p;rw[bn p];rcases h with h|⟨_,b,w1,h⟩
    exact .inl (Ba (λu x ⟨g1,g2⟩=>Fx g d m l u x (λs c=>(g2 s (r s c)).trans (hk s c)) g1) (I9 (Apx d h)))
    .cases d _ _ _ h
   rename_i p;rw[ar p];exact Fx g d m l _ w (λs c=>(Dh _ _ _ s (r s c)).trans (hk s c)) h
def Ζ(n:Ax P T){x:List Nat×List Nat×List Nat×List Nat}{d:DR}(o:xS f x=some d)(q:v4 T f x=true){vs:Θ}(r:Yy vs f.toList=true)(t:Nat):
 fL (XO P f (Region.linearise .any f t)) vs (CY P T d):=by
 intro bg w0 S0 c0 σ a w K p l h b Q s;have h1:=AiO (E:=λ_ _=>False) n (Atw n) o q l.h h
 have c:∀(e:Exit) (g:Act) (i:World),QR bg w0 S0 c0 (λ_=>K) (λ_ _=>False) e g i->e=.normal:=λe g i hq=>by
  match e,hq with
  |.normal,_=>rfl
  |.panic [⟨v,false,false⟩],⟨_,_,h,_⟩=>exact h.elim
 exact Fx r c (λg i ⟨_,m,g1,g2⟩ g3=>s _ _ (b m g i g2.stt g1 g3)) _ a w (λ_ _=>rfl) (wpAny_sound f.size t _ a w h1)
end
end Go.Proofs.YtobhohikfmlccaaGreatDoor
