/- The library's SortFunc over rows of structs. The library's SortFunc over a list of things. -/
import Derived.Shelf.SlSortCmp.NoneTotal
import Derived.Sort.OwnSortedInts
import Derived.Shelf.SlicesQ.Reverse
import Derived.Recover
import Derived.Defers
import Derived.Test.YtobhohikfmlccaaGreatDoorC9
set_option linter.all false
set_option maxRecDepth 100000
set_option maxHeartbeats 4000000
open Go.RowKit Go.Proofs Go.Sort Go.Shelf Go.Lib Tryz Go.Region
namespace Go.Proofs.YtobhohikfmlccaaGreatDoor
section
variable[Env]
def Stp.grown(d:Env.drawn){w w' S S' f}(h:Stp w S (λ_=>0) w' S' f):∃q o,w'=grow (w.drewN q) o:=by
 refine⟨w'.drawn-w.drawn,w'.heap.extract w.heap.size w'.heap.size,?_⟩
 have a:w.heap++w'.heap.extract w.heap.size w'.heap.size=w'.heap:=by
  apply Array.ext_getElem?;intro i;have m:=h.size;rcases cq i w.heap.size with b|b;rw[Array.getElem?_append_left b];exact(h.keep i b rfl).1.symm;rw[Array.getElem?_append_right b];simp only[Array.getElem?_extract];split;congr 1;omega;rw[cj om]
 have h1:=h.os;have g:=h.tape;have c:=h.output;obtain⟨n,p,r,os,j⟩:=w;obtain⟨k,t,l,o,e⟩:=w';simp only[grow,World.drewN]at *;subst h1;subst g;obtain⟨rfl,c⟩:=c;have c:=c d;rw[a];congr 1;omega
def Aa.lays(b:Env.drawn){P f a n}(h:Aa P f a (λr=>r=num n)){w S c}(i:Sz w S)(j:Ac w S a c (λ_=>0)):
 Calls P f c.toArray w λe g=>e=.returned (.int .i64 n)/\∃q o,g=grow (w.drewN q) o:=by
 refine(h.2.2 w S c _ i j (λ_=>oS)).mono ?_;rintro e g ⟨v,r,s,m,rfl,rfl,p,d,t,u,k⟩;have l:v=.int .i64 n:=by cases d with|raw h1 h=>rfl
 subst l;exact⟨rfl,k.grown b⟩
def EX{P f a n}(h: @Aa ⟨True,Env.globs⟩ P f a (λr=>r=num n)){w S v}(c:Sz w S)(d:Ac w S a v (λ_=>0)):
 Calls P f v.toArray w λe i=>e=.returned (.int .i64 n)/\∃q o,i=grow (w.drewN q) o:=by
 have b: @Sz ⟨True,Env.globs⟩ w S:= @Sz.mk ⟨True,Env.globs⟩ w S c.z c.g;exact @Aa.lays ⟨True,Env.globs⟩ trivial P f a n h w S v b d
def Rn{w S k}:∀{e:Φ} {j:ϴ} {c:Δ},(∀x∈e,(cellsOf x).length=k)->Ac w S (flat e) j c->Zc c->
 ∃a:List ϴ,a.length=e.length/\j=a.flatten/\∀(i:Nat) (x:AV) (f:ϴ),e[i]? =some x->a[i]? =some f->f.length=k/\Ac w S (cellsOf x) f (λ_=>0)
 |[],j,c,_,h,_=>⟨[],rfl,by rw[h.zero.1];rfl,oS⟩
 |x::e,j,c,hk,h,h0=>by
  rw[flat]at h;obtain⟨u,m,c1,c2,rfl,g1,g2,l⟩:=h.ku;have z:Zc c1:=λb=>by have:=l b;have:=h0 b;omega
  have n:Zc c2:=λb=>by have:=l b;have:=h0 b;omega
  obtain⟨a,o,p,q⟩:=Rn (λy g=>hk y (by simp[g])) g2 n;refine⟨u::a,by simp[o],by rw[p];rfl,λi y f g d=> ?_⟩
  cases i with
  |zero=>simp at g d;subst g;subst d;exact⟨by rw[g1.length];exact hk x oS,g1.congr λb=>(z b).symm⟩
  |succ i=>exact q i y f (by simpa using g) (by simpa using d)
def gI{w S}:∀{e:Φ} {c:List ϴ},c.length=e.length->(∀(i:Nat) (x:AV) (a:ϴ),e[i]? =some x->c[i]? =some a->Ac w S (cellsOf x) a (λ_=>0))->Ac w S (flat e) c.flatten (λ_=>0)
 |[],[],_,_=>.nil Al
 |[],_::_,h,_=>by simp at h
 |_::_,[],h,_=>by simp at h
 |x::e,a::c,h,hr=>by rw[flat,sx];exact(hr 0 x a rfl rfl).app (gI (by simpa using h) λi y d b f=>hr (i+1) y d (by simpa using b) (by simpa using f)) (λ_=>rfl)
def rR{w g c e s}(hb:w.heap[g]? =some (.cells c e (0,0)))(h:c.toList.take s.length=s):Holds id w g 0 s.toArray:=by
 intro j a;have hj':j<s.length:=by simpa using a
 refine⟨?_,by simp[World.frozen?,hb]⟩;have h1:(c.toList.take s.length)[j]? =s[j]? :=by rw[h]
 exact Ag2
def EY{w g n os c e f}(d)(hb:w.heap[g]? =some (.cells c e f)):
 (grow (putRow id (Sort.ahead w n) g 0 d) os).heap[g]? =some (.cells (putCells id 0 d c) e f):=by
 exact Ag7
def yW{w:World}{g n:Nat}{os}(d):w.grownBy (grow (putRow id (Sort.ahead w n) g 0 d) os) (some g):=by exact Agz
def Ae6(cur t)(h:t.length<=cur.size):(putCells id 0 t.toArray cur).toList.take t.length=t:=by apply rh;intro j;by_cases hj:j<t.length;exact AhA;rw[List.getElem?_take_eq_none om,eq om]
theorem yX{w S c b n os a e}(d)(hz:Sz w S)(f:w.heap[b]? =some (.cells a e (0,0)))(r:0<c b)(s:S b=0):
 Stp w S c (grow (putRow id (Sort.ahead w n) b 0 d) os) S c/\Sz (grow (putRow id (Sort.ahead w n) b 0 d) os) S:=by
 have i:=yW (w:=w) (g:=b) (n:=n) (os:=os) d;obtain⟨h1,j,k,l,m⟩:=i;have p:b<w.heap.size:=(ah.1 f).1;have hother:∀x,x<w.heap.size->x≠b->(grow (putRow id (Sort.ahead w n) b 0 d) os).heap[x]? =w.heap[x]? :=λx hx hne=>m x hx (by intro h;injection h with h;exact hne h);refine jL hz ⟨by first|exact h1|rfl,by first|exact j|rfl,⟨by first|exact k|rfl,λ_=>qu _ _⟩,l,λx hx q=> ?_,λx o t=> ?_,λx=>bx _,λx hx=>bx _⟩ λx hx=>hz x om
 ·have hne:x≠b:=by rintro rfl;omega
  exact⟨hother x hx hne,rfl⟩
 ·exact AgM
def Wl{k}(e:0<k):∀(a:List ϴ),(∀d∈a,d.length=k)->∀t,t<a.length*k->a.flatten[t]! =(a[t / k]!)[t % k]!
 |[],_,t,h=>by simp at h
 |d::a,hl,t,h=>by
  have f:=hl d oS;rcases cq t k with b|b;rw[Nat.div_eq_of_lt b,Nat.mod_eq_of_lt b];simp only[sx,List.getElem!_cons_zero];rw[getElem!_def,getElem!_def,List.getElem?_append_left om];have i:=Wl e a (λc g=>hl c (by simp[g])) (t-k) (by simp only[dg,jx]at h;omega);have e1:t / k=(t-k) / k+1:=by rw[<-Nat.sub_add_cancel b,Nat.add_div_right _ e];simp
  have e2:t % k=(t-k) % k:=by rw[<-Nat.sub_add_cancel b,Nat.add_mod_right];simp
  rw[e1,e2];simp only[sx,List.getElem!_cons_succ];rw[<-i,getElem!_def,getElem!_def,bo om,f]
def O1{k}:∀(a:List ϴ),(∀b∈a,b.length=k)->a.flatten.length=a.length*k
 |[],_=>by simp
 |b::a,hl=>by rw[sx,dc,O1 a (λc h=>hl c (by simp[h])),hl b oS,dg,jx];omega
def Tg{k n:Nat}(b:0<k)[Inhabited (Fin n)](e:Fin n->ϴ)(g:∀i,(e i).length=k)(d:List (Fin n)):flatK e k d.toArray=(d.map e).flatten.toArray:=by
 have c:∀f∈d.map e,f.length=k:=λf a=>by obtain⟨i,_,rfl⟩:=dm.1 a;exact g i
 have hlen:=O1 (d.map e) c;rw[dB]at hlen;apply Array.ext;simp[hlen];intro t h1 j;have h:t<d.length*k:=by simpa using h1
 have hq:t / k<d.length:=by rw[Nat.div_lt_iff_lt_mul b];exact h
 have:=Wl b (d.map e) c t (by simpa using h);have g1:=get_flatK e k d.toArray t (by simpa using h);rw[getElem!_pos _ t h1]at g1;rw[getElem!_pos _ t (by rw[hlen];exact h)]at this;rw[g1];simp only[py];rw[this];congr 1;rw[getElem!_pos _ _ (by simpa using hq),getElem!_pos _ _ (by simpa using hq)];simp
def lR{a}(e:List a):(List.finRange e.length).map e.get=e:=by exact CJ
def lS {P:Program} {C:Ren} (L:SlLaysF0.n6 P C) (k:Nat) (D:0<k) (aE:∀w,(isAgg (C.t 24)).run P w=.ok true w) (zE:∀w,(Go.sizeOf (C.t 24)).run P w=.ok k w) {e g:Nat} (X:Hr P (C.f 6))
 (eg:∀l w,(callFunc g l).run P w=.ok (.enter g l) w) (es:Φ) (Y:∀x∈es,∃Z,x=.agg Z/\Z.length=k) (hlen:es.length<=1000000) (d:Fin es.length->Fin es.length->Int) (hO:SWO (ltOf d))
 (hT:∀x y,(ltOf d) x y=false->(ltOf d) y x=false->x=y) (s:∀i j:Fin es.length,@Aa ⟨True,Env.globs⟩ P g [es.get i,es.get j] (λr=>r=num (d i j))):
 Cm P (C.f 6) (.row e k es) [.raw (.func (.func g) #[] #[])] (λr y=>r=.a6 []/\y=.row e k (((List.finRange es.length).mergeSort λx y=> !(ltOf d) y x).map es.get)):=by
 have E:∀x∈es,(cellsOf x).length=k:=λx hx=>by obtain⟨Z,rfl,hy⟩:=Y x hx;exact hy
 refine⟨X,⟨_,_,rfl,rfl⟩,λw S v vs c F hr hc=> ?_⟩;obtain⟨v',us,d1,d2,he0,h1,h2,hd⟩:=hr.bu;injection he0 with e1 e2;subst e1;subst e2;obtain⟨fv,E_,d3,d4,rfl,h3,h4,hd2⟩:=h2.bu;obtain⟨rfl,J_⟩:=h4.zero;have hfv:fv=.func (.func g) #[] #[]/\Zc d3:=by cases h3 with|raw ho h=>cases h with|nil F=>exact⟨rfl,F⟩
 obtain⟨rfl,hz3⟩:=hfv;have G:∀b,c b=d1 b:=λb=>by rw[hd,hd2,hz3 b,J_ b];omega
 have hc1:∀b,d1 b<=1:=λb=>by rw[<-G];exact hc b
 have H:Ac w S [.row e k es] [v] c:=h1.congr G;rcases jz es.length with h0|hpos;have hes:es=[]:=kq h0;subst hes;have hv:∃p cap,v=.slice p 0 cap:=by exact nS
 obtain⟨p,cap,rfl⟩:=hv;refine(AnyF.slices_SortFunc_none L p cap _ w).mono ?_;rintro e' w' ⟨rfl,rfl⟩;refine⟨_,_,_,S,c,rfl,⟨rfl,rfl⟩,rfl,.inr ⟨_,_,_,rfl⟩,?_,hc,F,bt _ _ _⟩;have:((List.finRange ([]:Φ).length).mergeSort λx y=> !(ltOf d) y x).map ([]:Φ).get=[]:=by have:(List.finRange ([]:Φ).length)=[]:=rfl;rw[this];simp
 rw[this];exact fh (.nil Al) H (c1:=λ_=>0) (c2:=c) (λb=>oS)
 .haveI:Inhabited (Fin es.length):=⟨⟨0,hpos⟩⟩
  cases H with
  |ge h=>simp at hpos
  |row hn hcap hkk hb hs hS hf h0 ho hnil hcc=>
   rename_i b cap cur c0 c2;obtain⟨_,hz2⟩:=hnil.zero;obtain⟨a,hcl,hcv,hcs⟩:=Rn E hf h0;have hbs:b<w.heap.size:=(ah.1 hb).1;have I:∀i:Fin es.length,∃cs,a[i.1]? =some cs:=λi=>⟨_,ac (by rw[hcl];exact i.2)⟩;obtain⟨enc,iy⟩:∃enc:Fin es.length->ϴ,∀i,a[i.1]? =some (enc i):=⟨λi=>(I i).choose,λi=>(I i).choose_spec⟩;have hek:∀i,(enc i).length=k:=λi=>(hcs i.1 (es.get i) (enc i) oS (iy i)).1;have her:∀i,Ac w S (cellsOf (es.get i)) (enc i) (λ_=>0):=λi=>(hcs i.1 (es.get i) (enc i) oS (iy i)).2;have hmap:(List.finRange es.length).map enc=a:=by exact Ago
   have hone:∀i,∀u∈enc i,u.oneCell'=true:=λi u hu=>by exact Ahl
   have hfl:flatK enc k (List.finRange es.length).toArray=a.flatten.toArray:=by rw[Tg D enc hek,hmap]
   have z:a.flatten.length=es.length*k:=by exact Ahg
   have hH:HoldsK enc k w b 0 (List.finRange es.length).toArray:=by rw[HoldsK,hfl];exact rR hb (by rw[z];exact hcv)
   have J:0<c b:=by rw[hcc];simp;omega
   have K:CmpLays P g #[] enc k d b 0 (List.finRange es.length).toArray.size w:=λm os dk hdk x y=>by
    have A:=yX (n:=m) (os:=os) (flatK enc k dk) F hb J hS;have M:=(her x).step A.1 (λb=>by have:=hc b;simpa using this);have N:=(her y).step A.1 (λb=>by have:=hc b;simpa using this);obtain⟨ax,O,_⟩:=Y (es.get x) (List.get_mem _ _);obtain⟨ay,Q,_⟩:=Y (es.get y) (List.get_mem _ _);have o:=s x y;rw[O,Q]at o;rw[O]at M;rw[Q]at N
    have ha1:Ac (sortWorldK enc k w b 0 m dk os) S [.agg ay] [.agg (enc y).toArray] (λ_=>0):=
     Ac.agg (c1:=λ_=>0) (c2:=λ_=>0) N (hone y) (.nil Al) (λb=>oS)
    have B:Ac (sortWorldK enc k w b 0 m dk os) S [.agg ax,.agg ay] [.agg (enc x).toArray,.agg (enc y).toArray] (λ_=>0):=
     Ac.agg (c1:=λ_=>0) (c2:=λ_=>0) M (hone x) ha1 (λb=>oS)
    have R:=EX o A.2 B;rw[Array.append_empty];exact R
   have T:(List.finRange es.length).toArray.size=es.length:=oS;have q:=AnyQ.slices_SortFunc_total L k aE zE enc hek hone d hO g #[] b 0 cap (List.finRange es.length).toArray w eg K hH hbs (by rw[T];omega) hT;rw[T]at q;apply q.mono;rintro e' w' ⟨rfl,n,os,rfl⟩;generalize U:((List.finRange es.length).toArray.toList.mergeSort λx y=> !(ltOf d) y x)=ss;have hss:((List.finRange es.length).mergeSort λx y=> !(ltOf d) y x)=ss:=by rw[<-U]
   have hsl:ss.length=es.length:=by rw[<-hss,tg];simp
   obtain⟨hst,V⟩:=yX (n:=n) (os:=os) (flatK enc k ss.toArray) F hb J hS;have hfs:flatK enc k ss.toArray=(ss.map enc).flatten.toArray:=Tg D enc hek ss;have rz:(ss.map enc).flatten.length=es.length*k:=by exact Ahp
   refine⟨_,_,_,S,c,rfl,⟨rfl,rfl⟩,rfl,.inr ⟨_,_,_,rfl⟩,?_,hc,V,hst⟩;refine fh (c1:=λ_=>0) (c2:=c) (.nil Al) ?_ (λb=>oS);have hml:(ss.map es.get).length=es.length:=by rw[dB,hsl]
   have htake:(putCells id 0 (flatK enc k ss.toArray) cur).toList.take (es.length*k)=(ss.map enc).flatten:=by exact AhQ
   have W:Ac (grow (putRow id (Sort.ahead w n) b 0 (flatK enc k ss.toArray)) os) S [.row e k (ss.map es.get)] [.slice (some ⟨b,0,none⟩) (ss.map es.get).length cap] c:= ?_;rw[hml]at W;exact W;refine .row (c0:=λ_=>0) (c2:=c2) om hcap (λx hx=> ?_) (EY _ hb) (by simp[putCells,hs]) hS ?_ Al ?_ (.nil hz2) hcc;obtain⟨i,_,rfl⟩:=dm.1 hx;exact E _ (List.get_mem _ _);exact ϣ;exact Ahe
variable[Env]
def Lf{P:Program}{J:Ren}(L:SlLaysF0.n6 P J)(k:Nat)(R:0<k)(aE:∀w,(isAgg (J.t 24)).run P w=.ok true w)(zE:∀w,(Go.sizeOf (J.t 24)).run P w=.ok k w){e g:Nat}(S:Hr P (J.f 6))(eg:∀B w,(callFunc g B).run P w=.ok (.enter g B) w){O}(X D:List O)(f:O->AV)(l:O->O->Int)(hk:∀x∈X,∃ys,f x=.agg ys/\ys.length=k)(hlen:X.length<=1000000)(E:∀x∈X,¬l x x<0)(s:∀x∈X,∀y∈X,∀z∈X,l x y<0->l y z<0->l x z<0)(p:∀x∈X,∀y∈X,l x y<0\/x=y\/l y x<0)(T:X.Nodup)(F:∀x∈X,∀y∈X,@Aa ⟨True,Env.globs⟩ P g [f x,f y] (λr=>r=num (l x y)))(hD:D.Perm X)(U:D.Pairwise λx y=>l x y<0):
 Cm P (J.f 6) (.row e k (X.map f)) [.raw (.func (.func g) #[] #[])] (λr y=>r=.a6 []/\y=.row e k (D.map f)):=by
 obtain⟨m,v⟩:∃m,X.map f=m:=⟨_,rfl⟩;have hl:m.length=X.length:=by rw[<-v,dB]
 have c:∀i:Fin m.length,i.1<X.length:=λi=>by have:=i.2;omega
 have u:∀i:Fin m.length,m.get i=f (X[i.1]'(c i)):=λi=>by subst v;simp
 have d:∀i:Fin m.length,X[i.1]'(c i)∈X:=λi=>ko _;have C:∀i j:Fin m.length,X[i.1]'(c i)=X[j.1]'(c j)->i=j:=λi j h=>Fin.ext ((List.getElem_inj T).1 h);have A:∀i j:Fin m.length,ltOf (λi j:Fin m.length=>l (X[i.1]'(c i)) (X[j.1]'(c j))) i j=true↔l (X[i.1]'(c i)) (X[j.1]'(c j))<0:=λi j=>by simp[ltOf]
 have n:∀i j:Fin m.length,ltOf (λi j:Fin m.length=>l (X[i.1]'(c i)) (X[j.1]'(c j))) i j=false↔¬l (X[i.1]'(c i)) (X[j.1]'(c j))<0:=λi j=>by rw[<-A i j];simp
 have hO:SWO (ltOf (λi j:Fin m.length=>l (X[i.1]'(c i)) (X[j.1]'(c j)))):=by
  refine⟨λi=>(n i i).2 (E _ (d i)),λi j k h1 o=>(A i k).2 (s _ (d i) _ (d j) _ (d k) ((A i j).1 h1) ((A j k).1 o)),λi j k h1 o=>(n i k).2 λG=> ?_⟩;have h1:=(n i j).1 h1;have o:=(n j k).1 o;rcases p _ (d j) _ (d k)with h|h|h;exact o h;rw[<-h]at G;exact h1 G;exact h1 (s _ (d i) _ (d k) _ (d j) G h)
 have hT:∀i j:Fin m.length,ltOf (λi j:Fin m.length=>l (X[i.1]'(c i)) (X[j.1]'(c j))) i j=false->ltOf (λi j:Fin m.length=>l (X[i.1]'(c i)) (X[j.1]'(c j))) j i=false->i=j:=λi j h1 o=>by
  rcases p _ (d i) _ (d j)with h|h|h;exact cw h ((n i j).1 h1);exact C i j h;exact cw h ((n j i).1 o)
 have hrow:=lS (e:=e) L k R aE zE S eg m (λx Q=>by rw[<-v]at Q;obtain⟨y,V,rfl⟩:=dm.1 Q;exact hk y V) om (λi j:Fin m.length=>l (X[i.1]'(c i)) (X[j.1]'(c j))) hO hT
  (λi j=>by rw[u i,u j];exact F _ (d i) _ (d j))
 rw[v];apply Cm.mono hrow;rintro r y ⟨rfl,rfl⟩;refine⟨rfl,?_⟩;congr 1;generalize K:((List.finRange m.length).mergeSort λx y=> !(ltOf (λi j:Fin m.length=>l (X[i.1]'(c i)) (X[j.1]'(c j)))) y x)=ss;have hp:ss.Perm (List.finRange m.length):=by rw[<-K];exact List.mergeSort_perm _ _
 have q:∀i j:Fin m.length,(!(ltOf (λi j:Fin m.length=>l (X[i.1]'(c i)) (X[j.1]'(c j)))) j i)=true↔¬l (X[j.1]'(c j)) (X[i.1]'(c i))<0:=λi j=>by rw[<-n j i];simp
 have W:ss.Pairwise λi j=>¬l (X[j.1]'(c j)) (X[i.1]'(c i))<0:=by
  have:=List.pairwise_mergeSort (le:=λx y=> !(ltOf (λi j:Fin m.length=>l (X[i.1]'(c i)) (X[j.1]'(c j)))) y x) (λi j k h1 o=> ?_) (λi j=> ?_) (List.finRange m.length);rw[K]at this;exact this.imp λ{a b} h=>(q a b).1 h;have h1:=(q i j).1 h1;have o:=(q j k).1 o;refine(q i k).2 λG=> ?_;rcases p _ (d i) _ (d j)with h|h|h;exact o (s _ (d k) _ (d i) _ (d j) G h);rw[h]at G;exact o G;exact h1 h;rw[n8];by_cases h:l (X[j.1]'(c j)) (X[i.1]'(c i))<0;exact .inr ((q j i).2 λo=>E _ (d i) (s _ (d i) _ (d j) _ (d i) o h));exact .inl ((q i j).2 h)
 have M:ss.Nodup:=hp.symm.nodup (List.nodup_finRange _)
 have N:ss.Pairwise λi j=>l (X[i.1]'(c i)) (X[j.1]'(c j))<0:=by
  refine(W.and M).imp λ{i j} h=> ?_;rcases p _ (d i) _ (d j)with o|o|o;exact o;exact cw (C i j o) h.2;exact cw o h.1
 have hX:(List.finRange m.length).map (λi:Fin m.length=>X[i.1]'(c i))=X:=by
  apply List.ext_getElem;simp[hl];intro i h1 o;simp
 have Y:ss.map (λi:Fin m.length=>X[i.1]'(c i))=D:=by
  have H:(ss.map (λi:Fin m.length=>X[i.1]'(c i))).Perm D:=by have h1:=hp.map (λi:Fin m.length=>X[i.1]'(c i));rw[hX]at h1;exact h1.trans hD.symm
  refine List.Perm.eq_of_pairwise (le:=λx y=>l x y<0) (λx y Q V h1 o=> ?_) ?_ U H;have I:x∈X:=by obtain⟨i,_,rfl⟩:=dm.1 Q;exact d i
  have Z:y∈X:=hD.mem_iff.1 V;exact cw (s _ I _ Z _ I h1 o) (E _ I);exact List.pairwise_map.2 N
 rw[<-Y,lq];exact te λi _=>u i
end
section
variable[Env]
section
variable{α:Type}{enc:α->Value}
def Eo(enc:α->Value)(zs:List α):Φ:=zs.map λa=>.raw (enc a)
def Jy:∀a:List α,flat (Eo enc a)=Eo enc a
 |[]=>rfl
 |z::a=>by have:=Jy a;simp only[Eo,ev,flat]at this⊢;rw[this];rfl
def Ti{w S}:∀{zs:List α} {a:ϴ} {c:Δ},Ac w S (Eo enc zs) a c->a=zs.map enc
 |[],a,c,h=>h.zero.1
 |z::zs,a,c,h=>by
  cases h with
  |raw h1 h=>rw[Ti (zs:=zs) h];rfl
def aI(h:∀a,(enc a).oneCell'=true){w S}:∀b:List α,Ac w S (Eo enc b) (b.map enc) (λ_=>0)
 |[]=>.nil Al
 |z::b=>.raw (h z) (aI h b)
def aJ(z):∀x∈Eo enc z,(cellsOf x).length=1:=by intro x h;simp only[Eo,dm]at h;obtain⟨a,_,rfl⟩:=h;rfl
def rS(b:∀a,(enc a).oneCell'=true)(z:List α):∀u∈z.map enc,u.oneCell'=true:=by intro u h;simp only[dm]at h;obtain⟨a,_,rfl⟩:=h;exact b a
def Ir(z):(Eo enc z).length=z.length:=by simp[Eo]
def Ve[Inhabited α]{w:World}{g:Nat}{c:Array Value}{e:TypeId}{s:List α}(hb:w.heap[g]? =some (.cells c e (0,0)))(h:c.toList.take s.length=s.map enc):Holds enc w g 0 s.toArray:=by
 intro j a;have hj':j<s.length:=by simpa using a
 refine⟨?_,by simp[World.frozen?,hb]⟩;have h1:(c.toList.take s.length)[j]? =(s.map enc)[j]? :=by rw[h]
 exact Ag2
def rT[Inhabited α]{w g n os c e f}(d)(hb:w.heap[g]? =some (.cells c e f)):
 (grow (putRow enc (Sort.ahead w n) g 0 d) os).heap[g]? =some (.cells (putCells enc 0 d c) e f):=by
 exact Ag7
def rU[Inhabited α]{w:World}{g n:Nat}{os}(d):w.grownBy (grow (putRow enc (Sort.ahead w n) g 0 d) os) (some g):=by exact Agz
def rV[Inhabited α](cur:Array Value)(t:List α)(h:t.length<=cur.size):(putCells enc 0 t.toArray cur).toList.take t.length=t.map enc:=by apply rh;intro j;by_cases hj:j<t.length;exact AhA;rw[List.getElem?_take_eq_none om,eq (by simp;omega)]
theorem Xq[Inhabited α]{w S c b n os a e}(d)(hz:Sz w S)(f:w.heap[b]? =some (.cells a e (0,0)))(r:0<c b)(t:S b=0)(s):
 Stp w S c (grow (putRow enc (Sort.ahead w n) b 0 d) os) (upd S b s) c/\Sz (grow (putRow enc (Sort.ahead w n) b 0 d) os) (upd S b s):=by
 have i:=rU (enc:=enc) (w:=w) (g:=b) (n:=n) (os:=os) d;obtain⟨h1,j,k,l,m⟩:=i;have p:b<w.heap.size:=(ah.1 f).1;have hother:∀x,x<w.heap.size->x≠b->(grow (putRow enc (Sort.ahead w n) b 0 d) os).heap[x]? =w.heap[x]? :=λx hx hne=>m x hx (by intro h;injection h with h;exact hne h);refine jL hz ⟨by first|exact h1|rfl,by first|exact j|rfl,⟨by first|exact k|rfl,λ_=>qu _ _⟩,l,λx hx q=> ?_,λx o u=> ?_,λx=> ?_,λx hx=>bx _⟩ λx hx=> ?_
 ·have hne:x≠b:=by rintro rfl;omega
  exact⟨hother x hx hne,by simp [upd,hne]⟩
 ·exact AgM
 ·unfold upd;split
  ·rename_i h;subst h;omega
  ·exact Ev
 ·have hne:x≠b:=by rintro rfl;omega
  simp only[upd,hne,if_false];exact hz x om
def Aal [Inhabited α] {P:Program} {f e:Nat} (q:Hr P f) (ho:∀a,(enc a).oneCell'=true) (s:List α->List α) (j:∀l,(s l).length=l.length) (zs:List α)
 (k:∀p d w,Calls P f #[.slice p 0 d] w λe m=>e=.returned (.tuple #[])/\m=w)
 (g:∀b d w,Holds enc w b 0 zs.toArray->b<w.heap.size->Calls P f #[.slice (some ⟨b,0,none⟩) zs.length d] w λe m=>e=.returned (.tuple #[])/\∃n os,m=grow (putRow enc (Sort.ahead w n) b 0 (s zs).toArray) os):
 Cm P f (.row e 1 (Eo enc zs)) [] (λr y=>r=.a6 []/\y=.row e 1 (Eo enc (s zs))):=by
 refine⟨q,⟨_,_,rfl,rfl⟩,λw S v M c E t hc=> ?_⟩
 cases i:zs with
 |nil=>
  subst i;obtain⟨N,O,F,Q,I,h1,J,G⟩:=t.bu;injection I with u z;subst u;subst z;obtain⟨rfl,hz2⟩:=J.zero;have K:∃p d,v=.slice p 0 d:=by exact nS
  obtain⟨p,d,rfl⟩:=K;refine(k p d w).mono ?_;rintro e m ⟨rfl,rfl⟩;refine⟨_,_,_,S,F,rfl,⟨rfl,rfl⟩,rfl,.inr ⟨_,_,_,rfl⟩,?_,λb=>by have:=hc b;have:=G b;omega,E,(bt _ _ _).drop λb=>by have:=G b;omega⟩;have L:s ([]:List α)=[]:=kq (by rw[j];rfl);rw[L];exact fh (.nil Al) h1 (c1:=λ_=>0) (c2:=F) (λb=>oS)
 |cons z0 zs0=>
  rw[<-i];have A:Eo enc zs≠[]:=by rw[i];simp[Eo]
  generalize o:Eo enc zs=es at t
  cases t with
  |ge h=>exact cw o A
  |row hn hcap hk hb hs hS h1 h0 ho' hnil' hcc=>
   rename_i b d cur c0 c2;obtain⟨rfl,hz2⟩:=hnil'.zero;subst o;have hlen:=Ir (enc:=enc) zs;rw[Jy]at h1;have H:=Ti h1;rw[hlen,md]at H;have B:b<w.heap.size:=(ah.1 hb).1;rw[hlen];refine(g b d w (Ve hb H) B).mono ?_;rintro e m ⟨rfl,n,os,rfl⟩;generalize C:s zs=ss;have qd:ss.length=zs.length:=by rw[<-C];exact j _
   have D:0<c b:=by rw[hcc];simp;omega
   obtain⟨hst,hsz⟩:=Xq (enc:=enc) (n:=n) (os:=os) ss.toArray E hb D hS 0
   have hu:upd S b 0=S:=by
    funext x;unfold upd;split;rename_i h;subst h;rw[hS];rfl
   exact Ϻ
def rX [Inhabited α] {P:Program} {f e:Nat} (F:Hr P f) (L:∀a,(enc a).oneCell'=true) (i:List α->List α) (o:∀l,(i l).length<=l.length) (z:α) (g:List α)
 (s:∀p d w,Calls P f #[.slice p 0 d] w λe A=>e=.returned (.slice p 0 d)/\A=w)
 (t:∀b d w,Holds enc w b 0 g.toArray->g.length<=d->Calls P f #[.slice (some ⟨b,0,none⟩) g.length d] w λe A=>e=.returned (.slice (some ⟨b,0,none⟩) (i g).length d)/\∃q,A=putRow enc (Sort.ahead w q) b 0 (i g++List.replicate (g.length-(i g).length) z).toArray):
 Aa P f [.mine e 1 (Eo enc g)] (λr=>r=.own e 1 (Eo enc (i g))):=by
 refine⟨F,⟨_,rfl⟩,λw S W c G H I=> ?_⟩
 cases u:g with
 |nil=>
  subst u;have O:i ([]:List α)=[]:=kq (by have:=o [];simpa using this);rw[O];obtain⟨X,Q,M,Y,rfl,h1,R,v⟩:=H.bu;obtain⟨rfl,B⟩:=R.zero
  cases h1 with
  |dt hnil'=>refine(s none 0 w).mono ?_;rintro e A ⟨rfl,rfl⟩;exact⟨_,_,S,M,rfl,rfl,rfl,.g9 hnil',λb=>by have:=I b;have:=v b;omega,G,(bt _ _ _).drop λb=>by have:=v b;omega⟩
  |mine hn hcap hk hb hs hS h1 h0 ho' hnil' hcc=>rename_i b d m c0 c2;refine(s _ d w).mono ?_;rintro e A ⟨rfl,rfl⟩;exact⟨_,_,S,M,rfl,rfl,rfl,.own (es:=[]) hn hcap hk hb hs (by simpa using hS) h1 h0 ho' hnil' hcc,λb=>by have:=I b;have:=v b;omega,G,(bt _ _ _).drop λb=>by have:=v b;omega⟩
 |cons z0 zs0=>
  rw[<-u];have J:Eo enc g≠[]:=by rw[u];simp[Eo]
  generalize C:Eo enc g=es at H
  cases H with
  |dt h=>exact cw C J
  |mine hn hcap hk hb hs hS h1 h0 ho' hnil' hcc=>
   rename_i b d m Q c0 c2;obtain⟨rfl,B⟩:=hnil'.zero;subst C;have hlen:=Ir (enc:=enc) g;rw[Jy]at h1;have N:=Ti h1;rw[hlen,md]at N;rw[hlen];refine(t b d w (Ve hb N) om).mono ?_;rintro e A ⟨rfl,n,rfl⟩;have T:(i g).length<=g.length:=o g;generalize U:i g=ss at *;generalize v:ss++List.replicate (g.length-ss.length) z=dd;have V:dd.length=g.length:=by rw[<-v];simp;omega
   have K:0<c b:=by rw[hcc];simp;omega
   obtain⟨D,E⟩:=Xq (enc:=enc) (n:=n) (os:= #[]) dd.toArray G hb K hS ss.length;rw[grow_empty]at D E;refine⟨_,_,_,c,rfl,rfl,rfl,?_,I,E,D⟩;have x:=Ir (enc:=enc) ss;have y:(putCells enc 0 dd.toArray m).toList.take dd.length=dd.map enc:=rV m dd (by rw[hs];omega);have j:(putCells enc 0 dd.toArray m).toList.take ss.length=ss.map enc:=by have:=fq (List.take ss.length) y;rw[List.take_take,pp om]at this;rw[this,<-v,ip,List.take_left' oS]
   have k:=rT (enc:=enc) (n:=n) (os:= #[]) dd.toArray hb;rw[grow_empty]at k;rw[<-x];refine .own (c0:=λ_=>0) (c2:=c2) om hcap (aJ ss) k (by simp[putCells,hs]) (by simp[upd]) ?_ Al ?_ (.nil B) hcc;rw[Jy,x,md,j];exact aI L ss;rw[x,md,j];exact rS L ss
end
def rZ {P:Program} {q:Ren} (L:SlLaysE0.n35 P q) (k:Nat) (z:0<k) (U:∀w,(isAgg (q.t 23)).run P w=.ok true w) (zE:∀w,(Go.sizeOf (q.t 23)).run P w=.ok k w) {e:Nat} (F:Hr P (q.f 35))
 (es:Φ) (V:∀x∈es,∃G,x=.agg G/\G.length=k) (hlen:es.length<=1000000):
 Cm P (q.f 35) (.row e k es) [] (λr y=>r=.a6 []/\y=.row e k es.reverse):=by
 have A:∀x∈es,(cellsOf x).length=k:=λx hx=>by obtain⟨G,rfl,W⟩:=V x hx;exact W
 refine⟨F,⟨_,_,rfl,rfl⟩,λw S v vs c T X hc=> ?_⟩;obtain⟨v',us,Y,d2,H,h1,Z,hd⟩:=X.bu;injection H with e1 e2;subst e1;subst e2;obtain⟨rfl,I⟩:=Z.zero;have J:∀b,c b=Y b:=λb=>by rw[hd,I b];omega
 have B:Ac w S [.row e k es] [v] c:=h1.congr J;rcases jz es.length with K|hpos;have l:es=[]:=kq K;subst l;have hv:∃p cap,v=.slice p 0 cap:=by exact nS
 obtain⟨p,cap,rfl⟩:=hv;refine(AnyQ.slices_Reverse_empty L p cap w).mono ?_;rintro e' w' ⟨rfl,rfl⟩;exact⟨_,_,_,S,c,rfl,⟨rfl,rfl⟩,rfl,.inr ⟨_,_,_,rfl⟩,fh (.nil Al) B (c1:=λ_=>0) (c2:=c) (λb=>oS),hc,T,bt _ _ _⟩
 .haveI:Inhabited (Fin es.length):=⟨⟨0,hpos⟩⟩
  cases B with
  |ge h=>simp at hpos
  |row hn hcap hkk hb hs hS hf K ho hnil hcc=>
   rename_i b cap cur c0 c2;obtain⟨_,M⟩:=hnil.zero;obtain⟨a,N,hcv,hcs⟩:=Rn A hf K;have hbs:b<w.heap.size:=(ah.1 hb).1;have C:∀i:Fin es.length,∃cs,a[i.1]? =some cs:=λi=>⟨_,ac (by rw[N];exact i.2)⟩;obtain⟨enc,iy⟩:∃enc:Fin es.length->ϴ,∀i,a[i.1]? =some (enc i):=⟨λi=>(C i).choose,λi=>(C i).choose_spec⟩;have hek:∀i,(enc i).length=k:=λi=>(hcs i.1 (es.get i) (enc i) oS (iy i)).1;have her:∀i,Ac w S (cellsOf (es.get i)) (enc i) (λ_=>0):=λi=>(hcs i.1 (es.get i) (enc i) oS (iy i)).2;have hmap:(List.finRange es.length).map enc=a:=by exact Ago
   have hone:∀i,∀u∈enc i,u.oneCell'=true:=λi u hu=>by exact Ahl
   have O:flatK enc k (List.finRange es.length).toArray=a.flatten.toArray:=by rw[Tg z enc hek,hmap]
   have m:a.flatten.length=es.length*k:=by exact Ahg
   have hH:HoldsK enc k w b 0 (List.finRange es.length).toArray:=by rw[HoldsK,O];exact rR hb (by rw[m];exact hcv)
   have Q:0<c b:=by rw[hcc];simp;omega
   have D:(List.finRange es.length).toArray.size=es.length:=oS;have g:=AnyQ.slices_Reverse L k U zE enc hek hone b 0 cap (List.finRange es.length).toArray w hH (by rw[D];omega);rw[D]at g;apply g.mono;rintro e' w' ⟨rfl,n,rfl⟩;have R:(List.finRange es.length).toArray.reverse=((List.finRange es.length).reverse).toArray:=oS;rw[R];obtain⟨s,o⟩:∃s,(List.finRange es.length).reverse=s:=⟨_,rfl⟩;rw[o];have l:es.reverse=s.map es.get:=by rw[<-o,List.map_reverse,lR]
   rw[l];have hsl:s.length=es.length:=by rw[<-o];simp
   obtain⟨hst,j⟩:=yX (n:=n) (os:= #[]) (flatK enc k s.toArray) T hb Q hS;rw[grow_empty]at hst j;have hfs:flatK enc k s.toArray=(s.map enc).flatten.toArray:=Tg z enc hek s;have rz:(s.map enc).flatten.length=es.length*k:=by exact Ahp
   refine⟨_,_,_,S,c,rfl,⟨rfl,rfl⟩,rfl,.inr ⟨_,_,_,rfl⟩,?_,hc,j,hst⟩;refine fh (c1:=λ_=>0) (c2:=c) (.nil Al) ?_ (λb=>oS);have hml:(s.map es.get).length=es.length:=by rw[dB,hsl]
   have htake:(putCells id 0 (flatK enc k s.toArray) cur).toList.take (es.length*k)=(s.map enc).flatten:=by exact AhQ
   have d:=EY (n:=n) (os:= #[]) (flatK enc k s.toArray) hb;rw[grow_empty]at d;have E:Ac (putRow id (Sort.ahead w n) b 0 (flatK enc k s.toArray)) S [.row e k (s.map es.get)] [.slice (some ⟨b,0,none⟩) (s.map es.get).length cap] c:= ?_;rw[hml]at E;exact E;refine .row (c0:=λ_=>0) (c2:=c2) om hcap (λx hx=> ?_) d (by simp[putCells,hs]) hS ?_ Al ?_ (.nil M) hcc;obtain⟨i,_,rfl⟩:=dm.1 hx;exact A _ (List.get_mem _ _);exact ϣ;exact Ahe
variable[Env]
def Aa.freeze{P f a e k es}(h:Aa P f a (λr=>r=.mine e k es)):Aa P f a (λr=>r=.own e k es):=by
 obtain⟨y,_,z⟩:=h;refine⟨y,⟨_,rfl⟩,λw S l c A B C=>(z w S l c A B C).mono λH n ⟨v,r,s,m,t,D,I,E,u,o,h6⟩=> ?_⟩;subst D
 cases E with
 |dt hn=>exact⟨_,_,s,m,t,rfl,rfl,.g9 hn,u,o,h6⟩
 |mine hn hcap hk hb hs' hS hx1 h0 hoc hnil hcc=>
  rename_i b p cur c0 c2;obtain⟨_,q⟩:=hnil.zero;have F:0<m b:=by rw[hcc];simp;omega
  have i:∀x,s x<=upd s b (es.length*k) x:=by
   intro x;unfold upd;split;exact QG;exact Ev
  have d:∀{xs l c1},Ac n s xs l c1->c1 b=0->Ac n (upd s b (es.length*k)) xs l c1:=λh G=>
   h.keep (λ_ _ _=>rfl) i (λx hx=>⟨rfl,by unfold upd;rw[ar];intro hxb;subst hxb;omega⟩)
  have j:Ac n (upd s b (es.length*k)) [.own e k es] [.slice (some ⟨b,0,none⟩) es.length p] m:=
   .own hn hcap hk hb hs' (by simp[upd]) (d hx1 (h0 b)) h0 hoc (.nil q) hcc
  refine⟨_,_,_,m,t,rfl,rfl,j,u,⟨λx hx=> ?_,o.g.p5 hS _⟩,⟨h6.os,h6.tape,h6.output,h6.size,λx hx hx0=>⟨(h6.keep x hx hx0).1,?_⟩,h6.cell,λx=>cp (h6.le x) (i x),h6.own⟩⟩;unfold upd;rw[ar];exact o x hx;exact PN;exact Ah1
end
def mp:Nat->Option (Nat×Nat)
 |113=>some (9,9)
 |226=>some (3,278)
 |119=>some (9,4)
 |148=>some (9,3)
 |310=>some (3,313)
 |_=>none
def cn:Nat->Bool
 |214=>true
 |223=>true
 |112=>true
 |_=>false
def me:Nat->String->Γ
 |112,"Field" =>some 409
 |112,"Include" =>some 410
 |112,"List" =>some 411
 |_,_=>none
def zr:Nat->Option Value
 |9=>some (.string ⟨#[]⟩)
 |278=>some .nilFunc
 |3=>some (.int .i64 0)
 |4=>some (.bool false)
 |313=>some (.agg #[.nilFunc,.bool false,.nilFunc])
 |214=>some (.int .i64 0)
 |223=>some (.agg #[.int .i64 0])
 |_=>none
def kd:Nat->Option TypeDesc
 |3=>some (.int .i64)
 |9=>some .string
 |_=>none
def ek:Nat->Γ
 |20=>some 0
 |221=>some 0
 |151=>some 0
 |_=>none
def HH:Hw:={mp:=mp,cn:=cn,me:=me,zr:=zr,kd:=kd,mv:=λ_ _=>none,ek:=ek}
def AnZ{t}(h:(match prog.underlying t with|some (.interface _)=>false|some _=>true|none=>false)=true):∃d,prog.underlying t=some d/\∀m,d≠ .interface m:=by
 cases a:prog.underlying t with
 |none=>rw[a]at h;cases h
 |some d=>rw[a]at h;exact⟨d,rfl,λm b=>by rw[b]at h;cases h⟩
def Aoa{t}(h:(match prog.underlying t with|some (.interface _)=>true|_=>false)=true):∃d,prog.underlying t=some d/\DF 0 d:=by
 cases a:prog.underlying t with
 |none=>rw[a]at h;cases h
 |some d=>rw[a]at h;refine⟨d,rfl,?_⟩;cases d<;>first|trivial|cases h
def Dc:C1 prog HH:=by
 refine⟨⟨λt k e h=> ?_,λt h=> ?_,λt n g h b w=> ?_,λt v h w=> ?_⟩,λt d h=> ?_,λt n g h=> ?_,λt k h=> ?_⟩
 .change mp t=_ at h;unfold mp at h;split at h<;>first|cases h;done|(injection h with h;injection h with h1 a;subst h1;subst a;kernel_rfl)
 .change cn t=_ at h;unfold cn at h;split at h<;>first|cases h;done|exact AnZ (by kernel_rfl)
 change me t n=_ at h;unfold me at h;exact PH;change zr t=_ at h;unfold zr at h;exact PH;change kd t=_ at h;unfold kd at h;exact PH
 .cases h
 .change ek t=_ at h;unfold ek at h;split at h<;>first|cases h;done|(injection h with h;subst h;exact Aoa (by kernel_rfl))
section
variable[Env]
def EZ{U:Nat}{c ds x y:Φ}(h1:Wk c ds)(h:Wk x y):Wk (.box U c::x) (.box U ds::y):=.box (W1.box h1) h
section
variable{P:Program}{g:Nat}{xs ys a:Φ}{K:AV->Φ->Prop}{E:Value->Φ->Prop}
def Aam{w:World}{S c:Δ}{b:Addr}{x:AV}{e:ϴ}{d:Nat}(f:Ac w S a e c)(i:a[d]? =some (.fu b x)):Ac w S [.elt x] [.pointer (some b)] (λ_=>0):=by
 obtain⟨v,e1,e2,k,j,l,m⟩:=f.take d i
 cases j with
 |fu hsp h1 h0 hcell hst h=>exact .elt hsp h1 h0 hcell hst (.nil Al)
def HC.elt{l:Addr}{x:AV}(n:Nat)(o:a[n]? =some (.fu l x))(h:HC P g (xs++ .elt x::ys) a K E):HC P g (xs++ .raw (.pointer (some l))::ys) a K E:=
 ⟨h.1,λw S A p c c1 q r m s=>by obtain⟨B,C,D,t,rfl,d,e,u⟩:=r.ku;obtain⟨v,F,e1,e2,rfl,y,f,z⟩:=e.bu;have i:=Az y;obtain⟨j,_,k⟩:=i;subst j;exact h.2 w S _ p c c1 q (du d (b4 (Aam m o) f (c:=t) (λb=>by have:=z b;have:=k b;omega)) u) m s⟩
def HC.sg{b:Addr}{x:AV}(c:Nat)(d:a[c]? =some (.fu b x))(h:HC P g (.elt x::ys) a K E):HC P g (.raw (.pointer (some b))::ys) a K E:=HC.elt (xs:=[]) c d h
def xw(a:Φ):Prop:=a.Pairwise λx y=>∀b,Qm x=some b->Qm y≠some b
def sA{w:World}{S c:Δ}{x:AV}{v:Value}{b:Nat}(h:Ac w S [x] [v] c)(d:Qm x=some b):0<c b:=by
 cases x<;>simp only[Qm,reduceCtorEq,dq]at d
 .subst d;cases h with|bp _ _ _ _ _ r8=>rw[r8];simp;omega
 .subst d;cases h with|bw _ _ _ _ _ _ r8=>rw[r8];simp;omega
theorem sB{w:World}{S:Δ}:∀{a:Φ} {e:ϴ} {c:Δ},Ac w S a e c->(∀b,c b<=1)->xw a
 |[],_,_,_,_=>List.Pairwise.nil
 |x::a,e,c,h,h1=>by obtain⟨v,p,q,r,rfl,i,f,s⟩:=h.bu;refine List.Pairwise.cons (λy k b l d=> ?_) (sB f λb=>by grind);obtain⟨j,m⟩:=dn k;obtain⟨u,f1,f2,_,n,_,o⟩:=f.take j m;have:=sA i l;have:=sA n d;grind
def HC.si(d:Hr P g)(h:xw a->HC P g xs a K E):HC P g xs a K E:=
 ⟨d,λw S v f c c1 i j e k=>(h (sB e λb=>by grind)).2 w S v f c c1 i j e k⟩
end
instance (priority:=20) {U:Nat} {c d x y:Φ} [Wi c d] [Wi x y]:Wi (.box U c::x) (.box U d::y):=⟨EZ Wi.h Wi.h⟩
end
structure Tk where
 kind:Nat
 text:Ab
 pos:Nat
inductive PR (α:Type) where
 |ok (x:α) (n:Nat)
 |bad (m:Nat)
def Xr(t:Tk):AV:=.agg [num t.kind,str t.text,num t.pos]
def rd(b:Nat)(t:List Tk)(n sz:Nat):Φ:=[.bp b 217 [.sl 3 (t.map Xr),num n,num sz]]
abbrev pt(b:Nat):AV:=.raw (.pointer (some ⟨b,0,none⟩))
def kF(m:Nat):Value:=.iface 214 (.int .i64 m)
def FA{a:List Tk}{n:Nat}{t:Tk}(h:a[n]? =some t):(a.map Xr).getD n .any=.agg [.raw (.int .i64 t.kind),.raw (.string ⟨t.text.toArray⟩),.raw (.int .i64 t.pos)]:=by simp[fk,h,Xr,num,str]
def Gj(a:List Tk)(n k:Nat):Bool:=match a[n]? with
 |some t=>t.kind==k
 |none=>false
def C6(a:List Tk)(s n k:Nat):PR Tk:=match a[n]? with
 |some t=>if t.kind=k then .ok t (n+1)else .bad t.pos
 |none=>.bad s
def RH{d:Type}(f:Nat)(args:Φ)(b:Nat)(t:List Tk)(sz n:Nat)(o:PR d)(A:d->AV->Prop):Prop:=
 QH f args (rd b t n sz) (λr c=>∃x a,o=.ok x a/\A x r/\c=rd b t a sz) (λv c=>∃m a,o=.bad m/\v=kF m/\c=rd b t a sz)
def RH.go{c f args b t sz n o}{A:c->AV->Prop}{K:AV->Ψ}{E:Value->Ψ}(h:RH f args b t sz n o A)(h1:∀x a r,o=.ok x a->A x r->K r (rd b t a sz))(d:∀m a,o=.bad m->E (kF m) (rd b t a sz)):QH f args (rd b t n sz) K E:=
 b7 h (λr e ⟨x,a,g1,g2,g3⟩=>by rw[g3];exact h1 x a r g1 g2) (λv e ⟨m,a,g1,g2,g3⟩=>by rw[g2,g3];exact d m a g1)
def Xs(b:Nat)(a:List Tk)(n sz k:Nat)(g:a.length<=1000000):QH 221 [pt b,num k] (rd b a n sz) (λr c=>r=Af (Gj a n k)/\c=rd b a n sz) (λ_ _=>False):=by
 refine Cc [] [] [(1,[],[0,1,2,4,5,6,2003,2007,8,9,10,11,12,13,15,16,17,22,2014,2018,19,20,2021,23,24,25],[],[])] b3 Dc Cl func221 oD oK (by simp only[go_sem,reduceIte];rfl) ntmps221 results221 rfl ?_;simp only[LS,Nat.reduceAdd,Nat.reduceSub];simp only[rd]
 cases h:a[n]? with
 |none=>have e1:=bd (show¬(n:Int)<(a.length:Int) by have:=List.getElem?_eq_none_iff.1 h;omega);simp only[num,str,pt,Af,Gj,h];repeat' first|apply Aq.on<;>intro _|refine gD ?_|simp only[go_sem,e1]
 |some t=>have d:=(ab.1 h).1;have e1:=bc (show(n:Int)<(a.length:Int) by omega);have e:=FA h;simp only[num,str,pt,Af,Gj,h];refine Wq (nA e1 (nA e (nA @Int.natCast_inj @Nat.beq_eq_true_eq))) ?_;by_cases f:t.kind=k<;>simp[f]
def Er(b:Nat)(a:List Tk)(n sz k:Nat)(i:a.length<=1000000):RH 222 [pt b,num k] b a sz n (C6 a sz n k) (λt r=>r=Xr t):=by
 unfold RH;refine Cc [] [] [(1,[],[0,1,2,4,5,6,2003,2007,8,9],[],[]),(3,[100000],[0,1,2,4,5,6,5003,5007,8,5009],[2010],[3011])] b3 Dc Cl func222 oD oK (by simp only[go_sem,reduceIte];rfl) ntmps222 results222 rfl ?_;simp only[LS,Nat.reduceAdd,Nat.reduceSub];simp only[rd]
 cases h:a[n]? with
 |none=>
  have e1:=bc (show(a.length:Int)<=(n:Int) by have:=List.getElem?_eq_none_iff.1 h;omega);have c:C6 a sz n k=.bad sz:=by simp[C6,h]
  rw[c];simp only[num,str,pt,Af];refine Zu ?_;exact⟨_,_,rfl,rfl,rfl⟩
 |some t=>
  have e:=(ab.1 h).1;have e1:=bd (show¬(a.length:Int)<=(n:Int) by omega);have f:=FA h;have g:=wS n;simp only[num,str,pt,Af];by_cases d:t.kind=k;have e2:=bc d;have c:C6 a sz n k=.ok t (n+1):=by simp[C6,h,d]
  rw[c];refine Z5 e1 e2 f g @Int.natCast_inj ?_;exact⟨_,_,rfl,rfl,rfl⟩;have e2:=bd d;have c:C6 a sz n k=.bad t.pos:=by simp[C6,h,d]
  rw[c];refine Zu ?_;exact⟨_,_,rfl,rfl,rfl⟩
inductive Nd where
 |mk (kind:Nat) (text name arg:Ab) (count:Int) (filters:Ξ) (kids els:List Nd)
def fA:Nat->Ξ->AV
 |2,fs=>.sl 1 (fs.map str)
 |_,_=>.nil
def kA:Nat->Φ->AV
 |3,l=>.sl 8 l
 |4,l=>.sl 8 l
 |_,_=>.nil
def eA:Nat->Φ->AV
 |4,l=>.sl 8 l
 |_,_=>.nil
mutual
def dO:Nd->Φ
 |.mk k t n a c fs ks es=>[num k,str t,str n,str a,num c,fA k fs,kA k (Ka ks),eA k (Ka es)]
def Ka:List Nd->Φ
 |[]=>[]
 |x::xs=>.agg (dO x)::Ka xs
end
def sC(x:Nd):AV:=.agg (dO x)
theorem dH(t n a c f k e):dO (.mk 1 t n a c f k e)=[num 1,str t,str n,str a,num c,.nil,.nil,.nil]:=rfl
theorem RG(t n a c f k e):dO (.mk 2 t n a c f k e)=[num 2,str t,str n,str a,num c,.sl 1 (f.map str),.nil,.nil]:=rfl
theorem RI(t n a c f k e):dO (.mk 3 t n a c f k e)=[num 3,str t,str n,str a,num c,.nil,.sl 8 (Ka k),.nil]:=rfl
theorem RJ(t n a c f k e):dO (.mk 4 t n a c f k e)=[num 4,str t,str n,str a,num c,.nil,.sl 8 (Ka k),.sl 8 (Ka e)]:=rfl
theorem fF(t n a c f k e):dO (.mk 5 t n a c f k e)=[num 5,str t,str n,str a,num c,.nil,.nil,.nil]:=rfl
def aK:∀x:Nd,(dO x).map v1=dO x
 |.mk k _ _ _ _ _ _ _=>by unfold dO fA kA eA;split<;>split<;>split<;>rfl
def Tj:∀x:Nd,rowOk 8 [.agg (dO x)]=true
 |.mk k _ _ _ _ _ _ _=>by unfold dO fA kA eA;split<;>split<;>split<;>rfl
def Tl(a ys):Ka (a++ys)=Ka a++Ka ys:=by
 induction a with
 |nil=>rfl
 |cons x a ih=>simp[Ka,ih]
def Hi(a:List Tk)(sz:Nat):Nat->Ξ->Nat->PR Ξ
 |0,fs,n=>.ok fs n
 |f+1,fs,n=>bif Gj a n 5 then(match C6 a sz (n+1) 2 with
  |.ok t n'=>Hi a sz f (fs++[t.text]) n'
  |.bad m=>.bad m)else .ok fs n
def Na(t:List Tk)(sz:Nat)(a:Ab)(n:Nat):PR Nd:=match Hi t sz t.length [] n with
 |.ok fs n'=>(match C6 t sz n' 7 with
  |.ok _ n2=>.ok (.mk 2 [] a [] 0 fs [] []) n2
  |.bad m=>.bad m)
 |.bad m=>.bad m
def aL{a sz n k b t}(h:C6 a sz n k=.ok t b):b=n+1/\a[n]? =some t/\t.kind=k:=by
 unfold C6 at h;split at h
 .rename_i f c;split at h
  rename_i d;injection h with h1 e;subst h1;exact⟨e.symm,c,d⟩
  .cases h
 .cases h
def yY{a sz n k}(h:Gj a n k=true):∃t,C6 a sz n k=.ok t (n+1)/\n<a.length:=by
 unfold Gj at h;split at h;rename_i t b;exact⟨t,by unfold C6;simp[b,by simpa using h],(ab.1 b).1⟩
 .cases h
def Aan(b:Nat)(a:List Tk)(n sz:Nat)(d:Ab)(p:a.length<=1000000)(y:n<=a.length):RH 225 [pt b,str d] b a sz n (Na a sz d n) (λx r=>r=sC x):=by
 unfold RH;refine G7 [] [] [(4,[12,10005],[0,2,1001],[2003,4,2005],[3006,7,3008])] func225 ?_;simp only[rd,num,str,pt,Af];refine Zu ?_;refine Ad (rl [8,12]) [5] (λm w u=>∃i k,k<=a.length/\i.length<=k/\w=[.box 272 [num 2,str [],str d,str [],num 0,.own 9 1 (i.map str),.nil,.nil]]/\u=rd b a k sz/\Hi a sz a.length [] n=Hi a sz m i k/\a.length<=k+m) ⟨a.length,_,_,⟨[],n,y,gu _,rfl,rfl,rfl,om⟩,hent (aa _) ?_⟩ ?_;simp only[PU,str,db];exact Zw
 .rintro m w u ⟨i,k,B,z,rfl,rfl,s,C⟩;simp only[PU,str,rd];refine Z0 ?_;refine(Xs b a k sz 5 p).mono ?_ (λ_ _ h=>h.elim);rintro r u ⟨rfl,rfl⟩;simp only[Af,rd]
  cases c:Gj a k 5 with
  |false=>
   refine Z1 c ?_;refine RH.go (Er b a k sz 7 p) (λt f r g l=> ?_) (λq f g=> ?_)
   .subst l;simp only[Xr,num,str];refine Z0 ?_;refine⟨sC (.mk 2 [] d [] 0 i [] []),_,?_,rfl,aa _,_,f,?_,rfl,rfl⟩
    simp only[sC,RG,num,str,db];exact W1.agg Zw
    .simp[Na,s];cases m<;>simp[Hi,c,g]
   .simp only[go_sem];exact⟨_,aa _,q,f,by simp[Na,s];cases m<;>simp[Hi,c,g],rfl,rfl⟩
  |true=>
   refine Z1 c ?_;obtain⟨D,o,A⟩:=yY (sz:=sz) c;refine RH.go (Er b a k sz 5 p) (λt f r g l=> ?_) (λq f g=>by rw[o]at g;cases g);subst l;obtain rfl:f=k+1:=by rw[o]at g;injection g with _ h;exact h.symm
   simp only[Xr,num,str];refine Z0 ?_;refine RH.go (Er b a (k+1) sz 2 p) (λt f r e l=> ?_) (λq f e=> ?_);subst l;obtain rfl:f=k+1+1:=(aL e).1;simp only[Xr,num,str];refine Z0 ?_;obtain⟨m,rfl⟩:∃j,m=j+1:=⟨m-1,om⟩;have v:=(ab.1 (aL e).2.1).1;refine Am m _ _ om ⟨i++[t.text],k+1+1,v,by simp;omega,rfl,rfl,?_,om⟩ (hent (aa _) ?_);rw[s];simp[Hi,c,e];simp only[PU,str,ip,ev,db];exact Zw
   .simp only[go_sem];refine⟨_,aa _,q,f,?_,rfl,rfl⟩
    cases m with
    |zero=>omega
    |succ m=>simp[Na,s,Hi,c,e]
def PR.bind{a b:Type}:PR a->(a->Nat->PR b)->PR b
 |.ok x n,g=>g x n
 |.bad m,_=>.bad m
@[simp] theorem PR.CA{a b}(x:a)(n)(g:a->Nat->PR b):PR.bind (.ok x n) g=g x n:=rfl
@[simp] theorem PR.CD{a b}(m)(g:a->Nat->PR b):PR.bind (.bad m) g=.bad m:=rfl
def PR.bind_ok{a b:Type}{o:PR a}{g:a->Nat->PR b}{y:b}{n}(h:o.bind g=.ok y n):∃x m,o=.ok x m/\g x m=.ok y n:=by
 cases o with
 |ok x m=>exact⟨x,m,rfl,h⟩
 |bad m=>cases h
abbrev az:=@PR.bind_ok
def Bg{b s n k a t}(h:C6 b s n k=.ok t a):n<a/\a<=b.length:=by obtain⟨rfl,c,_⟩:=aL h;exact⟨Nat.lt_succ_self _,(ab.1 c).1⟩
def RH.gb{c f args b t sz n o}{A:c->AV->Prop}{K:AV->Ψ}{E:Value->Ψ}(h:RH f args b t sz n o A)(d:∀m a,o=.bad m->E (kF m) (rd b t a sz))(h1:∀x a r,o=.ok x a->A x r->K r (rd b t a sz)):QH f args (rd b t n sz) K E:=h.go h1 d
def Fg:Ab:=[101,108,115,101]
def I3:Ab:=[101,110,100]
def N0:Ab:=[102,111,114]
def sD:Ab:=[105,102]
def O2:Ab:=[105,110,99,108,117,100,101]
abbrev sE:=Ξ->Nat->PR (List Nd×Ab)
def dP(a:List Tk)(s n:Nat):PR Ab:=bif Gj a n 4 then(C6 a s n 4).bind λt n=>.ok t.text n else .ok [] n
def cntF(b:Ab->Int)(a:List Tk)(s n:Nat):PR Int:=bif Gj a n 3 then(C6 a s n 3).bind λt n=>.ok (b t.text) n else .ok 0 n
def Q0(e:Ab->Int)(b:List Tk)(s:Nat)(d:sE)(n:Nat):PR Nd:=
 (C6 b s n 2).bind λt f=>(dP b s f).bind λa g=>(cntF e b s g).bind λc h=>(C6 b s h 7).bind λ_ i=>
 (d [I3] i).bind λl j=>.ok (.mk 3 [] t.text a c [] l.1 []) j
def Q3(a:List Tk)(b:Nat)(s:sE)(n:Nat):PR Nd:=
 (C6 a b n 2).bind λt d=>(C6 a b d 7).bind λ_ f=>(s [Fg,I3] f).bind λl c=>
 if l.2=Fg then(s [I3] c).bind λe g=>.ok (.mk 4 [] t.text [] 0 [] l.1 e.1) g else .ok (.mk 4 [] t.text [] 0 [] l.1 []) c
structure xv (av:Ab->Int) (ts:List Tk):Prop where
 atoi:∀t∈ts,QA 111 [str t.text] (λr=>r=.a6 [num (av t.text),.any])
 cont:∀(l:Ξ) (x:Ab),l.length<=1000000->QA 151 [.sl 1 (l.map str),str x] (λr=>r=Af (l.contains x))
def η(b:Nat)(t:List Tk)(a c d:Nat)(s:sE):Prop:=
 ∀w n,w.length<=1000000->c<=n->n<=t.length->RH 175 [pt b,num d,.sl 1 (w.map str)] b t a n (s w n) (λx r=>r=.a6 [.sl 8 (Ka x.1),str x.2])
def xu(t:List Tk)(b:Nat)(s:sE):Prop:=∀w n x a,b<=n->n<=t.length->s w n=.ok x a->n<=a/\a<=t.length
def P8{a s n k b t}(h:C6 a s n k=.ok t b):t∈a:=by
 unfold C6 at h;split at h
 .rename_i u c;split at h
  injection h with h _;subst h;exact cu c
  .cases h
 .cases h
def AeA{l:Ab->Int}{t:List Tk}(X:xv l t)(b:Nat)(n s d:Nat)(m:sE)(k:t.length<=1000000)(M:n<=t.length)(D:η b t s n d m):RH 223 [pt b,num d] b t s n (Q0 l t s m n) (λx r=>r=sC x):=by
 unfold RH;refine G7 [] [] [] func223 ?_;simp only[rd,num,str,pt,Af];refine Zu ?_;refine RH.gb (Er b t n s 2 k) (λq c e=>by simp only[go_sem];exact⟨_,aa _,q,c,by simp[Q0,e],rfl,rfl⟩) (λE g r h1 f=> ?_);subst f;have w:=Bg h1;simp only[Xr,num,str];refine Zu ?_;refine(Xs b t g s 4 k).mono ?_ (λ_ _ h=>h.elim);rintro r F ⟨rfl,rfl⟩;simp only[Af,rd];cases i:Gj t g 4;refine Zu ?_;have o:dP t s g=.ok [] g:=by simp[dP,i]
 obtain⟨a,rfl⟩:∃a,a=g:=⟨g,rfl⟩;have p:=w;rotate_left;refine Zu ?_;refine RH.gb (Er b t g s 4 k) (λq c e=>by simp only[go_sem];exact⟨_,aa _,q,c,by simp[Q0,dP,h1,i,e],rfl,rfl⟩) (λG a r B f=> ?_);subst f;have p:=Bg B;simp only[Xr,num,str];refine Zu ?_;have o:dP t s g=.ok G.text a:=by simp[dP,i,B]
 all_goals
  refine(Xs b t a s 3 k).mono ?_ (λ_ _ h=>h.elim);rintro r F ⟨rfl,rfl⟩;simp only[Af,rd];cases j:Gj t a 3;refine Zu ?_;have v:cntF l t s a=.ok 0 a:=by simp[cntF,j]
  obtain⟨u,rfl⟩:∃u,u=a:=⟨a,rfl⟩;have y:=p;rotate_left;refine Zu ?_;refine RH.gb (Er b t a s 3 k) (λq c e=>by simp only[go_sem];exact⟨_,aa _,q,c,by simp[Q0,cntF,h1,o,j,e],rfl,rfl⟩) (λC u r z f=> ?_);subst f;have y:=Bg z;simp only[Xr,num,str];refine Zu ?_;refine Zh (X.atoi C (P8 z)) ?_;have v:cntF l t s a=.ok (l C.text) u:=by simp[cntF,j,z]
  all_goals
   refine RH.gb (Er b t u s 7 k) (λq c e=>by simp only[go_sem];exact⟨_,aa _,q,c,by simp[Q0,h1,o,v,e],rfl,rfl⟩) (λN H r A f=> ?_);subst f;have I:=Bg A;simp only[Xr,num,str];refine Zu ?_;refine HC.wk (args:=[pt b,num d,.sl 1 ([I3].map str)]) (RH.gb (D [I3] H oS om om) (λq c e=>by simp only[go_sem];exact⟨_,aa _,q,c,by simp[Q0,h1,o,v,A,e],rfl,rfl⟩) (λJ K r L f=> ?_)) ?_;rotate_left;exact PY;subst f;refine Zn ?_;refine⟨sC (.mk 3 [] E.text _ _ [] J.1 []),_,?_,rfl,aa _,_,K,by simp[Q0,h1,o,v,A,L];exact⟨rfl,rfl⟩,rfl,rfl⟩;exact PF
def AeB(b t n f d s)(k:t.length<=1000000)(D:n<=t.length)(l:η b t f n d s)(p:xu t n s):RH 224 [pt b,num d] b t f n (Q3 t f s n) (λx r=>r=sC x):=by
 unfold RH;refine G7 [] [] [] func224 ?_;simp only[rd,num,str,pt,Af];refine Z0 ?_;refine RH.gb (Er b t n f 2 k) (λq a c=>by simp only[go_sem];exact⟨_,aa _,q,a,by simp[Q3,c],rfl,rfl⟩) (λm u r h1 e=> ?_);subst e;have v:=Bg h1;simp only[Xr,num,str];refine Z0 ?_;refine RH.gb (Er b t u f 7 k) (λq a c=>by simp only[go_sem];exact⟨_,aa _,q,a,by simp[Q3,h1,c],rfl,rfl⟩) (λE w r g e=> ?_);subst e;have y:=Bg g;simp only[Xr,num,str];refine Z0 ?_;refine HC.wk (args:=[pt b,num d,.sl 1 ([Fg,I3].map str)]) (RH.gb (l [Fg,I3] w oS om om) (λq a c=>by simp only[go_sem];exact⟨_,aa _,q,a,by simp[Q3,h1,g,c],rfl,rfl⟩) (λi o r j e=> ?_)) ?_;rotate_left;exact PY;subst e;simp only[num,str];repeat' first|apply Aq.on<;>intro _|refine gD ?_|simp only[go_sem]
 .rename_i h;have h:i.2=Fg:=by simpa[Fg]using h
  have z:=p _ _ _ _ om om j;refine HC.wk (args:=[pt b,num d,.sl 1 ([I3].map str)]) (RH.gb (l [I3] o oS om om) (λq a c=>by simp only[go_sem];exact⟨_,aa _,q,a,by simp[Q3,h1,g,j,h,c],rfl,rfl⟩) (λA B r C e=> ?_)) ?_;rotate_left;exact PY;subst e;refine Zn ?_;refine⟨sC (.mk 4 [] m.text [] 0 [] i.1 A.1),_,?_,rfl,aa _,_,B,by simp[Q3,h1,g,j,C,h],rfl,rfl⟩;exact PF
 rename_i h;have h:¬i.2=Fg:=by simpa[Fg]using h
 refine⟨sC (.mk 4 [] m.text [] 0 [] i.1 []),_,?_,rfl,aa _,_,o,by simp[Q3,h1,g,j,h],rfl,rfl⟩;exact PF
def Cb(c:Ab->Int)(a:List Tk)(s:Nat):Nat->Nat->Ξ->Nat->List Nd->PR (List Nd×Ab)
 |0,_,_,_,_=>.bad 0
 |f+1,d,w,n,l=>
  bif decide (n<a.length)then
   bif Gj a n 1 then(C6 a s n 1).bind λt b=>Cb c a s f d w b (l++[.mk 1 t.text [] [] 0 [] [] []])
   else(C6 a s n 6).bind λo h=>(C6 a s h 2).bind λt e=>
    if t.text=Fg\/t.text=I3 then
     bif w.contains t.text then(C6 a s e 7).bind λ_ g=>.ok (l,t.text) g else .bad t.pos
    else if t.text=N0\/t.text=sD then
     if d=8 then .bad o.pos else
     if t.text=N0 then(Q0 c a s (λw n=>Cb c a s f (d+1) w n []) e).bind λx b=>Cb c a s f d w b (l++[x])
     else(Q3 a s (λw n=>Cb c a s f (d+1) w n []) e).bind λx b=>Cb c a s f d w b (l++[x])
    else if t.text=O2 then(C6 a s e 2).bind λi g=>(C6 a s g 7).bind λ_ b=>Cb c a s f d w b (l++[.mk 5 [] i.text [] 0 [] [] []])
    else(Na a s t.text e).bind λx b=>Cb c a s f d w b (l++[x])
  else if w=[]then .ok (l,[]) n else .bad s
def Vf{a s}:∀{m:Nat} {f x:Ξ} {n b:Nat},n<=a.length->Hi a s m f n=.ok x b->n<=b/\b<=a.length
 |0,f,x,n,b,hn,h=>by injection h with _ h;omega
 |m+1,f,x,n,b,hn,h=>by
  unfold Hi at h
  cases d:Gj a n 5 with
  |false=>rw[d]at h;injection h with _ h;omega
  |true=>
   rw[d]at h
   cases c:C6 a s (n+1) 2 with
   |bad q=>rw[c]at h;cases h
   |ok t k=>rw[c]at h;have:=Bg c;have:=Vf this.2 h;omega
def P9{a s n b w x}(d:n<=a.length)(h:Na a s w n=.ok x b):n<=b/\b<=a.length:=by
 unfold Na at h
 cases h1:Hi a s a.length [] n with
 |bad q=>rw[h1]at h;cases h
 |ok fs k=>
  rw[h1]at h;have:=Vf d h1
  cases c:C6 a s k 7 with
  |bad q=>simp only[c]at h;cases h
  |ok t m=>simp only[c]at h;injection h with _ h;have:=Bg c;omega
def AeC{t:List Tk}{s n a:Nat}{x:Ab}(b:n<=t.length)(h:dP t s n=.ok x a):n<=a/\a<=t.length:=by
 unfold dP at h
 cases hm:Gj t n 4 with
 |false=>rw[hm]at h;injection h with _ h;omega
 |true=>exact AhE
def AeD{b:Ab->Int}{t:List Tk}{s n a:Nat}{x:Int}(c:n<=t.length)(h:cntF b t s n=.ok x a):n<=a/\a<=t.length:=by
 unfold cntF at h
 cases hm:Gj t n 3 with
 |false=>rw[hm]at h;injection h with _ h;omega
 |true=>exact AhE
def aM{e:Ab->Int}{b:List Tk}{f n d:Nat}{s:sE}{x:Nd}(g:xu b n s)(h:Q0 e b f s n=.ok x d):n<=d/\d<=b.length:=by obtain⟨t,o,h1,h⟩:=az h;obtain⟨a,p,i,h⟩:=az h;obtain⟨c,q,j,h⟩:=az h;obtain⟨u,r,k,h⟩:=az h;obtain⟨l,v,m,h⟩:=az h;injection h with _ h;have g1:=Bg h1;have g2:=AeC g1.2 i;have g3:=AeD g2.2 j;have g4:=Bg k;have g5:=g _ _ _ _ om g4.2 m;omega
theorem aN{a d n b s x}(c:xu a n s)(h:Q3 a d s n=.ok x b):n<=b/\b<=a.length:=by
 obtain⟨t,j,h1,h⟩:=az h;obtain⟨u,k,f,h⟩:=az h;obtain⟨l,m,g,h⟩:=az h;have g1:=Bg h1;have g2:=Bg f;have g3:=c _ _ _ _ om g2.2 g;split at h
 ·obtain ⟨e,o,i,h⟩:=az h;injection h with _ h;have g4:=c _ _ _ _ om g3.2 i;omega
 ·injection h with _ h;omega
def Fv{i:Ab->Int}{b s}:∀{f d:Nat} {w:Ξ} {n c:Nat} {l:List Nd} {x:List Nd×Ab},n<=b.length->Cb i b s f d w n l=.ok x c->n<=c/\c<=b.length
 |0,_,_,_,_,_,_,_,h=>by cases h
 |f+1,d,w,n,c,l,x,j,h=>by
  have k:∀m,xu b m (λw n=>Cb i b s f (d+1) w n []):=λm w n x c _ j h=>Fv j h;unfold Cb at h
  cases e:decide (n<b.length)with
  |false=>
   simp only[e,cond_false]at h;split at h
   .injection h with _ h;omega
   .cases h
  |true=>
   simp only[e,cond_true]at h
   cases e:Gj b n 1 with
   |true=>simp only[e,cond_true]at h;obtain⟨t,q,h1,h⟩:=az h;have g1:=Bg h1;have:=Fv g1.2 h;omega
   |false=>
    simp only[e,cond_false]at h;obtain⟨o,q,h1,h⟩:=az h;obtain⟨t,z,r,h⟩:=az h;have g1:=Bg h1;have g2:=Bg r;split at h
    .cases p:w.contains t.text with
     |true=>simp only[p,cond_true]at h;obtain⟨u,g,a,h⟩:=az h;injection h with _ h;have g3:=Bg a;omega
     |false=>simp only[p,cond_false]at h;cases h
    .split at h
     .split at h
      .cases h
      .split at h
       .obtain⟨x,g,a,h⟩:=az h;have g3:=aM (k _) a;have:=Fv g3.2 h;omega
       .obtain⟨x,g,a,h⟩:=az h;have g3:=aN (k _) a;have:=Fv g3.2 h;omega
     .split at h
      .obtain⟨x,g,a,h⟩:=az h;obtain⟨y,A,v,h⟩:=az h;have g3:=Bg a;have g4:=Bg v;have:=Fv g4.2 h;omega
      .obtain⟨x,g,a,h⟩:=az h;have g3:=P9 g2.2 a;have:=Fv g3.2 h;omega
def W1.a6{x ys:Φ}(h:Wk x ys):W1 (.a6 x) (.a6 ys):=λw S v c hr=>by exact Ag1
abbrev eu:=@W1.a6
def Es:∀l:List Nd,(Ka l).length=l.length
 |[]=>rfl
 |x::l=>by simp only[Ka,dg,Es l]
def AeE{J:Ab->Int}{t:List Tk}(X:xv J t)(b:Nat)(s:Nat)(y:t.length<=1000000):∀(f d:Nat) (ws:Ξ) (n:Nat),n<=t.length->ws.length<=1000000->d<=8->t.length<n+f->
 RH 175 [pt b,num d,.sl 1 (ws.map str)] b t s n (Cb J t s f d ws n []) (λx r=>r=.a6 [.sl 8 (Ka x.1),str x.2]):=by
 intro f
 induction f using Nat.strongRecOn with
 |ind f ih=>
  intro d ws n F L hd V;unfold RH;refine G7 [] [] [(2,[],[0,1,2,4,5,6,2003,2007,8,9],[],[]),(14,[],[0,1,3,2002,4],[],[])] func175 ?_;simp only[rd,num,str,pt,Af];refine Wp ?_;refine Ad (rl [9,86,9]) [8] (λm S O=>∃l k,k<=t.length/\l.length<=k/\m<=f/\S=[.own 272 8 (Ka l)]/\O=rd b t k s/\Cb J t s f d ws n []=Cb J t s m d ws k l/\t.length<k+m) ⟨f,_,_,⟨[],n,F,gu _,bx _,rfl,rfl,rfl,V⟩,hent (aa _) ?_⟩ ?_;simp only[PU,str,Ka];exact J4
  .rintro m S O ⟨l,k,hk,hlk,W,rfl,rfl,Y,hm⟩;obtain⟨m,rfl⟩:∃j,m=j+1:=⟨m-1,om⟩;rw[Y];simp only[PU,str,rd];by_cases hlt:k<t.length;rotate_left
   .have e1:=bd (show¬(k:Int)<(t.length:Int) by omega)
    cases ws with
    |nil=>have e2:=bd (show¬(0:Int)<((0:Nat):Int) by omega);refine Wq (nA e1 e2) ?_;refine⟨_,_,eu (ys:=[AV.sl 8 (Ka l),str []]) ?_,rfl,aa _,(l,[]),k,by simp[Cb,hlt],rfl,rfl⟩;simp only[str];exact J4
    |cons w ws=>have e2:=bc (show(0:Int)<((ws.length+1:Nat):Int) by omega);refine Wq (nA e1 e2) ?_;exact⟨_,aa _,_,k,by simp[Cb,hlt],rfl,rfl⟩
   have e1:=bc (show(k:Int)<(t.length:Int) by omega);refine Wq e1 ?_;refine(Xs b t k s 1 y).mono ?_ (λ_ _ h=>h.elim);rintro r O ⟨rfl,rfl⟩;simp only[Af,rd];cases hmo:Gj t k 1;rotate_left;refine Wq hmo ?_;refine RH.gb (Er b t k s 1 y) (λq g i=>by simp only[go_sem];exact⟨_,aa _,q,g,by simp[Cb,hlt,hmo,i],rfl,rfl⟩) (λT P r h1 o=> ?_);subst o;have Q:=Bg h1;simp only[Xr,num,str];refine Wq (nA @Es (nA @aK @Tj)) ?_;refine Am m _ _ om ⟨l++[.mk 1 T.text [] [] 0 [] [] []],P,om,by simp;omega,om,rfl,rfl,by simp[Cb,hlt,hmo,h1],om⟩ (hent (aa _) ?_);simp only[PU,str,Tl,Ka,dH,fF,sC,db];exact J4;refine Wq hmo ?_;refine RH.gb (Er b t k s 6 y) (λq g i=>by simp only[go_sem];exact⟨_,aa _,q,g,by simp[Cb,hlt,hmo,i],rfl,rfl⟩) (λT P r h1 o=> ?_);subst o;have Q:=Bg h1;simp only[Xr,num,str];refine Wp ?_;refine RH.gb (Er b t P s 2 y) (λq g i=>by simp only[go_sem];exact⟨_,aa _,q,g,by simp[Cb,hlt,hmo,h1,i],rfl,rfl⟩) (λt2 n2 r h2 o=> ?_);subst o;have C:=Bg h2;simp only[Xr,num,str];cases B:t2.text==[101,108,115,101];rotate_left
   .have hw:t2.text=Fg\/t2.text=I3:=.inl (by simpa[Fg]using B);refine Wq B ?_;refine ae (X.cont ws t2.text L) ?_;rintro r rfl;simp only[Af];cases hc:ws.contains t2.text
    exact AgW;refine Wq hc ?_;have hc:t2.text∈ws:=by simpa using hc
    refine RH.gb (Er b t n2 s 7 y) (λq g i=>by simp only[go_sem];exact⟨_,aa _,q,g,by simp[Cb,hlt,hmo,h1,h2,hw,hc,i],rfl,rfl⟩) (λR z r u o=> ?_);subst o;have A:=Bg u;simp only[Xr,num,str];refine Wp ?_;refine⟨_,_,eu (ys:=[AV.sl 8 (Ka l),str t2.text]) ?_,rfl,aa _,(l,t2.text),z,by simp[Cb,hlt,hmo,h1,h2,hw,hc,u],rfl,rfl⟩;simp only[str];exact J4
   cases D:t2.text==[101,110,100];rotate_left
   .have hw:t2.text=Fg\/t2.text=I3:=.inr (by simpa[I3]using D);refine Wq (nA B D) ?_;refine ae (X.cont ws t2.text L) ?_;rintro r rfl;simp only[Af];cases hc:ws.contains t2.text
    exact AgW;refine Wq hc ?_;have hc:t2.text∈ws:=by simpa using hc
    refine RH.gb (Er b t n2 s 7 y) (λq g i=>by simp only[go_sem];exact⟨_,aa _,q,g,by simp[Cb,hlt,hmo,h1,h2,hw,hc,i],rfl,rfl⟩) (λR z r u o=> ?_);subst o;have A:=Bg u;simp only[Xr,num,str];refine Wp ?_;refine⟨_,_,eu (ys:=[AV.sl 8 (Ka l),str t2.text]) ?_,rfl,aa _,(l,t2.text),z,by simp[Cb,hlt,hmo,h1,h2,hw,hc,u],rfl,rfl⟩;simp only[str];exact J4
   have a:¬t2.text=Fg:=by simpa[Fg]using B
   have c:¬t2.text=I3:=by simpa[I3]using D
   cases E:t2.text==[102,111,114];rotate_left;have e:t2.text=N0:=by simpa[N0]using E
   have hw:¬(t2.text=Fg\/t2.text=I3):=λh=>h.elim a c;by_cases G:d=8;have H:=bc (show(d:Int)=8 by omega);refine Wq (nA B (nA D (nA E H))) ?_;exact⟨_,aa _,_,n2,by simp[Cb,hlt,hmo,h1,h2,a,c,e,show¬N0=Fg by decide,show¬N0=I3 by decide,G],rfl,rfl⟩;have H:=bd (show¬(d:Int)=8 by omega);have I:IntKind.i64.wrap ((d:Int)+1)=((d+1:Nat):Int):=Da om;refine Wq (nA B (nA D (nA E (nA H I)))) ?_;refine RH.gb (AeA X b n2 s (d+1) (λws n=>Cb J t s m (d+1) ws n []) y C.2 (λws n hw _ h=>ih m om (d+1) ws n h hw om om)) (λq g i=>by simp only[go_sem];exact⟨_,aa _,q,g,by simp[Cb,hlt,hmo,h1,h2,a,c,e,show¬N0=Fg by decide,show¬N0=I3 by decide,G,i],rfl,rfl⟩) (λM z r u o=> ?_);subst o;have A:=aM (λws n x g _ F h=>Fv F h) u;simp only[num,str,sC];refine Wq (nA @Es (nA @aK @Tj)) ?_;refine Am m _ _ om ⟨l++[M],z,om,by simp;omega,om,rfl,rfl,by simp[Cb,hlt,hmo,h1,h2,a,c,e,show¬N0=Fg by decide,show¬N0=I3 by decide,G,u],om⟩ (hent (aa _) ?_);simp only[PU,str,Tl,Ka,dH,fF,sC,db];exact J4;have e:¬t2.text=N0:=by simpa[N0]using E
   cases K:t2.text==[105,102];rotate_left;have p:t2.text=sD:=by simpa[sD]using K
   by_cases G:d=8;have H:=bc (show(d:Int)=8 by omega);refine Wq (nA B (nA D (nA E (nA K H)))) ?_;exact⟨_,aa _,_,n2,by simp[Cb,hlt,hmo,h1,h2,a,c,e,p,show¬sD=Fg by decide,show¬sD=I3 by decide,show¬sD=N0 by decide,G],rfl,rfl⟩;have H:=bd (show¬(d:Int)=8 by omega);have I:IntKind.i64.wrap ((d:Int)+1)=((d+1:Nat):Int):=Da om;refine Wq (nA B (nA D (nA E (nA K (nA H I))))) ?_;refine RH.gb (AeB b t n2 s (d+1) (λws n=>Cb J t s m (d+1) ws n []) y C.2 (λws n hw _ h=>ih m om (d+1) ws n h hw om om) (λws n x g _ F h=>Fv F h)) (λq g i=>by simp only[go_sem];exact⟨_,aa _,q,g,by simp[Cb,hlt,hmo,h1,h2,a,c,e,p,show¬sD=Fg by decide,show¬sD=I3 by decide,show¬sD=N0 by decide,G,i],rfl,rfl⟩) (λM z r u o=> ?_);subst o;have A:=aN (λws n x g _ F h=>Fv F h) u;simp only[num,str,sC];refine Wq (nA @Es (nA @aK @Tj)) ?_;refine Am m _ _ om ⟨l++[M],z,om,by simp;omega,om,rfl,rfl,by simp[Cb,hlt,hmo,h1,h2,a,c,e,p,show¬sD=Fg by decide,show¬sD=I3 by decide,show¬sD=N0 by decide,G,u],om⟩ (hent (aa _) ?_);simp only[PU,str,Tl,Ka,dH,fF,sC,db];exact J4;have p:¬t2.text=sD:=by simpa[sD]using K
   cases N:t2.text==[105,110,99,108,117,100,101];rotate_left;have v:t2.text=O2:=by simpa[O2]using N
   refine Wq (nA B (nA D (nA E (nA K N)))) ?_;refine RH.gb (Er b t n2 s 2 y) (λq g i=>by simp only[go_sem];exact⟨_,aa _,q,g,by simp[Cb,hlt,hmo,h1,h2,a,c,e,p,v,show¬O2=Fg by decide,show¬O2=I3 by decide,show¬O2=N0 by decide,show¬O2=sD by decide,i],rfl,rfl⟩) (λR z r u o=> ?_);subst o;have A:=Bg u;simp only[Xr,num,str];refine Wq (nA @Es (nA @aK @Tj)) ?_;refine RH.gb (Er b t z s 7 y) (λq g i=>by simp only[go_sem];exact⟨_,aa _,q,g,by simp[Cb,hlt,hmo,h1,h2,a,c,e,p,v,show¬O2=Fg by decide,show¬O2=I3 by decide,show¬O2=N0 by decide,show¬O2=sD by decide,u,i],rfl,rfl⟩) (λt4 Z r U o=> ?_);subst o;have hk4:=Bg U;simp only[Xr,num,str];refine Wp ?_;refine Am m _ _ om ⟨l++[.mk 5 [] R.text [] 0 [] [] []],Z,om,by simp;omega,om,rfl,rfl,by simp[Cb,hlt,hmo,h1,h2,a,c,e,p,v,show¬O2=Fg by decide,show¬O2=I3 by decide,show¬O2=N0 by decide,show¬O2=sD by decide,u,U],om⟩ (hent (aa _) ?_);simp only[PU,str,Tl,Ka,dH,fF,sC,db];exact J4;have v:¬t2.text=O2:=by simpa[O2]using N
   refine Wq (nA B (nA D (nA E (nA K N)))) ?_;refine RH.gb (Aan b t n2 s t2.text y C.2) (λq g i=>by simp only[go_sem];exact⟨_,aa _,q,g,by simp[Cb,hlt,hmo,h1,h2,a,c,e,p,v,i],rfl,rfl⟩) (λM z r u o=> ?_);subst o;have A:=P9 C.2 u;simp only[num,str,sC];refine Wq (nA @Es (nA @aK @Tj)) ?_;refine Am m _ _ om ⟨l++[M],z,om,by simp;omega,om,rfl,rfl,by simp[Cb,hlt,hmo,h1,h2,a,c,e,p,v,u],om⟩ (hent (aa _) ?_);simp only[PU,str,Tl,Ka,dH,fF,sC,db];exact J4
section
variable[Env]
variable{bg:Ϙ}
def sF:FrameMode->Option (Value×FrameMode)
 |.returning=>some (.nilIface,.returning)
 |.panicking [⟨.iface t v,false,false⟩]=>some (.iface t v,.panicking [⟨.iface t v,true,false⟩])
 |_=>none
def gJ(K:FrameMode->Ω)(d:Γ)(a b:Φ):Option (Value×FrameMode)->Prop
 |some (v,u)=>K u a (am b d (.raw v))
 |none=>False
def Wm:Op->Bool
 |.call ⟨.builtin .recover,_,_⟩=>true
 |_=>false
def Q4(P:Program)(T:Br)(H:Hw)(K:FrameMode->Ω)(E:Value->Ω):List CO->FrameMode->Ω
 |[],u,a,b=>K u a b
 |⟨d,op,none⟩::l,u,a,b=>bif Wm op then gJ (λu a b=>Q4 P T H K E l u a b) d a b (sF u)else hop P T H d op a b (λa b=>Q4 P T H K E l u a b) E
 |_::_,_,_,_=>False
section
variable{P:Program}{T:Br}{H:Hw}{w0 w:World}{S0 c0:Nat->Nat}{k m:Φ}{a:Act}
def KO{u b:FrameMode}{v}(h:sF u=some (v,b))(c:Frame)(d)(f:c.mode=u):
 v.oneCell'=true/\((u=.returning/\b=.returning/\v=.nilIface/\recoverD (c::d)=none)\/recoverD (c::d)=some (v,{c with mode:=b}::d)):=by
 unfold sF at h;split at h;injection h with h;injection h with h1 e;subst h1;subst e;exact⟨rfl,.inl ⟨rfl,rfl,rfl,by simp[recoverD,f]⟩⟩;injection h with h;injection h with h1 e;subst h1;subst e;exact⟨rfl,.inr (by simp[recoverD,f])⟩
 .cases h
def yZ{o}(h:Wm o=true):∃x t,o=.call ⟨.builtin .recover,x,t⟩:=by
 unfold Wm at h
 grind
def Wn(Y:Ax P T)(Z:C1 P H){t}{K:FrameMode->Ω}{E:Value->Ω}{Q:Exit->Act->List Frame->World->Prop}(A:Frame)(B):
 ∀(l:Θ) (C:List Oper) (I:List CO) (u:FrameMode) (k m:Φ) (a:Act) (w:World),l.map (t[·]?)=C.map some->Dz t C=some I->Ah bg w0 S0 c0 k m a w->Q4 P T H K E I u k m->
  (∀u k m y p,Ah bg w0 S0 c0 k m y p->K u k m->Q .normal y ({A with mode:=u}::B) p)->(∀u v k m y p,E v k m->Ah bg w0 S0 c0 k m y p->Q (.panic [{v:=v,recovered:=false}]) y ({A with mode:=u}::B) p)->wpOpsS P t Q l a ({A with mode:=u}::B) w
 |[],C,I,u,k,m,a,w,z,d,f,h,hQ,hE=>by
  cases C with
  |nil=>simp[Dz]at d;subst d;exact hQ u k m a w f h
  |cons o C=>simp at z
 |i::l,[],I,u,k,m,a,w,z,d,f,h,hQ,hE=>by simp at z
 |i::l,o::C,I,u,k,m,a,w,z,d,f,h,hQ,hE=>by
  simp only[ev,b5]at z;obtain⟨ho,z⟩:=z;simp only[Dz]at d;split at d
  .rename_i g r s hr;injection d with d;subst d;have J:∀u k m a w,Ah bg w0 S0 c0 k m a w->Q4 P T H K E r u k m->wpOpsS P t Q l a ({A with mode:=u}::B) w:=λu k m a w f h=>Wn Y Z A B l C r u k m a w z hr f h hQ hE
   cases D:o.guard with
   |some jw=>
    obtain⟨j,want⟩:=jw;rw[D]at s;simp only[El]at s;split at s;injection s with s;subst s;exact A7
    .cases s
   |none=>
    rw[D]at s;simp only[El]at s;injection s with s;subst s;have hw:wanted o (yielded t a.tmps)=true:=by simp[wanted,D]
    simp only[Q4]at h;simp only[wpOpsS,ho];rw[bn hw]
    cases x:Wm o.op with
    |true=>
     rw[x]at h;simp only[cond_true]at h;obtain⟨xs,ts,hop⟩:=yZ x;have L:(execOp a.eval o).run P w=.ok .recover w:=by unfold execOp;simp[hop,resolve,invoke,builtin]
     rw[L]
     cases O:sF u with
     |none=>rw[O]at h;exact h.elim
     |some q=>
      obtain⟨v,u'⟩:=q;rw[O]at h;simp only[gJ]at h;obtain⟨M,hsp⟩:=KO O {A with mode:=u} B rfl;have hput:Ah bg w0 S0 c0 k (am m o.dst (.raw v)) (a.put o.dst v) w:=by obtain⟨S,c,c1,gv,R,U,V,h1,hd,hz,hs⟩:=f;obtain⟨c4,N,h3⟩:=U.am (.raw (v:=v) M (.nil Al)) o.dst;exact⟨S,c4,c1,gv,R.am _ _ rfl,N,V,λb=>by grind,by rw[G5];exact hd,hz,hs.drop λb=>by grind⟩
      grind
    |false=> rw[x]at h;simp only[cond_false]at h;have W:=F4 (Q:=λe y p=>Q e y ({A with mode:=u}::B) p) Y Z f h λv F G p h1 N=>hE u v F G a p h1 N;have n:=Ba (λy p ⟨F,G,h1,N⟩=>J u F G y p N h1) W;unfold Oper.wp at n;split;rename_i p X;rw[X]at n;exact n.elim;exact n
  .cases d
def HD(P:Program)(g:Nat)(args k:Φ)(u:FrameMode)(K:FrameMode->Ψ):Prop:=
 Hr P g/\∀w S h i c c1,Sz w S->Ac w S args h c->Ac w S k i c1->(∀b,c b+c1 b<=1)->CallsD P g h.toArray u w λe j w'=>
  ∃v γ' S' d f,e=.returned v/\K j γ'/\Ac w' S' γ' f d/\(∀b,d b<=1)/\Sz w' S'/\Stp w S (λb=>c b+c1 b) w' S' d
def AiF(Q:Ax P T)(R:C1 P H)(hm:P.follows .mixedOrders=true){A EE O f p id o g l d args k}{u:FrameMode}{K:FrameMode->List AV->Prop}(U:P.funcs[f]? =some p)(V:p.body=some (.seq (.region id o false) g))(hl:Dz o o.toList=some l)(hcd:Di A EE O g=some d)(z:Jg T A EE O g=true)(hn:(p.name== "runtime.NumGoroutine")=false)(hpa:args.all pb=true){nt}(B:p.ntmps=nt)(C:p.results= #[])(h:Q4 P T H (λu k m=>Cp P T H d (λe k m=>(e=.normal\/e=.ret)/\K u k) k m) (λ_ _ _=>False) l u k (args++List.replicate (nt-args.length) .any)):HD P f args k u K:=by
 refine⟨⟨p,_,U,V,hn⟩,λw S vs gv c c1 hz W hg hc=> ?_⟩;have hlen:=W.length;refine callsD_of_wpS U V λr D E=>wpS_seq (wpS_region ?_);have s:r={r with mode:=u}:=by rw[<-E]
 rw[s];refine Wn (bg:=[]) (w0:=w) (S0:=S) (c0:=λb=>c b+c1 b) Q R r D (List.range o.size) o.toList l u k _ _ w Yb hl ?_ h (λX j F a' w' G hK=> ?_) (λ_ _ _ _ _ _ hE _=>hE.elim);refine ⟨S,c,c1,gv,yh,?_,hg,hc,rfl,hz,bt w S _⟩
 have I:∀n,Ac w S (List.replicate n .any) (List.replicate n undef) (λ_=>0):=by
  exact Ail
 have:=du W (I (nt-args.length)) (c:=c) (λb=>oS);simpa[B,hlen]using this;refine wpS_of_wp (wp_mono (Ce Q R hm g d hcd z _ j F a' w' G hK) λe Y t hq=> ?_);obtain⟨J,σ2,⟨he,L⟩,x,c',i,q,Z,hr',M,h1,hd,N,hs⟩:=hq
 have y:Y.defers=[]/\∃u2,{r with mode:=X}::D={{r with mode:=u}with mode:=u2}::D/\∃v,(results p Y.tmps).run P t=.ok v t/\∃v' j x i q,Ending.returned v=.returned v'/\K u2 j/\Ac t x j q i/\(∀b,i b<=1)/\Sz t x/\Stp w S (λb=>c b+c1 b) t x i:=
  ⟨hd,X,rfl,.tuple #[],by rw[H1];simp [C],_,J,x,i,q,rfl,L,M,λb=>by grind,N,hs.drop λb=>by grind⟩
 rcases he with rfl|rfl;exact y;exact y
end
end
section
variable[Env]
def zC:AV->AV
 |.raw v=>.raw v
 |_=>.any
abbrev ptr(b:Nat):Value:=.pointer (some ⟨b,0,none⟩)
def DK:AV->Γ
 |.raw (.pointer (some ⟨b,0,none⟩))=>some b
 |_=>none
def Aao{x b}(h:DK x=some b):x=.raw (ptr b):=by
 unfold DK at h
 grind
def DL:AV->Option (Nat×Nat×List AV)
 |.bp b T cs=>some (b,T,cs)
 |_=>none
def Aap{x b T c}(h:DL x=some (b,T,c)):x=.bp b T c:=by
 unfold DL at h
 grind
def Kb:Θ->(Θ->Ω)->Ω
 |[],K,γ,σ=>K [] γ σ
 |s::ss,K,γ,σ=>match σ.getD s .any with
  |.box T cs=>∀b,(∀x∈γ,Qm x≠some b)->Kb ss (λa=>K (b::a)) (.bp b T cs::γ) (σ.set s (.raw (ptr b)))
  |_=>False
def NZ:Ϥ->Ω->Ω
 |[],K,σ,γ=>K σ γ
 |(s,i)::l,K,σ,γ=>match DK (σ.getD s .any),DL (γ.getD i .any)with
  |some b,some (b',T,cs)=>b'=b/\NZ l K (σ.set s (.box T cs)) (γ.set i .any)
  |_,_=>False
def getD_some{a:Φ}{s:Nat}{x}(h:a.getD s .any=x)(b:x≠ .any):a[s]? =some x:=by grind
section
variable{P:Program}{T:Br}{H:Hw}{bg:Ϙ}{w0 w:World}{S S0 c0:Nat->Nat}{j k:Φ}{a:Act}
def gK{w' S'}:∀{k:Φ} {b:ϴ} {c:Δ},Ac w S k b c->Ac w' S' (k.map zC) b (λ_=>0)
 |[],b,c,h=>by cases h with|nil hz=>exact .nil Al
 |x::k,b,c,h=>by
  obtain⟨v,u,c1,c2,rfl,h1,d,_⟩:=h.bu;have i:=gK (w':=w') (S':=S') d
  cases x<;>first
   |(obtain⟨rfl,e,_⟩:=Az h1;exact .raw e i)
   |exact .any i
def KP{m q:ϴ}{c c1:Δ}{s i b T:Nat}{n:Φ}(r:Ac w S k m c)(t:Ac w S j q c1)(y:k[s]? =some (.raw (ptr b)))(z:j[i]? =some (.bp b T n)):
 ∃o g d,Ac w S (k.set s (.box T n)) m o/\Ac w S (j.set i .any) g d/\∀x,o x+d x=c x+c1 x:=by
 obtain⟨u,f1,f2,I,A,B,C⟩:=t.take i z
 cases A with
 |bp hb hS hcs hoc h hcc=>
  rename_i D E J;cases h with|nil hz=>
  obtain⟨v,e1,e2,e,F,G,f⟩:=r.take s y;obtain⟨rfl,_,l⟩:=Az F;have p:=G.fill (Ac.box hb hS hcs hoc (.nil Al) (c:=λx=>(if x=b then 1 else 0)+(E x+0)) (λx=>rfl)) s (by grind);rw[lu,Ag e]at p;exact⟨_,_,_,p,B,λx=>by have:=C x;have:=f x;have:=hcc x;have:=hz x;have:=l x;omega⟩
theorem gL:∀{l:Ϥ} {K:Ω} {k j:Φ} {v m:ϴ} {c c1:Δ},Ac w S k v c->Ac w S j m c1->NZ l K k j->
 ∃d e g n f,K d e/\Ac w S d v n/\Ac w S e g f/\∀x,n x+f x=c x+c1 x
 |[],K,k,j,v,m,c,c1,hr,hg,h=>⟨k,j,m,c,c1,h,hr,hg,λ_=>rfl⟩
 |(s,i)::l,K,k,j,v,m,c,c1,hr,hg,h=>by
  unfold NZ at h;split at h
  ·rename_i b r T t o hq;obtain⟨rfl,h⟩:=h;obtain⟨n,g,f,h1,p,u⟩:=KP hr hg (getD_some (Aao o) (by grind)) (getD_some (Aap hq) (by grind));obtain⟨d,e,q,c2,y,g1,g2,g3,g4⟩:=gL h1 p h
   grind
  grind
theorem K4:∀{f:Θ} {K:Θ->Ω} {j k:Φ},Ah bg w0 S0 c0 j k a w->Kb f K j k->
 ∃g d e,K g d e/\Ah bg w0 S0 c0 d e a w/\f.map (λs=>a.eval (.tmp s))=g.map ptr
 |[],K,j,k,hst,h=>⟨[],j,k,h,hst,rfl⟩
 |s::f,K,j,k,hst,h=>by
  unfold Kb at h;split at h
  .rename_i T n l;have i:=getD_some l (by grind);obtain⟨b,m,c⟩:=hst.name i;obtain⟨g,d,e,h1,o,p⟩:=K4 c (h b m);have q:a.eval (.tmp s)=ptr b:=c.raw (t:=s) (by grind)
   grind
  grind
def Tm(g:Ax P T)(i:C1 P H)(l:P.follows .mixedOrders=true)(A E O ss){c d}{Q:Exit->Ω}(m:Di A E O c=some d)(n:Jg T A E O c=true)(h:Kb ss (λ_ j k=>Cp P T H d Q j k) j k):Cp P T H (.ext c) Q j k:=λbg w0 S0 c0 a w b=>
 let ⟨_,e,f,h1,o,_⟩:=K4 b h
 Ce g i l c d m n Q e f a w o h1
def KQ(P:Program)(T:Br)(H:Hw)(Q:Exit->Ω)(K:Ω):List CH->Ω
 |[],j,k=>K j k
 |d::ds,j,k=>Cp P T H d (Lw (KQ P T H Q K ds) Q) j k
def aO(g:Ax P T)(i:C1 P H)(l:P.follows .mixedOrders=true){A:Pw}{E:Θ}{O}{Q:Exit->Ω}{K:Ω}{R:Exit->Ϣ}{B:Code}(m:∀e j k a w,e≠ .normal->Q e j k->Ah bg w0 S0 c0 j k a w->R e a w)(n:∀j k a w,K j k->Ah bg w0 S0 c0 j k a w->B.wp P R a w):
 ∀{f:List Code} {b:List CH} {j k:Φ} {a:Act} {w:World},f.map (Di A E O)=b.map some->f.all (Jg T A E O)=true->Ah bg w0 S0 c0 j k a w->KQ P T H Q K b j k->(f.foldr .seq B).wp P R a w
 |[],b,j,k,a,w,hA,hk,hst,h=>by
  cases b with
  |nil=>exact n j k a w h hst
  |cons d b=>cases hA
 |x::f,b,j,k,a,w,hA,hk,hst,h=>by
  cases b with
  |nil=>cases hA
  |cons d b=>
   simp only[ev,b5]at hA;simp only[sn,gk]at hk;refine wp_seq (wp_mono (Ce g i l x d hA.1 hk.1 _ j k a w hst h) λe q r hq=> ?_);obtain⟨o,p,hq,c⟩:=hq
   cases e with
   |normal=>exact aO g i l m n hA.2 hk.2 c hq
   |_=>exact m _ _ _ _ _ (by grind) hq c
def ζ(P:Program)(T:Br)(g:Nat)(r:List ResultVar)(l:Ϥ)(K:AV->Ψ)(e:Θ):Exit->Ω
 |.normal,j,k|.ret,j,k=>HD P g (e.map λb=>.raw (ptr b)) j .returning λu c=>settle u=.returning/\NZ l (λk j=>Jc T r k λd=>K (Xa d) j) (k.map zC) c
 |.panic [⟨v,false,false⟩],j,k=>HD P g (e.map λb=>.raw (ptr b)) j (.panicking [⟨v,false,false⟩]) λu c=>settle u=.returning/\NZ l (λk j=>Jc T r k λd=>K (Xa d) j) (k.map zC) c
 |_,_,_=>False
def sG(w S):∀c:Θ,Ac w S (c.map λb=>.raw (ptr b)) (c.map ptr) (λ_=>0)
 |[]=>.nil Al
 |b::c=>.raw rfl (sG w S c)
def zD(K:Ax P T){C d g t q:Nat}{l:Θ}{p1 r:String}{u x:Array Edge}{z}{e:Θ}{Q:Exit->Ϣ}(m:Ah [] w0 S0 c0 j k a w)(L:l.map (λs=>a.eval (.tmp s))=e.map ptr)(M:d<k.length)(h:∀A,Ah [⟨.fn (.func g) (e.map ptr).toArray,#[]⟩] w0 S0 c0 j (k.set d .any) A w->Q .normal A w):
 (Code.region C #[{dst:=some d,op:=.makeFunc (.func g) #[] (l.map Operand.tmp).toArray,type:=t,pos:=p1,after:=u,guard:=none},{dst:=none,op:=.defer {callee:=.value (.tmp d),args:= #[],argTypes:=z},type:=q,pos:=r,after:=x,guard:=none}] false).wp P Q a w:=by
 apply wp_region
 have f:((l.map Operand.tmp).toArray.map a.eval)=(e.map ptr).toArray:=by
  grind
 obtain⟨S,c,c1,D,n,B,E,h1,o,F,G⟩:=m;have hlen:d<a.tmps.size:=by have:=B.length;rw[ot]at this;omega
 have N:a.eval (.tmp d)=a.eval (.tmp d):=rfl;show wpOps P _ _ [0,1] a w;simp only[wpOps,List.getElem?_toArray,ba,aw];rw[bn (by simp[wanted])];refine .inl ?_;unfold Oper.wp;rw[show(execOp a.eval {dst:=some d,op:=.makeFunc (.func g) #[] (l.map Operand.tmp).toArray,type:=t,pos:=p1,after:=u,guard:=none}).run P w=.ok (.value (.func (.func g) #[] (e.map ptr).toArray)) w from by unfold execOp;simp only[Instr.makeFunc,f];simp];rw[Oper.upon_value];rw[bn (by simp[wanted])];refine .inl ?_;dsimp only;have p:(a.put (some d) (.func (.func g) #[] (e.map ptr).toArray)).eval (.tmp d)=.func (.func g) #[] (e.map ptr).toArray:=by simp[Act.eval,Act.put,hlen]
 rw[show(execOp (a.put (some d) (.func (.func g) #[] (e.map ptr).toArray)).eval {dst:=none,op:=.defer {callee:=.value (.tmp d),args:= #[],argTypes:=z},type:=q,pos:=r,after:=x,guard:=none}).run P w=.ok (.defer ⟨.fn (.func g) (e.map ptr).toArray,#[]⟩) w from by unfold execOp;simp only[resolve,p,Deferred.ofValue];simp];rw[Oper.upon_defer];apply h _;obtain⟨I,J,O⟩:=B.am (.any (v:=.func (.func g) #[] (e.map ptr).toArray) (.nil Al)) (some d);have i:=n.am (y:=.any) (some d) (.func (.func g) #[] (e.map ptr).toArray) rfl;refine⟨S,I,c1,D,i,J,E,λb=>by grind,?_,F,G.drop λb=>by grind⟩;show _::(a.put (some d) _).defers=_;rw[G5,o]
def Aaq(p:Ax P T){fn:Func}{rs:List ResultVar}(q:fn.results.toList=rs){w':World}{S' c e d:Δ}{g:ϴ}{K:AV->Ψ}(l:Ac w' S' k a.tmps.toList e)(m:Ac w' S' j g d)(h1:∀b,e b+d b<=1)(n:Sz w' S')(s:Stp w0 S0 c w' S' (λb=>e b+d b))(hq:Jc T rs k λt=>K (Xa t) j):
 ∃v,(results fn a.tmps).run P w'=.ok v w'/\∃v' r i S' e d g,Ending.returned v=.returned v'/\K r i/\pb r=true/\Ac w' S' [r] [v'] e/\Ac w' S' i g d/\(∀b,e b+d b<=1)/\Sz w' S'/\Stp w0 S0 c w' S' (λb=>e b+d b):=by
 obtain⟨mi,us,x,o,y,hv,z,A,f⟩:=Gr p rs k e _ l hq;have B:(fn.results.mapM (J5 a.tmps)).run P w'=.ok us.toArray w':=by exact QF
 refine⟨(if h:us.toArray.size=1 then us.toArray[0]else .tuple us.toArray),?_,_,_,j,S',x,d,g,rfl,y,?_,?_,m,λb=>by grind,n,s.drop λb=>by grind⟩;rw[H1];simp_all
 match mi,f with
 |[],_=>rfl
 |[v],f=>exact f v oS
 |v::v'::mi,_=>rfl
 exact OD
def aP(C:Ax P T)(hH:C1 P H)(hm:P.follows .mixedOrders=true)(A:Pw)(E:Θ)(O:U7){f:Nat}{n:Func}{m B:Code}{As:List Code}{ds:List CH}{W:CH}{id d g t1 t2:Nat}{ss:Θ}{p1 p2:String}{a1 a2:Array Edge}{ty}{args j:Φ}{K:AV->Ψ}{F:Value->Ψ}(l:Ϥ)(hf:P.funcs[f]? =some n)(hb:n.body=some m)(hn:(n.name== "runtime.NumGoroutine")=false)(hpa:args.all pb=true){nt}(hnt:n.ntmps=nt){U:List ResultVar}(D:n.results.toList=U)(X:m=As.foldr .seq (.seq (.region id #[{dst:=some d,op:=.makeFunc (.func g) #[] (ss.map Operand.tmp).toArray,type:=t1,pos:=p1,after:=a1,guard:=none},{dst:=none,op:=.defer {callee:=.value (.tmp d),args:= #[],argTypes:=ty},type:=t2,pos:=p2,after:=a2,guard:=none}] false) B))(hA:As.map (Di A E O)=ds.map some)(Y:As.all (Jg T A E O)=true)(hB:Di A E O B=some W)(Z:Jg T A E O B=true)(h:KQ P T H (hfin T U K F) (λj k=>Kb ss (λz j k=>d<k.length/\Cp P T H W (ζ P T g U l K z) j (k.set d .any)) j k) ds j (args++List.replicate (nt-args.length) .any)):HC P f args j K F:=by
 refine⟨⟨n,m,hf,hb,hn⟩,λw S vs gv c c1 hz hr hg hc=> ?_⟩;have hl:=hr.length;subst X;refine calls_of_wp_defers hf hb (aO (w0:=w) (S0:=S) (c0:=λb=>c b+c1 b) (bg:=[]) C hH hm (λe γ' k a w' hne hq s=> ?_) (λj2 σ2 a w2 hnm s=> ?_) hA Y ?_ h)
 ·obtain ⟨S',G,i,o,I,t,p,h1,V,q,hs⟩:=s
  cases e with
  |normal=>grind
  |ret=>show Leaves P n a.tmps _ a.defers .returning w';rw[V];obtain⟨v,hv,hR⟩:=Aaq C D t p h1 q hs hq;exact⟨v,hv,.inl hR⟩
  |panic chain=>
   show Leaves P n a.tmps _ a.defers (.panicking chain) w';rw[V];unfold hfin at hq;split at hq
   grind
   grind
   rename_i v h;injection h with h;subst h;exact .inr ⟨v,_,S',i,o,rfl,hq,p,λb=>by grind,q,hs.drop λb=>by grind⟩
   grind
  |_=>exact hq.elim
 ·obtain ⟨z,γ3,σ3,⟨hdl,hB2⟩,J,hbs⟩:=K4 s hnm;refine wp_seq (zD C J hbs hdl λa3 L=> ?_);refine wp_mono (Ce C hH hm B W hB Z _ γ3 _ a3 w2 L hB2) λe a4 M hq=> ?_;obtain⟨γ5,wi,hq,S',G,i,o,I,t,p,h1,V,q,hs⟩:=hq
  have x:∀(R:Ending->World->Prop),(∀w' v,(∃v' r γ' S' G i o,Ending.returned v=.returned v'/\K r γ'/\pb r=true/\Ac w' S' [r] [v'] G/\Ac w' S' γ' o i/\(∀b,G b+i b<=1)/\Sz w' S'/\Stp w S (λb=>c b+c1 b) w' S' (λb=>G b+i b))->R (.returned v) w')->∀u,u≠ .run->(HD P g (z.map λb=>.raw (ptr b)) γ5 u λu γ'=>settle u=.returning/\NZ l (λk j=>Jc T U k λvs=>K (Xa vs) j) (wi.map zC) γ')->Leaves P n a4.tmps R a4.defers u M:=by
   intro R hRR u hu ⟨⟨fg,cg,hfg,hbg,hng⟩,y⟩;rw[V];refine⟨hu,_,_,g,(z.map ptr).toArray,rfl,by have:=F2 hfg hng hbg (z.map ptr).toArray M;simpa[invoke]using this,?_⟩;refine(y M S' _ _ (λ_=>0) i q (sG M S' z) p (λb=>by grind)).mono λe u' w' ⟨v,γ',S6,c6,gv6,he,⟨N,hrb⟩,hg6,h6,yr,hs6⟩=> ?_;subst he;show Leaves P n a4.tmps R [] (settle u') w';rw[N];obtain⟨σ7,γ7,gv7,c7,c8,hq7,y8,hg7,hc7⟩:=gL (gK (w':=w') (S':=S6) t) hg6 hrb
   have Q:Stp M S' i w' S6 c6:=by
    grind
   have hs8:Stp w S (λb=>c b+c1 b) w' S6 (λb=>c7 b+c8 b):=by
    have:(λb=>c7 b+c8 b)=c6:=by grind
    rw[this];exact(hs.drop (c'':=i) λb=>by grind).trans Q
   obtain⟨v2,hv2,hR⟩:=Aaq C D y8 hg7 (λb=>by grind) yr hs8 hq7;exact⟨v2,hv2,hRR _ _ hR⟩
  cases e with
  |normal=>exact x _ (λ_ _ h=>.inl h) _ (by grind) hq
  |ret=>exact x _ (λ_ _ h=>.inl h) _ (by grind) hq
  |panic chain=>
   unfold ζ at hq;split at hq
   grind
   grind
   rename_i v h;injection h with h;subst h;exact x _ (λ_ _ h=>.inl h) _ (by grind) hq
   grind
  |_=>exact hq.elim
 exact ⟨S,c,c1,gv,yh,h_,hg,hc,rfl,hz,bt w S _⟩
def HD.mono{g args j}{u:FrameMode}{K f:FrameMode->Ψ}(h:HD P g args j u K)(i:∀u j,K u j->f u j):HD P g args j u f:=
 ⟨h.1,λw S l m c c1 n o p q=>(h.2 w S l m c c1 n o p q).mono λe t w' ⟨v,γ',S',b,d,h1,r,s⟩=>⟨v,γ',S',b,d,h1,i _ _ r,s⟩⟩
theorem z_(b):DK (.raw (.pointer (some ⟨b,0,none⟩)))=some b:=rfl
theorem y_(b T c):DL (.bp b T c)=some (b,T,c):=rfl
def Gw.none(j):Gw j []:=λw S c g h=>⟨[],λ_=>0,.nil Al,λ_=>gu _⟩
end
end
def Aat(m b c d f U h e a x)(h1:(b=c)=False)(l:(b=d)=False)(n:(b=f)=False)(o:(f=c)=False)(p:(f=d)=False)(q:(d=c)=False)(u i:FrameMode)(g)(j:(u=.returning/\i=.returning/\g=[.bp b U h,.bp f 45 [e],.bp d 3 [a],.bp c 154 [x]])\/(u=.panicking [⟨kF m,false,false⟩]/\i=.panicking [⟨kF m,true,false⟩]/\g=[.bp b U h,.bp f 45 [num 100],.bp d 3 [num m],.bp c 154 [.nil]])):
 HD prog 174 [pt c,pt d,pt f] [.bp b U h,.bp f 45 [e],.bp d 3 [a],.bp c 154 [x]] u (λv k=>v=i/\k=g):=by
 refine AiF b3 Dc Cl (A:=[]) (EE:=[]) (O:=[]) func174 (by simp only[f174];rfl) sL sL oK oD rfl ntmps174 results174 ?_;simp only[dg,eh,Nat.reduceAdd,Nat.reduceSub,mc,ml,fj,fm,num,str,Af,pt];rcases j with⟨rfl,rfl,rfl⟩|⟨rfl,rfl,rfl⟩
 .simp only[Q4,Wm,sF,gJ,cond_true,cond_false];refine Zu ?_;exact .inl trivial
 .have k1:HH.cn 214=true:=rfl;have k2:HH.zr 214=some (.int .i64 0):=rfl;simp only[Q4,Wm,sF,gJ,cond_true,cond_false,kF];refine Zu ?_;exact⟨.inl trivial,rfl⟩
def O3(a:Ab->Int)(t:List Tk)(s:Nat):List Nd×Nat×Nat:=match Cb a t s (t.length+1) 0 [] 0 []with
 |.ok x _=>(x.1,0,0)
 |.bad m=>([],m,100)
def dQ(r:List Nd×Nat×Nat):AV:=.a6 [.sl 8 (Ka r.1),num r.2.1,num r.2.2]
def AeF{f:Ab->Int}{t}(X:xv f t)(s g)(v:t.length<=1000000)(B:s.length<=1000000)(w:QA 173 [str s] (λr=>r=.a6 [.sl 3 (t.map Xr),num g,num 0])):
 QA 113 [str s] (λr=>r=dQ (O3 f t s.length)):=by
 refine ai (HC.weak ?_) ⟨_,rfl⟩;refine aP b3 Dc Cl [] [3,6] [(3,[10003,10004],[1000,1001],[2002,2003],[3004])] (As:=[_,_,_]) (ds:=[_,_,_]) (ss:=[2,3,4]) [(2,3),(3,2),(4,1)] func113 rfl oD rfl ntmps113 (fq Array.toList results113) rfl (by simp only[ev,db,Di,Si,Hv,Wd,Sw,My,Y0,List.isEmpty_nil,List.isEmpty_cons,oi,Bool.or_self,px,qn,qo,Bool.and_self,mf,cond_false,cond_true,JD,xS,JA,JB,JC,xR,xB,xY,Nat.reduceBEq,Nat.reduceBNe,xT,Zg,lA,qR,VM,Cn,Dz,F5,fZ,ev,db,Nat.reduceMod,Nat.reduceDiv,El,Oa,pk,List.getElem?_toArray,aw,ba,Py,U2,Fs,fO,Nat.reduceAdd,Nat.reduceEqDiff,Nat.reduceLeDiff,Nat.reduceSub,ne_eq,not_false_eq_true,and_self,reduceIte];rfl) oK sL oK ?_;simp only[KQ,dg,eh,Nat.reduceAdd,Nat.reduceSub,mc,ml,fj,fm,num,str,Af,pt];refine Zu ?_;refine Zh w ?_;simp only[Kb];refine Zu ?_;intro a _ c i d e;refine Tm b3 Dc Cl [] [] [] [6] sL oK ?_;simp only[Kb];refine Zu ?_;intro b j;have l:(c=a)=False:=bd λh=>i _ (.head _) (fq some h.symm);have m:(d=c)=False:=bd λh=>e _ (.head _) (fq some h.symm);have n:(d=a)=False:=bd λh=>e _ (.tail _ (.head _)) (fq some h.symm);have o:(b=d)=False:=bd λh=>j _ (.head _) (fq some h.symm);have p:(b=c)=False:=bd λh=>j _ (.tail _ (.head _)) (fq some h.symm);have h1:(b=a)=False:=bd λh=>j _ (.tail _ (.tail _ (.head _))) (fq some h.symm);refine Zu ?_;refine HC.wk (args:=[pt b,num 0,.sl 1 (([]:Ξ).map str)]) (fy (jr:=rd b t 0 s.length) (j2:=[_,_,_]) (RH.go (AeE X b s.length v (t.length+1) 0 [] 0 (gu _) (gu _) om om) (λx y r k z=> ?_) (λq y k=> ?_))) (by simp only[db,num,pt];repeat first|exact fb|exact br _|refine Oh ?_ ?_|refine EZ ?_ ?_|refine Bl ?_|refine Ju ?_|refine B7 ?_|refine c9 ?_|refine U3 ?_)
 .subst z;simp only[rd,num,str,fj,fm];refine Zu ?_;refine HD.mono (Aat 0 b a c d _ _ _ _ _ h1 p o n m l _ .returning _ (.inl ⟨rfl,rfl,rfl⟩)) ?_;rintro u A ⟨rfl,rfl⟩;refine⟨rfl,?_⟩;simp only[ev,db,zC,NZ];repeat' first|apply Aq.on<;>intro _|refine gD ?_|simp only[go_sem,z_,y_,NZ]
  refine⟨dQ (O3 f t s.length),[],?_,rfl,Gw.none _,rfl,rfl⟩;simp only[O3,k,dQ,Xa,num];exact bh _
 .simp only[rd,num,str,fj,fm];refine Zu ?_;unfold ly;refine HD.mono (Aat q b a c d _ _ _ _ _ h1 p o n m l _ _ _ (.inr ⟨rfl,rfl,rfl⟩)) ?_;rintro u A ⟨rfl,rfl⟩;refine⟨rfl,?_⟩;simp only[ev,db,zC,NZ];repeat' first|apply Aq.on<;>intro _|refine gD ?_|simp only[go_sem,z_,y_,NZ]
  refine⟨dQ (O3 f t s.length),[],?_,rfl,Gw.none _,rfl,rfl⟩;simp only[O3,k,dQ,Xa,num,Ka];exact eu Zw
end Go.Proofs.YtobhohikfmlccaaGreatDoor
