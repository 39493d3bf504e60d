/- Whatever came in with a statement's arguments, as data: over any program and any type. The forms .. -/
import Derived.ChangeBears
import Derived.ChangeShapes
import Derived.Carry
import Derived.OpenShut
import Derived.LaidMore
import Derived.LaidLaws
import Derived.Lay
import Derived.Handed
import Derived.Shelf.Vars
import Derived.Stop.Joined
import Derived.Test.YtmophjggmekoeaaGreatDoorRows
import Derived.Test.YtmophjggmekoeaaGreatDoorC37
set_option linter.all false
set_option maxRecDepth 100000
set_option maxHeartbeats 4000000
namespace Go.Proofs.YtmophjggmekoeaaGreatDoor
open Go.RowKit Go.Proofs
variable [Env]
def isAgg (P:Program) (t:TypeId):Bool:=match P.underlying t with
 |some (.struct _)|some (.array _ _)=>true
 |_=>false
def Us (P:Program) (F:TypeId→List AV→Prop) (t:TypeId) (x:AV):Prop:=
 if isAgg P t then∃ys,x=.agg ys∧F t ys else F t [x]
inductive OfR (F:TypeId→List AV→Prop):List TypeId→List AV→Prop
 |nil:OfR F [] []
 |cons {t ts xs ys} (h1:F t xs) (h:OfR F ts ys):OfR F (t::ts) (xs++ys)
def Lv (P:Program):Nat→TypeId→List AV→Prop
 |0,_,_=>False
 |n+1,t,xs=>
  match P.underlying t with
  |some .bool=>∃b,xs=[Ai b]
  |some (.int k)=>∃m,xs=[.raw (.int k m)]∧(Lit.int k m).wf=true
  |some .string=>∃l,xs=[str l]∧l.length≤maxLen
  |some (.slice e)=>if P.cellsOf e=0 then xs=[.any]else
   ∃es,xs=[.sl (P.cellsOf e) es]∧es.length≤maxLen∧∀x∈es,Us P (Lv P n) e x
  |some (.struct fs)=>OfR (Lv P n) (fs.toList.map (·.type)) xs
  |some (.array m e)=>OfR (Lv P n) (List.replicate m e) xs
  |_=>xs=[.any]
def Sb (w:World) (b:Nat):Nat:=match w.heap[b]? with
 |some (.cells cs _ _)=>cs.size+1
 |_=>0
theorem Avk (w:World) (hg:Gs w (Sb w)):Sz w (Sb w):=⟨fun b hb=>by have:w.heap[b]? =none:=Array.getElem?_eq_none hb;simp [Sb,this],hg⟩
theorem bC {w:World} {a:Addr} {v:Value} (h:w.cell? a=some v):a.spot=none∧a.off<Sb w a.block:=by
 unfold World.cell? at h;split at h
 ·rename_i c e f hh;split at h
  ·cases h
  ·rename_i hs;refine⟨by simpa using hs,?_⟩;simp only[Sb,hh];exact Nat.lt_succ_of_lt (Array.getElem?_eq_some_iff.1 h).1
 ·cases h
theorem Lw {α β:Type} {f:α→Option β}:∀{l:List α} {ys:List β},l.mapM f=some ys→ys.length=l.length∧∀(i:Nat) (y:β),ys[i]? =some y→∃x:α,l[i]? =some x∧f x=some y
 |[],ys,h=>by simp at h;subst h;simp
 |a::l,ys,h=>by
  rw[List.mapM_cons]at h;simp only[Option.bind_eq_bind,Option.bind_eq_some_iff]at h;obtain⟨y,hy,ys',hys,he⟩:=h;simp at he;subst he;obtain⟨h1,h2⟩:=Lw hys;refine⟨by simp [h1],fun i z hz=> ?_⟩
  cases i with
  |zero=>simp at hz;subst hz;exact⟨a,rfl,hy⟩
  |succ i=>simpa using h2 i z (by simpa using hz)
theorem Xb {w:World} {a:Addr} {n:Nat} {cs:List Value} (h:w.cells? 0 a n=some cs):cs.length=n∧∀j u,cs[j]? =some u→w.cell? (a.add j)=some u:=by unfold World.cells? at h;rw[if_pos (AxM _)]at h;obtain⟨h1,h2⟩:=Lw h;refine⟨by simpa using h1,fun j u hj=> ?_⟩;obtain⟨x,hx,hf⟩:=h2 j u hj;rw[List.getElem?_range (by have:=(List.getElem?_eq_some_iff.1 hj).1;simp at h1;omega)]at hx;injection hx with hx;subst hx;exact hf
theorem iT {a:Addr} (hs:a.spot=none) (n:Nat):a.add n=⟨a.block,a.off+n,none⟩:=by obtain⟨b,o,s⟩:=a;simp at hs;subst hs;unfold Addr.add;split<;>simp_all
def Opn {H:Type} (enc:TypeId×Value→H) (P:Program) (w:World) (n:Nat):Prop:=
 ∀(t:TypeId) (cs:List Value) (d:DataW H×List MemPlace),t<P.types.size→DataW.trod enc P w 0 (fun _=>true) true n t cs=some d→
  cs.length=P.cellsOf t∧(∀u∈cs,u.oneCell'=true)∧∃xs,Lv P n t xs∧Aa w (Sb w) xs cs (fun _=>0)
theorem bD {w:World} {F:TypeId→List AV→Prop} {P:Program} {G:TypeId→List Value→Prop}
 (hG:∀t cs,G t cs→cs.length=P.cellsOf t∧(∀u∈cs,u.oneCell'=true)∧∃xs,F t xs∧Aa w (Sb w) xs cs (fun _=>0)):
 ∀(ts:List TypeId) (cs:List Value),cs.length=(ts.map P.cellsOf).sum→(∀j t,ts[j]? =some t→G t ((cs.drop ((ts.take j).map P.cellsOf).sum).take (P.cellsOf t)))→
  (∀u∈cs,u.oneCell'=true)∧∃xs,OfR F ts xs∧Aa w (Sb w) xs cs (fun _=>0)
 |[],cs,hl,_=>by simp at hl;subst hl;exact⟨oS,[],.nil,.nil Al⟩
 |t::ts,cs,hl,h=>by
  simp only[Axx,List.sum_cons]at hl;obtain⟨h1,h2,xs,h3,h4⟩:=hG _ _ (by simpa using h 0 t rfl);obtain⟨g2,ys,g3,g4⟩:=bD hG ts (cs.drop (P.cellsOf t)) (by rw[AxQ];omega) (fun j u hj=>by have:=h (j+1) u (by simpa using hj);simpa[AyX,Ay2]using this);refine⟨fun u hu=> ?_,xs++ys,.cons h3 g3,?_⟩
  ·rw [←AxR (P.cellsOf t) cs,Ax5]at hu;rcases hu with hu|hu
   ·exact h2 u hu
   ·exact g2 u hu
  ·rw [←AxR (P.cellsOf t) cs];exact h4.app g4 (fun _=>rfl)
theorem bF {P:Program} {n:Nat} {t:TypeId} {xs:List AV} (h:Lv P n t xs) (ha:isAgg P t=false):∃y,xs=[y]∧cellsOf y=[y]:=by
 cases n with
 |zero=>exact h.elim
 |succ n=>
  unfold Lv at h;unfold isAgg at ha;split at h
  ·obtain ⟨b,rfl⟩:=h;exact⟨_,rfl,rfl⟩
  ·obtain ⟨b,rfl,_⟩:=h;exact⟨_,rfl,rfl⟩
  ·obtain ⟨b,rfl,_⟩:=h;exact⟨_,rfl,rfl⟩
  ·split at h
   ·subst h;exact⟨_,rfl,rfl⟩
   ·obtain ⟨es,rfl,_⟩:=h;exact⟨_,rfl,rfl⟩
  ·rename_i h1;rw[h1]at ha;cases ha
  ·rename_i h1;rw[h1]at ha;cases ha
  ·subst h;exact⟨_,rfl,rfl⟩
theorem Xc {w:World} {P:Program} {n:Nat} {e:TypeId} {a:Addr} (hk:0<P.cellsOf e):∀(len off:Nat) (css:List (List Value)),css.length=len→
 (∀i cs,css[i]? =some cs→(cs.length=P.cellsOf e∧(∀u∈cs,u.oneCell'=true)∧∃xs,Lv P n e xs∧Aa w (Sb w) xs cs (fun _=>0))∧∀j u,cs[j]? =some u→w.cell? ⟨a.block,off+(i*P.cellsOf e+j),none⟩=some u)→
 ∃es cv,es.length=len∧cv.length=len*P.cellsOf e∧(∀x∈es,Us P (Lv P n) e x∧(cellsOf x).length=P.cellsOf e)∧Aa w (Sb w) (flat es) cv (fun _=>0)∧∀j u,cv[j]? =some u→w.cell? ⟨a.block,off+j,none⟩=some u∧u.oneCell'=true
 |0,off,css,hl,h=>⟨[],[],rfl,oS,oS,.nil Al,oS⟩
 |len+1,off,[],hl,h=>by simp at hl
 |len+1,off,cs::css,hl,h=>by
  obtain⟨⟨h1,h2,xs,h3,h4⟩,h5⟩:=h 0 cs rfl;obtain⟨es,cv,g1,g2,g3,g4,g5⟩:=Xc (n:=n) hk len (off+P.cellsOf e) css (by simpa using hl) (fun i cs' hi=>by obtain⟨i1,i2⟩:=h (i+1) cs' (by simpa using hi);refine⟨i1,fun j u hj=> ?_⟩;have:=i2 j u hj;rw[show off+P.cellsOf e+(i*P.cellsOf e+j)=off+((i+1)*P.cellsOf e+j) by rw[Ayh];omega];exact this);have hxl:xs.length=P.cellsOf e:=by rw[←h1];exact h4.length.symm
  have hone:∃x,Us P (Lv P n) e x∧cellsOf x=xs:=by
   cases ha:isAgg P e with
   |true=>exact⟨.agg xs,by rw[Us,ha];exact⟨xs,rfl,h3⟩,rfl⟩
   |false=>obtain⟨y,rfl,hy⟩:=bF h3 ha;exact⟨y,by rw[Us,ha];exact h3,hy⟩
  obtain⟨x,hx,hc⟩:=hone;refine⟨x::es,cs++cv,by simp [g1],by rw[Axs,h1,g2,Ayh];omega,fun y hy=> ?_,?_,fun j u hj=> ?_⟩
  ·rw [Ax2]at hy;rcases hy with rfl|hy
   ·exact ⟨hx,by rw[hc,hxl]⟩
   ·exact g3 y hy
  ·rw [flat,hc];exact h4.app g4 (fun _=>rfl)
  ·rw [List.getElem?_append]at hj;split at hj
   ·rename_i hlt;have:=h5 j u hj;rw[Nat.zero_mul,Ayc]at this;exact⟨this,h2 u (Axt hj)⟩
   ·rename_i hge;obtain⟨q1,q2⟩:=g5 _ u hj;rw[show off+P.cellsOf e+(j-cs.length)=off+j by omega]at q1;exact⟨q1,q2⟩
theorem tL {H:Type} {enc:TypeId×Value→H} {P:Program} {w:World} (hl:laidOutB P=true):∀n,Opn enc P w n
 |0,t,cs,d,ht,h=>by simp [DataW.trod]at h
 |n+1,t,cs,d,ht,h=>by
  have ih:=tL (enc:=enc) (w:=w) hl n;have hf:=rowFine_of hl ht;unfold DataW.trod at h;unfold Lv;split at h
  ·rename_i hu;rw[hu];simp [rowFine,isVar,ht,hu,kindOk]at hf;exact⟨hf.symm,by simp [Value.oneCell'],_,⟨_,rfl⟩,.raw rfl (.nil Al)⟩
  ·rename_i hu;rw[hu];simp [rowFine,isVar,ht,hu,kindOk]at hf;split at h
   ·rename_i hk;obtain⟨rfl,hk⟩:=hk;exact⟨hf.symm,by simp [Value.oneCell'],_,⟨_,rfl,hk⟩,.raw rfl (.nil Al)⟩
   ·cases h
  ·exact Ru
  ·rename_i s hu;rw[hu];simp [rowFine,isVar,ht,hu,kindOk]at hf;split at h
   ·rename_i hk;refine⟨hf.symm,by simp [Value.oneCell'],[str s.data.toList],⟨_,rfl,?_⟩,?_⟩
    ·rw [Ay1];exact hk
    ·exact .raw rfl (.nil Al)
   ·cases h
  ·exact AmM
  ·exact AmM
  ·rename_i e hu;rw[hu];simp [rowFine,isVar,ht,hu,kindOk]at hf;dsimp only;refine⟨hf.2.symm,by simp [Value.oneCell'],?_⟩;split
   ·exact ⟨_,rfl,.any (.nil Al)⟩
   ·exact ⟨_,⟨[],rfl,oS,oS⟩,.slE oD (.nil Al)⟩
  ·rename_i e a len cap hu;rw[hu];simp [rowFine,isVar,ht,hu,kindOk]at hf;dsimp only at h⊢;refine⟨hf.2.symm,by simp [Value.oneCell'],?_⟩;split
   ·exact ⟨_,rfl,.any (.nil Al)⟩
   rename_i hk0;have hk:0<P.cellsOf e:=Nat.pos_of_ne_zero hk0;split at h
   ·rename_i hb;obtain⟨_,hlc,hcm⟩:=hb;rw[Option.bind_eq_some_iff]at h;obtain⟨elems,hel,h⟩:=h;obtain⟨m1,m2⟩:=Lw hel;rw[List.length_range]at m1;rcases AxG len with rfl|hpos
    ·exact ⟨[.sl (P.cellsOf e) []],⟨[],rfl,oS,oS⟩,.slE hcm (.nil Al)⟩
    have key:∀i,i<len→∃cs,w.cells? 0 (a.add (i*P.cellsOf e)) (P.cellsOf e)=some cs∧∃d,DataW.trod enc P w 0 (fun _=>true) true n e cs=some d:=by intro i hi;obtain⟨y,hy⟩:∃y,elems[i]? =some y:=⟨_,List.getElem?_eq_getElem om⟩;obtain⟨x,hx,hfx⟩:=m2 i y hy;rw[List.getElem?_range hi]at hx;injection hx with hx;subst hx;rw[Option.bind_eq_some_iff]at hfx;obtain⟨cs,hcs,hd⟩:=hfx;exact⟨cs,hcs,y,hd⟩
    have he:e<P.types.size:=kid_slice hl ht hu;have hsp:a.spot=none:=by obtain⟨cs,hcs,d',hd⟩:=key 0 hpos;obtain⟨l1,l2⟩:=Xb hcs;obtain⟨c,hc⟩:∃c,cs[0]? =some c:=⟨_,List.getElem?_eq_getElem om⟩;have:=(bC (l2 0 c hc)).1;simpa[Addr.add]using this
    have hall:∃css:List (List Value),css.length=len∧∀(i:Nat) (cs:List Value),css[i]? =some cs→w.cells? 0 (a.add (i*P.cellsOf e)) (P.cellsOf e)=some cs∧∃d,DataW.trod enc P w 0 (fun _=>true) true n e cs=some d:=by
     refine⟨(List.range len).map fun i=>(w.cells? 0 (a.add (i*P.cellsOf e)) (P.cellsOf e)).getD [],oS,fun i cs hi=> ?_⟩;rw[List.getElem?_map]at hi
     have hlt:i<len:=by
      rcases Axz i len with hlt|hge
      ·exact hlt
      ·rw [List.getElem?_eq_none (by simp;omega)]at hi;cases hi
     rw[List.getElem?_range hlt]at hi;obtain⟨cs',hcs,hd⟩:=key i hlt;simp [hcs]at hi;subst hi;exact⟨hcs,hd⟩
    obtain⟨css,hcl,hcss⟩:=hall;obtain⟨es,cv,g1,g2,g3,g4,g5⟩:=Xc (w:=w) (P:=P) (n:=n) (e:=e) (a:=a) hk len a.off css hcl (fun i cs hi=>by obtain⟨hcs,d',hd⟩:=hcss i cs hi;refine⟨ih e cs d' he hd,fun j u hj=> ?_⟩;have:=(Xb hcs).2 j u hj;rw[iT hsp,iT rfl]at this;rw[←Nat.add_assoc];exact this);subst g1;refine⟨[.sl (P.cellsOf e) es],⟨es,rfl,om,fun x hx=>(g3 x hx).1⟩,.sl (cv:=cv) (c0:=fun _=>0) hlc hcm hsp (fun x hx=>(g3 x hx).2) g4 Al g5 ?_ (.nil Al)⟩;have hp:0<cv.length:=by rw[g2];exact Nat.mul_pos hpos hk
    obtain⟨u,hu'⟩:∃u,cv[cv.length-1]? =some u:=⟨_,List.getElem?_eq_getElem om⟩;have:=(bC (g5 _ u hu').1).2;dsimp only at this;omega
   ·cases h
  ·rename_i cs _ _ fs hu;rw[hu];obtain⟨k1,k2,k3⟩:=kid_struct hl ht hu;split at h
   ·rename_i hlen;rw[Ay9]at h;obtain⟨ys,hys,_⟩:=h;obtain⟨m1,m2⟩:=Lw hys
    have:=bD (w:=w) (F:=Lv P n) (P:=P) (G:=fun t cs=>t<P.types.size∧∃d,DataW.trod enc P w 0 (fun _=>true) true n t cs=some d)
     (fun t cs ⟨h1,d',h2⟩=>ih t cs d' h1 h2) (fs.toList.map (·.type)) cs (by rw[hlen,k2,Ay4];rfl) (fun j t hj=>by rw[List.getElem?_map,Ay9]at hj;obtain⟨f,hf',rfl⟩:=hj;obtain⟨y,hy⟩:∃y,ys[j]? =some y:=⟨_,List.getElem?_eq_getElem (by rw[m1];exact(List.getElem?_eq_some_iff.1 hf').1)⟩;obtain⟨x,hx,hfx⟩:=m2 j y hy;rw[hf']at hx;injection hx with hx;subst hx;rw[k3 j f hf']at hfx;refine⟨k1 f (Axt hf'),y,?_⟩;rw[←AyK,Ay4];exact hfx)
    exact⟨hlen,this.1,this.2⟩
   ·cases h
  ·rename_i cs _ _ m e hu;rw[hu];obtain⟨k1,k2⟩:=kid_array hl ht hu;split at h
   ·rename_i hlen;rw[Ay9]at h;obtain⟨ys,hys,_⟩:=h;obtain⟨m1,m2⟩:=Lw hys;rw[List.length_range]at m1
    have:=bD (w:=w) (F:=Lv P n) (P:=P) (G:=fun t cs=>t<P.types.size∧∃d,DataW.trod enc P w 0 (fun _=>true) true n t cs=some d)
     (fun t cs ⟨h1,d',h2⟩=>ih t cs d' h1 h2) (List.replicate m e) cs (by rw[hlen,k2];simp) (fun j t hj=>by
      have hjm:j<m:=by have:=(List.getElem?_eq_some_iff.1 hj).1;simpa using this
      have ht':t=e:=by have:=(List.getElem?_eq_some_iff.1 hj).2;simpa using this.symm
      subst ht';obtain⟨y,hy⟩:∃y,ys[j]? =some y:=⟨_,List.getElem?_eq_getElem om⟩;obtain⟨x,hx,hfx⟩:=m2 j y hy;rw[List.getElem?_range hjm]at hx;injection hx with hx;subst hx;refine⟨k1,y,?_⟩;have e1:((List.replicate m t).take j |>.map P.cellsOf).sum=j*P.cellsOf t:=by rw[List.take_replicate,Ay8 om];simp
      rw[e1];exact hfx)
    exact⟨hlen,this.1,this.2⟩
   ·cases h
  ·exact Ru
  ·exact Ru
  ·exact Ru
  ·exact Ru
  ·exact Ru
  ·exact Ru
  ·exact Ru
  ·exact Ru
  ·exact Ru
  ·exact Ru
  ·cases h
theorem Ami {H:Type} {enc:TypeId×Value→H} {P:Program} {w w1:World} {r:Reach} {b0:Nat} (hl:laidOutB P=true) {t:TypeId} {v:Value} {d:DataW H} {ps:List MemPlace} (ht:t<P.types.size)
 (hv:Value.okWide P w1 r b0 t v) (h:DataW.Trod enc P w 0 (fun _=>true) true t v d ps):∃n x,Us P (Lv P n) t x∧Aa w (Sb w) [x] [v] (fun _=>0):=by
 obtain⟨n,h⟩:=h;obtain⟨h1,h2,xs,h3,h4⟩:=tL hl n t _ _ ht h;refine⟨n,?_⟩
 cases ha:isAgg P t with
 |true=>
  have:∃cs,v=.agg cs:=by
   unfold Value.okWide at hv;unfold isAgg at ha;split at hv
   ·obtain ⟨cs,h,_⟩:=hv;exact⟨cs,h⟩
   ·obtain ⟨cs,h,_⟩:=hv;exact⟨cs,h⟩
   ·split at ha<;>simp_all
  obtain⟨cs,rfl⟩:=this;refine⟨.agg xs,by rw[Us,ha];exact⟨xs,rfl,h3⟩,?_⟩;have:=Aa.agg (S:=Sb w) (w:=w) h4 h2 (.nil Al) (c:=fun _=>0) (fun b=>oS);simpa[Value.cells]using this
 |false=>
  obtain⟨y,rfl,hy⟩:=bF h3 ha;refine⟨y,by rw[Us,ha];exact h3,?_⟩
  have:v.cells.toList=[v]:=by
   cases v with
   |agg cs=>
    exfalso;unfold Value.okWide at hv;unfold isAgg at ha;split at hv
    ·simp_all
    ·simp_all
    ·unfold Cell.okWide at hv;split at hv<;>simp_all [Cell.ok]
   |_=>rfl
  rw[this]at h4;exact h4
inductive OfA (P:Program):List TypeId→List AV→Prop
 |nil:OfA P [] []
 |cons {t n x ts xs} (h1:Us P (Lv P n) t x) (h:OfA P ts xs):OfA P (t::ts) (x::xs)
theorem iU {H:Type} {enc:TypeId×Value→H} {P:Program} {w w1:World} {r:Reach} {b0:Nat} (hl:laidOutB P=true):∀{ts:List TypeId} {vs:List Value} {ds:List (DataW H)} {ps:List MemPlace},(∀t∈ts,t<P.types.size)→
 (∀(j:Nat) t v,ts[j]? =some t→vs[j]? =some v→Value.okWide P w1 r b0 t v)→DataW.TrodAll enc P w 0 (fun _=>true) true ts vs ds ps→
 ∃xs,OfA P ts xs∧Aa w (Sb w) xs vs (fun _=>0)
 |[],[],[],ps,_,_,h=>⟨[],.nil,.nil Al⟩
 |t::ts,v::vs,d::ds,ps,ht,hv,h=>by obtain⟨p,q,h1,h2,_⟩:=h;obtain⟨n,x,hx,hr⟩:=Ami hl (ht t oS) (hv 0 t v rfl rfl) h1;obtain⟨xs,hxs,hrs⟩:=iU hl (fun t h=>ht t (by simp [h])) (fun j t v h1 h2=>hv (j+1) t v (by simpa using h1) (by simpa using h2)) h2;exact⟨x::xs,.cons hx hxs,Aa.cons hr hrs (fun b=>oS)⟩
 |[],[],_::_,_,_,_,h=>h.elim
 |[],_::_,_,_,_,_,h=>h.elim
 |_::_,[],_,_,_,_,h=>h.elim
 |_::_,_::_,[],_,_,_,h=>h.elim
theorem Xd {H:Type} {enc:TypeId×Value→H} {P:Program} {W W':World} (hl:laidOutB P=true) (hb:Below W.heap.size W W'):∀{ts:List TypeId} {vs:List Value} {ds:List (DataW H)} {ps:List MemPlace},(∀t∈ts,t<P.types.size∧P.readableRec t=true)→
 DataW.TrodAll enc P W 0 (fun _=>true) true ts vs ds ps→DataW.TrodAll enc P W' 0 (fun b=>decide (b<W.heap.size)) true ts vs ds ps
 |[],[],[],ps,_,h=>h
 |t::ts,v::vs,d::ds,ps,ht,h=>by obtain⟨p,q,h1,h2,e⟩:=h;refine⟨p,q,Below.trod hl (ht t oS).2 (ht t oS).1 h1 hb ?_,Xd hl hb (fun t h=>ht t (by simp [h])) h2,e⟩;obtain⟨m,hm⟩:=h1;exact DataW.trod_lt m _ _ _ hm
 |[],[],_::_,_,_,h=>h.elim
 |[],_::_,_,_,_,h=>h.elim
 |_::_,[],_,_,_,h=>h.elim
 |_::_,_::_,[],_,_,h=>h.elim
end Go.Proofs.YtmophjggmekoeaaGreatDoor
namespace Go.Proofs.YtmophjggmekoeaaGreatDoor
open Go.RowKit Go.Proofs
variable [Env]
variable {P : Program} {n : Nat} {t : TypeId} {x : AV} {xs : List AV}
theorem iV (ha:isAgg P t=false) (h:Us P (Lv P n) t x):Lv P n t [x]:=by rw[Us,ha]at h;exact h
theorem Ah9 (ha:isAgg P t=false) (h:Lv P n t xs):∃x,xs=[x]∧Us P (Lv P n) t x:=by obtain⟨y,rfl,_⟩:=bF h ha;exact⟨y,rfl,by rw[Us,ha];exact h⟩
theorem Amj (ha:isAgg P t=true) (h:Us P (Lv P n) t x):∃ys,x=.agg ys∧Lv P n t ys:=by rw[Us,ha]at h;exact h
theorem Amk {k:IntKind} (hu:P.underlying t=some (.int k)) (h:Us P (Lv P n) t x):∃m,x=.raw (.int k m)∧(Lit.int k m).wf=true:=by
 have h:=iV (by simp [isAgg,hu]) h
 cases n with
 |zero=>exact h.elim
 |succ n=>unfold Lv at h;rw[hu]at h;obtain⟨l,e,hl⟩:=h;injection e with e;exact⟨l,e,hl⟩
theorem O6 (hu:P.underlying t=some (.int .i64)) (h:Us P (Lv P n) t x):∃m,x=num m∧-9223372036854775808≤m∧m≤9223372036854775807:=by obtain⟨m,rfl,hm⟩:=Amk hu h;exact⟨m,rfl,wf_i64 hm⟩
theorem Aap {e:TypeId} {k:Nat} (hu:P.underlying t=some (.slice e)) (hk:P.cellsOf e=k) (h0:k≠0) (h:Us P (Lv P n) t x):∃m es,x=.sl k es∧es.length≤maxLen∧∀y∈es,Us P (Lv P m) e y:=by
 have h:=iV (by simp [isAgg,hu]) h
 cases n with
 |zero=>exact h.elim
 |succ n=>unfold Lv at h;rw[hu]at h;dsimp only at h;rw[hk]at h;rw[if_neg h0]at h;obtain⟨es,e,hl,hy⟩:=h;injection e with e;exact⟨n,es,e,hl,hy⟩
theorem Aaq {m:Nat} {e:TypeId} (hu:P.underlying t=some (.array m e)) (h:Lv P n t xs):∃k,OfR (Lv P k) (List.replicate m e) xs:=by
 cases n with
 |zero=>exact h.elim
 |succ n=>unfold Lv at h;rw[hu]at h;exact⟨n,h⟩
theorem Aar {m:Nat} {e:TypeId} (hu:P.underlying t=some (.array m e)) (h:Us P (Lv P n) t x):∃k ys,x=.agg ys∧OfR (Lv P k) (List.replicate m e) ys:=by obtain⟨ys,rfl,h2⟩:=Amj (by simp [isAgg,hu]) h;obtain⟨k,h3⟩:=Aaq hu h2;exact⟨k,ys,rfl,h3⟩
theorem AhA {F:TypeId→List AV→Prop} {ts:List TypeId} (h:OfR F (t::ts) xs):∃ys zs,xs=ys++zs∧F t ys∧OfR F ts zs:=by
 cases h with
 |cons h1 h=>exact⟨_,_,rfl,h1,h⟩
theorem Aml {F:TypeId→List AV→Prop} (h:OfR F [] xs):xs=[]:=by cases h;rfl
theorem O7 {ts:List TypeId} (ha:isAgg P t=false) (h:OfR (Lv P n) (t::ts) xs):∃y zs,xs=y::zs∧Us P (Lv P n) t y∧OfR (Lv P n) ts zs:=by obtain⟨ys,zs,rfl,h1,h2⟩:=AhA h;obtain⟨y,rfl,hy⟩:=Ah9 ha h1;exact⟨y,zs,rfl,hy,h2⟩
theorem AhB {ts:List TypeId} (h:OfA P (t::ts) xs):∃n y ys,xs=y::ys∧Us P (Lv P n) t y∧OfA P ts ys:=by
 cases h with
 |cons h1 h=>exact⟨_,_,_,rfl,h1,h⟩
theorem Amm (h:OfA P [] xs):xs=[]:=by cases h;rfl
theorem AhC {α:Type} {f:α→AV} {Q:α→Prop}:∀{es:List AV},(∀y∈es,∃s,y=f s∧Q s)→∃ss:List α,es=ss.map f∧∀s∈ss,Q s
 |[],_=>⟨[],rfl,oS⟩
 |y::es,h=>by obtain⟨s,rfl,hs⟩:=h y oS;obtain⟨ss,rfl,hq⟩:=AhC (es:=es) (fun y hy=>h y (by simp [hy]));exact⟨s::ss,rfl,by simp only[Ax2];rintro z (rfl|hz);exact hs;exact hq z hz⟩
theorem iW {H:Type} {enc:TypeId×Value→H} {P:Program} {w:World} {b:Nat} {sp:Nat→Bool} {hd:Bool}:∀{ts:List TypeId} {vs:List Value} {ds:List (DataW H)} {ps:List MemPlace},DataW.TrodAll enc P w b sp hd ts vs ds ps→ds.length=ts.length
 |[],[],[],ps,_=>rfl
 |t::ts,v::vs,d::ds,ps,h=>by obtain⟨p,q,h1,h2,e⟩:=h;simp only[Axr,iW h2]
 |[],[],_::_,_,h=>h.elim
 |[],_::_,_,_,h=>h.elim
 |_::_,[],_,_,h=>h.elim
 |_::_,_::_,[],_,h=>h.elim
end Go.Proofs.YtmophjggmekoeaaGreatDoor
namespace Go.Proofs.YtmophjggmekoeaaGreatDoor
section
open Go.RowKit Go.Proofs
theorem Avl (xs:List AV) (h:OfA Tryz.prog [22] xs):Ab Tryz.prog 3 xs (fun r=>r=Ai true):=by
 obtain⟨_,y,_,rfl,h1,h⟩:=AhB h;obtain rfl:=Amm h;obtain⟨m,es,rfl,hl,hes⟩:=Aap (e:=91) (k:=5) Tryz.underlying22 (by kernel_rfl) oD h1;have i3:isAgg Tryz.prog 3=false:=by simp [isAgg,Tryz.underlying3]
 obtain⟨ss,rfl,hss⟩:=AhC (f:=xA) (Q:=XOk) (es:=es) fun y hy=>by obtain⟨k,ys,rfl,hr⟩:=Aar Tryz.underlying91 (hes y hy);simp only[AxT,AxZ]at hr;obtain⟨a,_,rfl,ha,hr⟩:=O7 i3 hr;obtain⟨b,_,rfl,hb,hr⟩:=O7 i3 hr;obtain⟨c,_,rfl,hc,hr⟩:=O7 i3 hr;obtain⟨d,_,rfl,hd,hr⟩:=O7 i3 hr;obtain⟨e,_,rfl,he,hr⟩:=O7 i3 hr;obtain rfl:=Aml hr;obtain⟨a',rfl,ia⟩:=O6 Tryz.underlying3 ha;obtain⟨b',rfl,ib⟩:=O6 Tryz.underlying3 hb;obtain⟨c',rfl,ic⟩:=O6 Tryz.underlying3 hc;obtain⟨d',rfl,id⟩:=O6 Tryz.underlying3 hd;obtain⟨e',rfl,ie⟩:=O6 Tryz.underlying3 he;exact⟨⟨a',b',c',d',e'⟩,rfl,ia,ib,ic,id,ie⟩
 unfold maxLen at hl;rw[Axp]at hl;exact Avj ss om hss
open Go.ChangeShapes Go.WideShapes Go.ChangeAt
theorem iX {H:Type} {enc:TypeId×Value→H} {a:Assume} {C:Checked} {os:Os} {f:FuncId} {fn:Func} {s:ChangeSpec} {conds:List PathCond} {apart fresh handsOn again:Bool} {X:World→Array Value→Prop}
 (hX:∀(w w':World) (args:Array Value),w.heap=w'.heap→X w args→X w' args)
 (own:ownKnob C.prog.godebug=none) (started:os.Started) (noInit:C.prog.inits.idxOf? f=none) (hfn:C.prog.funcs[f]? =some fn)
 (witness:∃(w:World) (tape:Tape) (i:Input),w.os=os∧(w.forCall tape i).Shaped C.prog∧i.vars=[]∧Input.okWide C.prog (w.forCall tape i) .any w.heap.size f i∧
  ((s.pre enc C.prog fn conds apart (w.forCall tape i).memory i.args∧X (w.forCall tape i).memory i.args)∧sizedMet enc C.prog fn (OpenSpec.ofChange s) apart (w.forCall tape i).memory i.args)∧a.holds C.prog (lone (Frame.enter C.prog f i.args .normal) [] (w.forCall tape i)))
 (contract:∀(W:World) (base:Nat) (args:Array Value) (ds gs:List (DataW H)) (before:List MemPlace),
  (∀(j:Nat) t v,fn.params[j]? =some t→args[j]? =some v→Value.okWide C.prog W .any base t v)→DataW.Whole enc C.prog fn.params.toList s.vars apart W args.toList ds gs before→X W args→W.ShapedOpen C.prog→
  Calls C.prog f args W fun e W'=>∃v,e=.returned v∧s.post enc C.prog fn apart fresh handsOn again W args v W'):
 ReturnsInHanded a C os f .any (fun w args=>(s.pre enc C.prog fn conds apart w args∧X w args)∧sizedMet enc C.prog fn (OpenSpec.ofChange s) apart w args) (s.post enc C.prog fn apart fresh handsOn again):=by
 refine returnsInHanded_of_calls own started noInit witness fun w tape i _ hsh _ hok hpre _=> ?_;obtain⟨_,_,_,fn',hfn',_,_,_,_,hval⟩:=hok;obtain rfl:=Option.some.inj (hfn'.symm.trans hfn);obtain⟨⟨⟨ds,gs,before,hw,_⟩,hx⟩,_⟩:=hpre;exact(contract (w.forCall tape i) w.heap.size i.args ds gs before hval (DataW.Whole.of_heap (w':=w.forCall tape i) (by rfl) hw) (hX _ _ _ (by rfl) hx) hsh).mono fun e W' ⟨v,he,hp⟩=>by subst he;exact ChangeSpec.post_blind hp
theorem Qc {w:World} {g:Nat} {v:Value} (h:w.cell? ⟨g,0,none⟩=some v):0<Sb w g:=(bC h).2
theorem gE0:Tryz.prog.globalNamed "strconv.ErrSyntax" =some 1:=by kernel_rfl
theorem gE1:Tryz.prog.globalNamed "strconv.ErrRange" =some 2:=by kernel_rfl
theorem gE4:Tryz.prog.globalNamed "internal/strconv.uint64pow10" =some 4:=by kernel_rfl
theorem gE5:Tryz.prog.globalNamed "copydesk/wire.shifts" =some 0:=by kernel_rfl
theorem iY {w:World} {n:String} {g g' t:Nat} {cs:Array Value} {fuel:Nat} {nm:String} {d:DataW Unit} {p:List MemPlace} {ms:Array (String×TypeId)} (hn:Tryz.prog.globalNamed n=some g') (hg:Tryz.prog.globalNamed n=some g) (ht:(Tryz.prog.globals[g]?).map (·.type)=some t) (hu:∀u,(Tryz.prog.globals[g']?).map (·.type)=some u→Tryz.prog.underlying u=some (.interface ms))
 (hv:w.var? Tryz.prog n=some cs) (hd:DataW.trod (fun _=>()) Tryz.prog w 0 (fun _=>true) false fuel t cs.toList=some (.iface nm d,p)):∃v,w.cell? ⟨g',0,none⟩=some v∧(v=.nilIface∨∃te pe,v=.iface te pe):=by
 obtain rfl:=Option.some.inj (hn.symm.trans hg);obtain⟨_,u,v,hcs,_,_⟩:=iface_of_trod (hu t ht) hd;refine⟨.iface u v,?_,.inr ⟨u,v,rfl⟩⟩;rw[World.var?_cell hg hv 0,←Array.getElem?_toList,hcs];rfl
theorem iZ {w:World} {g:Nat} {name:String} {k:IntKind} {zs:List Int} {cs:Array Value} (hg:Tryz.prog.globalNamed name=some g) (hv:w.var? Tryz.prog name=some cs) (hc:cs.toList=zs.map fun z=>Value.int k z):
 ∀x∈Yw g k zs,x.2.1<Sb w x.1∧x.2.2 (w.cell? ⟨x.1,x.2.1,none⟩):=by
 have hs:cs.size=zs.length:=by rw[←Ay1,hc,Axp]
 have hS:cs.size<Sb w g:=by
  unfold World.var? at hv;rw[hg]at hv;simp only[AxD]at hv;unfold Sb;split at hv
  ·rename_i hh;cases hv;rw[hh];exact Nat.lt_succ_self _
  ·cases hv
 intro x hx;rcases Ax5.1 hx with hx|hx
 ·obtain ⟨⟨z,i⟩,hz,rfl⟩:=AxB.1 hx;have hz:=Ay7.1 hz;have hi:=(List.getElem?_eq_some_iff.1 hz).1;simp only at hz hi⊢;refine⟨om,?_⟩;rw[World.var?_cell hg hv i,←Array.getElem?_toList,hc,List.getElem?_map,hz];rfl
 ·rw [Ax6]at hx;subst hx;refine⟨by show zs.length<Sb w g;omega,?_⟩;show w.cell? ⟨g,zs.length,none⟩=none;rw[World.var?_cell hg hv,Array.getElem?_eq_none om]
def Qt:List (String×DataW Unit):=Rows.dependNoneRow.laid
theorem AwA {w:World} (h:laidMetH Tryz.prog Qt w) (hsh:w.ShapedOpen Tryz.prog):Gs w (Sb w):=by
 rw[MakeChecks.laidMetH_plain _ _ _ (by kernel_rfl)]at h;obtain⟨ps,⟨_,_,_,_,_,_,_,_,_,_,⟨_,_,_,_,_,_,_,_,_,_,⟨g3,t3,c3,n3,p3,q3,hg3,ht3,hv3,hd3,⟨_,_,_,_,_,_,_,_,_,_,⟨g5,t5,c5,n5,p5,q5,hg5,ht5,hv5,hd5,⟨g6,t6,c6,n6,p6,q6,hg6,ht6,hv6,hd6,⟨g7,t7,c7,n7,p7,q7,hg7,ht7,hv7,hd7,_,_⟩,_⟩,_⟩,_⟩,_⟩,_⟩,_⟩,_⟩:=h;have u2:∀u,(Tryz.prog.globals[2]?).map (·.type)=some u→Tryz.prog.underlying u=some (.interface _):=fun u hu=>by obtain rfl:=Option.some.inj ((show(Tryz.prog.globals[2]?).map (·.type)=some 119 by kernel_rfl).symm.trans hu);exact Tryz.underlying119
 have u1:∀u,(Tryz.prog.globals[1]?).map (·.type)=some u→Tryz.prog.underlying u=some (.interface _):=fun u hu=>by obtain rfl:=Option.some.inj ((show(Tryz.prog.globals[1]?).map (·.type)=some 119 by kernel_rfl).symm.trans hu);exact Tryz.underlying119
 obtain⟨v2,hc2,hi2⟩:=iY gE1 hg6 ht6 u2 hv6 hd6;obtain⟨v1,hc1,hi1⟩:=iY gE0 hg7 ht7 u1 hv7 hd7;obtain⟨m,hm⟩:=cell_of_shapedOpen_int (P:=Tryz.prog) (g:=3) (t:=3) (zero:= #[.int .i64 0]) hsh (of_decide_eq_true (by kernel_rfl)) (by kernel_rfl) rfl (by kernel_rfl) (by kernel_rfl) Tryz.underlying3;obtain rfl:=Option.some.inj (gE4.symm.trans hg3);obtain rfl:=Option.some.inj ((show(Tryz.prog.globals[4]?).map (·.type)=some 334 by kernel_rfl).symm.trans ht3);obtain rfl:=Option.some.inj (gE5.symm.trans hg5);obtain rfl:=Option.some.inj ((show(Tryz.prog.globals[0]?).map (·.type)=some 135 by kernel_rfl).symm.trans ht5);have z3:c3.toList=Lib.pow10Tab.map fun z=>Value.int .u64 z:=Lib.cells_of_tab (zs:=Lib.pow10Tab) Tryz.underlying334 Tryz.underlying213 (by kernel_rfl) (by kernel_rfl) hd3;have z5:c5.toList=oA.map fun z=>Value.int .u32 z:=Lib.cells_of_tab (zs:=oA) Tryz.underlying135 Tryz.underlying133 (by kernel_rfl) (by kernel_rfl) hd5;intro g hg;change g∈(1,0,gIf)::(2,0,gIf)::(3,0,Agb)::(Yw 4 .u64 Lib.pow10Tab++Yw 0 .u32 oA)at hg;simp only[Ax2,Ax5]at hg;rcases hg with rfl|rfl|rfl|hg|hg
 ·exact ⟨Qc hc1,_,hc1,hi1⟩
 ·exact ⟨Qc hc2,_,hc2,hi2⟩
 ·exact ⟨Qc hm,_,hm⟩
 ·exact iZ gE4 hv3 z3 g hg
 ·exact iZ gE5 hv5 z5 g hg
set_option maxRecDepth 100000 in
theorem jA (os:Os) (args:Array Value):((World.laidAll Tryz.prog os Qt).forCall (fun _ _=>0) ⟨#[],args,[]⟩).Shaped Tryz.prog:=
 World.shaped_of_ZipB (by kernel_rfl) (by kernel_rfl)
set_option maxRecDepth 100000 in
theorem AhD (os:Os) (args:Array Value):laidMetH Tryz.prog Qt ((World.laidAll Tryz.prog os Qt).forCall (fun _ _=>0) ⟨#[],args,[]⟩).memory:=by rw[MakeChecks.laidMetH_plain _ _ _ (by kernel_rfl)];exact laidMet_laidAll _ (by kernel_rfl) (by kernel_rfl)
end
end Go.Proofs.YtmophjggmekoeaaGreatDoor
