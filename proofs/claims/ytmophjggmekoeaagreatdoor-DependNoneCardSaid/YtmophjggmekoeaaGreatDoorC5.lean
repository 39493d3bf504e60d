/- The operations that make or write memory; builds; calls. -/
import Derived.Laws.MakeOwn
import Derived.Test.YtmophjggmekoeaaGreatDoorC4
set_option linter.all false
namespace Go.Proofs.YtmophjggmekoeaaGreatDoor
open Go.RowKit
variable [Env]
variable {dfs : List Deferred}
theorem Qf (off:Nat):∀(l:List Value) (k:Nat) (cs:Array Value),off+k+l.length≤cs.size→
 ((l.zipIdx k).foldl (fun cs (x:Value×Nat)=>cs.setIfInBounds (off+x.2) x.1) cs).toList=cs.toList.take (off+k)++l++cs.toList.drop (off+k+l.length)
 |[],k,cs,h=>by simp
 |v::l,k,cs,h=>by
  simp only[List.zipIdx_cons,Ayt];simp only[Axr]at h;rw[Qf off l (k+1) _ (by simp;omega)];apply Ayw;intro i;simp only[Array.toList_setIfInBounds,Axr];have hsz:cs.toList.length=cs.size:=rfl;rw[AxS,AxS,List.getElem?_append,List.getElem?_append,List.getElem?_append (l₁:=cs.toList.take (off+k))];simp only[AxC,List.length_set,hsz];have m1:min (off+(k+1)) cs.size=off+k+1:=om;have m2:min (off+k) cs.size=off+k:=om;rw[m1,m2];by_cases h1:i<off+k
  ·rw [if_pos om,if_pos h1,List.getElem?_take,List.getElem?_take,if_pos om,if_pos h1,List.getElem?_set,if_neg om]
  ·rw [if_neg h1];by_cases h2:i=off+k
   ·subst h2;rw[if_pos om,List.getElem?_take,if_pos om,List.getElem?_set,if_pos rfl,if_pos (by simp;omega)];simp
   ·rw [if_neg om];have e1:i-(off+k)=(i-(off+k+1))+1:=om;rw[e1,Ax4,List.getElem?_cons_succ,List.getElem?_append];split
    ·rfl
    ·rw [List.getElem?_drop,List.getElem?_drop,List.getElem?_set,if_neg om];congr 1;omega
theorem R1 (off:Nat) (v cs:Array Value) (h:off+v.size≤cs.size):
 (v.zipIdx.foldl (fun cs (x:Value×Nat)=>cs.setIfInBounds (off+x.2) x.1) cs).toList=cs.toList.take off++v.toList++cs.toList.drop (off+v.size):=by
 rw[←Array.foldl_toList,Array.toList_zipIdx];have:=Qf off v.toList 0 cs (by simpa using h);exact G5
section
variable {P : Program} {T : Bd} {w : World} {S : Nat → Nat}
variable {w0 : World} {S0 c0 : Nat → Nat} {σ : List AV} {a : Act} {K : List AV → Prop} {Q : Exit → Act → World → Prop} {o : Oper}
theorem Vl {flds:List (Nat×Option Nat×Option Bool)} {place:Nat→Option (Nat×Nat)} (hp:∀i off size ag,flds[i]? =some (off,some size,ag)→place i=some (off,size)):
 ∀(is:List Nat) (xs:List AV) (cs:List AV) (vs:List Value) (cur:Array Value) (c1 c2:Nat→Nat) (Kc:List AV→Prop),is.length=xs.length→Fp flds (is.zip xs) cs Kc→Aa w S xs vs c1→Aa w S cs cur.toList c2→(∀u∈cur.toList,u.oneCell'=true)→
  ∃cs' cur' c',Instr.fill place cur (is.zip vs)=some cur'∧Kc cs'∧Aa w S cs' cur'.toList c'∧(∀u∈cur'.toList,u.oneCell'=true)∧(∀b,c' b≤c1 b+c2 b)∧cur'.size=cur.size
 |[],xs,cs,vs,cur,c1,c2,Kc,hl,h,hx,hc,ho=>by
  cases xs with
  |nil=>obtain⟨rfl,hz⟩:=hx.zero;exact⟨cs,cur,c2,by simp [Instr.fill],by simpa[Fp]using h,hc,ho,fun b=>om,rfl⟩
  |cons x xs=>simp at hl
 |i::is,[],cs,vs,cur,c1,c2,Kc,hl,h,hx,hc,ho=>by simp at hl
 |i::is,x::xs,cs,vs,cur,c1,c2,Kc,hl,h,hx,hc,ho=>by
  obtain⟨v,us,d1,d2,rfl,h1,h3,hd⟩:=hx.uncons;simp only[AxE,Fp]at h;split at h
  ·rename_i off size ag hfl;obtain⟨hok,hlen,hle,h⟩:=h;obtain⟨hcells,hone,hvs⟩:=Hh h1 hok;have hcl:=hc.length;obtain⟨e1,e2,hp1,hput,he⟩:=hc.part off size;obtain⟨c',hnew,hc'⟩:=hput _ _ _ hcells;have hsz:v.cells.size=size:=om;have hsz2:off+v.cells.size≤cur.size:=by simp at hcl;omega
   have hsp:=R1 off v.cells cur hsz2;generalize hcur':(v.cells.zipIdx.foldl (fun cs (x:Value×Nat)=>cs.setIfInBounds (off+x.2) x.1) cur)=cur1 at hsp;rw[hsz]at hsp;rw[←hsp]at hnew
   have hone1:∀u∈cur1.toList,u.oneCell'=true:=by
    rw[hsp];intro u hu;simp only[Ax5]at hu;rcases hu with(hu|hu)|hu
    ·exact ho u (AxK hu)
    ·exact hone u hu
    ·exact ho u (AxL hu)
   have hcs1:cur1.size=cur.size:=by have:=congrArg List.length hsp;simp at this;omega
   obtain⟨cs',cur',cc,hf,hK,hr,hon,hcc,hs'⟩:=Vl hp is xs _ us cur1 d2 c' Kc (by simpa using hl) h h3 hnew hone1;refine⟨cs',cur',cc,?_,hK,hr,hon,fun b=> ?_,om⟩
   ·simp only[AxE,Instr.fill,hp i off size ag hfl];rw[if_neg]
    ·have:(v.cells.zipIdx.foldl (fun cs x=>cs.setIfInBounds (off+x.2) x.1) cur)=cur1:=hcur';rw[←hf,←this]
    ·simp;omega
   ·have:=hcc b;have:=hc' b;have:=hd b;have:=he b;omega
  ·exact Ad
theorem A3.new {σ':List AV} {c c1 c2:Nat→Nat} {y:AV} {v:Value} {cur:Array Value} {e s:Nat} (hrf:RefOk σ' a.tmps.toList) (hp:pb y=true) (h1:∀b,c b≤1) (hlt:∀b,0<c b→b<w.heap.size) (hd:a.defers=dfs) (hz:Sz w S) (hs:Stp w0 S0 c0 w S c)
 (hr:Aa w S σ' a.tmps.toList c2) (hy:Aa (w.alloc (.cells cur e)) (upd S w.heap.size s) [y] [v] (fun x=>(if x=w.heap.size then 1 else 0)+c1 x)) (hc:∀b,c1 b+c2 b≤c b) (d:Option Nat):
 A3 dfs w0 S0 c0 (aset σ' d y) (a.put d v) (w.alloc (.cells cur e)):=by
 have hk:=Stp.alloc (c:=fun _=>0) hz (.cells cur e) s;have hr2:=hr.step hk (fun b=>by have:=h1 b;have:=hc b;show c2 b+0≤1;omega);have hk2:=Stp.alloc (c:=c) hz (.cells cur e) s;refine A3.value (c:=fun x=>(if x=w.heap.size then 1 else 0)+c x) hrf hp ?_ hd (hz.alloc _ s) (hs.trans hk2) hr2 hy (fun b=> ?_) d
 ·intro b;show(if b=w.heap.size then 1 else 0)+c b≤1;have:=h1 b;have:=hlt b;split<;>omega
 ·have:=hc b;show(if b=w.heap.size then 1 else 0)+c1 b+c2 b≤(if b=w.heap.size then 1 else 0)+c b;omega
theorem A3.newbox {σ':List AV} {c c1 c2:Nat→Nat} {v:Value} {cur:Array Value} {T d:Nat} {cs:List AV} (hrf:RefOk σ' a.tmps.toList) (hn:σ'.all (Km d)=true) (h1:∀b,c b≤1) (hlt:∀b,0<c b→b<w.heap.size) (hd:a.defers=dfs) (hz:Sz w S) (hs:Stp w0 S0 c0 w S c)
 (hr:Aa w S σ' a.tmps.toList c2) (hy:Aa (w.alloc (.cells cur T)) (upd S w.heap.size 0) [.box T cs] [v] (fun x=>(if x=w.heap.size then 1 else 0)+c1 x)) (hc:∀b,c1 b+c2 b≤c b):
 A3 dfs w0 S0 c0 (σ'.set d (.box T cs)) (a.put (some d) v) (w.alloc (.cells cur T)):=by
 have hk:=Stp.alloc (c:=fun _=>0) hz (.cells cur T) 0;have hr2:=hr.step hk (fun b=>by have:=h1 b;have:=hc b;show c2 b+0≤1;omega);have hk2:=Stp.alloc (c:=c) hz (.cells cur T) 0;obtain⟨c',h2,h3⟩:=hr2.aset hy (some d);refine⟨by rw[E2];exact hrf.newbox T cs v hn,_,c',h2,fun b=> ?_,by rw[put_defers];exact hd,hz.alloc _ 0,(hs.trans hk2).drop fun b=> ?_⟩
 ·have h3b:=h3 b;have:=h1 b;have:=hlt b;have:=hc b;split at h3b<;>omega
 ·exact An5
theorem Mq {vs:List Value} (h:Gv vs=true):∀u∈vs,u.oneCell'=true:=fun u hu=>Ax7.1 h u hu
def Pj (σ:List AV) (t:Nat) (i:TI) (d:Option Nat) (K:List AV→Prop):Prop:=
 match d with
 |some d=>Gv i.zero=true∧σ.all (Km d)=true∧K (σ.set d (.box t (i.zero.map ac1)))
 |none=>False
theorem Xo {t:Nat} {i:TI} (ho:o.op=.alloc t) (hi:Cx P t i) (hst:A3 dfs w0 S0 c0 σ a w) (h:Pj σ t i o.dst K):
 o.wp P a w (fun a' w'=>∃σ',K σ'∧A3 dfs w0 S0 c0 σ' a' w') Q:=by
 unfold Pj at h;split at h
 ·rename_i dd hod;obtain⟨hone,hn,hK⟩:=h;obtain⟨inf,z,d,g1,gz,gzz,g4,_,g6,g7⟩:=hi.get;obtain⟨hrf,S,c,hr,h1,hd,hz,hs⟩:=hst;refine Ao (w':=w.alloc (.cells z.cells t)) (v:=.pointer (some ⟨w.heap.size,0,none⟩)) ?_ ⟨_,hK,?_⟩
  ·unfold execOp;simp [ho,Instr.alloc,zeroValue,typeInfo,g1,gz,newVar,newRow]
  ·rw [hod];refine A3.newbox hrf hn h1 hr.lt hd hz hs hr (c1:=fun _=>0) ?_ (fun b=>om);exact .box (cur:=z.cells) (heap_alloc_new w _) (by simp [upd]) (by rw[gzz];exact Kq i.zero) (by rw[gzz];exact Mq hone) (.nil Al) (fun x=>oS)
 ·exact Ad
def tP (σ:List AV) (t:Nat) (x:Operand) (d:Option Nat) (K:List AV→Prop):Prop:=
 match d with
 |some d=>Iy (aev σ x)=true∧(amv σ x).all (Km d)=true∧K ((amv σ x).set d (.box t (cellsOf (aev σ x))))
 |none=>False
theorem jO {t:Nat} {x:Operand} (ho:o.op=.box t x) (hst:A3 dfs w0 S0 c0 σ a w) (h:tP σ t x o.dst K):
 o.wp P a w (fun a' w'=>∃σ',K σ'∧A3 dfs w0 S0 c0 σ' a' w') Q:=by
 unfold tP at h;split at h
 ·rename_i dd hod;obtain⟨hok,hn,hK⟩:=h;obtain⟨hrf,S,c,hr,h1,hd,hz,hs⟩:=hst;obtain⟨c1,c2,hx,hr2,hc⟩:=I6 hr x;obtain⟨hcells,hone,hsz⟩:=Hh hx hok;have hk:=Stp.alloc (c:=fun _=>0) hz (.cells (a.eval x).cells t) 0;have hcells2:=hcells.step hk (fun b=>by have:=h1 b;have:=hc b;show c1 b+0≤1;omega);refine Ao (w':=w.alloc (.cells (a.eval x).cells t)) (v:=.pointer (some ⟨w.heap.size,0,none⟩)) ?_ ⟨_,hK,?_⟩
  ·unfold execOp;simp [ho,Instr.box,newVar,newRow]
  ·rw [hod];refine A3.newbox (hrf.amv x) hn h1 hr.lt hd hz hs hr2 (c1:=c1) ?_ (fun b=>by rw[hc];omega);exact .box (cur:=(a.eval x).cells) (heap_alloc_new w _) (by simp [upd]) hcells2 hone (.nil Al) (fun x=>oS)
 ·exact Ad
theorem tQ {xs:List AV} {vs:List Value} {c:Nat→Nat} (h:Aa w S xs vs c):Aa w S (xs.map view) vs (fun _=>0):=Aa.map_v Aa.view h
def rowOk (k:Nat) (xs:List AV):Bool:=xs.all fun x=>Iy x&&((cellsOf x).length==k)
theorem Pk {k:Nat} {xs:List AV} (h:rowOk k xs=true):∀x∈xs,Iy x=true∧(cellsOf x).length=k:=by intro x hx;have:=Ax7.1 h x hx;exact G5
theorem bY {k:Nat}:∀{xs:List AV} {vs:List Value} {c:Nat→Nat},Aa w S xs vs c→(∀x∈xs,Iy x=true∧(cellsOf x).length=k)→
 Aa w S (flat xs) (vs.flatMap (·.cells.toList)) c∧(∀u∈vs.flatMap (·.cells.toList),u.oneCell'=true)∧(∀v∈vs,v.cells.size=k)
 |[],vs,c,h,_=>by obtain⟨rfl,hz⟩:=h.zero;exact⟨.nil hz,oS,oS⟩
 |x::xs,vs,c,h,ho=>by
  obtain⟨v,us,d1,d2,rfl,h1,h3,hd⟩:=h.uncons;obtain⟨hc1,hc2,hc3⟩:=Hh h1 (ho x oS).1;obtain⟨i1,i2,i3⟩:=bY h3 (fun y hy=>ho y (by simp [hy]));refine⟨Aa.app hc1 i1 hd,?_,?_⟩
  ·intro u hu;simp only[List.flatMap_cons,Ax5]at hu;rcases hu with hu|hu
   ·exact hc2 u hu
   ·exact i2 u hu
  ·intro u hu;simp only[Ax2]at hu;rcases hu with rfl|hu
   ·rw [hc3];exact(ho x oS).2
   ·exact i3 u hu
theorem bZ (k:Nat):∀(vs:List Value) (i0:Nat) (cur:Array Value),(∀v∈vs,v.cells.size=k)→i0*k+vs.length*k≤cur.size→
 ∃r,Instr.fill (fun i=>some (i*k,k)) cur ((List.range' i0 vs.length).zip vs)=some r∧r.toList=cur.toList.take (i0*k)++vs.flatMap (·.cells.toList)++cur.toList.drop (i0*k+vs.length*k)
 |[],i0,cur,_,_=>⟨cur,by simp [Instr.fill],oS⟩
 |v::vs,i0,cur,hv,hl=>by
  have hvk:=hv v oS;simp only[Axr,Ayh,Nat.one_mul]at hl;have hsp:=R1 (i0*k) v.cells cur om;generalize hc1:(v.cells.zipIdx.foldl (fun cs (x:Value×Nat)=>cs.setIfInBounds (i0*k+x.2) x.1) cur)=cur1 at hsp;have hs1:cur1.size=cur.size:=by have:=congrArg List.length hsp;simp at this;omega
  obtain⟨r,hf,hr⟩:=bZ k vs (i0+1) cur1 (fun u hu=>hv u (by simp [hu])) (by rw[Ayh];omega);refine⟨r,?_,?_⟩
  ·simp only[Axr,List.range'_succ,AxE,Instr.fill];rw[if_neg (by simp;omega)];have:(v.cells.zipIdx.foldl (fun cs x=>cs.setIfInBounds (i0*k+x.2) x.1) cur)=cur1:=hc1;rw[this];exact hf
  ·rw [hr,hsp,hvk];have e1:(i0+1)*k=i0*k+k:=by rw[Ayh];omega
   have hcl:v.cells.toList.length=k:=by simpa using hvk
   have hl1:(cur.toList.take (i0*k)++v.cells.toList).length=(i0+1)*k:=by simp;omega
   rw[←hl1,List.take_left,List.drop_length_add_append,Ay2];simp only[List.flatMap_cons,Axr,Ayh,Nat.one_mul,AxS];congr 4;omega
def Co (σ:List AV) (e:Nat) (j:TI) (n:Nat) (ps:List (Nat×Operand)) (d:Option Nat) (K:List AV→Prop):Prop:=
 ps.map (·.1)=List.range n∧n*j.size≤16777216∧n≤16777216∧0<n*j.size∧rowOk j.size ((agrab σ (ps.map (·.2))).1.map view)=true∧
  K (aset (agrab σ (ps.map (·.2))).2 d (.own e j.size ((agrab σ (ps.map (·.2))).1.map view)))
theorem Nq {t e n:Nat} {ps:Array (Nat×Operand)} {i j:TI} (ho:o.op=.buildSlice t n ps) (hi:Cx P t i) (he:i.td.elem=some e) (hj:Cx P e j) (hst:A3 dfs w0 S0 c0 σ a w)
 (h:Co σ e j n ps.toList o.dst K):o.wp P a w (fun a' w'=>∃σ',K σ'∧A3 dfs w0 S0 c0 σ' a' w') Q:=by
 obtain⟨hps,hbig,hn,hz0,hrow,hK⟩:=h;obtain⟨inf,z,d,g1,gz,gzz,g4,_,g6,g7⟩:=hi.get;obtain⟨inf2,z2,d2,f1,fz,fzz,f4,_,f6,f7⟩:=hj.get;have hd':d=.slice e:=D3 (P:=P) (by rw[g7];exact he);subst hd';obtain⟨hrf,S,c,hr,h1,hd,hz,hs⟩:=hst;obtain⟨c1,c2,hx,hr2,hc⟩:=Nm (ps.toList.map (·.2)) hr;have hxv:=tQ hx;obtain⟨hfl,hone,hsz⟩:=bY hxv (Pk hrow);have hxl:=hx.length;simp only[Axp]at hxl;generalize hvs:(ps.toList.map (·.2)).map a.eval=vs at *;have hpl:ps.toList.length=n:=by have:=congrArg List.length hps;simpa using this
 have hvl:vs.length=n:=by rw[←hvs];simp [hpl]
 have hfill:=bZ j.size vs 0 ((Array.range (n*j.size)).map (z2.cells[·% z2.cells.size]!)) hsz (by simp [hvl]);obtain⟨r,hf,hrl⟩:=hfill;simp only[Nat.zero_mul,AxI,Ax8,Ayc]at hrl;have hrl2:r.toList=vs.flatMap (·.cells.toList):=by rw[hrl,AyO (by simp [hvl]),AxF]
 have hflen:=hfl.length;have hfl2:=C8 (k:=j.size) (es:=(agrab σ (ps.toList.map (·.2))).1.map view) (fun x hx=>(Pk hrow x hx).2);have hlen:((agrab σ (ps.toList.map (·.2))).1.map view).length=n:=by simp;omega
 have hrs:r.size=n*j.size:=by have:=congrArg List.length hrl2;rw[hflen,hfl2,hlen]at this;exact G5
 have hk:=Stp.alloc (c:=fun _=>0) hz (.cells r e) (n*j.size);have hfl3:=hfl.step hk (fun b=>oS);have hparts:(ps.map fun(x:Nat×Operand)=>(x.1,a.eval x.2)).toList=(List.range' 0 vs.length).zip vs:=by rw[←hvs,←List.range_eq_range'];simp only[AyU,Axp];rw[show ps.toList.length=n from hpl,←hps,Ay4];exact AnK
 refine Ao (w':=w.alloc (.cells r e)) (v:=.slice (some ⟨w.heap.size,0,none⟩) n n) ?_ ⟨_,hK,A3.new (s:=n*j.size) (hrf.agrab _) rfl h1 hr.lt hd hz hs hr2 (c1:=fun _=>0) ?_ (fun b=>by rw[hc];omega) _⟩
 ·have hsz2:(sizeOf e).run P w=.ok j.size w:=by simp [sizeOf,typeInfo,f1,f4]
  have hzv:(zeroValue e).run P w=.ok z2 w:=by simp [zeroValue,typeInfo,f1,fz]
  have hbig':¬n*j.size>2 ^ 24:=om;have hmap:ps.toList.map (fun x=>(x.1,a.eval x.2))=(List.range' 0 vs.length).zip vs:=by rw[←AyU];exact hparts
  unfold execOp;simp only[ho,Instr.buildSlice,Sem.run_bind,run_underlying g6,Result.andThen_ok,hsz2];have hn0:n*j.size≠0:=om;simp [hbig',hn0,hzv,hmap,hf,newRow]
 ·have hlen':=hlen;revert hfl3 hlen' hrow hflen hfl2;generalize (agrab σ (ps.toList.map (·.2))).1.map view=es;intro hrow hflen hfl2 hfl3 hlen';subst hlen';refine .own (cur:=r) (c0:=fun _=>0) (c2:=fun _=>0) (Axu _) (by unfold maxLen;omega) (fun x hx=>(Pk hrow x hx).2) (heap_alloc_new w _) hrs (by simp [upd]) ?_ Al ?_ (.nil Al) (fun x=>oS)
  ·rw [Axw (by simp [hrs]),hrl2];exact hfl3
  ·rw [Axw (by simp [hrs]),hrl2];exact hone
theorem Stp.row {c:Nat→Nat} {b s:Nat} {cur new:Array Value} {e:TypeId} (hb:w.heap[b]? =some (.cells cur e (0,0))) (hc:c b≠0) (hst:∀o,o<S b→new[o]? =cur[o]?) (hs:S b≤s):Stp w S c (w.setRow b new) (upd S b s) c where
 os:=rfl
 tape:=rfl
 output:=⟨rfl,fun _=>Axu _⟩
 size:=by simp [World.setRow]
 keep b' hb' hc':=by have hne:b'≠b:=fun h=>hc (h▸hc');exact⟨setRow_other w b b' new hne,by simp [upd,hne]⟩
 cell b' o ho:=by
  by_cases hne:b'=b
  ·subst hne;rw[cell_setRow_same w b' o cur new e (0,0) hb,cell_of_row w b' o cur e (0,0) hb];exact hst o ho
  ·exact cell_setRow_other w b new _ hne
 le b':=by
  unfold upd;split
  ·rename_i h;subst h;exact hs
  ·exact F6
 own _ _:=Axu _
theorem Sz.row {b:Nat} {cur new:Array Value} {e:TypeId} {S' c c':Nat→Nat} (hz:Sz w S) (hb:w.heap[b]? =some (.cells cur e (0,0))) (hk:Stp w S c (w.setRow b new) S' c') (h:∀x,x≠b→S' x=S x:=by intro x hx;simp [upd,hx]):Sz (w.setRow b new) S':=by have hlt:b<w.heap.size:=(Array.getElem?_eq_some_iff.1 hb).1;refine hz.stp hk fun b' hb'=> ?_;simp [World.setRow]at hb';rw[h b' om];exact hz b' hb'
def Gx (σ:List AV) (i:TI) (x y:Operand) (d:Option Nat) (K:List AV→Prop):Prop:=
 match x with
 |.tmp s=>
  match(amv σ y).getD s .any with
  |.box T cs=>Iy (aev σ y)=true∧(cellsOf (aev σ y)).length=i.size∧i.size≤cs.length∧K (aset ((amv σ y).set s (.box T (pleft cs 0 i.size (cellsOf (aev σ y))))) d .any)
  |.ref s' off=>
   match(amv σ y).getD s' .any with
   |.box T cs=>Iy (aev σ y)=true∧(cellsOf (aev σ y)).length=i.size∧off+i.size≤cs.length∧K (aset ((amv σ y).set s' (.box T (pleft cs off i.size (cellsOf (aev σ y))))) d .any)
   |_=>False
  |_=>False
 |_=>False
theorem Ks {o:Oper} {a:Act} {next:Act→World→Prop} {Q:Exit→Act→World→Prop} {w':World} (h:(execOp a.eval o).run P w=.ok .skip w') (hn:next (a.put o.dst undef) w'):o.wp P a w next Q:=by unfold Oper.wp;rw[h];exact hn
theorem R2 {t s off Te:Nat} {x y:Operand} {i:TI} {cs:List AV} (ho:o.op=.store t x y) (hi:Cx P t i) (hst:A3 dfs w0 S0 c0 σ a w)
 (hx:(amv σ y).getD s .any=.box Te cs) (he:∀b,a.tmps.toList[s]? =some (.pointer (some ⟨b,0,none⟩))→a.eval x=.pointer (some ⟨b,off,none⟩)) (hok:Iy (aev σ y)=true) (hlen:(cellsOf (aev σ y)).length=i.size) (hl:off+i.size≤cs.length)
 (h:K (aset ((amv σ y).set s (.box Te (pleft cs off i.size (cellsOf (aev σ y))))) o.dst .any)):
 o.wp P a w (fun a' w'=>∃σ',K σ'∧A3 dfs w0 S0 c0 σ' a' w') Q:=by
 obtain⟨inf,z,d,g1,gz,gzz,g4,_,g6,g7⟩:=hi.get;obtain⟨hrf,S,c,hr,h1,hd,hz,hs⟩:=hst;obtain⟨cy,cr,hy,hr1,hc⟩:=I6 hr y;obtain⟨hcells,hone,hsz⟩:=Hh hy hok;obtain⟨b,cur,d1,c2,hev,hb,hS,hcs,hone2,hr2,hcr,hv⟩:=Hq hr1 hx;have he:=he b hv;have hcl:=hcs.length;have hcb:c b≠0:=by rw[hc,hcr];simp
 have hcsz:off+(a.eval y).cells.toList.length≤cur.size:=by simp at hcl⊢;omega
 have hrun:=run_storeCells_at P b off Te (a.eval y).cells.toList 0 cur w hb (by simpa using hcsz) hone;simp only[AyT]at hrun;generalize hnew:(cur.toList.take off++(a.eval y).cells.toList++cur.toList.drop (off+(a.eval y).cells.toList.length)).toArray=new at hrun;have hnl:new.toList=cur.toList.take off++(a.eval y).cells.toList++cur.toList.drop (off+i.size):=by rw[←hnew];simp;congr 1;omega
 have hk:=Stp.row (S:=S) (c:=fun x=>if x=b then 1 else 0) (s:=0) (new:=new) hb oS (fun o ho=>by rw[hS]at ho;omega) om;have hSS:upd S b 0=S:=by funext x;unfold upd;split<;>simp_all
 rw[hSS]at hk;have hk2:=Stp.row (S:=S) (c:=c) (s:=0) (new:=new) hb hcb (fun o ho=>by rw[hS]at ho;omega) om;rw[hSS]at hk2;have htot:∀x,c x=cy x+((if x=b then 1 else 0)+d1 x+c2 x):=fun x=>by rw[hc,hcr]
 have hy':=hcells.step hk (fun x=>by have:=h1 x;have:=htot x;omega);have hcs':=hcs.step hk (fun x=>by have:=h1 x;have:=htot x;omega);have hr2':=hr2.step hk (fun x=>by have:=h1 x;have:=htot x;omega);obtain⟨e1,e2,hp,hput,hce⟩:=hcs'.part off i.size;obtain⟨c',hp2,hc'⟩:=hput _ _ _ hy';rw[←hnl]at hp2;have hb':=setRow_heap w b cur new Te (0,0) hb;have honeN:∀u∈new.toList,u.oneCell'=true:=by exact Ams
 have hr3:=Xj (c:=fun x=>(if x=b then 1 else 0)+c' x+c2 x) hr2' (getD_lt hx oS) hv hb' hS hp2 honeN (fun x=>rfl);have hsz2:Sz (w.setRow b new) S:=hz.row hb hk2 (fun _ _=>rfl);refine Ks (w':=w.setRow b new) ?_ ⟨_,h,A3.value ((hrf.amv y).rebox _ _ (A4 hr1 hx oS)) rfl h1 hd hsz2 (hs.trans hk2) hr3 (.any (.nil Al)) (fun x=> ?_) _⟩
 ·exact Atr
 ·have:=htot x;have:=hce x;have:=hc' x;show 0+((if x=b then 1 else 0)+c' x+c2 x)≤c x;omega
theorem Xp {t:Nat} {x y:Operand} {i:TI} (ho:o.op=.store t x y) (hi:Cx P t i) (hst:A3 dfs w0 S0 c0 σ a w) (h:Gx σ i x y o.dst K):
 o.wp P a w (fun a' w'=>∃σ',K σ'∧A3 dfs w0 S0 c0 σ' a' w') Q:=by
 unfold Gx at h
 cases x with
 |tmp s=>
  simp only[]at h;split at h
  ·rename_i Te cs hx;obtain⟨hok,hlen,hl,hK⟩:=h;exact R2 ho hi hst hx (fun b hb=>Ck hb) hok hlen om hK
  ·rename_i s' off hx;split at h
   ·rename_i Te cs hx';obtain⟨hok,hlen,hl,hK⟩:=h;have hst':=hst;obtain⟨hrf,S,c,hr,_⟩:=hst;obtain⟨cy,cr,hy,hr1,hc⟩:=I6 hr y;obtain⟨b,hb1,hb2⟩:=(hrf.amv y).ref s s' off Te cs (A4 hr1 hx oS) (A4 hr1 hx' oS);exact R2 ho hi hst' hx' (fun b' hb'=>by rw[hb1]at hb';cases hb';exact Ck hb2) hok hlen hl hK
   ·exact Ad
  ·exact Ad
 |_=>exact h.elim
theorem Fs:∀(xs ys:List AV),flat (xs++ys)=flat xs++flat ys
 |[],ys=>rfl
 |x::xs,ys=>by simp [flat,Fs xs ys]
def M2 (k:Nat):AV→Option (List AV)
 |.nil=>some []
 |.sl k' es=>if k'=k then some es else none
 |.own _ k' es=>if k'=k then some es else none
 |_=>none
def I9 (e k:Nat):AV→Option (List AV)
 |.nil=>some []
 |.own e' k' es=>if e'=e∧k'=k then some es else none
 |.mine e' k' es=>if e'=e∧k'=k then some es else none
 |_=>none
def adr (e k:Nat) (x:AV) (zs:List AV):AV:=match x with
 |.mine _ _ _=>.mine e k zs
 |_=>.own e k zs
theorem Ail {e k:Nat} {x:AV} {zs:List AV} (h:¬∃e' k' es,x=.mine e' k' es):adr e k x zs=.own e k zs:=by cases x<;>first|rfl|exact absurd ⟨_,_,_,rfl⟩ h
def D4 (σ:List AV) (e:Nat) (j:TI) (x y:Operand) (d:Option Nat) (K:List AV→Prop):Prop:=
 match I9 e j.size (aev σ x),M2 j.size (aev (amv σ x) y)with
 |some xs,some ys=>0<j.size∧j.zero.length=j.size∧xs.length+ys.length≤9223372036854775807∧(xs.length+ys.length)*j.bytes≤140737488355328∧
  K (aset (amv σ x) d (adr e j.size (aev σ x) (xs++ys)))
 |_,_=>False
theorem Xq {k:Nat} {y:AV} {v:Value} {ys:List AV} {c:Nat→Nat} (h:Aa w S [y] [v] c) (hs:M2 k y=some ys):
 ∃A cap cv c0,v=.slice A ys.length cap∧(∀x∈ys,(cellsOf x).length=k)∧Aa w S (flat ys) cv c0∧Zc c0∧(∀u∈cv,u.oneCell'=true)∧
  (ys≠[]→∃ad,A=some ad∧ad.spot=none∧∀j u,cv[j]? =some u→w.cell? (ad.add j)=some u):=by
 have key:∀{v:Value} {c:Nat→Nat},Aa w S [.sl k ys] [v] c→∃A cap cv c0,v=.slice A ys.length cap∧(∀x∈ys,(cellsOf x).length=k)∧Aa w S (flat ys) cv c0∧Zc c0∧(∀u∈cv,u.oneCell'=true)∧
  (ys≠[]→∃ad,A=some ad∧ad.spot=none∧∀j u,cv[j]? =some u→w.cell? (ad.add j)=some u):=by
  intro v c h;obtain⟨A,cap,e1,_,_,hk,hm⟩:=Jt h;by_cases hne:ys=[]
  ·subst hne;exact⟨A,cap,[],fun _=>0,e1,oS,.nil Al,Al,oS,fun h=>absurd rfl h⟩
  ·obtain ⟨ad,cv,c0,rfl,hsp,h1,h0,hcell,hst⟩:=hm hne;refine⟨_,cap,cv,c0,e1,hk,h1,h0,fun u hu=> ?_,fun _=>⟨ad,rfl,hsp,fun j u hj=> ?_⟩⟩
   ·obtain ⟨j,hj⟩:=List.getElem?_of_mem hu;exact(hcell j u hj).2
   ·obtain ⟨bb,oo,sp⟩:=ad;simp at hsp;subst hsp;rw[Hr];exact(hcell j u hj).1
 cases y with
 |nil=>simp [M2]at hs;subst hs;cases h with|nilS h=>exact⟨none,0,[],fun _=>0,rfl,oS,.nil Al,Al,oS,fun h=>absurd rfl h⟩
 |sl k' es=>
  simp only[M2]at hs;split at hs
  ·rename_i hk;subst hk;injection hs with hs;subst hs;exact key h
  ·cases hs
 |own e' k' es=>
  simp only[M2]at hs;split at hs
  ·rename_i hk;subst hk;injection hs with hs;subst hs;exact key (F8 h)
  ·cases hs
 |_=>simp [M2]at hs
theorem R3 (t ty e:Nat) (i:TypeInfo) (ht:P.underlying t=some (.slice e)) (hi:P.info? e=some i) (A:Option Addr) (n cap:Nat) (hn:n≤cap) (B:Option Addr) (cc:Nat):
 (Builtin.append_ #[t,t] ty #[.slice A n cap,.slice B 0 cc]).run P w=.ok (.slice A n cap) w:=by
 cases A with
 |none=>cases B<;>simp [Builtin.append_,run_underlying ht,sizeOf,typeInfo,hi,Builtin.lenOf,Builtin.firstCells,loadCells,loadCellsFrom,hn]
 |some A=>cases B<;>simp [Builtin.append_,run_underlying ht,sizeOf,typeInfo,hi,Builtin.lenOf,Builtin.firstCells,hn,storeCells,loadCells,loadCellsFrom]
theorem Xr {t e:Nat} {x y:Operand} {c:Call} {i j:TI} {xs ys:List AV} (ho:o.op=.call c) (hc:c.callee=.builtin .append) (hca:c.args= #[x,y]) (hct:c.argTypes= #[t,t]) (hi:Cx P t i) (he:i.td.elem=some e) (hj:Cx P e j)
 (hst:A3 dfs w0 S0 c0 σ a w) (hxm:aev σ x=.mine e j.size xs) (hy:M2 j.size (aev (amv σ x) y)=some ys) (hsz:0<j.size) (hzl:j.zero.length=j.size) (hmax:xs.length+ys.length≤9223372036854775807) (hby:(xs.length+ys.length)*j.bytes≤140737488355328) (hK:K (aset (amv σ x) o.dst (.mine e j.size (xs++ys)))):o.wp P a w (fun a' w'=>∃σ',K σ'∧A3 dfs w0 S0 c0 σ' a' w') Q:=by
 obtain⟨inf,z,d,g1,gz,gzz,g4,_,g6,g7⟩:=hi.get;obtain⟨inf2,z2,d2,f1,fz,fzz,f4,f5,f6,f7⟩:=hj.get;have hd':d=.slice e:=D3 (P:=P) (by rw[g7];exact he);subst hd';obtain⟨hrf,S,c',hr,h1,hd,hz,hs⟩:=hst;obtain⟨cx,cr,hxr,hr1,hcc⟩:=I6 hr x;obtain⟨cy,hyr⟩:=Ar hr1 y;obtain⟨B,cc,cv,c0',eY,hky,hcv,hz0,honey,hmemy⟩:=Xq hyr hy;have hcvl:=hcv.length;have hfly:=C8 hky
 have hwp:∀{v:Value} {w':World},(Builtin.append_ #[t,t] o.type #[a.eval x,a.eval y]).run P w=.ok v w'→∀{next:Act→World→Prop},next (a.put o.dst v) w'→o.wp P a w next Q:=by
  intro v w' hrun next hn
  refine Ao (v:=v) (w':=w') ?_ hn;unfold execOp;simp only[ho,resolve,hc,hca,hct,invoke,builtin,Sem.run_bind,Sem.run_pure,Result.andThen_ok,AyS,Axx,Axv,hrun]
 have fresh:∀(xcells:List Value) (newcap:Nat) (v:Value),Aa w S (flat xs) xcells (fun _=>0)→(∀u∈xcells,u.oneCell'=true)→(∀x∈xs,(cellsOf x).length=j.size)→xs.length+ys.length≤newcap→newcap≤maxLen→
  v=.slice (some ⟨w.heap.size,0,none⟩) (xs.length+ys.length) newcap→
  A3 dfs w0 S0 c0 (aset (amv σ x) o.dst (.mine e j.size (xs++ys))) (a.put o.dst v) (w.drew.alloc (.cells (xcells.toArray++cv.toArray++Builtin.zeroCells z2.cells (newcap-(xs.length+ys.length))) e)):=by
  intro xcells newcap v hxc hone hkx hcap hcm hv;have hxl:=hxc.length;have hflx:=C8 hkx;have hz2l:z2.cells.size=j.size:=by have:=congrArg List.length fzz;simp at this;omega
  have hflat:=Fs xs ys;have hxw:Aa w.drew S (flat xs) xcells (fun _=>0):=hxc.keep (fun _ _ _=>rfl) (fun _=>Axu _) (fun _ _=>⟨rfl,rfl⟩);have hyw:Aa w.drew S (flat ys) cv c0':=hcv.keep (fun _ _ _=>rfl) (fun _=>Axu _) (fun _ _=>⟨rfl,rfl⟩);have hrw:Aa w.drew S (amv σ x) a.tmps.toList cr:=hr1.keep (fun _ _ _=>rfl) (fun _=>Axu _) (fun _ _=>⟨rfl,rfl⟩);generalize hcur:(xcells.toArray++cv.toArray++Builtin.zeroCells z2.cells (newcap-(xs.length+ys.length)))=cur;have hcl:cur.toList=xcells++cv++(Builtin.zeroCells z2.cells (newcap-(xs.length+ys.length))).toList:=by rw[←hcur];simp
  have htake:cur.toList.take ((xs++ys).length*j.size)=xcells++cv:=by exact AoE
  have hk:=Stp.alloc (w:=w.drew) (c:=fun _=>0) (S:=S) hz.drew (.cells cur e) 0;have hboth:=(Aa.app hxw hyw (c:=c0') (fun b=>oS)).step hk (fun b=>by rw[hz0 b];simp);rw[hv];refine A3.new (w:=w.drew) (s:=0) (hrf.amv x) rfl h1 hr.lt hd hz.drew (hs.trans Stp.drew) hrw (c1:=fun _=>0) ?_ (fun b=>by rw[hcc];omega) _;have hlen:xs.length+ys.length=(xs++ys).length:=oS;rw[hlen];refine .mine (cap:=newcap) (cur:=cur) (c0:=c0') (c2:=fun _=>0) om hcm (fun x hx=> ?_) (heap_alloc_new _ _) ?_ (by simp [upd]) ?_ hz0 ?_ (.nil Al) (fun x=>rfl)
  ·exact Aif
  ·exact Ao5
  ·exact Qd
  ·exact Aib
 have hlim:xs.length+ys.length≤maxLen:=by unfold maxLen;omega
 by_cases hye:ys=[]
 ·subst hye
  have hsame:Aa w S [.mine e j.size (xs++[])] [a.eval x] cx∧∃A n cap,a.eval x=.slice A n cap∧n≤cap:=by
   rw[hxm]at hxr;rw[AxF];revert hxr;generalize a.eval x=v;intro hxr;refine⟨hxr,?_⟩
   cases hxr with
   |mineE h=>exact⟨none,0,0,rfl,Axu _⟩
   |mine hn hcap hk hb hsz' hS h1c h0c hoc hnil hcnt=>exact⟨_,_,_,rfl,hn⟩
  obtain⟨hrz,A,n,cap,e1,hn⟩:=hsame;have hrun:=R3 (P:=P) (w:=w) t o.type e inf2 g6 f1 A n cap hn B cc;have heY:a.eval y=.slice B 0 cc:=eY;rw[←e1,←heY]at hrun;exact hwp hrun ⟨_,hK,A3.value (hrf.amv x) rfl h1 hd hz hs hr1 hrz (fun b=>by rw[hcc];omega) _⟩
 ·obtain ⟨ad,hB,hsp,hmem⟩:=hmemy hye;subst hB;have hm0:0<ys.length:=AyW.2 hye;have hcvs:cv.length=ys.length*inf2.size:=by rw[f4];omega
  have nilcase:xs=[]→a.eval x=.slice none 0 0→o.wp P a w (fun a' w'=>∃σ',K σ'∧A3 dfs w0 S0 c0 σ' a' w') Q:=by exact AsS
  rw[hxm]at hxr;revert hxr;generalize hev:a.eval x=v;intro hxr
  cases hxr with
  |mineE h=>exact nilcase rfl hev
  |mine hn hcap hk hb hsz' hS h1c h0c hoc hnil hcnt=>
   rename_i g cap cur ccc c2;cases hnil with|nil hzz=>
   have hcurl:(cur.toList.take (xs.length*j.size)).length=xs.length*j.size:=by exact AnI
   by_cases hroom:xs.length+ys.length≤cap
   ·have hfit:xs.length*inf2.size+cv.length≤cur.size:=by
     exact AmO
    have hrun:=run_append_room (P:=P) w t o.type e inf2 g6 f1 g xs.length cap cur hb ad ys.length cc cv hcvs hmem honey hroom hfit;rw[←hev,←eY]at hrun;rw[f4]at hrun hfit;generalize hnew:(cur.toList.take (xs.length*j.size)++cv++cur.toList.drop (xs.length*j.size+cv.length)).toArray=new at hrun;have hnl:new.toList=cur.toList.take (xs.length*j.size)++cv++cur.toList.drop (xs.length*j.size+cv.length):=by rw[←hnew]
    have hpre:∀o',o'<S g→new[o']? =cur[o']? :=by intro o' ho';rw[hS]at ho';omega
    have hcg:∀x,cx x=(if x=g then 1 else 0):=fun x=>by rw[hcnt,hzz x];omega
    have hle:S g≤0:=by rw[hS];exact Axu _
    have hk1:=Stp.row (S:=S) (c:=cx) (s:=0) (new:=new) hb (by rw[hcg];simp) hpre hle;have hk2:=Stp.row (S:=S) (c:=c') (s:=0) (new:=new) hb (by rw[hcc,hcg];simp) hpre hle;have hr3:=hr1.step hk1 (fun b=>by rw[AyV,←hcc];exact h1 b);have hflat:=Fs xs ys;have hboth:=(Aa.app h1c hcv (c:=fun b=>ccc b+c0' b) (fun b=>rfl)).step hk1 (fun b=>by rw[h0c b,hz0 b,hcg];split<;>omega);have htake:new.toList.take ((xs++ys).length*j.size)=cur.toList.take (xs.length*j.size)++cv:=by exact Am4
    refine hwp hrun ⟨_,hK,A3.value (hrf.amv x) rfl h1 hd (hz.row hb hk2) (hs.trans hk2) hr3 (c1:=cx) (y:=.mine e j.size (xs++ys)) ?_ (fun b=>by rw[hcc];omega) _⟩;have hlen:xs.length+ys.length=(xs++ys).length:=oS;rw[hlen];refine .mine (cur:=new) (c0:=fun b=>ccc b+c0' b) (c2:=fun _=>0) om hcap (fun x hx=> ?_) (setRow_heap w g cur new e (0,0) hb) ?_ (by simp [upd]) ?_ (fun b=>by show ccc b+c0' b=0;rw[h0c b,hz0 b]) ?_ (.nil Al) (fun x=>by rw[hcg];simp)
    ·exact Aig
    ·exact qI
    ·exact Qd
    ·exact Aic
   ·have holds:∀jj u,(cur.toList.take (xs.length*j.size))[jj]? =some u→w.cell? ((⟨g,0,none⟩:Addr).add jj)=some u:=by
     intro jj u hu;rw[Hr,Ayc,cell_of_row w g jj cur e (0,0) hb];rw[List.getElem?_take]at hu;split at hu
     ·simpa using hu
     ·cases hu
    have hrun:=run_append_grow (P:=P) w t o.type e inf2 z2 g6 f1 fz ⟨g,0,none⟩ xs.length cap (cur.toList.take (xs.length*j.size)) (by rw[f4];exact hcurl) holds ad ys.length cc cv hcvs hmem om om (growslice_fits om (by rw[f5];exact hby));rw[←hev,←eY]at hrun;have hge:=grownCap_ge w (xs.length+ys.length) cap e;have hle:=grownCap_le_maxLen w (xs.length+ys.length) cap e hlim;exact Aa2
theorem Uv {t e:Nat} {x y:Operand} {c:Call} {i j:TI} (ho:o.op=.call c) (hc:c.callee=.builtin .append) (hca:c.args= #[x,y]) (hct:c.argTypes= #[t,t]) (hi:Cx P t i) (he:i.td.elem=some e) (hj:Cx P e j)
 (hst:A3 dfs w0 S0 c0 σ a w) (h:D4 σ e j x y o.dst K):o.wp P a w (fun a' w'=>∃σ',K σ'∧A3 dfs w0 S0 c0 σ' a' w') Q:=by
 obtain⟨inf,z,d,g1,gz,gzz,g4,_,g6,g7⟩:=hi.get;obtain⟨inf2,z2,d2,f1,fz,fzz,f4,f5,f6,f7⟩:=hj.get;have hd':d=.slice e:=D3 (P:=P) (by rw[g7];exact he);subst hd';unfold D4 at h;split at h
 ·rename_i xs ys hx hy;obtain⟨hsz,hzl,hmax,hby,hK⟩:=h;by_cases hm:∃e' k' es,aev σ x=.mine e' k' es
  ·obtain ⟨e',k',es,hm⟩:=hm;rw[hm]at hx hK;simp only[I9]at hx;split at hx
   ·rename_i hek;obtain⟨rfl,rfl⟩:=hek;injection hx with hx;subst hx;exact Xr ho hc hca hct hi he hj hst hm hy hsz hzl hmax hby hK
   ·cases hx
  rw[Ail hm]at hK;obtain⟨hrf,S,c',hr,h1,hd,hz,hs⟩:=hst;obtain⟨cx,cr,hxr,hr1,hcc⟩:=I6 hr x;obtain⟨cy,hyr⟩:=Ar hr1 y;obtain⟨B,cc,cv,c0',eY,hky,hcv,hz0,honey,hmemy⟩:=Xq hyr hy;have hcvl:=hcv.length;have hfly:=C8 hky
  have hwp:∀{v:Value} {w':World},(Builtin.append_ #[t,t] o.type #[a.eval x,a.eval y]).run P w=.ok v w'→∀{next:Act→World→Prop},next (a.put o.dst v) w'→o.wp P a w next Q:=by
   intro v w' hrun next hn
   refine Ao (v:=v) (w':=w') ?_ hn;unfold execOp;simp only[ho,resolve,hc,hca,hct,invoke,builtin,Sem.run_bind,Sem.run_pure,Result.andThen_ok,AyS,Axx,Axv,hrun]
  have fresh:∀(xcells:List Value) (newcap:Nat) (v:Value),Aa w S (flat xs) xcells (fun _=>0)→(∀u∈xcells,u.oneCell'=true)→(∀x∈xs,(cellsOf x).length=j.size)→xs.length+ys.length≤newcap→newcap≤maxLen→
   v=.slice (some ⟨w.heap.size,0,none⟩) (xs.length+ys.length) newcap→
   A3 dfs w0 S0 c0 (aset (amv σ x) o.dst (.own e j.size (xs++ys))) (a.put o.dst v) (w.drew.alloc (.cells (xcells.toArray++cv.toArray++Builtin.zeroCells z2.cells (newcap-(xs.length+ys.length))) e)):=by
   intro xcells newcap v hxc hone hkx hcap hcm hv;have hxl:=hxc.length;have hflx:=C8 hkx;have hz2l:z2.cells.size=j.size:=by have:=congrArg List.length fzz;simp at this;omega
   have hflat:=Fs xs ys;have hxw:Aa w.drew S (flat xs) xcells (fun _=>0):=hxc.keep (fun _ _ _=>rfl) (fun _=>Axu _) (fun _ _=>⟨rfl,rfl⟩);have hyw:Aa w.drew S (flat ys) cv c0':=hcv.keep (fun _ _ _=>rfl) (fun _=>Axu _) (fun _ _=>⟨rfl,rfl⟩);have hrw:Aa w.drew S (amv σ x) a.tmps.toList cr:=hr1.keep (fun _ _ _=>rfl) (fun _=>Axu _) (fun _ _=>⟨rfl,rfl⟩);generalize hcur:(xcells.toArray++cv.toArray++Builtin.zeroCells z2.cells (newcap-(xs.length+ys.length)))=cur;have hcl:cur.toList=xcells++cv++(Builtin.zeroCells z2.cells (newcap-(xs.length+ys.length))).toList:=by rw[←hcur];simp
   have htake:cur.toList.take ((xs++ys).length*j.size)=xcells++cv:=by exact AoE
   have hk:=Stp.alloc (w:=w.drew) (c:=fun _=>0) (S:=S) hz.drew (.cells cur e) ((xs++ys).length*j.size);have hboth:=(Aa.app hxw hyw (c:=c0') (fun b=>oS)).step hk (fun b=>by rw[hz0 b];simp);rw[hv];refine A3.new (w:=w.drew) (s:=(xs++ys).length*j.size) (hrf.amv x) rfl h1 hr.lt hd hz.drew (hs.trans Stp.drew) hrw (c1:=fun _=>0) ?_ (fun b=>by rw[hcc];omega) _;have hlen:xs.length+ys.length=(xs++ys).length:=oS;rw[hlen];refine .own (cap:=newcap) (cur:=cur) (c0:=c0') (c2:=fun _=>0) om hcm (fun x hx=> ?_) (heap_alloc_new _ _) ?_ (by simp [upd]) ?_ hz0 ?_ (.nil Al) (fun x=>rfl)
   ·exact Aif
   ·exact Ao5
   ·exact Qd
   ·exact Aib
  have hlim:xs.length+ys.length≤maxLen:=by unfold maxLen;omega
  by_cases hye:ys=[]
  ·
   subst hye
   have hsame:∃cz,Aa w S [.own e j.size (xs++[])] [a.eval x] cz∧(∀b,cz b≤cx b)∧∃A n cap,a.eval x=.slice A n cap∧n≤cap:=by
    unfold I9 at hx;split at hx
    ·exact Atq
    ·exact Atg
    ·rename_i hxe;exact absurd ⟨_,_,_,hxe⟩ hm
    ·cases hx
   obtain⟨cz,hrz,hcz,A,n,cap,e1,hn⟩:=hsame;have hrun:=R3 (P:=P) (w:=w) t o.type e inf2 g6 f1 A n cap hn B cc;have heY:a.eval y=.slice B 0 cc:=eY;rw[←e1,←heY]at hrun;exact AmY
  ·obtain ⟨ad,hB,hsp,hmem⟩:=hmemy hye;subst hB;have hm0:0<ys.length:=AyW.2 hye;have hcvs:cv.length=ys.length*inf2.size:=by rw[f4];omega
   have nilcase:xs=[]→a.eval x=.slice none 0 0→o.wp P a w (fun a' w'=>∃σ',K σ'∧A3 dfs w0 S0 c0 σ' a' w') Q:=by exact AsS
   unfold I9 at hx;split at hx
   ·exact Am8
   ·rename_i e' k' es hxe;split at hx
    ·rename_i hee;obtain⟨rfl,rfl⟩:=hee;injection hx with hx;subst hx;rw[hxe]at hxr;revert hxr;generalize hev:a.eval x=v;intro hxr
     cases hxr with
     |ownE h=>exact nilcase rfl hev
     |own hn hcap hk hb hsz' hS h1c h0c hoc hnil hcnt=>
      rename_i g cap cur ccc c2;cases hnil with|nil hzz=>
      have hcurl:(cur.toList.take (es.length*j.size)).length=es.length*j.size:=by have:es.length*j.size≤cap*j.size:=Ayl _ hn;simp;omega
      by_cases hroom:es.length+ys.length≤cap
      ·have hfit:es.length*inf2.size+cv.length≤cur.size:=by
        rw[hsz',f4];have:(es.length+ys.length)*j.size≤cap*j.size:=Ayl _ hroom;rw[Ayh]at this;omega
       have hrun:=run_append_room (P:=P) w t o.type e' inf2 g6 f1 g es.length cap cur hb ad ys.length cc cv hcvs hmem honey hroom hfit;rw[←hev,←eY]at hrun;rw[f4]at hrun hfit;generalize hnew:(cur.toList.take (es.length*j.size)++cv++cur.toList.drop (es.length*j.size+cv.length)).toArray=new at hrun;have hnl:new.toList=cur.toList.take (es.length*j.size)++cv++cur.toList.drop (es.length*j.size+cv.length):=by rw[←hnew]
       have hpre:∀o',o'<S g→new[o']? =cur[o']? :=by intro o' ho';rw[hS]at ho';exact Am0
       have hcg:∀x,cx x=(if x=g then 1 else 0):=fun x=>by rw[hcnt,hzz x];omega
       have hle:S g≤(es++ys).length*j.size:=by rw[hS];simp [Ayh]
       have hk1:=Stp.row (S:=S) (c:=cx) (s:=(es++ys).length*j.size) (new:=new) hb (by rw[hcg];simp) hpre hle;have hk2:=Stp.row (S:=S) (c:=c') (s:=(es++ys).length*j.size) (new:=new) hb (by rw[hcc,hcg];simp) hpre hle;have hr3:=hr1.step hk1 (fun b=>by rw[AyV,←hcc];exact h1 b);have hflat:=Fs es ys;have hboth:=(Aa.app h1c hcv (c:=fun b=>ccc b+c0' b) (fun b=>rfl)).step hk1 (fun b=>by rw[h0c b,hz0 b,hcg];split<;>omega)
       have htake:new.toList.take ((es++ys).length*j.size)=cur.toList.take (es.length*j.size)++cv:=by
        have:(cur.toList.take (es.length*j.size)++cv).length=(es++ys).length*j.size:=by simp [Ayh]at hcurl⊢;omega
        rw[hnl,←this,List.take_left]
       refine hwp hrun ⟨_,hK,A3.value (hrf.amv x) rfl h1 hd (hz.row hb hk2) (hs.trans hk2) hr3 (c1:=cx) (y:=.own e' j.size (es++ys)) ?_ (fun b=>by rw[hcc];omega) _⟩;have hlen:es.length+ys.length=(es++ys).length:=oS;rw[hlen];refine .own (cur:=new) (c0:=fun b=>ccc b+c0' b) (c2:=fun _=>0) om hcap (fun x hx=> ?_) (setRow_heap w g cur new e' (0,0) hb) ?_ (by simp [upd]) ?_ (fun b=>by show ccc b+c0' b=0;rw[h0c b,hz0 b]) ?_ (.nil Al) (fun x=>by rw[hcg];simp)
       ·exact Aig
       ·exact qI
       ·exact Qd
       ·exact Aic
      ·have holds:∀jj u,(cur.toList.take (es.length*j.size))[jj]? =some u→w.cell? ((⟨g,0,none⟩:Addr).add jj)=some u:=by
        exact AoC
       have hrun:=run_append_grow (P:=P) w t o.type e' inf2 z2 g6 f1 fz ⟨g,0,none⟩ es.length cap (cur.toList.take (es.length*j.size)) (by rw[f4];exact hcurl) holds ad ys.length cc cv hcvs hmem om om (growslice_fits om (by rw[f5];exact hby));rw[←hev,←eY]at hrun;have hge:=grownCap_ge w (es.length+ys.length) cap e';have hle:=grownCap_le_maxLen w (es.length+ys.length) cap e' hlim;exact Aa2
    ·cases hx
   ·rename_i hxe;exact absurd ⟨_,_,_,hxe⟩ hm
   ·cases hx
 ·exact Ad
end
end Go.Proofs.YtmophjggmekoeaaGreatDoor
