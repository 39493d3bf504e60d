/- Conversions, made rows, calls; all operations in one. -/
import Derived.Lib.SliceRun
import Derived.Test.YtmophjggmekoeaaGreatDoorC5
set_option linter.all false
namespace Go.Proofs.YtmophjggmekoeaaGreatDoor
section
open Go.RowKit
variable [Env]
variable {dfs : List Deferred}
def qT (c:UInt8):AV:=.raw (.int .u8 (c.toNat:Int))
def A5 (l:List UInt8):List AV:=l.map qT
theorem Kt (l:List UInt8) (c:UInt8):A5 l++[.raw (.int .u8 (c.toNat:Int))]=A5 (l++[c]):=by simp [A5,qT]
theorem jP:A5 []=[]:=rfl
theorem Qg (u:Value):cellsOf (ac1 u)=[ac1 u]:=by unfold ac1;split<;>rfl
def Iz (T:Bd) (s d:TI) (x:AV) (K:AV→Prop):Prop:=
 match x with
 |.raw (.int _ n)=>match d.td.ik with
  |some k=>K (.raw (.int k (k.wrap n)))
  |none=>False
 |.raw (.string t)=>d.td.str=true∧K (.raw (.string t))
 |.sl 1 es=>d.td.str=true∧(match s.td.elem with
  |some e=>(match T e with
   |some j=>j.td.ik=some .u8
   |none=>False)
  |none=>False)∧∃l,es=A5 l∧K (.raw (.string ⟨l.toArray⟩))
 |.own _ 1 es=>d.td.str=true∧(match s.td.elem with
  |some e=>(match T e with
   |some j=>j.td.ik=some .u8
   |none=>False)
  |none=>False)∧∃l,es=A5 l∧K (.raw (.string ⟨l.toArray⟩))
 |_=>False
def Hs (e:Nat) (j:TI) (x y:AV) (K:AV→Prop):Prop:=
 match x,y with
 |.raw (.int _ l),.raw (.int _ c)=>0≤l∧l≤c∧c≤9223372036854775807∧(j.bytes:Int)*c≤281474976710656∧(l=0∨(j.size=1∧j.zero.length=1∧Gv j.zero=true))∧K (.own e j.size (List.replicate l.toNat (ac1 (j.zero.headD undef))))
 |_,_=>False
def tR (mx:Bool):AV→AV→(AV→Prop)→Prop
 |.raw (.int k a),.raw (.int k' b),K=>k=k'∧K (.raw (.int k (if mx then(if b>a then b else a)else(if b<a then b else a))))
 |_,_,_=>False
section
variable {P : Program} {T : Bd} {w : World}
variable {w0 : World} {S0 c0 : Nat → Nat} {σ : List AV} {a : Act} {K : List AV → Prop} {Q : Exit → Act → World → Prop} {o : Oper}
theorem Vm {S:Nat→Nat}:∀(l:List UInt8) {vs:List Value} {c:Nat→Nat},Aa w S (flat (A5 l)) vs c→vs=l.map fun c=>Value.int .u8 (c.toNat:Int)
 |[],vs,c,h=>h.zero.1
 |x::l,vs,c,h=>by simp only[A5,Axx,flat,qT,cellsOf,Ax4,Ax8]at h;obtain⟨v,us,c1,c2,rfl,h1,h2,_⟩:=h.uncons;rw[(Ay h1).1,Vm l h2];rfl
theorem cA {s d:Nat} {x:Operand} {i j:TI} (hT:Am P T) (ho:o.op=.convert s d x) (hi:Cx P s i) (hj:Cx P d j) (hst:A3 dfs w0 S0 c0 σ a w)
 (h:Iz T i j (aev σ x) fun z=>K (aset σ o.dst z)):o.wp P a w (fun a' w'=>∃σ',K σ'∧A3 dfs w0 S0 c0 σ' a' w') Q:=by
 have hst':=hst;obtain⟨_,S,c,hr,_⟩:=hst;obtain⟨cx,hrx⟩:=Ar hr x;obtain⟨inf,z,ds,g1,gz,gzz,g4,_,g6,g7⟩:=hi.get;obtain⟨inf2,z2,dd,f1,fz,fzz,f4,f5,f6,f7⟩:=hj.get
 have key:∀(k:Nat) (es:List AV) (l:List UInt8),k=1→(∃cx,Aa w S [.sl k es] [a.eval x] cx)→j.td.str=true→(match i.td.elem with
  |some e=>(match T e with
   |some j=>j.td.ik=some .u8
   |none=>False)
  |none=>False)→es=A5 l→K (aset σ o.dst (.raw (.string ⟨l.toArray⟩)))→o.wp P a w (fun a' w'=>∃σ',K σ'∧A3 dfs w0 S0 c0 σ' a' w') Q:=by
  intro k es l hk ⟨cx,hrx⟩ hstr hel hes hK;subst hk;subst hes;have hdd:dd=.string:=Pb (P:=P) (by rw[f7];exact hstr);subst hdd;split at hel
  ·rename_i e he;split at hel
   ·rename_i je hje;have hds:ds=.slice e:=D3 (P:=P) (by rw[g7];exact he);subst hds;obtain⟨_,_,de,_,_,_,_,_,e6,e7⟩:=(hT e je hje).get;have hde:de=.int .u8:=AnS (P:=P) (by rw[e7];exact hel);subst hde;obtain⟨A,cap,e1,hn,hcap,hks,hmem⟩:=Jt hrx
    have hrun:(convert s d (a.eval x)).run P w=.ok (.string ⟨l.toArray⟩) w:=by
     rw[e1];by_cases hne:l=[]
     ·subst hne
      cases A with
      |none=>rw[show(A5 []).length=0 from rfl,run_convert_bytes_nil w s e g6 e6 0 cap d f6];rfl
      |some ad=>exact run_convert_bytes_back w s d e ad cap [] g6 e6 f6 (fun j hj=>by simp at hj)
     ·obtain ⟨ad,cv,cc,rfl,hsp,h1,hz0,hcell,_⟩:=hmem (by simpa[A5]using hne);have hcv:=Vm l h1;have:=run_convert_bytes_back w s d e ad cap l g6 e6 f6 (fun j hj=>by obtain⟨bb,oo,sp⟩:=ad;simp at hsp;subst hsp;rw[Hr];refine(hcell j _ ?_).1;rw[hcv];simp [hj]);simpa[A5]using this
    refine Bi hst' rfl (v:=.string ⟨l.toArray⟩) ?_ (fun S' c' hr'=>⟨_,C2 rfl Al,Al⟩) hK;exact AnG
   ·exact hel.elim
  ·exact hel.elim
 unfold Iz at h;split at h
 ·rename_i k n hx;split at h
  ·rename_i k' hk;have hdd:dd=.int k':=AnS (P:=P) (by rw[f7];exact hk);subst hdd;rw[hx]at hrx;have e1:=(Ay hrx).1;refine Bi hst' rfl (v:=.int k' (k'.wrap n)) ?_ (fun S' c' hr'=>⟨_,C2 rfl Al,Al⟩) h;unfold execOp;have:(convert s d (.int k n)).run P w=.ok (.int k' (k'.wrap n)) w:=by cases ds<;>simp [convert,run_underlying g6,run_underlying f6,Conv.intToInt]
   simp only[ho,e1,Sem.run_bind,this,Result.andThen_ok,Sem.run_pure]
  ·exact Ad
 ·rename_i t hx;obtain⟨hstr,hK⟩:=h;have hdd:dd=.string:=Pb (P:=P) (by rw[f7];exact hstr);subst hdd;rw[hx]at hrx;have e1:=(Ay hrx).1;refine Bi hst' rfl (v:=.string t) ?_ (fun S' c' hr'=>⟨_,C2 rfl Al,Al⟩) hK;unfold execOp;have:(convert s d (.string t)).run P w=.ok (.string t) w:=by cases ds<;>simp [convert,run_underlying g6,run_underlying f6]
  simp only[ho,e1,Sem.run_bind,this,Result.andThen_ok,Sem.run_pure]
 ·rename_i es hx;obtain⟨hstr,hel,l,hes,hK⟩:=h;rw[hx]at hrx;exact key 1 es l rfl ⟨_,hrx⟩ hstr hel hes hK
 ·rename_i e' es hx;obtain⟨hstr,hel,l,hes,hK⟩:=h;rw[hx]at hrx;exact key 1 es l rfl ⟨_,F8 hrx⟩ hstr hel hes hK
 ·exact Ad
theorem Pl {t e:Nat} {x y:Operand} {i j:TI} (ho:o.op=.makeSlice t x y) (hi:Cx P t i) (he:i.td.elem=some e) (hj:Cx P e j) (hst:A3 dfs w0 S0 c0 σ a w)
 (h:Hs e j (aev σ x) (aev σ y) fun z=>K (aset σ o.dst z)):o.wp P a w (fun a' w'=>∃σ',K σ'∧A3 dfs w0 S0 c0 σ' a' w') Q:=by
 obtain⟨hrf,S,c,hr,h1,hd,hz,hs⟩:=hst;obtain⟨cx,hrx⟩:=Ar hr x;obtain⟨cy,hry⟩:=Ar hr y;obtain⟨inf,z,ds,g1,gz,gzz,g4,_,g6,g7⟩:=hi.get;obtain⟨inf2,z2,dd,f1,fz,fzz,f4,f5,f6,f7⟩:=hj.get;have hds:ds=.slice e:=D3 (P:=P) (by rw[g7];exact he);subst hds;unfold Hs at h;split at h
 ·rename_i kl l kc cc hx hy;rw[hx]at hrx;rw[hy]at hry;have e1:=(Ay hrx).1;have e2:=(Ay hry).1;obtain⟨h0,hlc,hmax,hby,hsz,hK⟩:=h;have hrun:=run_make (P:=P) (w:=w) t e inf2 z2 g6 f1 fz kl kc l cc h0 hlc (by rw[f5];exact hby) hmax;rw[←e1,←e2,f4]at hrun;refine Ao (w':=w.alloc (.cells (madeCells z2.cells (cc.toNat *j.size)) e)) (v:=.slice (some ⟨w.heap.size,0,none⟩) l.toNat cc.toNat) ?_ ⟨_,hK,A3.new (s:=l.toNat *j.size) hrf rfl h1 hr.lt hd hz hs hr (c1:=fun _=>0) ?_ (fun b=>om) _⟩
  ·exact AnG
  ·have hcm:cc.toNat≤maxLen:=by unfold maxLen;omega
   rcases hsz with rfl|⟨hs1,hzl,hone⟩
   ·refine .own (cur:=madeCells z2.cells (cc.toNat *j.size)) (c0:=fun _=>0) (c2:=fun _=>0) (AxM _) hcm oS (heap_alloc_new w _) (size_madeCells _ _) (by simp [upd]) ?_ Al oS (.nil Al) (fun x=>rfl);simp [flat];exact .nil Al
   ·obtain ⟨u,hu⟩:∃u,j.zero=[u]:=by
     match hz:j.zero,hzl with
     |[u],_=>exact⟨u,rfl⟩
    have huo:u.oneCell'=true:=by rw[hu]at hone;simpa[Gv]using hone
    have hzc:z2.cells= #[u]:=by apply Array.ext';rw[fzz,hu]
    have hcells:(madeCells z2.cells (cc.toNat *j.size)).toList=List.replicate cc.toNat u:=by
     rw[hs1,Ay3,hzc];apply Ayw;intro q;by_cases hq:q<cc.toNat
     ·simp [madeCells,hq,Nat.mod_one]
     ·simp [madeCells,hq]
    have hrow:∀n,Aa (w.alloc (.cells (madeCells z2.cells (cc.toNat *j.size)) e)) (upd S w.heap.size (l.toNat *j.size)) (flat (List.replicate n (ac1 u))) (List.replicate n u) (fun _=>0):=by
     intro n
     induction n with
     |zero=>exact .nil Al
     |succ n ih=>have:cellsOf (ac1 u)=[ac1 u]:=Qg u;simp only[AxT,flat,this,Ax4,Ax8];exact Aa.cons (Xf u) ih (fun b=>oS)
    rw[hu];simp only[List.headD_cons];have hlen:(List.replicate l.toNat (ac1 u)).length=l.toNat:=oS;have hr2:=hrow l.toNat;have hkk:∀x∈List.replicate l.toNat (ac1 u),(cellsOf x).length=j.size:=by intro x hx;rw[AyF hx,hs1,Qg];rfl
    have htk:(madeCells z2.cells (cc.toNat *j.size)).toList.take (l.toNat *j.size)=List.replicate l.toNat u:=by rw[hcells,hs1,List.take_replicate];congr 1;omega
    revert hlen hr2 hkk;generalize List.replicate l.toNat (ac1 u)=es;intro hlen hr2 hkk;rw[←hlen];rw[←hlen]at hr2 htk;refine .own (cur:=madeCells z2.cells (cc.toNat *j.size)) (c0:=fun _=>0) (c2:=fun _=>0) om hcm hkk (heap_alloc_new w _) (size_madeCells _ _) (by simp [upd]) (by rw[htk];exact hr2) Al ?_ (.nil Al) (fun x=>rfl);rw[htk];intro v hv;rw[AyF hv];exact huo
 ·exact Ad
theorem amax_sound {mx:Bool} {x y:Operand} {c:Call} (ho:o.op=.call c) (hc:c.callee=.builtin (if mx then .max else .min)) (hca:c.args= #[x,y]) (hst:A3 dfs w0 S0 c0 σ a w)
 (h:tR mx (aev σ x) (aev σ y) fun z=>K (aset σ o.dst z)):o.wp P a w (fun a' w'=>∃σ',K σ'∧A3 dfs w0 S0 c0 σ' a' w') Q:=by
 have hst':=hst;obtain⟨_,S,cc,hr,_⟩:=hst;obtain⟨cx,hrx⟩:=Ar hr x;obtain⟨cy,hry⟩:=Ar hr y;unfold tR at h;split at h
 ·rename_i Kz k x' k' y' hx hy;rw[hx]at hrx;rw[hy]at hry;have e1:=(Ay hrx).1;have e2:=(Ay hry).1;obtain⟨rfl,hK⟩:=h;refine Bi hst' rfl (v:=.int k (if mx then(if y'>x' then y' else x')else(if y'<x' then y' else x'))) ?_ (fun S' c' hr'=>⟨_,C2 rfl Al,Al⟩) hK;unfold execOp;cases mx
  ·simp [ho,resolve,hc,hca,invoke,builtin,Builtin.min_,Builtin.min2,e1,e2]
  ·simp [ho,resolve,hc,hca,invoke,builtin,Builtin.max_,Builtin.max2,e1,e2]
 ·exact Ad
theorem Stp.frame {S S' c c1 c2 c':Nat→Nat} {w':World} (h:Stp w S c1 w' S' c') (hc:∀b,c b=c1 b+c2 b):Stp w S c w' S' (fun b=>c' b+c2 b):=
 ⟨h.os,h.tape,h.output,h.size,fun b hb h0=>h.keep b hb (by have:=hc b;omega),h.cell,h.le,fun b hb=>by have:=h.own b hb;have:=hc b;show c' b+c2 b≤c b;omega⟩
theorem Es {f:FuncId} {fn:Func} {c:Code} (hf:P.funcs[f]? =some fn) (hname:(fn.name== "runtime.NumGoroutine")=false) (hb:fn.body=some c) (args:Array Value) (w:World):
 (callFunc f args).run P w=.ok (.enter f args) w:=by
 have h1:fn.name≠ "runtime.NumGoroutine" :=by simpa using hname
 simp [callFunc,hf,h1,hb]
def Dr (P:Program) (σ:List AV) (f:Operand) (args:List Operand) (d:Option Nat) (K:List AV→Prop):Prop:=
 match aev σ f with
 |.raw (.func (.func g) first caps)=>first.toList=[]∧Ab P g ((agrab σ args).1++caps.toList.map ac1) fun r=>K (aset (agrab σ args).2 d r)
 |.clo g cs=>Ab P g ((agrab σ args).1++cs) fun r=>K (aset (agrab σ args).2 d r)
 |_=>False
theorem cB {f:Operand} {c:Call} (ho:o.op=.call c) (hc:c.callee=.value f) (hst:A3 dfs w0 S0 c0 σ a w) (h:Dr P σ f c.args.toList o.dst K):
 o.wp P a w (fun a' w'=>∃σ',K σ'∧A3 dfs w0 S0 c0 σ' a' w') Q:=by
 unfold Dr at h;split at h
 ·rename_i g first caps hf
  obtain⟨hfirst,⟨fn,code,hfn,hbody,hname⟩,_,hcall⟩:=h;obtain⟨hrf,S,cc,hr,h1,hd,hz,hs⟩:=hst;obtain⟨cx,hrx⟩:=Ar hr f;rw[hf]at hrx;have e1:=(Ay hrx).1;obtain⟨c1,c2,hv,hr2,hcc⟩:=Nm c.args.toList hr;have hvs:=Aa.app hv (Kq (w:=w) (S:=S) caps.toList) (c:=c1) (fun b=>oS);have hrun:=Es (P:=P) hfn hname hbody ((c.args.map a.eval)++caps) w;have hfe:first= #[]:=by apply Array.ext';simpa using hfirst
  subst hfe;have hargs:((c.args.toList.map a.eval)++caps.toList).toArray=c.args.map a.eval++caps:=by apply Array.ext';simp
  have:=hcall w S _ c1 hz hvs (fun b=>by have:=h1 b;have:=hcc b;omega);rw[hargs]at this;have hexec:(execOp a.eval o).run P w=.ok (.enter g (c.args.map a.eval++caps)) w:=by exact qD
  exact AsX
 ·rename_i g cs hf;obtain⟨⟨fn,code,hfn,hbody,hname⟩,_,hcall⟩:=h;obtain⟨hrf,S,cc,hr,h1,hd,hz,hs⟩:=hst;obtain⟨cx,hrx⟩:=Ar hr f;rw[hf]at hrx
  obtain⟨us,e0,e1,hcs,hz0⟩:∃(us:List Value) (e0:Nat→Nat),a.eval f=.func (.func g) #[] us.toArray∧Aa w S cs us e0∧Zc e0:=by
   generalize a.eval f=v at hrx
   cases hrx with
   |clo h1 h0 h=>exact⟨_,_,rfl,h1,h0⟩
  obtain⟨c1,c2,hv,hr2,hcc⟩:=Nm c.args.toList hr;have hvs:=Aa.app hv hcs (c:=c1) (fun b=>by rw[hz0 b];rfl);have hrun:=Es (P:=P) hfn hname hbody ((c.args.map a.eval)++us.toArray) w;have hargs:((c.args.toList.map a.eval)++us).toArray=c.args.map a.eval++us.toArray:=by apply Array.ext';simp
  have:=hcall w S _ c1 hz hvs (fun b=>by have:=h1 b;have:=hcc b;omega);rw[hargs]at this;have hexec:(execOp a.eval o).run P w=.ok (.enter g (c.args.map a.eval++us.toArray)) w:=by exact qD
  exact AsX
 ·exact Ad
def Fg (P:Program) (T:Bd) (o:Oper) (σ:List AV) (K:List AV→Prop):Prop:=
 match o.op with
 |.move x=>K (aset (amv σ x) o.dst (aev σ x))
 |.assign x=>K (aset (amv σ x) o.dst (aev σ x))
 |.pick c x y=>
  match aev σ c with
  |.raw (.bool e)=>C1 e (K (aset (amv σ x) o.dst (aev σ x))) (K (aset (amv σ y) o.dst (aev σ y)))
  |_=>False
 |.alloc t=>match T t with
  |some i=>Pj σ t i o.dst K
  |none=>False
 |.box t x=>tP σ t x o.dst K
 |.build t ps=>match T t with
  |some i=>bok T i=true∧((Il T i).all fun f=>f.2.1.isSome)=true∧Gv i.zero=true∧
   Fp (Il T i) ((ps.toList.map (·.1)).zip (agrab σ (ps.toList.map (·.2))).1) (i.zero.map ac1) fun cs=>K (aset (agrab σ (ps.toList.map (·.2))).2 o.dst (.agg cs))
  |none=>False
 |.buildSlice t n ps=>match T t with
  |some i=>match i.td.elem with
   |some e=>match T e with
    |some j=>Co σ e j n ps.toList o.dst K
    |none=>False
   |none=>False
  |none=>False
 |.load t x=>match T t with
  |some i=>G6 σ i x o.dst K
  |none=>False
 |.store t x y=>match T t with
  |some i=>Gx σ i x y o.dst K
  |none=>False
 |.binOp op t x y _=>I7 T op t (aev σ x) (aev σ y) fun z=>K (aset σ o.dst z)
 |.unOp op _ x=>aun op (aev σ x) fun z=>K (aset σ o.dst z)
 |.nilCheck x=>anc (aev σ x) fun z=>K (aset σ o.dst z)
 |.convert s d x=>match T s,T d with
  |some i,some j=>Iz T i j (aev σ x) fun z=>K (aset σ o.dst z)
  |_,_=>False
 |.makeFunc (.func f) first caps=>match first.toList,caps.toList with
  |[],[]=>K (aset σ o.dst (.raw (.func (.func f) #[] #[])))
  |[],x::xs=>((x::xs).map (aev σ)).all zc1=true∧K (aset σ o.dst (.clo f ((x::xs).map (aev σ))))
  |_,_=>False
 |.makeSlice t x y=>match T t with
  |some i=>match i.td.elem with
   |some e=>match T e with
    |some j=>Hs e j (aev σ x) (aev σ y) fun z=>K (aset σ o.dst z)
    |none=>False
   |none=>False
  |none=>False
 |.slice t x lo hi none=>match T t with
  |some i=>Hp T i (aev σ x) (lo.map (aev σ)) (hi.map (aev σ)) fun z=>K (aset σ o.dst z)
  |none=>False
 |.fieldAddr t x f=>match T t with
  |some i=>Bl σ i x f o.dst K
  |none=>False
 |.field t x f=>match T t with
  |some i=>Ik σ i x f o.dst K
  |none=>False
 |.indexAddr t x y=>match T t with
  |some i=>Bt T σ i x y o.dst K
  |none=>False
 |.index t x y=>match T t with
  |some i=>Kr T i (aev σ x) (aev σ y) fun z=>K (aset σ o.dst z)
  |none=>False
 |.extract x n=>Ej σ x n o.dst K
 |.call c=>
  match c.callee with
  |.value f=>Dr P σ f c.args.toList o.dst K
  |.builtin .len=>match c.args.toList,c.argTypes.toList with
   |[x],[t]=>match T t with
    |some i=>Xi i (aev σ x) fun z=>K (aset σ o.dst z)
    |none=>False
   |_,_=>False
  |.builtin .append=>match c.args.toList,c.argTypes.toList with
   |[x,y],[t,t']=>t=t'∧match T t with
    |some i=>match i.td.elem with
     |some e=>match T e with
      |some j=>D4 σ e j x y o.dst K
      |none=>False
     |none=>False
    |none=>False
   |_,_=>False
  |.builtin .min=>match c.args.toList with
   |[x,y]=>tR false (aev σ x) (aev σ y) fun z=>K (aset σ o.dst z)
   |_=>False
  |.builtin .max=>match c.args.toList with
   |[x,y]=>tR true (aev σ x) (aev σ y) fun z=>K (aset σ o.dst z)
   |_=>False
  |_=>False
 |_=>False
end
end
section
open Go.RowKit
variable [Env]
variable {dfs : List Deferred}
section
variable {P : Program} {T : Bd} {w : World}
variable {w0 : World} {S0 c0 : Nat → Nat} {σ : List AV} {a : Act} {K : List AV → Prop} {Q : Exit → Act → World → Prop} {o : Oper}
theorem move_sound {x:Operand} (hrun:∀w,(execOp a.eval o).run P w=.ok (.value (a.eval x)) w) (hst:A3 dfs w0 S0 c0 σ a w) (h:K (aset (amv σ x) o.dst (aev σ x))):
 o.wp P a w (fun a' w'=>∃σ',K σ'∧A3 dfs w0 S0 c0 σ' a' w') Q:=by
 obtain⟨hrf,S,c,hr,h1,hd,hz,hs⟩:=hst;obtain⟨c1,c2,hx,hr2,hc⟩:=I6 hr x;exact Ao (hrun w) ⟨_,h,A3.value (hrf.amv x) (AaU σ x) h1 hd hz hs hr2 hx (fun b=>by rw[hc];omega) _⟩
theorem Vn:∀(fs:List Field),((fs.map fun f=>(f.offset,(P.info? f.type).map (·.size),(P.underlying f.type).map O9)).all fun f=>f.2.1.isSome)=true→
 ∃places,fs.mapM (fun f=>(P.info? f.type).map fun i=>(f.offset,i.size))=some places∧
  ∀(i' off size:Nat) (ag:Option Bool),(fs.map fun f=>(f.offset,(P.info? f.type).map (·.size),(P.underlying f.type).map O9))[i']? =some (off,some size,ag)→places[i']? =some (off,size)
 |[],_=>⟨[],rfl,oS⟩
 |f::fs,h=>by
  simp only[Axx,Azb,Ax3]at h;obtain⟨h1,h2⟩:=h;obtain⟨pl,hp,hi⟩:=Vn fs h2
  cases hq:P.info? f.type with
  |none=>rw[hq]at h1;simp at h1
  |some inf=>
   refine⟨(f.offset,inf.size)::pl,by simp [List.mapM_cons,hq,hp],?_⟩;intro i' off size ag hget
   cases i' with
   |zero=>simp [hq]at hget;simp [hget.1,hget.2.1]
   |succ n=>simp only[Axx,List.getElem?_cons_succ]at hget⊢;exact hi n off size ag hget
theorem cC (hT:Am P T) {t:Nat} {ps:Array (Nat×Operand)} {i:TI} (ho:o.op=.build t ps) (hi:Cx P t i) (hst:A3 dfs w0 S0 c0 σ a w) (hs:bok T i=true) (hsz:((Il T i).all fun f=>f.2.1.isSome)=true) (hone:Gv i.zero=true)
 (h:Fp (Il T i) ((ps.toList.map (·.1)).zip (agrab σ (ps.toList.map (·.2))).1) (i.zero.map ac1) fun cs=>K (aset (agrab σ (ps.toList.map (·.2))).2 o.dst (.agg cs))):
 o.wp P a w (fun a' w'=>∃σ',K σ'∧A3 dfs w0 S0 c0 σ' a' w') Q:=by
 obtain⟨inf,z,d,g1,gz,gzz,g4,_,g6,g7⟩:=hi.get;obtain⟨hrf,S,c,hr,h1,hd,hz,hstp⟩:=hst;obtain⟨c1,c2,hx,hr2,hc⟩:=Nm (ps.toList.map (·.2)) hr;have hxl:=hx.length;have hparts:(ps.map fun(x:Nat×Operand)=>(x.1,a.eval x.2)).toList=(ps.toList.map (·.1)).zip ((ps.toList.map (·.2)).map a.eval):=by simp only[AyU,Ay4];exact AnK
 have main:∀(place:Nat→Option (Nat×Nat)),(∀(i' off size:Nat) (ag:Option Bool),(Il T i)[i']? =some (off,some size,ag)→place i'=some (off,size))→
  (∀cur',Instr.fill place z.cells ((ps.toList.map (·.1)).zip ((ps.toList.map (·.2)).map a.eval))=some cur'→P.built t (ps.map fun(x:Nat×Operand)=>(x.1,a.eval x.2)).toList=some cur')→
  o.wp P a w (fun a' w'=>∃σ',K σ'∧A3 dfs w0 S0 c0 σ' a' w') Q:=by
  intro place hpl hbuilt;obtain⟨cs',cur',c',hf,hK,hrr,hon,hcc,_⟩:=Vl (place:=place) hpl (ps.toList.map (·.1)) _ _ _ z.cells c1 (fun _=>0) _ (by simp at hxl⊢;omega) h hx (by rw[gzz];exact Kq i.zero) (by rw[gzz];exact Mq hone);refine Ao (w':=w) (v:=.agg cur') ?_ ⟨_,hK,A3.value (c1:=c') (y:=.agg cs') (hrf.agrab _) rfl h1 hd hz hstp hr2 ?_ (fun b=>by rw[hc];have:=hcc b;omega) _⟩
  ·have hb:=hbuilt cur' hf;unfold execOp;simp only[ho,Sem.run_bind];have:=run_build (P:=P) w t (ps.map fun(x:Nat×Operand)=>(x.1,a.eval x.2)) cur' hb;simp [this]
  ·have:=Aa.agg (c:=c') hrr hon (.nil Al) (fun b=>oS);exact G5
 cases hst':i.td.struct with
 |true=>
  have hd':∃fs,d=.struct fs:=by rw[←g7]at hst';cases d<;>simp [Fe]at hst';exact⟨_,rfl⟩
  obtain⟨fs,rfl⟩:=hd';have hfl:Il T i=fs.toList.map fun f=>(f.offset,(P.info? f.type).map (·.size),(P.underlying f.type).map O9):=by rw[Il,hst',if_pos rfl,←g7];rfl
  obtain⟨places,hmp,hpl⟩:=Vn (P:=P) fs.toList (by rw[←hfl];exact hsz);rw[←hfl]at hpl;refine main (places.toArray[·]?) (by simpa using hpl) fun cur' hf=> ?_;unfold Program.built;simp only[g1,g6,gz,hmp,hparts];exact hf
 |false=>
  rw[bok,hst',Aza]at hs
  cases harr:i.td.arr with
  |none=>rw[harr]at hs;cases hs
  |some ne=>
   obtain⟨n,e⟩:=ne;have hd':d=.array n e:=by rw[←g7]at harr;cases d<;>simp [Fe]at harr;rw[harr.1,harr.2]
   subst hd'
   cases hj:T e with
   |none=>rw[harr]at hs;simp [hj]at hs
   |some j=>
    obtain⟨inf2,z2,d2,k1,_,_,k4,_,_,_⟩:=(hT e j hj).get;refine main (fun k=>some (k*inf2.size,inf2.size)) (fun i' off size ag hg=> ?_) fun cur' hf=> ?_
    ·have hb:Il T i=bP j.size j.td.agg 0 n:=by simp [Il,hst',harr,hj]
     rw[hb]at hg;have:=bQ j.size j.td.agg n 0 i' _ hg;simp at this;simp only[k4,this.1,this.2.1]
    ·unfold Program.built;simp only[g1,g6,gz,k1,hparts];exact hf
theorem R4 {t:Nat} (h:P.underlying t=some .bool) (p q:Bool):(Op.equal t (.bool p) (.bool q)).run P w=.ok (p==q) w:=by have h1:Op.equal t (.bool p) (.bool q)=Op.equalIn (9999+1) t (.bool p) (.bool q):=rfl;rw[h1];unfold Op.equalIn;simp [run_underlying h]
def AaW:Value→Value→Nat→Option Bool
 |.int k a,.int k' b,0=>if k=k' then some (a==b)else none
 |.string s,.string t,1=>some (s==t)
 |.bool a,.bool b,2=>some (a==b)
 |_,_,_=>none
theorem Aim {t:Nat} {d:TypeDesc} {u v:Value} {k:Nat} {b:Bool} (n:Nat) (h:P.underlying t=some d) (hk:eqk d=some k) (hv:AaW u v k=some b):(Op.equalIn (n+1) t u v).run P w=.ok b w:=by unfold Op.equalIn;cases d<;>simp only[eqk,reduceCtorEq,Option.some.injEq]at hk<;>subst hk<;>unfold AaW at hv<;>split at hv<;>simp_all [run_underlying h]
def jQ (xs ys:Array Value):List (Nat×Nat)→Option Bool
 |[]=>some true
 |(o,k)::r=>match xs[o]?,ys[o]? with
  |some u,some v=>(match AaW u v k,jQ xs ys r with
   |some b,some c=>some (b&&c)
   |_,_=>none)
  |_,_=>none
theorem Vo {t:Nat} {d:TypeDesc} {k o:Nat} {xs:Array Value} {u:Value} (h:P.underlying t=some d) (hk:eqk d=some k) (hx:xs[o]? =some u):(part t xs o).run P w=.ok u w:=by unfold part isAgg;cases d<;>simp only[eqk,reduceCtorEq]at hk<;>simp [run_underlying h,Sem.run_bind,hx]
theorem cD (n:Nat) (xs ys:Array Value):∀(l:List Field) (q:List (Nat×Nat)) (b:Bool),jJ P l=some q→jQ xs ys q=some b→
 Sem.run P (forIn l ((none,()):Option Bool×Unit) fun f __s=>
         if f.name= "_" then pure (ForInStep.yield (none,()))
         else do
          let __do_lift←part f.type xs f.offset;let __do_lift_1←part f.type ys f.offset;let __do_lift←Op.equalIn (n+1) f.type __do_lift __do_lift_1
          if __do_lift=false then pure (ForInStep.done (some false,()))else pure (ForInStep.yield (none,()))) w=.ok (if b then(none,())else(some false,())) w
 |[],q,b,h1,h2=>by simp only[jJ,Option.some.injEq]at h1;subst h1;simp only[jQ,Option.some.injEq]at h2;subst h2;simp
 |f::r,q,b,h1,h2=>by
  simp only[jJ]at h1;split at h1
  ·cases h1
  ·rename_i hn;split at h1
   ·rename_i k l hk hl;injection h1 with h1;subst h1;simp only[jQ]at h2;split at h2
    ·rename_i u v hu hv;split at h2
     ·rename_i b1 c1 e1 e2;injection h2 with h2;subst h2
      cases hd:P.underlying f.type with
      |none=>rw[hd]at hk;cases hk
      |some d=>
       rw[hd]at hk;have hk':eqk d=some k:=hk;rw[List.forIn_cons];simp only[hn,if_false,Sem.run_bind,Vo hd hk' hu,Vo hd hk' hv,Aim n hd hk' e1,Result.andThen_ok]
       cases b1 with
       |false=>simp
       |true=>simp only[Bool.true_eq_false,if_false,Sem.run_pure,Result.andThen_ok,Bool.true_and];exact cD n xs ys r l c1 hl e2
     ·cases h2
    ·cases h2
   ·cases h1
theorem Ain {t:Nat} {fs:Array Field} {xs ys:Array Value} (n:Nat) (h:P.underlying t=some (.struct fs)) (hs:P.stoodInHeld t=false) {q:List (Nat×Nat)} {b:Bool} (h1:jJ P fs.toList=some q) (h2:jQ xs ys q=some b):(Op.equalIn (n+2) t (.agg xs) (.agg ys)).run P w=.ok b w:=by unfold Op.equalIn;simp only[Sem.run_bind,run_underlying h,Result.andThen_ok];simp [hs,Sem.run_bind];rw[←Array.forIn_toList];rw[cD n xs ys fs.toList q b h1 h2];cases b<;>simp
theorem Hi:∀{xs:List AV} {vs:List Value} {c:Nat→Nat} {S:Nat→Nat} {o:Nat} {u:Value},Aa w S xs vs c→xs[o]? =some (.raw u)→vs[o]? =some u:=by intro xs vs c S o u h;induction h generalizing o<;>intro ho<;>cases o<;>simp_all
theorem AaX {xs ys:List AV} {vs us:List Value} {c d:Nat→Nat} {S:Nat→Nat} (hx:Aa w S xs vs c) (hy:Aa w S ys us d) {o k:Nat} {b:Bool} (h:bO (xs.getD o .any) (ys.getD o .any) k=some b):
 ∃u v,vs[o]? =some u∧us[o]? =some v∧AaW u v k=some b:=by
 have hg:∀{l:List AV} {u:Value},l.getD o .any=.raw u→l[o]? =some (.raw u):=by
  intro l u hl;rw[Axy]at hl
  cases he:l[o]? with
  |none=>rw[he]at hl;cases hl
  |some x=>rw[he]at hl;simp at hl;rw[hl]
 generalize e1:xs.getD o .any=x at h;generalize e2:ys.getD o .any=y at h;unfold bO at h;split at h
 ·exact ⟨_,_,Hi hx (hg e1),Hi hy (hg e2),h⟩
 ·refine ⟨_,_,Hi hx (hg e1),Hi hy (hg e2),?_⟩;rw[←h];rename_i s1 t1
  have hb:(s1==t1)=(s1.data.toList==t1.data.toList):=by
   have:(s1==t1)=(s1.data==t1.data):=by
    first
     |rfl
     |(cases s1;cases t1;rfl)
     |(cases s1;cases t1;simp [BEq.beq])
   rw[this,Bool.eq_iff_iff];simp
  simp only[AaW,hb]
 ·exact ⟨_,_,Hi hx (hg e1),Hi hy (hg e2),h⟩
 ·cases h
theorem cE {xs ys:List AV} {vs us:List Value} {c d:Nat→Nat} {S:Nat→Nat} (hx:Aa w S xs vs c) (hy:Aa w S ys us d):∀(q:List (Nat×Nat)) (b:Bool),Pd xs ys q=some b→jQ vs.toArray us.toArray q=some b
 |[],b,h=>h
 |(o,k)::r,b,h=>by
  simp only[Pd]at h;unfold Aii at h;split at h
  ·rename_i b1 c1 e1 e2;obtain⟨u,v,hu,hv,he⟩:=AaX hx hy e1;simp only[jQ,List.getElem?_toArray,hu,hv,he,cE hx hy r c1 e2];exact h
  ·cases h
theorem qU {i:Option TI} {xs ys:List AV} {K:AV→Prop} {neg:Bool} (h:jL i xs ys K neg):∃j q b,i=some j∧j.eqs=some q∧Pd xs ys q=some b∧K (.raw (.bool (b != neg))):=by
 unfold jL at h;split at h
 ·unfold tO at h;split at h
  ·unfold jK at h;split at h
   ·exact ⟨_,_,_,rfl,by assumption,by assumption,h⟩
   ·exact Ad
  ·exact Ad
 ·exact Ad
theorem cF {x:List AV} {v:Value} {c:Nat→Nat} {S:Nat→Nat} (h:Aa w S [.agg x] [v] c):∃vs c',v=.agg vs.toArray∧Aa w S x vs c':=by cases h with|agg h1 ho h hc=>exact⟨_,_,rfl,h1⟩
theorem Vp (hT:Am P T) {t:Nat} {j:TI} {q:List (Nat×Nat)} {b:Bool} (hj:T t=some j) (hq:j.eqs=some q) {xs ys:List AV} {vs us:List Value} {c d:Nat→Nat} {S:Nat→Nat} (hx:Aa w S xs vs c) (hy:Aa w S ys us d) (h:Pd xs ys q=some b):
 (Op.equal t (.agg vs.toArray) (.agg us.toArray)).run P w=.ok b w∧∀(op:BinOp) (x y:Operand),(eqGuard op t x y (.agg vs.toArray) (.agg us.toArray)).run P w=.ok () w:=by
 have hk:=(hT t j hj).eqok;rw[hq]at hk;simp only[AoI,Ax3,AyR]at hk;obtain⟨⟨k1,k2⟩,k3⟩:=hk;split at k3
 ·rename_i fs hu;have k3':jJ P fs.toList=some q:=by simpa using k3
  refine⟨Ain 9998 hu k1 k3' (cE hx hy q b h),fun op x y=> ?_⟩;unfold eqGuard;split<;>simp [k2,Sem.run_bind]
 ·cases k3
theorem Vq (hT:Am P T) {op:BinOp} {t t':Nat} {x y:Operand} (ho:o.op=.binOp op t x y t') (hst:A3 dfs w0 S0 c0 σ a w) (h:I7 T op t (aev σ x) (aev σ y) fun z=>K (aset σ o.dst z)):
 o.wp P a w (fun a' w'=>∃σ',K σ'∧A3 dfs w0 S0 c0 σ' a' w') Q:=by
 obtain⟨hrf,S,c,hr,h1,hd,hz,hs⟩:=hst;obtain⟨cx,hrx⟩:=Ar hr x;obtain⟨cy,hry⟩:=Ar hr y;unfold I7 at h;split at h
 ·rename_i p q hp hq;rw[hp]at hrx;rw[hq]at hry;have e1:=(Ay hrx).1;have e2:=(Ay hry).1
  have hbt:(T t).map (·.td.bl)=some true→P.underlying t=some .bool:=by
   intro h
   cases hi:T t with
   |none=>rw[hi]at h;cases h
   |some i=>rw[hi]at h;obtain⟨inf,z,d,g1,gz,gzz,g4,_,g6,g7⟩:=(hT t i hi).get;have hd':d=.bool:=Atx (P:=P) (by rw[g7];simpa using h);rw[hd']at g6;exact g6
  have hg:∀(op:BinOp),(eqGuard op t x y (.bool p) (.bool q)).run P w=.ok () w:=by intro op;unfold eqGuard;split<;>simp
  cases op<;>simp only[]at h<;>try exact h.elim
  ·refine Ao (v:=.bool (p==q)) (w':=w) ?_ ⟨_,h.2,A3.value hrf rfl h1 hd hz hs hr (c1:=fun _=>0) (C2 rfl Al) (fun b=>om) _⟩;have hb:binOp .eql t (.bool p) (.bool q)=(do pure (.bool (←Op.equal t (.bool p) (.bool q)))):=rfl;unfold execOp;simp only[ho,e1,e2,hg,hb,Sem.run_bind,R4 (hbt h.1),Sem.run_pure,Result.andThen_ok]
  ·refine Ao (v:=.bool (p != q)) (w':=w) ?_ ⟨_,h.2,A3.value hrf rfl h1 hd hz hs hr (c1:=fun _=>0) (C2 rfl Al) (fun b=>om) _⟩;have hb:binOp .neq t (.bool p) (.bool q)=(do pure (.bool (!(←Op.equal t (.bool p) (.bool q))))):=rfl;unfold execOp;simp only[ho,e1,e2,hg,hb,Sem.run_bind,R4 (hbt h.1),Sem.run_pure,Result.andThen_ok];rfl
 ·rename_i xs ys hp hq;rw[hp]at hrx;rw[hq]at hry;obtain⟨vs,c1,e1,h1x⟩:=cF hrx;obtain⟨us,c2,e2,h2x⟩:=cF hry;cases op<;>simp only[]at h<;>try exact h.elim
  ·obtain ⟨j,q,b,hj,hjq,hab,hK⟩:=qU h;obtain⟨r1,r2⟩:=Vp (P:=P) (w:=w) hT hj hjq h1x h2x hab;refine Ao (v:=.bool (b != false)) (w':=w) ?_ ⟨_,hK,A3.value hrf rfl h1 hd hz hs hr (c1:=fun _=>0) (C2 rfl Al) (fun b=>om) _⟩;have hb:binOp .eql t (.agg vs.toArray) (.agg us.toArray)=(do pure (.bool (←Op.equal t (.agg vs.toArray) (.agg us.toArray)))):=rfl;unfold execOp;simp only[ho,e1,e2,r2,hb,Sem.run_bind,r1,Sem.run_pure,Result.andThen_ok,Bool.bne_false]
  ·obtain ⟨j,q,b,hj,hjq,hab,hK⟩:=qU h;obtain⟨r1,r2⟩:=Vp (P:=P) (w:=w) hT hj hjq h1x h2x hab;refine Ao (v:=.bool (b != true)) (w':=w) ?_ ⟨_,hK,A3.value hrf rfl h1 hd hz hs hr (c1:=fun _=>0) (C2 rfl Al) (fun b=>om) _⟩;have hb:binOp .neq t (.agg vs.toArray) (.agg us.toArray)=(do pure (.bool (!(←Op.equal t (.agg vs.toArray) (.agg us.toArray))))):=rfl;unfold execOp;simp only[ho,e1,e2,r2,hb,Sem.run_bind,r1,Sem.run_pure,Result.andThen_ok,Bool.bne_true]
 ·obtain ⟨r,z,hrun,hK,hpb,hrz,hg⟩:=Aij (P:=P) hrx hry h t;refine Ao (v:=r) (w':=w) ?_ ⟨_,hK,A3.value hrf hpb h1 hd hz hs hr hrz (fun b=>om) _⟩;unfold execOp;simp [ho,hg,hrun]
theorem AaY {op:UnOp} {t:Nat} {x:Operand} (ho:o.op=.unOp op t x) (hst:A3 dfs w0 S0 c0 σ a w) (h:aun op (aev σ x) fun z=>K (aset σ o.dst z)):
 o.wp P a w (fun a' w'=>∃σ',K σ'∧A3 dfs w0 S0 c0 σ' a' w') Q:=by
 obtain⟨hrf,S,c,hr,h1,hd,hz,hs⟩:=hst;obtain⟨cx,hrx⟩:=Ar hr x;obtain⟨r,z,hrun,hK,hpb,hrz⟩:=AoJ (P:=P) hrx h;refine Ao (v:=r) (w':=w) ?_ ⟨_,hK,A3.value hrf hpb h1 hd hz hs hr hrz (fun b=>om) _⟩;unfold execOp;simp [ho,hrun]
theorem AaZ {x:Operand} (ho:o.op=.nilCheck x) (hst:A3 dfs w0 S0 c0 σ a w) (h:anc (aev σ x) fun z=>K (aset σ o.dst z)):
 o.wp P a w (fun a' w'=>∃σ',K σ'∧A3 dfs w0 S0 c0 σ' a' w') Q:=by
 obtain⟨hrf,S,c,hr,h1,hd,hz,hs⟩:=hst;obtain⟨cx,hrx⟩:=Ar hr x;revert hrx h;generalize hv:a.eval x=v;generalize aev σ x=y;intro h hrx;cases y<;>simp only[anc]at h
 cases hrx with
 |elt hsp hcv h0 hcell hst2 hnil=>
  cases hnil with|nil hzz=>
  refine Ao (v:=.pointer (some _)) (w':=w) ?_ ⟨_,h,A3.value hrf rfl h1 hd hz hs hr (c1:=fun _=>0) (.elt hsp hcv h0 hcell hst2 (.nil Al)) (fun b=>om) _⟩;unfold execOp;simp [ho,hv]
theorem Aio {α:Type} {xs:Array α} {x:α} (h:xs.toList=[x]):xs= #[x]:=by apply Array.ext';simpa using h
theorem tS {α:Type} {xs:Array α} {x y:α} (h:xs.toList=[x,y]):xs= #[x,y]:=by apply Array.ext';simpa using h
theorem Vr (hT:Am P T) (hst:A3 dfs w0 S0 c0 σ a w) (h:Fg P T o σ K):o.wp P a w (fun a' w'=>∃σ',K σ'∧A3 dfs w0 S0 c0 σ' a' w') Q:=by
 unfold Fg at h;split at h
 ·rename_i x ho;exact move_sound (fun w=>by unfold execOp;simp [ho]) hst h
 ·rename_i x ho;exact move_sound (fun w=>by unfold execOp;simp [ho]) hst h
 ·rename_i c x y ho;split at h
  ·rename_i e hc;have hst':=hst;obtain⟨_,S,cc,hr,_⟩:=hst;obtain⟨cx,hrx⟩:=Ar hr c;rw[hc]at hrx;have e1:=(Ay hrx).1
   cases e with
   |true=>exact move_sound (x:=x) (fun w=>by unfold execOp;simp [ho,e1,asBool]) hst' (h.1 rfl)
   |false=>exact move_sound (x:=y) (fun w=>by unfold execOp;simp [ho,e1,asBool]) hst' (h.2 rfl)
  ·exact Ad
 ·rename_i t ho;split at h
  ·rename_i i hi;exact Xo ho (hT t i hi) hst h
  ·exact Ad
 ·rename_i t x ho;exact jO ho hst h
 ·rename_i t ps ho;split at h
  ·rename_i i hi;exact cC hT ho (hT t i hi) hst h.1 h.2.1 h.2.2.1 h.2.2.2
  ·exact Ad
 ·rename_i t n ps ho;split at h
  ·rename_i i hi;split at h
   ·rename_i e he;split at h
    ·rename_i j hj;exact Nq ho (hT t i hi) he (hT e j hj) hst h
    ·exact Ad
   ·exact Ad
  ·exact Ad
 ·rename_i t x ho;split at h
  ·rename_i i hi;exact bR ho (hT t i hi) hst h
  ·exact Ad
 ·rename_i t x y ho;split at h
  ·rename_i i hi;exact Xp ho (hT t i hi) hst h
  ·exact Ad
 ·rename_i op t x y t' ho;exact Vq hT ho hst h
 ·rename_i op t x ho;exact AaY ho hst h
 ·rename_i x ho;exact AaZ ho hst h
 ·rename_i s d x ho;split at h
  ·rename_i i j hi hj;exact cA hT ho (hT s i hi) (hT d j hj) hst h
  ·exact Ad
 ·rename_i f first caps ho
  split at h
  ·rename_i hf hc;have e1:first= #[]:=by apply Array.ext';simpa using hf
   have e2:caps= #[]:=by apply Array.ext';simpa using hc
   subst e1;subst e2;refine Bi hst rfl (v:=.func (.func f) #[] #[]) ?_ (fun S c hr=>⟨_,C2 rfl Al,Al⟩) h;unfold execOp;simp [ho,Instr.makeFunc]
  ·rename_i x xs hf hc;have e1:first= #[]:=by apply Array.ext';simpa using hf
   subst e1;refine Bi hst rfl (v:=.func (.func f) #[] ((x::xs).map a.eval).toArray) ?_ (fun S c hr=>⟨_,.clo (bV hr _ h.1) Al (.nil Al),Al⟩) h.2;unfold execOp;have e2:caps=(x::xs).toArray:=by apply Array.ext';simpa using hc
   simp [ho,Instr.makeFunc,e2]
  ·exact Ad
 ·rename_i t x y ho;split at h
  ·rename_i i hi;split at h
   ·rename_i e he;split at h
    ·rename_i j hj;exact Pl ho (hT t i hi) he (hT e j hj) hst h
    ·exact Ad
   ·exact Ad
  ·exact Ad
 ·rename_i t x lo hi' ho;split at h
  ·rename_i i hi;exact Xn hT ho (hT t i hi) hst h
  ·exact Ad
 ·rename_i t x f ho;split at h
  ·rename_i i hi;exact Ph ho (hT t i hi) hst h
  ·exact Ad
 ·rename_i t x f ho;split at h
  ·rename_i i hi;exact Uu ho (hT t i hi) hst h
  ·exact Ad
 ·rename_i t x y ho;split at h
  ·rename_i i hi;exact Np hT ho (hT t i hi) hst h
  ·exact Ad
 ·rename_i t x y ho;split at h
  ·rename_i i hi;exact Xm hT ho (hT t i hi) hst h
  ·exact Ad
 ·rename_i x n ho;exact Rz ho hst h
 ·rename_i c ho;split at h
  ·rename_i f hc;exact cB ho hc hst h
  ·rename_i hc;split at h
   ·rename_i x t ha hta;split at h
    ·rename_i i hi;exact jN ho hc (Aio ha) (Aio hta) (hT t i hi) hst h
    ·exact Ad
   ·exact Ad
  ·rename_i hc;split at h
   ·rename_i x y t t' ha hta;obtain⟨rfl,h⟩:=h;split at h
    ·rename_i i hi;split at h
     ·rename_i e he;split at h
      ·rename_i j hj;exact Uv ho hc (tS ha) (tS hta) (hT t i hi) he (hT e j hj) hst h
      ·exact Ad
     ·exact Ad
    ·exact Ad
   ·exact Ad
  ·rename_i hc;split at h
   ·rename_i x y ha;exact amax_sound (mx:=false) ho (by simpa using hc) (tS ha) hst h
   ·exact Ad
  ·rename_i hc;split at h
   ·rename_i x y ha;exact amax_sound (mx:=true) ho (by simpa using hc) (tS ha) hst h
   ·exact Ad
  ·exact Ad
 ·exact Ad
def C9 (ops:Array Oper) (j:Nat):Option Nat:=(ops[j]?).bind (·.dst)
theorem Ja (hst:A3 dfs w0 S0 c0 σ a w) (d:Option Nat):A3 dfs w0 S0 c0 (aset σ d (.tup [])) (a.put d undef) w:=by obtain⟨hrf,S,c,hr,h1,hd,hz,hs⟩:=hst;exact A3.value hrf rfl h1 hd hz hs hr (c1:=fun _=>0) (Aa.tup (vs:=[]) (c1:=fun _=>0) (c2:=fun _=>0) (.nil Al) (.nil Al) (fun b=>rfl)) (fun b=>om) d
theorem Cu (a:Act) (d:Option Nat) (v:Value) (s:Nat) (h:d≠some s):(a.put d v).tmps[s]? =a.tmps[s]? :=by
 cases d with
 |none=>rfl
 |some d=>have hne:d≠s:=fun e=>h (by rw[e]);simp [Act.put,Array.getElem?_setIfInBounds_ne hne]
theorem Rb {n1:Act→World→Prop} (h:o.wp P a w n1 Q):o.wp P a w (fun a' w'=>n1 a' w'∧∀s,o.dst≠some s→a'.tmps[s]? =a.tmps[s]?) Q:=by
 unfold Oper.wp at *;revert h;generalize (execOp a.eval o).run P w=r;intro hu
 cases r with
 |ok x w'=>
  cases x with
  |value v=>exact⟨hu,fun s hs=>Cu a o.dst v s hs⟩
  |skip=>exact⟨hu,fun s hs=>Cu a o.dst _ s hs⟩
  |defer d=>exact⟨hu,fun s hs=>Cu {a with defers:=d::a.defers} o.dst _ s hs⟩
  |enter f args=>
   rw[Oper.upon_enter]at hu⊢;refine Calls.mono hu fun e w'' he=> ?_
   cases e with
   |returned v=>exact⟨he,fun s hs=>Cu a o.dst v s hs⟩
   |panicked ch=>exact he
   |outgrown=>exact he
  |row r args=>rw[Oper.upon_row]at hu⊢;exact Rows.mono hu fun v w'' hv=>⟨hv,fun s hs=>Cu a o.dst v s hs⟩
  |_=>exact hu.elim
 |halt h w'=>cases h<;>exact hu
theorem A7 {n1 n2:Act→World→Prop} (hn:∀a w,n1 a w→n2 a w) (h:o.wp P a w n1 Q):o.wp P a w n2 Q:=by
 unfold Oper.wp at *;revert h;generalize (execOp a.eval o).run P w=r;intro hu
 cases r with
 |ok x w'=>
  cases x with
  |value v=>exact hn _ _ hu
  |skip=>exact hn _ _ hu
  |defer d=>exact hn _ _ hu
  |enter f args=>
   rw[Oper.upon_enter]at hu⊢;refine Calls.mono hu fun e w'' he=> ?_
   cases e with
   |returned v=>exact hn _ _ he
   |panicked ch=>exact he
   |outgrown=>exact he
  |row r args=>rw[Oper.upon_row]at hu⊢;exact Rows.mono hu fun v w'' hv=>hn _ _ hv
  |_=>exact hu.elim
 |halt h w'=>cases h<;>exact hu
end
end
section
open Go.RowKit
variable [Env]
variable {dfs : List Deferred}
def Ft (σ:List AV) (t:Nat):Option (Nat×Nat×Nat×List AV):=
 match σ.getD t .any with
 |.row e k es=>some (t,e,k,es)
 |.alias s=>match σ.getD s .any with
  |.row e k es=>some (s,e,k,es)
  |_=>none
 |_=>none
def Lz (σ:List AV) (e:Nat) (j:TI) (t s e' k:Nat) (xs:List AV) (y:Operand) (d:Option Nat) (K:List AV→Prop):Prop:=
 match M2 j.size (aev σ y),d with
 |some ys,some d=>e'=e∧k=j.size∧0<j.size∧j.zero.length=j.size∧xs.length+ys.length≤9223372036854775807∧(xs.length+ys.length)*j.bytes≤140737488355328∧
  ((σ.set s .any).set t .any).all (Km d)=true∧K (((σ.set s .any).set t .any).set d (.row e j.size (xs++ys)))
 |_,_=>False
def B9 (P:Program) (f:Nat) (x:AV) (args:List AV) (R:AV→AV→Prop):Prop:=
 Gn P f∧(∃r y,R r y)∧∀w S v vs c,Sz w S→Aa w S (x::args) (v::vs) c→(∀b,c b≤1)→Calls P f (v::vs).toArray w fun e w'=>
  ∃u r y S' c',e=.returned u∧R r y∧pb r=true∧(y=.any∨∃e k es,y=.row e k es)∧Aa w' S' [r,y] [u,v] c'∧(∀b,c' b≤1)∧Sz w' S'∧Stp w S c w' S' c'
def R5 (P:Program) (σ:List AV) (g s e k:Nat) (es:List AV) (rest:List Operand) (d:Option Nat) (K:List AV→Prop):Prop:=
 d≠some s∧B9 P g (.row e k es) (agrab (σ.set s .any) rest).1 fun r y=>K (aset ((agrab (σ.set s .any) rest).2.set s y) d r)
def rnl (n:Nat) (pos:Bool) (K:AV→Prop):Prop:=(n=0→K (.raw (.bool pos)))∧K (.raw (.bool (!pos)))
def Vs (pos:Bool) (K:AV→Prop):AV→Prop
 |.nil=>K (.raw (.bool pos))
 |.sl _ es=>rnl es.length pos K
 |.own _ _ es=>rnl es.length pos K
 |.mine _ _ es=>rnl es.length pos K
 |_=>False
def tT (o:Option TI):Bool:=match o with
 |some i=>i.td.elem.isSome
 |none=>false
def jR (T:Bd) (op:BinOp) (t:Nat) (x y:AV) (K:AV→Prop):Prop:=match y with
 |.nil=>(match op with
  |.eql=>tT (T t)=true∧Vs true K x
  |.neq=>tT (T t)=true∧Vs false K x
  |_=>False)
 |y=>I7 T op t x y K
def Aba (T:Bd) (t n:Nat) (K:AV→Prop):Prop:=match T t with
 |some i=>match i.td.elem with
  |some e=>match T e with
   |some j=>n=0∧K (.mine e j.size [])
   |none=>False
  |none=>False
 |none=>False
def cG (j:TI) (s k n:Nat) (y:AV) (d:Option Nat) (σ:List AV) (K:List AV→Prop):Prop:=match y,d with
 |.raw (.int _ m),some d=>k=j.size∧0≤m∧m.toNat<n∧s≠d∧K (σ.set d (.pref s k m.toNat 0))
 |_,_=>False
def M3 (T:Bd) (t s k n:Nat) (y:AV) (d:Option Nat) (σ:List AV) (K:List AV→Prop):Prop:=match T t with
 |some i=>match i.td.elem with
  |some e=>match T e with
   |some j=>cG j s k n y d σ K
   |none=>False
  |none=>False
 |none=>False
def Pm (p:Option (Nat×Option Nat×Option Bool)) (x:AV) (s k j off:Nat) (d:Option Nat) (σ:List AV) (K:List AV→Prop):Prop:=match p,x,d with
 |some (f,some n,some _),.row _ _ _,some d=>n≠0∧s≠d∧K (σ.set d (.pref s k j (off+f)))
 |_,_,_=>False
def Qw (i:TI) (x:AV) (k j off:Nat) (d:Option Nat) (σ:List AV) (K:List AV→Prop):Prop:=match x with
 |.row _ k' es=>k'=k∧j<es.length∧off+lsz i≤k∧K (aset σ d (pl (pval i.td.agg (pcells (cellsOf (es.getD j .any)) off (lsz i)))))
 |_=>False
def mkel (x:AV) (cs:List AV):AV:=match x with
 |.agg _=>.agg cs
 |_=>cs.headD .any
def Qx (i:TI) (x:AV) (s k j off:Nat) (y:AV) (d:Option Nat) (σ:List AV) (K:List AV→Prop):Prop:=match x with
 |.row e k' es=>k'=k∧j<es.length∧off+i.size≤k∧Iy y=true∧(cellsOf y).length=i.size∧K (aset (σ.set s (.row e k (es.set j (mkel (es.getD j .any) (pleft (cellsOf (es.getD j .any)) off i.size (cellsOf y)))))) d .any)
 |_=>False
def Rc (P:Program) (T:Bd) (o:Oper) (σ:List AV) (K:List AV→Prop):Prop:=
 match o.op with
 |.move (.tmp t)=>
  match σ.getD t .any,o.dst with
  |.row _ _ _,some d=>t≠d∧K (σ.set d (.alias t))
  |.alias s,some d=>s≠d∧K (σ.set d (.alias s))
  |_,_=>Fg P T o σ K
 |.assign (.tmp t)=>
  match σ.getD t .any,o.dst with
  |.row e k es,some d=>t≠d∧(σ.set t .any).all (Km d)=true∧K ((σ.set t .any).set d (.row e k es))
  |_,_=>Fg P T o σ K
 |.call c=>
  match c.callee,c.args.toList with
  |.builtin .len,[.tmp t]=>
   match Ft σ t with
   |some (s,e,k,es)=>match c.argTypes.toList with
    |[ty]=>match T ty with
     |some i=>i.td.elem.isSome=true∧K (aset σ o.dst (.raw (.int .i64 (es.length:Int))))
     |none=>False
    |_=>False
   |none=>Fg P T o σ K
  |.builtin .append,[.tmp t,y]=>
   match Ft σ t with
   |some (s,e,k,es)=>match c.argTypes.toList with
    |[ty,ty']=>ty=ty'∧match T ty with
     |some i=>match i.td.elem with
      |some e'=>match T e' with
       |some j=>Lz σ e' j t s e k es y o.dst K
       |none=>False
      |none=>False
     |none=>False
    |_=>False
   |none=>Fg P T o σ K
  |.value (.func g),.tmp t::rest=>
   match Ft σ t with
   |some (s,e,k,es)=>R5 P σ g s e k es rest o.dst K
   |none=>Fg P T o σ K
  |_,_=>Fg P T o σ K
 |.indexAddr t (.tmp q) y=>match Ft σ q with
  |some (s,_,k,es)=>M3 T t s k es.length (aev σ y) o.dst σ K
  |none=>Fg P T o σ K
 |.fieldAddr t (.tmp q) f=>match σ.getD q .any with
  |.pref s k j off=>(match T t with
   |some i=>Pm i.td.flds[f]? (σ.getD s .any) s k j off o.dst σ K
   |none=>False)
  |_=>Fg P T o σ K
 |.load t (.tmp q)=>match σ.getD q .any with
  |.pref s k j off=>(match T t with
   |some i=>Qw i (σ.getD s .any) k j off o.dst σ K
   |none=>False)
  |_=>Fg P T o σ K
 |.store t (.tmp q) y=>match σ.getD q .any with
  |.pref s k j off=>(match T t with
   |some i=>Qx i ((amv σ y).getD s .any) s k j off (view (aev σ y)) o.dst (amv σ y) K
   |none=>False)
  |_=>Fg P T o σ K
 |.binOp op t x y _=>jR T op t (aev σ x) (aev σ y) fun z=>K (aset σ o.dst z)
 |.buildSlice t n ps=>match ps.toList with
  |[]=>Aba T t n fun z=>K (aset σ o.dst z)
  |_=>Fg P T o σ K
 |_=>Fg P T o σ K
section
variable {P : Program} {T : Bd} {w : World} {S : Nat → Nat}
variable {w0 : World} {S0 c0 : Nat → Nat} {σ : List AV} {a : Act} {K : List AV → Prop} {Q : Exit → Act → World → Prop} {o : Oper}
theorem R6 {c:Nat→Nat} {t s e k:Nat} {es:List AV} (hr:Aa w S σ a.tmps.toList c) (hrf:RefOk σ a.tmps.toList) (h:Ft σ t=some (s,e,k,es)):
 σ[s]? =some (.row e k es)∧a.tmps.toList[t]? =a.tmps.toList[s]?∧(t=s∨σ[t]? =some (.alias s)):=by
 unfold Ft at h;split at h
 ·rename_i e' k' es' hx;injection h with h;cases h;exact⟨A4 hr hx oS,rfl,.inl rfl⟩
 ·rename_i s' hx;split at h
  ·rename_i e' k' es' hx';injection h with h;cases h;have h1:=A4 hr hx oS;have h2:=A4 hr hx' oS;exact⟨h2,hrf.al _ _ _ _ _ h1 h2,.inr h1⟩
  ·cases h
 ·cases h
theorem Re {t:Nat} {v:Value} (h:a.tmps.toList[t]? =some v):a.eval (.tmp t)=v:=by simp only[Act.eval,Array.getD_eq_getD_getElem?];rw[←Array.getElem?_toList,h];rfl
theorem A3.newrow {σ':List AV} {c c1 c2:Nat→Nat} {v:Value} {cur:Array Value} {T d k:Nat} {es:List AV} (hrf:RefOk σ' a.tmps.toList) (hn:σ'.all (Km d)=true) (h1:∀b,c b≤1) (hlt:∀b,0<c b→b<w.heap.size) (hd:a.defers=dfs) (hz:Sz w S) (hs:Stp w0 S0 c0 w S c)
 (hr:Aa w S σ' a.tmps.toList c2) (hy:Aa (w.alloc (.cells cur T)) (upd S w.heap.size 0) [.row T k es] [v] (fun x=>(if x=w.heap.size then 1 else 0)+c1 x)) (hc:∀b,c1 b+c2 b≤c b):
 A3 dfs w0 S0 c0 (σ'.set d (.row T k es)) (a.put (some d) v) (w.alloc (.cells cur T)):=by
 have hk:=Stp.alloc (c:=fun _=>0) hz (.cells cur T) 0;have hr2:=hr.step hk (fun b=>by have:=h1 b;have:=hc b;show c2 b+0≤1;omega);have hk2:=Stp.alloc (c:=c) hz (.cells cur T) 0;obtain⟨c',h2,h3⟩:=hr2.aset hy (some d);refine⟨by rw[E2];exact hrf.newrow T k es v hn,_,c',h2,fun b=> ?_,by rw[put_defers];exact hd,hz.alloc _ 0,(hs.trans hk2).drop fun b=> ?_⟩
 ·have h3b:=h3 b;have:=h1 b;have:=hlt b;have:=hc b;split at h3b<;>omega
 ·exact An5
theorem A3.putrow {σ':List AV} {c c1 c2:Nat→Nat} {v:Value} {T d k:Nat} {es:List AV} (hrf:RefOk σ' a.tmps.toList) (hn:σ'.all (Km d)=true) (h1:∀b,c b≤1) (hd:a.defers=dfs) (hz:Sz w S) (hs:Stp w0 S0 c0 w S c)
 (hr:Aa w S σ' a.tmps.toList c2) (hy:Aa w S [.row T k es] [v] c1) (hc:∀b,c1 b+c2 b≤c b):
 A3 dfs w0 S0 c0 (σ'.set d (.row T k es)) (a.put (some d) v) w:=by
 obtain⟨c',h2,h3⟩:=hr.aset hy (some d);refine⟨by rw[E2];exact hrf.newrow T k es v hn,_,c',h2,fun b=> ?_,by rw[put_defers];exact hd,hz,hs.drop fun b=> ?_⟩
 ·have:=h3 b;have:=h1 b;have:=hc b;omega
 ·have:=h3 b;have:=hc b;omega
theorem Ns {c:Nat→Nat} {t s e k:Nat} {es:List AV} (hr:Aa w S σ a.tmps.toList c) (hrf:RefOk σ a.tmps.toList) (h:Ft σ t=some (s,e,k,es)):
 ∃v c1 c2,a.eval (.tmp t)=v∧a.tmps.toList[s]? =some v∧Aa w S [.row e k es] [v] c1∧Aa w S (σ.set s .any) a.tmps.toList c2∧(∀b,c b=c1 b+c2 b)∧
  Aa w S ((σ.set s .any).set t .any) a.tmps.toList c2∧RefOk ((σ.set s .any).set t .any) a.tmps.toList∧RefOk (σ.set s .any) a.tmps.toList∧s<σ.length:=by
 obtain⟨h1,h2,h3⟩:=R6 hr hrf h;obtain⟨v,c1,c2,hv,hx,hr2,hc⟩:=hr.take s h1;have hlt:=(List.getElem?_eq_some_iff.1 h1).1;refine⟨v,c1,c2,Re (h2.trans hv),hv,hx,hr2,hc,?_,(hrf.less s rfl).less t rfl,hrf.less s rfl,hlt⟩;rcases h3 with rfl|h3
 ·rw [Ayn];exact hr2
 ·by_cases hts:t=s
  ·subst hts;rw[Ayn];exact hr2
  ·have h4:(σ.set s .any)[t]? =some (.alias s):=by rw[Ag (fun h=>hts h.symm)];exact h3
   obtain⟨v',d1,d2,hv',hx',hr3,hd⟩:=hr2.take t h4;have hz:Zc d1:=by cases hx' with|alias h=>cases h with|nil hz=>exact hz
   exact hr3.congr fun b=>by rw[hd,hz b];omega
theorem qV {e k:Nat} {es:List AV} {v:Value} {c:Nat→Nat} (h:Aa w S [.row e k es] [v] c):∃A cap,v=.slice A es.length cap∧es.length≤cap∧(∀x∈es,(cellsOf x).length=k):=by
 cases h with
 |rowE h=>exact⟨none,0,rfl,Axu _,oS⟩
 |row hn hcap hk hb hs hS h1 h0 hoc h hcc=>exact⟨_,_,rfl,hn,hk⟩
end
end
end Go.Proofs.YtmophjggmekoeaaGreatDoor
