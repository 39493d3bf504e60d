/- Soundness: a range over a function. Soundness: a range over a function, the rounds and the .. -/
import Derived.Test.YtmophjggmekoeaaGreatDoorC13
import Derived.Test.YtmophjggmekoeaaGreatDoorC19
set_option linter.all false
namespace Go.Proofs.YtmophjggmekoeaaGreatDoor
open Go.RowKit
variable [Env]
theorem Ys:∀(asl:List Nat) (σ:List AV) (i:Nat),(Yp asl σ)[i]? =if i∈asl then(σ[i]?).map (fun _=>AV.any)else σ[i]?
 |[],σ,i=>by simp [Yp]
 |s::ss,σ,i=>by
  rw[Yp,Ys ss,List.getElem?_set];by_cases h1:i∈ss
  ·simp only[h1,if_true,Ax2,or_true];by_cases h2:s=i
   ·subst h2;by_cases h3:s<σ.length
    ·simp [h3]
    ·simp [h3]
   ·simp [h2]
  ·by_cases h2:s=i
   ·subst h2;by_cases h3:s<σ.length
    ·simp [h1,h3]
    ·simp [h1,h3]
   ·have:¬i=s:=fun h=>h2 h.symm;simp [h1,h2,this]
theorem S5:∀(asl:List Nat) (σ:List AV),(Yp asl σ).length=σ.length
 |[],σ=>rfl
 |s::ss,σ=>by rw[Yp,S5 ss,List.length_set]
section
variable {w w' : World} {S S' : Nat → Nat}
theorem Aa.forget:∀{xs ys:List AV} {vs us:List Value} {c:Nat→Nat},Aa w S xs vs c→ys.length=xs.length→us.length=vs.length→(∀i,i<xs.length→ys[i]? =some .any∨(ys[i]? =xs[i]?∧us[i]? =vs[i]?))→∃c',Aa w S ys us c'∧∀b,c' b≤c b
 |[],ys,vs,us,c,h,hl,hl2,_=>by obtain⟨rfl,hz⟩:=h.zero;have e1:ys=[]:=AxA (by simpa using hl);have e2:us=[]:=AxA (by simpa using hl2);subst e1;subst e2;exact⟨c,.nil hz,fun _=>Axu _⟩
 |x::xs,ys,vs,us,c,h,hl,hl2,hp=>by
  obtain⟨v,vs',d1,d2,rfl,h1,h2,hd⟩:=h.uncons
  match ys,us,hl,hl2 with
  |y::ys,u::us,hl,hl2=>
   obtain⟨c',h3,hle⟩:=Aa.forget (ys:=ys) (us:=us) h2 (by simpa using hl) (by simpa using hl2) fun i hi=>by have:=hp (i+1) (by simp;omega);exact G5
   have h0:=hp 0 oS;simp only[List.getElem?_cons_zero,Option.some.injEq]at h0;rcases h0 with rfl|⟨rfl,rfl⟩
   ·exact ⟨c',.any h3,fun b=>by rw[hd];have:=hle b;omega⟩
   ·exact ⟨_,Aa.cons h1 h3 (fun b=>rfl),fun b=>by rw[hd];have:=hle b;omega⟩
theorem sE:∀(ps:List Nat) (args:List AV) (vs:List Value) (σ:List AV) (t:Array Value) (c ca:Nat→Nat),args.length=ps.length→Aa w S args vs ca→Aa w S σ t.toList c→
 ∃c',Aa w S (pps ps args σ) ((ps.zip vs).foldl (fun t (p:Nat×Value)=>t.setIfInBounds p.1 p.2) t).toList c'∧∀b,c' b≤ca b+c b
 |[],[],vs,σ,t,c,ca,_,ha,hr=>by obtain⟨rfl,_⟩:=ha.zero;exact⟨c,hr,fun b=>om⟩
 |p::ps,x::args,vs,σ,t,c,ca,hl,ha,hr=>by
  obtain⟨v,vs',d1,d2,rfl,h1,h2,hd⟩:=ha.uncons
  have hput:∃c1,Aa w S (σ.set p x) (t.setIfInBounds p v).toList c1∧∀b,c1 b≤d1 b+c b:=by
   rw[Array.toList_setIfInBounds];by_cases hp:p<σ.length
   ·exact hr.put h1 p hp
   ·have hlen:=hr.length;rw[Ayu om,Ayu om];exact⟨c,hr,fun b=>om⟩
  obtain⟨c1,g1,g2⟩:=hput;obtain⟨c',g3,g4⟩:=sE ps args vs' (σ.set p x) _ c1 d2 (by simpa using hl) h2 g1;exact⟨c',by simpa[pps]using g3,fun b=>by have:=g4 b;have:=g2 b;have:=hd b;omega⟩
theorem sF:∀(ps:List Nat) (args:List AV) (vs:List Value) (σ:List AV) (t:Array Value),args.length=ps.length→vs.length=args.length→args.all pb=true→RefOk σ t.toList→
 RefOk (pps ps args σ) ((ps.zip vs).foldl (fun t (p:Nat×Value)=>t.setIfInBounds p.1 p.2) t).toList
 |[],[],[],σ,t,_,_,_,h=>h
 |p::ps,x::args,v::vs,σ,t,hl,hl2,hp,h=>by simp only[Azb,Ax3]at hp;have:=sF ps args vs (σ.set p x) (t.setIfInBounds p v) (by simpa using hl) (by simpa using hl2) hp.2 (by rw[Array.toList_setIfInBounds];exact h.set p v hp.1);simpa[pps]using this
theorem eV:∀(ps:List Nat) (vs:List Value) (t:Array Value) (s:Nat),s∉ps→((ps.zip vs).foldl (fun t (p:Nat×Value)=>t.setIfInBounds p.1 p.2) t)[s]? =t[s]?
 |[],vs,t,s,_=>by simp
 |p::ps,[],t,s,_=>by simp
 |p::ps,v::vs,t,s,h=>by simp only[Ax2,not_or]at h;simp only[AxE,Ayt];rw[eV ps vs _ s h.2,Array.getElem?_setIfInBounds_ne (fun e=>h.1 e.symm)]
theorem Stp.putObj {l:Nat} {o o':Obj} (hl:w.heap[l]? =some o) (ho:o.isCells=false) (ho':o'.isCells=false):Stp w S (fun x=>if x=l then 1 else 0) (w.putObj l o') S (fun x=>if x=l then 1 else 0):=by
 refine⟨rfl,rfl,⟨rfl,fun _=>Axu _⟩,oS,fun b hb h0=>⟨?_,rfl⟩,fun b o2 _=> ?_,fun _=>Axu _,fun _ _=>Axu _⟩
 ·refine World.putObj_heap_other ?_;rintro rfl;simp at h0
 ·unfold World.cell?;by_cases hb:b=l
  ·subst hb;have hlt:=(Array.getElem?_eq_some_iff.1 hl).1;simp only[World.putObj_heap_same hlt,hl];cases o<;>cases o'<;>first|rfl|(simp [Obj.isCells]at ho ho')
  ·simp only[World.putObj_heap_other (w:=w) (o:=o') hb]
theorem Stp.grow {c c' d:Nat→Nat} (h:Stp w S c w' S' c') (hd:∀b,c b≤d b):Stp w S d w' S' c':=
 ⟨h.os,h.tape,h.output,h.size,fun b hb h0=>h.keep b hb (by have:=hd b;omega),h.cell,h.le,fun b hb=>Ax1 (h.own b hb) (hd b)⟩
theorem RefOk.forget {asl:List Nat} {σ:List AV} {vs us:List Value} (h:RefOk σ vs) (hk:∀i,i<σ.length→i∉asl→us[i]? =vs[i]?):RefOk (Yp asl σ) us:=by
 have back:∀{i:Nat} {x:AV},(Yp asl σ)[i]? =some x→pb x=false→i∉asl∧σ[i]? =some x:=by
  intro i x hi hp;rw[Ys]at hi;split at hi
  ·cases hs:σ[i]? with
   |none=>rw[hs]at hi;cases hi
   |some y=>rw[hs]at hi;simp at hi;subst hi;cases hp
  ·exact ⟨by assumption,hi⟩
 refine⟨fun i s off T cs hi hs=> ?_,fun i s e k es hi hs=> ?_,fun i s k j o e k' es hi hs=> ?_⟩
 ·obtain ⟨n1,h1⟩:=back hi rfl;obtain⟨n2,h2⟩:=back hs rfl;obtain⟨b,g1,g2⟩:=h.ref i s off T cs h1 h2;exact⟨b,by rw[hk s (List.getElem?_eq_some_iff.1 h2).1 n2];exact g1,by rw[hk i (List.getElem?_eq_some_iff.1 h1).1 n1];exact g2⟩
 ·obtain ⟨n1,h1⟩:=back hi rfl;obtain⟨n2,h2⟩:=back hs rfl;rw[hk i (List.getElem?_eq_some_iff.1 h1).1 n1,hk s (List.getElem?_eq_some_iff.1 h2).1 n2];exact bN
 ·obtain ⟨n1,h1⟩:=back hi rfl;obtain⟨n2,h2⟩:=back hs rfl;obtain⟨b,n,cap,g1,g2⟩:=h.pr i s k j o e k' es h1 h2;exact⟨b,n,cap,by rw[hk s (List.getElem?_eq_some_iff.1 h2).1 n2];exact g1,by rw[hk i (List.getElem?_eq_some_iff.1 h1).1 n1];exact g2⟩
end
end Go.Proofs.YtmophjggmekoeaaGreatDoor
namespace Go.Proofs.YtmophjggmekoeaaGreatDoor
open Go.RowKit
variable [Env]
def one (l:Nat):Nat→Nat:=fun b=>if b=l then 1 else 0
def Core (G:Gh) (st:Option Nat) (a:Act) (ms:List Nat) (D:Nat) (σk:List AV) (w:World) (S cg:Nat→Nat):Prop:=
 RefOk σk a.tmps.toList∧∃c cgx cm,Aa w S σk a.tmps.toList c∧G st w S cgx∧Mks (D::ms) w cm∧D+1<w.heap.size∧∀b,cg b=c b+cgx b+cm b+one (D+1) b
def Pu (fn:FuncId) (a:Act) (ps:Array Nat) (asg bdy:Code) (D:Nat) (s:LoopState) (pe:Option Code):Loop:={state:=s,pending:=pe,fn,tmps:=a.tmps,params:=ps,assign:=asg,body:=bdy,defers:=D}
def GcL (G:Gh) (st:Option Nat) (a:Act) (ms:List Nat) (D:Nat) (rec:LoopState→Option Code→Loop) (I:Nat→List AV→Prop) (Q:Exit→Option Nat→List AV→Prop):Gh:=fun k w S cg=>match k with
 |some k=>∃σk,I k σk∧Core G st a ms D σk w S cg∧w.heap[D+1]? =some (.loop (rec .ready none))
 |none=>∃e c σk,((c=Code.ret∧e=Exit.ret)∨∃id,c=Code.exit id∧e=Exit.exit id)∧Q e st σk∧Core G st a ms D σk w S cg∧w.heap[D+1]? =some (.loop (rec .done (some c)))
section
variable {P : Program} {T : Bd} {G : Gh} {st : Option Nat} {a : Act} {ms : List Nat} {D : Nat} {w w' : World} {S S' c c' cg : Nat → Nat} {σk : List AV}
theorem Core.lt (hG:eP G) (h:Core G st a ms D σk w S cg):∀b,0<cg b→b<w.heap.size:=by
 obtain⟨_,c,cgx,cm,hr,hg,hm,hl,hc⟩:=h;intro b hb;rw[hc]at hb;rcases Axz 0 (c b)with h|h
 ·exact hr.lt b h
 rcases Axz 0 (cgx b)with h|h
 ·exact hG.lt _ _ _ _ hg b h
 rcases Axz 0 (cm b)with h|h
 ·exact hm.2.2 b h
 ·unfold one at hb;split at hb
  ·rename_i hbl;subst hbl;exact hl
  ·omega
theorem Core.keep (hG:eP G) (h:Core G st a ms D σk w S cg) (k:Stp w S c w' S' c') (h1:∀b,c b+cg b≤1) (hz:Sz w S):Core G st a ms D σk w' S' cg∧w'.heap[D+1]? =w.heap[D+1]? :=by obtain⟨hrf,cc,cgx,cm,hr,hg,hm,hl,hc⟩:=h;refine⟨⟨hrf,cc,cgx,cm,hr.step k (fun b=>by have:=h1 b;have:=hc b;omega),hG.keep _ _ _ _ _ _ _ _ hg k (fun b=>by have:=h1 b;have:=hc b;omega) hz,hm.keep k (fun b=>by have:=h1 b;have:=hc b;omega),Aym hl k.size,hc⟩,?_⟩;refine(k.keep (D+1) hl ?_).1;have:=h1 (D+1);have:=hc (D+1);simp [one]at this;omega
theorem Aqm (hG:eP G) {rec:LoopState→Option Code→Loop} {I:Nat→List AV→Prop} {Q:Exit→Option Nat→List AV→Prop}:eP (GcL G st a ms D rec I Q):=by
 refine⟨fun k w S cg h=> ?_,fun k w S cg w' S' c c' h k' h1 hz=> ?_⟩
 ·cases k with
  |some k=>obtain⟨σk,_,h,_⟩:=h;exact h.lt hG
  |none=>obtain⟨e,c,σk,_,_,h,_⟩:=h;exact h.lt hG
 ·cases k with
  |some k=>obtain⟨σk,hI,h,hh⟩:=h;obtain⟨g1,g2⟩:=h.keep hG k' h1 hz;exact⟨σk,hI,g1,g2.trans hh⟩
  |none=>obtain⟨e,cd,σk,he,hq,h,hh⟩:=h;obtain⟨g1,g2⟩:=h.keep hG k' h1 hz;exact⟨e,cd,σk,he,hq,g1,g2.trans hh⟩
theorem Aem (hT:Am P T) (hm:P.follows .mixedOrders=true) (hG:eP G) {A:L2} {nt:Nat} {asl:List Nat} {fn:FuncId} {ps:Array Nat} {asg bdy:Code} {x y:CC} (hx:Bh A asg=some x) (hy:Bh A bdy=some y) (hps:(ps.toList.all fun p=>asl.contains p)=true)
 (hkx:Kn A asg=true) (hnx:Ib (frs nt asl) asg=true) (hky:Kn A bdy=true) (hny:Ib (frs nt asl) bdy=true) {I:Nat→List AV→Prop} {Q:Exit→Option Nat→List AV→Prop} {Y':Nat→List AV→Prop} {L:Nat} (hL:a.tmps.size=L) (hLn:L≤nt)
 (hround:∀k args σ1,Y' k args→I k σ1→args.length=ps.toList.length∧args.all pb=true∧Hj P T x (AkQ (Hj P T y (Aej asl L (fun σ3=>∃σ4,Wk σ3 σ4∧I (k+1) σ4) (xst Q st)))) (pps ps.toList args σ1)):
 YOk P (D+1) Y' (GcL G st a ms D (Pu fn a ps asg bdy D) I Q):=by
 intro k args w S vs c cg hYk hva hg h1 hz;obtain⟨σk,hI,⟨hrf,cc,cgx,cm,hr,hgx,hmk,hlt,hc⟩,hh⟩:=hg;obtain⟨hal,hap,hwp⟩:=hround k args σk hYk hI;have hvl:=hva.length;have hy0:=run_yield (P:=P) (args:=vs.toArray) hh (by simp [Pu];simp at hal;omega);refine⟨fn,_,asg,bdy,hy0,fun m=>roundIn_of_wpIn trivial ?_⟩;have hfold:(ps.zip vs.toArray).foldl (fun tmps (t,a)=>tmps.setIfInBounds t a) a.tmps=(ps.toList.zip vs).foldl (fun t (p:Nat×Value)=>t.setIfInBounds p.1 p.2) a.tmps:=by rw[←Array.foldl_toList,Array.toList_zip]
 have hfold':((Pu fn a ps asg bdy D .ready none).params.zip vs.toArray).foldl (fun tmps (t,a)=>tmps.setIfInBounds t a) (Pu fn a ps asg bdy D .ready none).tmps=(ps.toList.zip vs).foldl (fun t (p:Nat×Value)=>t.setIfInBounds p.1 p.2) a.tmps:=hfold;rw[hfold'];obtain⟨c1,hr1,hc1⟩:=sE ps.toList args vs σk a.tmps cc c hal hva hr;have hrf1:=sF ps.toList args vs σk a.tmps hal hvl hap hrf;generalize hT1:(ps.toList.zip vs).foldl (fun t (p:Nat×Value)=>t.setIfInBounds p.1 p.2) a.tmps=T1 at hr1 hrf1;have hkf1:Mt (frs nt asl) a.tmps {tmps:=T1,defers:=[]}:=by intro s hs;rw[←hT1];refine eV ps.toList vs a.tmps s fun hmem=> ?_;have:=Ax7.1 hps s hmem;simp only[frs,Ayj]at hs;simp at this hs;exact hs.2 this
 have hone:∀b,c1 b+(cgx b+cm b+one (D+1) b)≤1:=fun b=>by have:=hc1 b;have:=h1 b;have:=hc b;omega
 have hst1:A3 [] w S c1 (pps ps.toList args σk) {tmps:=T1,defers:=[]} w:=⟨hrf1,S,c1,hr1,fun b=>by have:=hone b;omega,rfl,hz,Stp.refl w S c1⟩;refine wpIn_mono (Cv (dfs:=[]) (w0:=w) (S0:=S) (c0:=c1) hT hm (frs nt asl) a.tmps (some (D+1)) m asg x hx hkx hnx _ _ _ w hst1 hkf1 hwp) fun e a2 w2 hq=> ?_;obtain⟨σ2,hq,hst2,hkf2⟩:=hq
 cases e with
 |normal=>
  obtain⟨hrf2,S2,c2,hr2,hc2,hd2,hz2,hs2⟩:=hst2;have hl1:c1 (D+1)=0:=by have:=hone (D+1);simp [one]at this;omega
  have hh2:w2.heap[D+1]? =some (.loop (Pu fn a ps asg bdy D .ready none)):=((hs2.keep (D+1) hlt hl1).1).trans hh;refine⟨_,run_beginRound hh2 rfl,?_⟩;generalize hbusy:Obj.loop {Pu fn a ps asg bdy D .ready none with state:=.busy}=busy;have hcb:busy.isCells=false:=by rw[←hbusy];rfl
  have hp2:=Stp.putObj (S:=S2) (o':=busy) hh2 rfl hcb;have hl2:c2 (D+1)=0:=by have:=hs2.own (D+1) hlt;omega
  have hr2b:=hr2.step hp2 (fun b=>by have:=hc2 b;split<;>(try subst_vars)<;>omega);have hz2b:Sz (w2.putObj (D+1) busy) S2:=hz2.stp hp2 fun b hb=>hz2 b (by simpa using hb);have hst2b:A3 [] (w2.putObj (D+1) busy) S2 c2 σ2 a2 (w2.putObj (D+1) busy):=⟨hrf2,S2,c2,hr2b,hc2,hd2,hz2b,Stp.refl _ _ _⟩;refine wpIn_mono (Cv (dfs:=[]) (w0:=w2.putObj (D+1) busy) (S0:=S2) (c0:=c2) hT hm (frs nt asl) a.tmps (some (D+1)) m bdy y hy hky hny _ _ _ _ hst2b hkf2 hq) fun e a3 w3 hq3=> ?_;obtain⟨σ3,hq3,⟨hrf3,S3,c3,hr3,hc3,hd3,hz3,hs3⟩,hkf3⟩:=hq3;have hlt2:D+1<(w2.putObj (D+1) busy).heap.size:=by simp;exact(Array.getElem?_eq_some_iff.1 hh2).1
  have hh3:w3.heap[D+1]? =some busy:=((hs3.keep (D+1) hlt2 hl2).1).trans (World.putObj_heap_same (Array.getElem?_eq_some_iff.1 hh2).1);have hl3:c3 (D+1)=0:=by have:=hs3.own (D+1) hlt2;omega
  have fin:∀(o':Obj),o'.isCells=false→σ3.length=L→∃c4,Aa (w3.putObj (D+1) o') S3 (Yp asl σ3) a.tmps.toList c4∧(∀b,c4 b≤c3 b)∧RefOk (Yp asl σ3) a.tmps.toList∧G st (w3.putObj (D+1) o') S3 cgx∧Mks (D::ms) (w3.putObj (D+1) o') cm∧D+1<(w3.putObj (D+1) o').heap.size∧
   (∀b,c4 b+cgx b+cm b+one (D+1) b≤1)∧Sz (w3.putObj (D+1) o') S3∧Stp w S (fun b=>c b+cg b) (w3.putObj (D+1) o') S3 (fun b=>c4 b+cgx b+cm b+one (D+1) b):=by
   intro o' ho' hlen;have hp3:=Stp.putObj (S:=S3) (o':=o') hh3 hcb ho';have hr3b:=hr3.step hp3 (fun b=>by have:=hc3 b;split<;>(try subst_vars)<;>omega);have hsz3:a3.tmps.size=a.tmps.size:=by have:=hr3.length;simp at this;omega
   have hkk:∀i,i<σ3.length→i∉asl→a.tmps.toList[i]? =a3.tmps.toList[i]? :=by intro i hi hn;have:=hkf3 i (by simp only[frs,Ayj,Ay6];exact⟨om,by simpa using hn⟩);rw[Array.getElem?_toList,Array.getElem?_toList];exact this.symm
   obtain⟨c4,hr4,hle4⟩:=hr3b.forget (ys:=Yp asl σ3) (us:=a.tmps.toList) (S5 _ _) (by simpa using hsz3.symm) fun i hi=>by
    rw[Ys];by_cases hn:i∈asl
    ·left;simp [hn,hi]
    ·right;exact⟨by simp [hn],hkk i hi hn⟩
   have t1:=hs2;have sumOne:∀b,(one (D+1) b)+(cgx b+cm b)≤1:=fun b=>by have:=hone b;omega
   have dis3:∀b,c2 b+(cgx b+cm b)≤1:=by
    intro b;rcases Axz b w.heap.size with hb|hb
    ·have:=hs2.own b hb;have:=hone b;omega
    ·have e1:cgx b=0:=by
      exact Ans
     have e2:cm b=0:=by exact Aa7
     have:=hc2 b;omega
   have g1:=hG.keep _ _ _ _ _ _ _ _ hgx hs2 (fun b=>by have:=hone b;omega) hz;have g2:=hG.keep _ _ _ _ _ _ _ _ g1 hp2 (fun b=>by have:=sumOne b;unfold one at this;omega) hz2;have g3:=hG.keep _ _ _ _ _ _ _ _ g2 hs3 (fun b=>by have:=dis3 b;omega) hz2b;have g4:=hG.keep _ _ _ _ _ _ _ _ g3 hp3 (fun b=>by have:=sumOne b;unfold one at this;omega) hz3;have m1:=hmk.keep hs2 (fun b=>by have:=hone b;omega);have m2:=m1.keep hp2 (fun b=>by have:=sumOne b;unfold one at this;omega);have m3:=m2.keep hs3 (fun b=>by have:=dis3 b;omega);have m4:=m3.keep hp3 (fun b=>by have:=sumOne b;unfold one at this;omega);have szs:w.heap.size≤w3.heap.size:=by have:=hs2.size;have:=hs3.size;simp at this;omega
   have whole:Stp w S (fun b=>c1 b+(cgx b+cm b+one (D+1) b)) (w3.putObj (D+1) o') S3 (fun b=>c3 b+(cgx b+cm b+one (D+1) b)):=by have s1:=hs2.frameG (c:=fun b=>c1 b+(cgx b+cm b+one (D+1) b)) (c2:=fun b=>cgx b+cm b+one (D+1) b) (fun b=>rfl);have s2:=hp2.frameG (c:=fun b=>c2 b+(cgx b+cm b+one (D+1) b)) (c2:=fun b=>c2 b+(cgx b+cm b)) (fun b=>by show c2 b+(cgx b+cm b+one (D+1) b)=one (D+1) b+(c2 b+(cgx b+cm b));omega);have s2':=s2.drop (c'':=fun b=>c2 b+(cgx b+cm b+one (D+1) b)) (fun b=>by show c2 b+(cgx b+cm b+one (D+1) b)≤one (D+1) b+(c2 b+(cgx b+cm b));omega);have s3:=hs3.frameG (c:=fun b=>c2 b+(cgx b+cm b+one (D+1) b)) (c2:=fun b=>cgx b+cm b+one (D+1) b) (fun b=>rfl);have s4:=hp3.frameG (c:=fun b=>c3 b+(cgx b+cm b+one (D+1) b)) (c2:=fun b=>c3 b+(cgx b+cm b)) (fun b=>by show c3 b+(cgx b+cm b+one (D+1) b)=one (D+1) b+(c3 b+(cgx b+cm b));omega);have s4':=s4.drop (c'':=fun b=>c3 b+(cgx b+cm b+one (D+1) b)) (fun b=>by show c3 b+(cgx b+cm b+one (D+1) b)≤one (D+1) b+(c3 b+(cgx b+cm b));omega);exact((s1.trans s2').trans s3).trans s4'
   refine⟨c4,hr4,hle4,hrf3.forget hkk,g4,m4,by simp;exact(Array.getElem?_eq_some_iff.1 hh3).1,fun b=> ?_,hz3.stp hp3 (fun b hb=>hz3 b (by simpa using hb)),?_⟩
   ·have:=hle4 b;rcases Axz b w.heap.size with hb|hb
    ·have h5:c3 b+(cgx b+cm b+one (D+1) b)≤c1 b+(cgx b+cm b+one (D+1) b):=whole.own b hb;have:=hone b;omega
    ·have e1:cgx b=0:=by
      exact Ans
     have e2:cm b=0:=by exact Aa7
     have e3:one (D+1) b=0:=by unfold one;rw[if_neg om]
     have:=hc3 b;omega
   ·exact (whole.grow (fun b=>by have:=hc1 b;have:=hc b;omega)).drop fun b=>by have:=hle4 b;omega
  have hbz:w3.heap[D+1]? =some (.loop {Pu fn a ps asg bdy D .ready none with state:=.busy}):=by rw[hbusy];exact hh3
  cases e with
  |normal=>obtain⟨hlen,σ4,hw4,hI4⟩:=hq3;obtain⟨c4,hr4,hle4,hrf4,g4,m4,hl4,hone4,hz4,hstp⟩:=fin (.loop (Pu fn a ps asg bdy D .ready none)) rfl hlen;obtain⟨c5,hr5,hle5⟩:=hw4.rep hr4;have hrf5:RefOk σ4 a.tmps.toList:=(hw4.stt (dfs:=a.defers) (a:=a) ⟨hrf4,S3,c4,hr4,fun b=>by have:=hone4 b;omega,rfl,hz4,Stp.refl _ _ _⟩).1;refine⟨_,_,run_endRound none hbz,S3,fun b=>c5 b+cgx b+cm b+one (D+1) b,some (k+1),.inl ⟨rfl,rfl⟩,⟨σ4,hI4,⟨hrf5,c5,cgx,cm,hr5,g4,m4,hl4,fun b=>rfl⟩,?_⟩,fun b=>by have:=hone4 b;have:=hle5 b;show c5 b+cgx b+cm b+one (D+1) b≤1;omega,hz4,hstp.drop fun b=>by have:=hle5 b;show c5 b+cgx b+cm b+one (D+1) b≤c4 b+cgx b+cm b+one (D+1) b;omega⟩;exact AaG
  |ret=>obtain⟨hlen,hq4⟩:=hq3;obtain⟨c4,hr4,hle4,hrf4,g4,m4,hl4,hone4,hz4,hstp⟩:=fin (.loop (Pu fn a ps asg bdy D .done (some .ret))) rfl hlen;refine⟨_,_,run_endRound (some .ret) hbz,S3,_,none,.inr ⟨rfl,rfl⟩,⟨.ret,.ret,_,.inl ⟨rfl,rfl⟩,hq4,⟨hrf4,c4,cgx,cm,hr4,g4,m4,hl4,fun b=>rfl⟩,?_⟩,hone4,hz4,hstp⟩;exact AaG
  |exit id=>obtain⟨hlen,hq4⟩:=hq3;obtain⟨c4,hr4,hle4,hrf4,g4,m4,hl4,hone4,hz4,hstp⟩:=fin (.loop (Pu fn a ps asg bdy D .done (some (.exit id)))) rfl hlen;refine⟨_,_,run_endRound (some (.exit id)) hbz,S3,_,none,.inr ⟨rfl,rfl⟩,⟨.exit id,.exit id,_,.inr ⟨id,rfl,rfl⟩,hq4,⟨hrf4,c4,cgx,cm,hr4,g4,m4,hl4,fun b=>rfl⟩,?_⟩,hone4,hz4,hstp⟩;exact AaG
  |_=>exact hq3.elim
 |_=>exact hq.elim
end
end Go.Proofs.YtmophjggmekoeaaGreatDoor
namespace Go.Proofs.YtmophjggmekoeaaGreatDoor
open Go.RowKit
variable [Env]
section
variable {P : Program} {T : Bd} {w0 : World} {S0 c0 : Nat → Nat} {G : Gh} {Y : Nat → List AV → Prop} {l : Nat} {A : L2} {yr : List (Nat × Nat)} {nt : Nat} {asl : List Nat} {n : Nat} {ro : Option Nat}
theorem nQ {g:Nat} (h:Gn P g) (args:Array Value) (w:World):(callFunc g args).run P w=.ok (.enter g args) w:=by obtain⟨fn,code,hfn,hbody,hname⟩:=h;exact Es hfn hname hbody args w
theorem AkR {S:Nat→Nat} {c:Nat→Nat} {w:World} {x:AV} {v:Value} {g:Nat} {cs:List AV} (h:Aa w S [x] [v] c) (hc:Aei x g cs):∃us,v=.func (.func g) #[] (List.toArray us)∧Aa w S cs us (fun _=>0):=by
 rcases hc with rfl|⟨rfl,rfl⟩
 ·cases h with
  |clo h1 h0 h=>exact⟨_,rfl,h1.congr fun b=>(h0 b).symm⟩
 ·exact ⟨[],by rw[(Ay h).1],.nil Al⟩
theorem eW (hT:Am P T) (hm:P.follows .mixedOrders=true) (hG:eP G) {g:Operand} {ps:Array Nat} {asg bdy:Code} {x y:CC} (hx:Bh A asg=some x) (hy:Bh A bdy=some y) (hps:(ps.toList.all fun p=>asl.contains p)=true)
 (hkx:Kn A asg=true) (hnx:Ib (frs nt asl) asg=true) (hky:Kn A bdy=true) (hny:Ib (frs nt asl) bdy=true) {Q:Exit→Option Nat→List AV→Prop} {st:Option Nat} {σ:List AV} {a:Act} {w:World}
 (hst:Hf G w0 S0 c0 st σ a w) (h:Ew P T Y l nt asl (.range g ps.toList x y) Q st σ):(Code.rangeFunc g ps asg bdy).wpIn (Fr none) n P (Mu G w0 S0 c0 Q) a w:=by
 obtain⟨gf,cs,N,Y',hln,hclo,hiter,I,⟨σ1,hwk,hI0⟩,hround,hdone⟩:=h;obtain⟨hrf,ms,S,c,cg,cm,hr,hg,hmk,h1,hd,hz,hs⟩:=hst;have hsz:a.tmps.size=σ.length:=by have:=hr.length;simpa using this
 obtain⟨cx,hrx⟩:=Ar hr g;obtain⟨us,hev,hus⟩:=AkR hrx hclo;obtain⟨c1,hr1,hle1⟩:=hwk.rep hr;have hrf1:RefOk σ1 a.tmps.toList:=(hwk.stt (dfs:=a.defers) (a:=a) ⟨hrf,S,c,hr,fun b=>by have:=h1 b;omega,rfl,hz,Stp.refl w S c⟩).1;refine wpIn_rangeFunc ?_;intro fn hfn;obtain⟨D,hD⟩:∃D,w.heap.size=D:=⟨_,rfl⟩;have z1:=Stp.alloc (w:=w) (S:=S) (c:=fun b=>c1 b+cg b+cm b) hz (.deferred (some [])) 0;have hz1:=hz.alloc (.deferred (some [])) 0;have hu1:upd S w.heap.size 0=S:=by funext b;unfold upd;split;(rename_i h;subst h;exact(hz _ (Axu _)).symm);rfl
 rw[hu1]at z1 hz1;have hw1s:(w.alloc (.deferred (some []))).heap.size=D+1:=by simp [hD]
 obtain⟨rec,hrec⟩:∃rec,Pu fn a ps asg bdy D=rec:=⟨_,rfl⟩;have z2:=Stp.alloc (w:=w.alloc (.deferred (some []))) (S:=S) (c:=fun x=>(if x=w.heap.size then 1 else 0)+(c1 x+cg x+cm x)) hz1 (.loop (rec .ready none)) 0;have hz2:=hz1.alloc (.loop (rec .ready none)) 0;have hu2:upd S (w.alloc (.deferred (some []))).heap.size 0=S:=by funext b;unfold upd;split;(rename_i h;subst h;exact(hz1 _ (Axu _)).symm);rfl
 rw[hu2]at z2 hz2;obtain⟨W1,hW1⟩:∃W1,(w.alloc (.deferred (some []))).alloc (.loop (rec .ready none))=W1:=⟨_,rfl⟩;rw[hW1]at z2 hz2;have hL1:W1.heap[D+1]? =some (.loop (rec .ready none)):=by rw[←hW1];have:=World.alloc_heap_new (w.alloc (.deferred (some []))) (.loop (rec .ready none));rwa [hw1s]at this
 have hK1:W1.heap[D]? =some (.deferred (some [])):=by rw[←hW1];exact(Below.heap_alloc _ _ _ (by rw[hw1s];omega)).trans (by have:=World.alloc_heap_new w (.deferred (some []));rwa [hD]at this)
 have zall:=z1.trans z2;have s1:Stp w S (fun _=>0) (w.alloc (.deferred (some []))) S (fun x=>(if x=w.heap.size then 1 else 0)+0):=by have:=Stp.alloc (w:=w) (S:=S) (c:=fun _=>0) hz (.deferred (some [])) 0;rwa [hu1]at this
 have s2:Stp (w.alloc (.deferred (some []))) S (fun _=>0) W1 S (fun x=>(if x=(w.alloc (.deferred (some []))).heap.size then 1 else 0)+0):=by have:=Stp.alloc (w:=w.alloc (.deferred (some []))) (S:=S) (c:=fun _=>0) hz1 (.loop (rec .ready none)) 0;rwa [hu2,hW1]at this
 have hr2:=(hr1.step s1 (fun b=>by have:=h1 b;have:=hle1 b;show c1 b+0≤1;omega)).step s2 (fun b=>by have:=h1 b;have:=hle1 b;show c1 b+0≤1;omega);have hus2:=(hus.step s1 (fun b=>oS)).step s2 (fun b=>oS);have hg2:=hG.keep _ _ _ _ _ _ _ _ (hG.keep _ _ _ _ _ _ _ _ hg s1 (fun b=>by have:=h1 b;show 0+cg b≤1;omega) hz) s2 (fun b=>by have:=h1 b;show 0+cg b≤1;omega) hz1;have hm2:=(hmk.keep s1 (fun b=>by have:=h1 b;show 0+cm b≤1;omega)).keep s2 (fun b=>by have:=h1 b;show 0+cm b≤1;omega);have hnD:D∉ms:=fun hmem=>by have:=hmk.2.2 D ((hmk.2.1 D hmem).1);omega
 have hmD:Mks (D::ms) W1 (fun b=>cm b+one D b):=by
  refine⟨List.nodup_cons.2 ⟨hnD,hm2.1⟩,fun E hE=> ?_,fun b hb=> ?_⟩
  ·rcases Ax2.1 hE with rfl|hE
   ·exact ⟨by simp [one],hK1⟩
   ·exact ⟨by have:=(hm2.2.1 E hE).1;show 0<cm E+one D E;omega,(hm2.2.1 E hE).2⟩
  ·have hb:0<cm b+one D b:=hb;unfold one at hb;split at hb
   ·rename_i hbD;subst hbD;have:=(Array.getElem?_eq_some_iff.1 hK1).1;exact this
   ·exact hm2.2.2 b om
 have hcore:Core G st a ms D σ1 W1 S (fun b=>c1 b+cg b+(cm b+one D b)+one (D+1) b):=⟨hrf1,c1,cg,fun b=>cm b+one D b,hr2,hg2,hmD,(Array.getElem?_eq_some_iff.1 hL1).1,fun b=>rfl⟩
 have hnew:∀b,D≤b→c1 b=0∧cg b=0∧cm b=0:=by
  intro b hb;refine⟨?_,?_,?_⟩
  ·rcases AxG (c1 b)with h|h
   ·exact h
   ·have:=hr1.lt b h;omega
  ·exact Anu
  ·exact Aa7
 have hsum:∀b,c1 b+cg b+(cm b+one D b)+one (D+1) b≤1:=by
  intro b;have:=h1 b;have:=hle1 b;unfold one;by_cases hb:D≤b
  ·obtain ⟨e1,e2,e3⟩:=hnew b hb;rw[e1,e2,e3];split<;>split<;>omega
  ·rw [if_neg om,if_neg om];omega
 have hyok:=Aem (P:=P) (T:=T) (G:=G) (st:=st) (a:=a) (ms:=ms) (D:=D) (fn:=fn) (Q:=Q) hT hm hG hx hy hps hkx hnx hky hny hsz hln hround;rw[hrec]at hyok;have hgk:=Aqm (st:=st) (a:=a) (ms:=ms) (D:=D) hG (rec:=rec) (I:=I) (Q:=Q);have hcall:=hiter.2 _ hgk (D+1) hyok W1 S us (fun _=>0) _ hz2 hus2 ⟨σ1,hI0,hcore,hL1⟩ (fun b=>by have:=hsum b;show 0+(c1 b+cg b+(cm b+one D b)+one (D+1) b)≤1;omega);have hbig:Stp w0 S0 c0 W1 S (fun b=>c1 b+cg b+(cm b+one D b)+one (D+1) b):=by have:=(hs.drop (c'':=fun b=>c1 b+cg b+cm b) (fun b=>by have:=hle1 b;show c1 b+cg b+cm b≤c b+cg b+cm b;omega)).trans zall;refine this.drop fun b=> ?_;show c1 b+cg b+(cm b+one D b)+one (D+1) b≤(if b=(w.alloc (.deferred (some []))).heap.size then 1 else 0)+((if b=w.heap.size then 1 else 0)+(c1 b+cg b+cm b));rw[hw1s,hD];unfold one;omega
 have hres:(resolve a.eval (rangeCall g (D+1)) 0).run P W1=.ok {target:=.fn (.func gf) us.toArray,args:= #[.func (.yield (D+1)) #[] #[]]} W1:=by simp only[resolve,rangeCall,hev];simp [go_sem]
 refine⟨D+1,[mark D],W1,{target:=.fn (.func gf) us.toArray,args:= #[.func (.yield (D+1)) #[] #[]]},W1,gf,#[.func (.yield (D+1)) #[] #[]]++us.toArray,W1,?_,hres,fun _ _=>trivial,?_,fun hd=>by simp at hd,?_⟩
 ·have:=run_enterLoop_outer (w:=w) (P:=P) fn a.tmps ps asg bdy;rw[hD]at this;rw[←hW1,←hrec];exact this
 ·simp [invoke,go_sem,nQ hiter.1]
 ·refine L5.2 ?_;have hargs:(Value.func (.yield (D+1)) #[] #[]::us).toArray= #[.func (.yield (D+1)) #[] #[]]++us.toArray:=by apply Array.ext';simp
  rw[hargs]at hcall;refine hcall.mono fun e w' he=> ?_;obtain⟨v,st',S',cg',rfl,hst',hgc,hcg1,hz',hstp⟩:=he;have hstp':=hbig.trans (hstp.grow (d:=fun b=>c1 b+cg b+(cm b+one D b)+one (D+1) b) (fun b=>by show 0+_≤_;omega))
  have fin:∀(σk:List AV) (lp lp':Loop),Core G st a ms D σk w' S' cg'→w'.heap[D+1]? =some (.loop lp)→Hf G w0 S0 c0 st σk {a with defers:=[mark D]++a.defers} (w'.putObj (D+1) (.loop lp')):=by
   intro σk lp lp' hcore' hh;have hp:=Stp.putObj (S:=S') (o':=.loop lp') hh rfl rfl;obtain⟨hrf',ck,cgk,cmk,hrk,hgk',hmk',hlk,hck⟩:=hcore';have hdis:∀b,(if b=D+1 then 1 else 0)+(ck b+cgk b+cmk b)≤1:=fun b=>by have:=hcg1 b;have:=hck b;unfold one at this;omega
   have hstpk:Stp w' S' cg' (w'.putObj (D+1) (.loop lp')) S' (fun b=>(if b=D+1 then 1 else 0)+(ck b+cgk b+cmk b)):=hp.frameG (c2:=fun b=>ck b+cgk b+cmk b) (fun b=>by rw[hck];unfold one;omega);refine⟨hrf',D::ms,S',ck,cgk,cmk,hrk.step hp (fun b=>by have:=hdis b;omega),hG.keep _ _ _ _ _ _ _ _ hgk' hp (fun b=>by have:=hdis b;omega) hz',hmk'.keep hp (fun b=>by have:=hdis b;omega),fun b=>by have:=hdis b;omega,by simp [hd],hz'.stp hp (fun b hb=>hz' b (by simpa using hb)),?_⟩;exact(hstp'.trans hstpk).drop fun b=>by show ck b+cgk b+cmk b≤_+_;omega
  rcases hst' with rfl|rfl
  ·obtain ⟨σk,hIk,hcore',hh⟩:=hgc;have hne:(rec .ready none).state≠ .busy:=by rw[←hrec];simp [Pu]
   refine⟨_,_,run_endLoop hh hne,?_⟩;have hpe:(rec .ready none).pending=none:=by rw[←hrec];rfl
   rw[hpe];exact⟨st,σk,hdone σk hIk,fin σk _ _ hcore' hh⟩
  ·obtain ⟨e,cd,σk,hcase,hq,hcore',hh⟩:=hgc;have hne:(rec .done (some cd)).state≠ .busy:=by rw[←hrec];simp [Pu]
   refine⟨_,_,run_endLoop hh hne,?_⟩;have hpe:(rec .done (some cd)).pending=some cd:=by rw[←hrec];rfl
   rw[hpe];rcases hcase with⟨rfl,rfl⟩|⟨id,rfl,rfl⟩
   ·exact wpIn_ret ⟨st,σk,hq,fin σk _ _ hcore' hh⟩
   ·exact wpIn_exit ⟨st,σk,hq,fin σk _ _ hcore' hh⟩
end
end Go.Proofs.YtmophjggmekoeaaGreatDoor
namespace Go.Proofs.YtmophjggmekoeaaGreatDoor
open Go.RowKit
variable [Env]
section
variable {P : Program} {T : Bd} {w0 : World} {S0 c0 : Nat → Nat} {G : Gh} {Y : Nat → List AV → Prop} {l : Nat} {A : L2} {yr : List (Nat × Nat)} {nt : Nat} {asl : List Nat} {n : Nat}
theorem Cw (hT:Am P T) (hm:P.follows .mixedOrders=true) (hG:eP G) (hY:YOk P l Y G):∀(c:Code) (d:CG),Dc A yr c=some d→Yr A yr nt asl c=true→∀(Q:Exit→Option Nat→List AV→Prop) (st:Option Nat) (σ:List AV) (a:Act) (w:World),Hf G w0 S0 c0 st σ a w→Ew P T Y l nt asl d Q st σ→c.wpIn (Fr none) n P (Mu G w0 S0 c0 Q) a w
 |.skip,d,hd,hk,Q,st,σ,a,w,hst,h=>by simp only[Dc]at hd;injection hd with hd;subst hd;exact wpIn_skip ⟨st,σ,h,hst⟩
 |.label t,d,hd,hk,Q,st,σ,a,w,hst,h=>by simp only[Dc]at hd;injection hd with hd;subst hd;exact wpIn_label ⟨st,σ,h,hst⟩
 |.exit id,d,hd,hk,Q,st,σ,a,w,hst,h=>by simp only[Dc]at hd;injection hd with hd;subst hd;exact wpIn_exit ⟨st,σ,h,hst⟩
 |.ret,d,hd,hk,Q,st,σ,a,w,hst,h=>by simp only[Dc]at hd;injection hd with hd;subst hd;exact wpIn_ret ⟨st,σ,h,hst⟩
 |.region id ops dr,d,hd,hk,Q,st,σ,a,w,hst,h=>by
  simp only[Dc]at hd;simp only[Yr]at hk;split at hd
  ·rename_i p hp;rw[hp]at hk
   cases dr with
   |true=>simp at hd
   |false=>
    simp only[Ax0,if_false]at hd;by_cases hb:p<1000
    ·rw [if_pos hb]at hd;exact nO hT hG hY hd hk hst h
    ·rw [if_neg hb]at hd;exact eS hT hG hY hd hk hst h
  ·rename_i hp;rw[hp]at hk;simp only[Ax3]at hk
   cases hc:Bh A (.region id ops dr)with
   |none=>rw[hc]at hd;simp at hd
   |some x=>rw[hc]at hd;simp at hd;subst hd;exact nN hT hm hG hc hk.1 hk.2 hst h
 |.seq x y,d,hd,hk,Q,st,σ,a,w,hst,h=>by
  simp only[Dc]at hd;simp only[Yr,Ax3]at hk;split at hd
  ·rename_i x' y' hx hy;injection hd with hd;subst hd
   cases hc:cutAt A y with
   |false=>
    rw[hc]at h;refine wpIn_seq (wpIn_mono (Cw hT hm hG hY x x' hx hk.1 _ st σ a w hst h) fun e a w hq=> ?_);obtain⟨st',σ',hq,hs'⟩:=hq
    cases e with
    |normal=>exact Cw hT hm hG hY y y' hy hk.2 Q st' σ' a w hs' hq
    |_=>exact⟨st',σ',hq,hs'⟩
   |true=>
    rw[hc]at h;obtain⟨I,hI,h⟩:=h;refine wpIn_seq (wpIn_mono (Cw hT hm hG hY x x' hx hk.1 _ st σ a w hst h) fun e a w hq=> ?_);obtain⟨st',σ',hq,hs'⟩:=hq
    cases e with
    |normal=>obtain⟨σ3,hw3,h3⟩:=hq;exact Cw hT hm hG hY y y' hy hk.2 Q st' σ3 a w (hw3.sttG hG hs') (hI st' σ3 h3)
    |_=>exact⟨st',σ',hq,hs'⟩
  ·cases hd
 |.cond c x y,d,hd,hk,Q,st,σ,a,w,hst,h=>by
  simp only[Dc]at hd;simp only[Yr,Ax3]at hk;split at hd
  ·rename_i x' y' hx hy;injection hd with hd;subst hd;simp only[Ew,Ny]at h;split at h
   ·rename_i e he;exact wpIn_cond_split (hst.evalc he) (fun ht=>Cw hT hm hG hY x x' hx hk.1 Q st σ a w hst (h.1 ht)) (fun hf=>Cw hT hm hG hY y y' hy hk.2 Q st σ a w hst (h.2 hf))
   ·exact Ad
  ·cases hd
 |.block id c,d,hd,hk,Q,st,σ,a,w,hst,h=>by
  simp only[Dc]at hd;simp only[Yr]at hk
  cases hx:Dc A yr c with
  |none=>rw[hx]at hd;simp at hd
  |some x=>
   rw[hx]at hd;simp at hd;subst hd;refine wpIn_block (wpIn_mono (Cw hT hm hG hY c x hx hk _ st σ a w hst h) fun e a w hq=> ?_);obtain⟨st',σ',hq,hs'⟩:=hq
   cases e with
   |exit id'=>
    simp only[N4]at hq;simp only[Exit.inBlock];split
    ·rename_i hid;rw[if_pos hid]at hq;exact⟨st',σ',hq,hs'⟩
    ·rename_i hid;rw[if_neg hid]at hq;exact⟨st',σ',hq,hs'⟩
   |_=>exact⟨st',σ',hq,hs'⟩
 |.loop c,d,hd,hk,Q,st,σ,a,w,hst,h=>by
  simp only[Dc]at hd;simp only[Yr]at hk
  cases hx:Dc A yr c with
  |none=>rw[hx]at hd;simp at hd
  |some x=>
   rw[hx]at hd;simp at hd;subst hd;obtain⟨I,⟨n0,σ1,hw,hI⟩,hround⟩:=h
   classical
   let J:Act→World→Nat→Prop:=fun a w n=>∃st σ,I n st σ∧Hf G w0 S0 c0 st σ a w;refine wpIn_loop (fun a w=>∃n,J a w n) (fun a w=>if h:∃n,J a w n then Classical.choose (least h)else 0) ⟨n0,st,σ1,hI,hw.sttG hG hst⟩ fun a w hJ=> ?_;obtain⟨st',σ',hI',hst'⟩:=(Classical.choose_spec (least hJ)).1;refine wpIn_mono (Cw hT hm hG hY c x hx hk _ st' σ' a w hst' (hround _ st' σ' hI')) fun e a' w' hq=> ?_;obtain⟨st2,σ2,hq,hs2⟩:=hq
   cases e with
   |normal=>obtain⟨m,σ3,hm,hw3,hI3⟩:=hq;have hJ':J a' w' m:=⟨st2,σ3,hI3,hw3.sttG hG hs2⟩;exact AhT
   |_=>exact⟨st2,σ2,hq,hs2⟩
 |.rangeFunc g ps asg bdy,d,hd,hk,Q,st,σ,a,w,hst,h=>by
  simp only[Dc]at hd;simp only[Yr,Ax3]at hk;split at hd
  ·rename_i x y hx hy;injection hd with hd;subst hd;exact eW hT hm hG hx hy hk.1.1 hk.1.2.1 hk.1.2.2 hk.2.1 hk.2.2 hst h
  ·cases hd
 |.scope c,d,hd,hk,Q,st,σ,a,w,hst,h=>by
  simp only[Dc]at hd;simp only[Yr]at hk
  cases hx:Dc A yr c with
  |none=>rw[hx]at hd;simp at hd
  |some x=>
   rw[hx]at hd;simp at hd;subst hd;refine nM (wpIn_mono (Cw hT hm hG hY c x hx hk _ st σ a w hst h) fun e a w hq=> ?_);obtain⟨st',σ',hq,hs'⟩:=hq
   cases e with
   |goto t=>exact hq.elim
   |_=>exact⟨st',σ',hq,hs'⟩
 |.goto ..,d,hd,hk,Q,st,σ,a,w,hst,h=>by simp [Dc]at hd
 |.refuse ..,d,hd,hk,Q,st,σ,a,w,hst,h=>by simp [Dc]at hd
theorem K6 (hG:eP G) {fn:Func} {a:Act} {σ:List AV} {st:Option Nat} {R:Ending→World→Prop}:∀(ms:List Nat) (w:World) (S c cg cm:Nat→Nat),Aa w S σ a.tmps.toList c→G st w S cg→Mks ms w cm→(∀b,c b+cg b+cm b≤1)→Sz w S→Stp w0 S0 c0 w S (fun b=>c b+cg b+cm b)→
 (∀w',Aa w' S σ a.tmps.toList c→G st w' S cg→Sz w' S→Stp w0 S0 c0 w' S (fun b=>c b+cg b)→∃v,(results fn a.tmps).run P w'=.ok v w'∧R (.returned v) w')→LeavesInM (Fr none) n P fn a.tmps R (ms.map mark) .returning w
 |[],w,S,c,cg,cm,hr,hg,hm,h1,hz,hs,hK=>by obtain⟨v,g1,g2⟩:=hK w hr hg hz (hs.drop fun b=>by show c b+cg b≤c b+cg b+cm b;omega);exact⟨v,g1,g2⟩
 |D::ms,w,S,c,cg,cm,hr,hg,hm,h1,hz,hs,hK=>by
  obtain⟨hD,hh⟩:=hm.2.1 D oS;have hnd:=List.nodup_cons.1 hm.1;have hp:=Stp.putObj (S:=S) (o':=.deferred none) hh rfl rfl
  have hdis:∀b,(if b=D then 1 else 0)+(c b+cg b)≤1:=fun b=>by
   have:=h1 b;split
   ·rename_i hb;subst hb;omega
   ·omega
  have hz':Sz (w.putObj D (.deferred none)) S:=hz.stp hp fun b hb=>hz b (by simpa using hb);refine⟨oS,.inl ⟨D,w.putObj D (.deferred none),rfl,run_takeDeferred hh,?_⟩⟩;refine K6 hG ms _ S c cg cm (hr.step hp (fun b=>by have:=hdis b;omega)) (hG.keep _ _ _ _ _ _ _ _ hg hp (fun b=>by have:=hdis b;omega) hz) ⟨hnd.2,fun E hE=> ?_,fun b hb=>by have:=hm.2.2 b hb;simpa using this⟩ h1 hz' ?_ hK
  ·obtain ⟨g1,g2⟩:=hm.2.1 E (by simp [hE]);exact⟨g1,by rw[World.putObj_heap_other (by rintro rfl;exact hnd.1 hE)];exact g2⟩
  ·have:=hp.grow (d:=fun b=>c b+cg b+cm b) (fun b=>by
    show(if b=D then 1 else 0)≤c b+cg b+cm b;split
    ·rename_i hb;subst hb;omega
    ·omega)
   exact hs.trans ⟨this.os,this.tape,this.output,this.size,this.keep,this.cell,this.le,fun b hb=>Axu _⟩
end
end Go.Proofs.YtmophjggmekoeaaGreatDoor
namespace Go.Proofs.YtmophjggmekoeaaGreatDoor
open Go.RowKit
variable [Env]
section
variable {P : Program} {T : Bd} {nt : Nat}
def Au7 (T:Bd) (rs:List ResultVar) (R:AV→Prop):Exit→Option Nat→List AV→Prop:=fun e _ σ=>kL T rs R e σ
def Aqn (n:Nat):Exit→Option Nat→List AV→Prop
 |.normal,st,_=>st=some n∨st=none
 |.ret,st,_=>st=some n∨st=none
 |_,_,_=>False
theorem Pv {w:World} {S:Nat→Nat}:∀n,Aa w S (List.replicate n .any) (List.replicate n undef) (fun _=>0)
 |0=>.nil Al
 |n+1=>.any (Pv n)
theorem eX {σ:List AV} {vs:List Value} (h:∀x∈σ,pb x=true):RefOk σ vs:=
 ⟨fun i s off T cs hi hs=>by have:=h _ (Axt hi);simp [pb]at this,fun i s e k es hi hs=>by have:=h _ (Axt hi);simp [pb]at this,fun i s k j o e k' es hi hs=>by have:=h _ (Axt hi);simp [pb]at this⟩
theorem Fw (A:L2) (yr:List (Nat×Nat)) (asl:List Nat) (hT:Am P T) (hm:P.follows .mixedOrders=true) {f:Nat} {fn:Func} {args:List AV} {R:AV→Prop} {d:CG} {rs:Array ResultVar} (hf:P.funcs[f]? =some fn) (hn:(fn.name== "runtime.NumGoroutine")=false)
 (hck:(fn.body.map (Yr A yr nt asl))=some true) (hd:fn.body.bind (Dc A yr)=some d) (hnt:fn.ntmps=nt) (hrs:fn.results=rs) (hR:∃r,R r) (hpa:args.all pb=true)
 (h:Ew P T (fun _ _=>False) 0 nt asl d (Au7 T rs.toList R) none (args++List.replicate (nt-args.length) .any)):Ab P f args R:=by
 cases hb:fn.body with
 |none=>rw[hb]at hd;cases hd
 |some code=>
 rw[hb]at hd hck;have hcd:Dc A yr code=some d:=hd;have hck':Yr A yr nt asl code=true:=by simpa using hck
 refine⟨⟨fn,code,hf,hb,hn⟩,hR,fun w S vs c hz hr hc=> ?_⟩;have hl:=hr.length;have hY0:YOk P 0 (fun _ _=>False) noG:=fun k args w S vs c cg h=>h.elim;refine(L5 (ro:=none) (n:=3)).1 (callsIn_of_wp_marks hf hb trivial (wpIn_mono (Cw (G:=noG) (w0:=w) (S0:=S) (c0:=c) (n:=3) hT hm Aeh hY0 code d hcd hck' _ none _ _ w ?_ h) fun e a w' hq=> ?_) rfl)
 ·refine ⟨eX fun x hx=> ?_,[],S,c,fun _=>0,fun _=>0,?_,Al,⟨List.nodup_nil,oS,oS⟩,fun b=>by have:=hc b;omega,rfl,hz,Stp.refl w S c⟩
  ·exact AmV
  ·have:=Aa.app hr (Pv (nt-args.length)) (c:=c) (fun b=>oS);simpa[hnt,hl]using this
 ·obtain ⟨st,σ,hq,hst⟩:=hq
  have fin:Hu T rs.toList σ (fun vs=>R (match vs with
   |[v]=>v
   |vs=>.tup vs))→LeavesInM (Fr none) 3 P fn a.tmps (fun e w'=>∃v r S' c',e=.returned v∧R r∧pb r=true∧Aa w' S' [r] [v] c'∧(∀b,c' b≤1)∧Sz w' S'∧Stp w S c w' S' c') a.defers .returning w':=by
   intro hq;obtain⟨_,ms,S',c',cg,cm,hr',hg,hmk,h1,hd',hz',hs⟩:=hst;rw[hd'];refine K6 Aeh (st:=st) (σ:=σ) ms w' S' c' cg cm hr' hg hmk h1 hz' hs fun w2 hr2 hg2 hz2 hs2=> ?_;obtain⟨rvs,us,cv,hrun,hK,hv,hle,hul,hpb⟩:=Gb hT rs.toList σ c' _ hr2 hq
   have hmm:(fn.results.mapM (I1 a.tmps)).run P w2=.ok us.toArray w2:=by
    have he:fn.results=rs.toList.toArray:=by apply Array.ext';simp [hrs]
    rw[he,List.mapM_toArray];simp [hrun]
   refine⟨(if h:us.toArray.size=1 then us.toArray[0]else .tuple us.toArray),?_,_,_,S',cv,rfl,hK,?_,?_,fun b=>Ax1 (hle b) (by have:=h1 b;omega),hz2,hs2.drop fun b=>by have:=hle b;omega⟩
   ·rw [Jv];simp only[Sem.run_bind,hmm,Result.andThen_ok,Sem.run_pure]
   ·match rvs,hpb with
    |[],_=>rfl
    |[v],hpb=>exact hpb v oS
    |v::v'::rvs,_=>rfl
   ·exact Ao8
  exact AaC
theorem Na (A:L2) (yr:List (Nat×Nat)) (asl:List Nat) (hT:Am P T) (hm:P.follows .mixedOrders=true) {f:Nat} {fn:Func} {cs:List AV} {n:Nat} {Y:Nat→List AV→Prop} {d:CG} (hf:P.funcs[f]? =some fn) (hn:(fn.name== "runtime.NumGoroutine")=false)
 (hck:(fn.body.map (Yr A yr nt asl))=some true) (hd:fn.body.bind (Dc A yr)=some d) (hnt:fn.ntmps=nt) (hrs:fn.results= #[]) (hpa:cs.all pb=true)
 (h:∀l,Ew P T Y l nt asl d (Aqn n) (some 0) (.raw (.func (.yield l) #[] #[])::(cs++List.replicate (nt-(cs.length+1)) .any))):Qj P f cs n Y:=by
 cases hb:fn.body with
 |none=>rw[hb]at hd;cases hd
 |some code=>
 rw[hb]at hd hck;have hcd:Dc A yr code=some d:=hd;have hck':Yr A yr nt asl code=true:=by simpa using hck
 refine⟨⟨fn,code,hf,hb,hn⟩,fun G hG l hY w S vs c cg hz hr hg hc=> ?_⟩;have hl:=hr.length;refine(L5 (ro:=none) (n:=3)).1 (callsIn_of_wp_marks hf hb trivial (wpIn_mono (Cw (w0:=w) (S0:=S) (c0:=fun b=>c b+cg b) (n:=3) hT hm hG hY code d hcd hck' _ (some 0) _ _ w ?_ (h l)) fun e a w' hq=> ?_) rfl)
 ·refine ⟨eX fun x hx=> ?_,[],S,c,cg,fun _=>0,?_,hg,⟨List.nodup_nil,oS,oS⟩,fun b=>by have:=hc b;omega,rfl,hz,Stp.refl w S _⟩
  ·rcases Ax2.1 hx with rfl|hx
   ·rfl
   exact AmV
  ·have:=Aa.raw (w:=w) (S:=S) (v:=.func (.yield l) #[] #[]) rfl (Aa.app hr (Pv (nt-(cs.length+1))) (c:=c) (fun b=>oS));simpa[hnt,hl]using this
 ·obtain ⟨st,σ,hq,hst⟩:=hq;have fin:(st=some n∨st=none)→LeavesInM (Fr none) 3 P fn a.tmps (fun e w'=>∃v st S' cg',e=.returned v∧(st=some n∨st=none)∧G st w' S' cg'∧(∀b,cg' b≤1)∧Sz w' S'∧Stp w S (fun b=>c b+cg b) w' S' cg') a.defers .returning w':=by intro hq;obtain⟨_,ms,S',c',cg',cm,hr',hg',hmk,h1,hd',hz',hs⟩:=hst;rw[hd'];refine K6 hG (st:=st) (σ:=σ) ms w' S' c' cg' cm hr' hg' hmk h1 hz' hs fun w2 hr2 hg2 hz2 hs2=> ?_;exact⟨_,results_none hrs _ _ _,_,st,S',cg',rfl,hq,hg2,fun b=>by have:=h1 b;omega,hz2,hs2.drop fun b=>om⟩
  exact AaC
end
end Go.Proofs.YtmophjggmekoeaaGreatDoor
namespace Go.Proofs.YtmophjggmekoeaaGreatDoor
open Go.RowKit
variable [Env]
section
variable {P : Program} {T : Bd} {Y : Nat → List AV → Prop} {l nt : Nat} {asl : List Nat} {Q : Exit → Option Nat → List AV → Prop} {st : Option Nat} {σ : List AV}
def ky2 (P:Program) (T:Bd) (l2:List CO) (Q:Exit→Option Nat→List AV→Prop) (st:Option Nat) (σ:List AV):Prop:=El P T (Q .normal st) l2 σ
def ky (P:Program) (T:Bd) (Y:Nat→List AV→Prop) (l:Nat) (d:Option Nat) (f:Operand) (args:List Operand) (l2:List CO) (Q:Exit→Option Nat→List AV→Prop) (st:Option Nat) (σ:List AV):Prop:=
 S4 Y l (aev σ f) (agrab σ args).1 (agrab σ args).2 d (ky2 P T l2 Q) st
def yc (Y:Nat→List AV→Prop) (l:Nat) (x:AV) (p:List AV×List AV) (d:Option Nat) (K:Option Nat→List AV→Prop) (st:Option Nat):Prop:=S4 Y l x p.1 p.2 d K st
theorem yB (c:CC):Ew P T Y l nt asl (.base c) Q st σ=Hj P T c (xst Q st) σ:=(rfl)
theorem Aen (x y:CG):Ew P T Y l nt asl (.seq x y) Q st σ=Ew P T Y l nt asl x (Qk (Ew P T Y l nt asl y Q) Q) st σ:=(rfl)
theorem nR (id:Nat) (c:CG):Ew P T Y l nt asl (.block id c) Q st σ=Ew P T Y l nt asl c (N4 id Q) st σ:=(rfl)
theorem yC (c:Operand) (x y:CG):Ew P T Y l nt asl (.cond c x y) Q st σ=ccq (aev σ c) (Ew P T Y l nt asl x Q st) (Ew P T Y l nt asl y Q st) σ:=by show Ny _ _ _=_;cases aev σ c<;>rfl
theorem yD (l1 l2:List CO) (d:Option Nat) (f:Operand) (args:List Operand):Ew P T Y l nt asl (.yreg l1 d f args l2) Q st σ=El P T (ky P T Y l d f args l2 Q st) l1 σ:=(rfl)
theorem Au8 (d:Option Nat) (f:Operand) (args:List Operand) (l2:List CO):ky P T Y l d f args l2 Q st σ=yc Y l (aev σ f) (agrab σ args) d (ky2 P T l2 Q) st:=(rfl)
theorem Aqo (l2:List CO):ky2 P T l2 Q st σ=El P T (Q .normal st) l2 σ:=(rfl)
def kyC (P:Program) (T:Bd) (Y:Nat→List AV→Prop) (l:Nat) (l2:List CO) (t:Nat) (want:Bool) (d':Option Nat) (f':Operand) (args':List Operand) (l3:List CO) (Q:Exit→Option Nat→List AV→Prop) (st:Option Nat) (σ:List AV):Prop:=El P T (kyB Y l P T t want d' f' args' l3 Q st) l2 σ
def kyA (P:Program) (T:Bd) (Y:Nat→List AV→Prop) (l:Nat) (d:Option Nat) (f:Operand) (args:List Operand) (l2:List CO) (t:Nat) (want:Bool) (d':Option Nat) (f':Operand) (args':List Operand) (l3:List CO) (Q:Exit→Option Nat→List AV→Prop) (st:Option Nat) (σ:List AV):Prop:=
 S4 Y l (aev σ f) (agrab σ args).1 (agrab σ args).2 d (kyC P T Y l l2 t want d' f' args' l3 Q) st
theorem nS (l1:List CO) (d:Option Nat) (f:Operand) (args:List Operand) (l2:List CO) (t:Nat) (want:Bool) (d':Option Nat) (f':Operand) (args':List Operand) (l3:List CO):Ew P T Y l nt asl (.yreg2 l1 d f args l2 t want d' f' args' l3) Q st σ=El P T (kyA P T Y l d f args l2 t want d' f' args' l3 Q st) l1 σ:=(rfl)
theorem Aqp (d:Option Nat) (f:Operand) (args:List Operand) (l2:List CO) (t:Nat) (want:Bool) (d':Option Nat) (f':Operand) (args':List Operand) (l3:List CO):kyA P T Y l d f args l2 t want d' f' args' l3 Q st σ=yc Y l (aev σ f) (agrab σ args) d (kyC P T Y l l2 t want d' f' args' l3 Q) st:=(rfl)
theorem Aqq (l2:List CO) (t:Nat) (want:Bool) (d':Option Nat) (f':Operand) (args':List Operand) (l3:List CO):kyC P T Y l l2 t want d' f' args' l3 Q st σ=El P T (kyB Y l P T t want d' f' args' l3 Q st) l2 σ:=(rfl)
theorem Aqr (t:Nat) (want:Bool) (d':Option Nat) (f':Operand) (args':List Operand) (l3:List CO):kyB Y l P T t want d' f' args' l3 Q st σ=kyG (σ.getD t .any) want (kyT Y l P T d' f' args' l3 Q st) (kyS P T d' l3 Q st) σ:=(rfl)
theorem Aqs (A B:List AV→Prop):kyG (.raw (.bool false)) false A B σ=A σ:=(rfl)
theorem Aqt (A B:List AV→Prop):kyG (.raw (.bool true)) false A B σ=B σ:=(rfl)
theorem Aqu (d':Option Nat) (f':Operand) (args':List Operand) (l3:List CO):kyT Y l P T d' f' args' l3 Q st σ=yc Y l (aev σ f') (agrab σ args') d' (ky2 P T l3 Q) st:=(rfl)
theorem Aqv (d':Option Nat) (l3:List CO):kyS P T d' l3 Q st σ=El P T (Q .normal st) l3 (aset σ d' (.tup [])):=(rfl)
theorem Aqw (e:Exit):xst Q st e σ=Q e st σ:=(rfl)
theorem Yt (K:Option Nat→List AV→Prop):Qk K Q .normal st σ=K st σ:=(rfl)
theorem yE (K:Option Nat→List AV→Prop):Qk K Q .ret st σ=Q .ret st σ:=(rfl)
theorem nT (K:Option Nat→List AV→Prop) (id:Nat):Qk K Q (.exit id) st σ=Q (.exit id) st σ:=(rfl)
theorem Yu (id:Nat):N4 id Q .normal st σ=Q .normal st σ:=(rfl)
theorem yF (id:Nat):N4 id Q .ret st σ=Q .ret st σ:=(rfl)
theorem nU (id:Nat):N4 id Q (.exit id) st σ=Q .normal st σ:=by simp [N4]
theorem Ae {id id':Nat} (h:id'≠id):N4 id Q (.exit id') st σ=Q (.exit id') st σ:=by simp [N4,h]
theorem nV (c:CG):Ew P T Y l nt asl (.scope c) Q st σ=Ew P T Y l nt asl c (sB Q) st σ:=(rfl)
theorem Yv:sB Q .normal st σ=Q .normal st σ:=(rfl)
theorem yG:sB Q .ret st σ=Q .ret st σ:=(rfl)
theorem AkS (rs:List ResultVar) (R:AV→Prop) (e:Exit):Au7 T rs R e st σ=kL T rs R e σ:=(rfl)
theorem eZ (n:Nat):Aqn n .normal st σ=(st=some n∨st=none):=(rfl)
theorem Aeo (n:Nat):Aqn n .ret st σ=(st=some n∨st=none):=(rfl)
theorem fB (K:List AV→Prop):AkQ K .normal σ=K σ:=(rfl)
theorem fC (L:Nat) (K:List AV→Prop) (Q:Exit→List AV→Prop):Aej asl L K Q .normal σ=(σ.length=L∧K (Yp asl σ)):=(rfl)
theorem Aep (L:Nat) (K:List AV→Prop) (Q:Exit→List AV→Prop):Aej asl L K Q .ret σ=(σ.length=L∧Q .ret (Yp asl σ)):=(rfl)
theorem AkT:Yp [] σ=σ:=rfl
theorem Aeq (s:Nat) (ss:List Nat):Yp (s::ss) σ=Yp ss (σ.set s .any):=rfl
theorem AkU (xs:List AV):pps [] xs σ=σ:=by cases xs<;>rfl
theorem Aer (p:Nat) (ps:List Nat) (x:AV) (xs:List AV):pps (p::ps) (x::xs) σ=pps ps xs (σ.set p x):=rfl
theorem J9 {k:Nat} {args σ':List AV} {d:Option Nat} {K:Option Nat→List AV→Prop} (h1:Y k args) (h2:K (some (k+1)) (aset σ' d (.raw (.bool true)))) (h3:K none (aset σ' d (.raw (.bool false)))):yc Y l (.raw (.func (.yield l) #[] #[])) (args,σ') d K (some k):=
 ⟨rfl,k,rfl,h1,h2,h3⟩
def rend (m:List Bool) (ss:List Nat) (R:Nat→List AV→Prop) (σ:List AV) (k:Nat) (σ2:List AV):Prop:=∃σ3,Wk σ2 σ3∧∃xs,R k xs∧σ3=D5 ss xs (I2 m σ)
theorem H1 {x:Operand} {ps:List Nat} {asg bdy:CC} (m:List Bool) (ss:List Nat) (R:Nat→List AV→Prop) {g:Nat} {cs:List AV} {n:Nat} {Y':Nat→List AV→Prop} (hlen:σ.length≤nt) (hx:Aei (aev σ x) g cs) (hi:Qj P g cs n Y') (start:∃xs,R 0 xs∧Wk σ (D5 ss xs (I2 m σ)))
 (round:∀k args xs,Y' k args→R k xs→args.length=ps.length∧args.all pb=true∧Hj P T asg (AkQ (Hj P T bdy (Aej asl σ.length (rend m ss R σ (k+1)) (xst Q st)))) (pps ps args (D5 ss xs (I2 m σ))))
 (done:∀xs,R n xs→Q .normal st (D5 ss xs (I2 m σ))):Ew P T Y l nt asl (.range x ps asg bdy) Q st σ:=by
 obtain⟨xs0,h0,hw0⟩:=start;refine⟨g,cs,n,Y',hlen,hx,hi,fun k σ'=>∃xs,R k xs∧σ'=D5 ss xs (I2 m σ),⟨_,hw0,xs0,h0,rfl⟩,?_,?_⟩
 ·rintro k args σ1 hY ⟨xs,hR,rfl⟩;exact round k args xs hY hR
 ·rintro σ1 ⟨xs,hR,rfl⟩;exact done xs hR
theorem L6 {m:List Bool} {ss:List Nat} {R:Nat→List AV→Prop} {k:Nat} {σ2:List AV} (xs:List AV) (hR:R k xs) (hw:Wk σ2 (D5 ss xs (I2 m σ))):rend m ss R σ k σ2:=⟨_,hw,xs,hR,rfl⟩
def Aog (m:List Bool) (ss:List Nat) (R:Nat→Option Nat→List AV→Prop) (σ:List AV) (n:Nat) (st2:Option Nat) (σ2:List AV):Prop:=∃k σ3,k<n∧Wk σ2 σ3∧∃xs,R k st2 xs∧σ3=D5 ss xs (I2 m σ)
theorem Fo {c:CG} (m:List Bool) (ss:List Nat) (R:Nat→Option Nat→List AV→Prop) (start:∃n xs,R n st xs∧Wk σ (D5 ss xs (I2 m σ)))
 (round:∀n st xs,R n st xs→Ew P T Y l nt asl c (Qk (Aog m ss R σ n) Q) st (D5 ss xs (I2 m σ))):Ew P T Y l nt asl (.loop c) Q st σ:=by
 obtain⟨n0,f0,h0,hw0⟩:=start;refine⟨fun n st σ'=>∃xs,R n st xs∧σ'=D5 ss xs (I2 m σ),⟨n0,_,hw0,f0,h0,rfl⟩,?_⟩;rintro n st σ1 ⟨f,hR,rfl⟩;exact round n st f hR
theorem Cn {m:List Bool} {ss:List Nat} {R:Nat→Option Nat→List AV→Prop} {n:Nat} {st2:Option Nat} {σ2:List AV} (k:Nat) (xs:List AV) (hm:k<n) (hR:R k st2 xs) (hw:Wk σ2 (D5 ss xs (I2 m σ))):Aog m ss R σ n st2 σ2:=⟨k,_,hm,hw,xs,hR,rfl⟩
end
attribute [go_sem] nS Aqp Aqq Aqr Aqs Aqt Aqu Aqv nV Yv yG yB Aen nR yC yD Au8 Aqo Aqw Yt yE nT Yu yF nU AkS eZ Aeo fB fC Aep AkT Aeq AkU Aer
attribute [go_sem] Dc sD Yq Aek sC
end Go.Proofs.YtmophjggmekoeaaGreatDoor
