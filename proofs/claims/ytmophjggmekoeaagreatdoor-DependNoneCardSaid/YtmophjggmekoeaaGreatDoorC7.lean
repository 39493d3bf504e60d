/- Rows in operations; regions in the order of the text. -/
import Derived.Test.YtmophjggmekoeaaGreatDoorC6
set_option linter.all false
namespace Go.Proofs.YtmophjggmekoeaaGreatDoor
open Go.RowKit
variable [Env]
variable {dfs : List Deferred}
section
variable {P : Program} {T : Bd} {w : World} {S : Nat → Nat}
variable {w0 : World} {S0 c0 : Nat → Nat} {σ : List AV} {a : Act} {K : List AV → Prop} {Q : Exit → Act → World → Prop} {o : Oper}
theorem Uw {t0 e e' k t s:Nat} {xs:List AV} {y:Operand} {c:Call} {i j:TI} (ho:o.op=.call c) (hc:c.callee=.builtin .append) (hca:c.args= #[.tmp t,y]) (hct:c.argTypes= #[t0,t0]) (hi:Cx P t0 i) (he:i.td.elem=some e) (hj:Cx P e j)
 (hst:A3 dfs w0 S0 c0 σ a w) (hrb:Ft σ t=some (s,e',k,xs)) (h:Lz σ e j t s e' k xs y o.dst K):o.wp P a w (fun a' w'=>∃σ',K σ'∧A3 dfs w0 S0 c0 σ' a' w') Q:=by
 obtain⟨inf,z,d,g1,gz,gzz,g4,_,g6,g7⟩:=hi.get;obtain⟨inf2,z2,d2,f1,fz,fzz,f4,f5,f6,f7⟩:=hj.get;have hd':d=.slice e:=D3 (P:=P) (by rw[g7];exact he);subst hd';unfold Lz at h;split at h
 ·rename_i ys d hy hdst;obtain⟨rfl,rfl,hsz,hzl,hmax,hby,hnr,hK⟩:=h;obtain⟨hrf,S,c',hr,h1,hd,hz,hs⟩:=hst;obtain⟨v,cx,cr,hev,hvs,hxr,_,hcc,hr1,hrf1,_,_⟩:=Ns hr hrf hrb;generalize hσ1:(σ.set s .any).set t .any=σ1 at *;obtain⟨cy,hyr⟩:=Ar hr y;obtain⟨B,cc,cv,c0',eY,hky,hcv,hz0,honey,hmemy⟩:=Xq hyr hy;have hcvl:=hcv.length;have hfly:=C8 hky
  have hwp:∀{v:Value} {w':World},(Builtin.append_ #[t0,t0] o.type #[a.eval (.tmp t),a.eval y]).run P w=.ok v w'→∀{next:Act→World→Prop},next (a.put o.dst v) w'→o.wp P a w next Q:=by
   intro v w' hrun next hn
   refine Ao (v:=v) (w':=w') ?_ hn;unfold execOp;simp only[ho,resolve,hc,hca,hct,invoke,builtin,Sem.run_bind,Sem.run_pure,Result.andThen_ok,AyS,Axx,Axv,hrun]
  have fresh:∀(xcells:List Value) (newcap:Nat) (v:Value),Aa w S (flat xs) xcells (fun _=>0)→(∀u∈xcells,u.oneCell'=true)→(∀x∈xs,(cellsOf x).length=j.size)→xs.length+ys.length≤newcap→newcap≤maxLen→
   v=.slice (some ⟨w.heap.size,0,none⟩) (xs.length+ys.length) newcap→
   A3 dfs w0 S0 c0 (σ1.set d (.row e' j.size (xs++ys))) (a.put (some d) v) (w.drew.alloc (.cells (xcells.toArray++cv.toArray++Builtin.zeroCells z2.cells (newcap-(xs.length+ys.length))) e')):=by
   intro xcells newcap v hxc hone hkx hcap hcm hv;have hxl:=hxc.length;have hflx:=C8 hkx;have hz2l:z2.cells.size=j.size:=by have:=congrArg List.length fzz;simp at this;omega
   have hflat:=Fs xs ys;have hxw:Aa w.drew S (flat xs) xcells (fun _=>0):=hxc.keep (fun _ _ _=>rfl) (fun _=>Axu _) (fun _ _=>⟨rfl,rfl⟩);have hyw:Aa w.drew S (flat ys) cv c0':=hcv.keep (fun _ _ _=>rfl) (fun _=>Axu _) (fun _ _=>⟨rfl,rfl⟩);have hrw:Aa w.drew S σ1 a.tmps.toList cr:=hr1.keep (fun _ _ _=>rfl) (fun _=>Axu _) (fun _ _=>⟨rfl,rfl⟩);generalize hcur:(xcells.toArray++cv.toArray++Builtin.zeroCells z2.cells (newcap-(xs.length+ys.length)))=cur;have hcl:cur.toList=xcells++cv++(Builtin.zeroCells z2.cells (newcap-(xs.length+ys.length))).toList:=by rw[←hcur];simp
   have htake:cur.toList.take ((xs++ys).length*j.size)=xcells++cv:=by exact AoE
   have hk:=Stp.alloc (w:=w.drew) (c:=fun _=>0) (S:=S) hz.drew (.cells cur e') 0;have hboth:=(Aa.app hxw hyw (c:=c0') (fun b=>oS)).step hk (fun b=>by rw[hz0 b];simp);rw[hv];refine A3.newrow (w:=w.drew) hrf1 hnr h1 hr.lt hd hz.drew (hs.trans Stp.drew) hrw (c1:=fun _=>0) ?_ (fun b=>by rw[hcc];omega);have hlen:xs.length+ys.length=(xs++ys).length:=oS;rw[hlen];refine .row (cap:=newcap) (cur:=cur) (c0:=c0') (c2:=fun _=>0) om hcm (fun x hx=> ?_) (heap_alloc_new _ _) ?_ (by simp [upd]) ?_ hz0 ?_ (.nil Al) (fun x=>rfl)
   ·exact Aif
   ·exact Ao5
   ·exact Qd
   ·exact Aib
  rw[hdst]at hwp;have hlim:xs.length+ys.length≤maxLen:=by unfold maxLen;omega
  by_cases hye:ys=[]
  ·subst hye;obtain⟨A,cap,e1,hn,_⟩:=qV hxr;have hrun:=R3 (P:=P) (w:=w) t0 o.type e' inf2 g6 f1 A _ cap hn B cc;have heY:a.eval y=.slice B 0 cc:=eY;rw[←e1,←heY,←hev]at hrun;refine hwp hrun ⟨_,hK,?_⟩;rw[hev,AxF];exact A3.putrow hrf1 hnr h1 hd hz hs hr1 hxr (fun b=>by rw[hcc];omega)
  ·obtain ⟨ad,hB,hsp,hmem⟩:=hmemy hye;subst hB;have hm0:0<ys.length:=AyW.2 hye;have hcvs:cv.length=ys.length*inf2.size:=by rw[f4];omega
   cases hxr with
   |rowE hnil=>have hrun:=run_append_nil (P:=P) w t0 o.type e' inf2 z2 g6 f1 fz ad ys.length cc cv hcvs hmem hm0 (by simp only[Axq]at hmax;omega) (by rw[f5];simp only[Axq,Ayc]at hby;omega);rw[←hev,←eY]at hrun;have hge:=grownCap_ge w ys.length 0 e';have hle:=grownCap_le_maxLen w ys.length 0 e' (by simpa using hlim);have:=fresh [] (grownCap w ys.length 0 e') _ (.nil Al) oS oS (by simpa using hge) hle rfl;simp only[Axq,Ayc]at this;have e0:([]:List Value).toArray++cv.toArray++Builtin.zeroCells z2.cells (grownCap w ys.length 0 e'-ys.length)=cv.toArray++Builtin.zeroCells z2.cells (grownCap w ys.length 0 e'-ys.length):=oS;rw[e0]at this;exact hwp hrun ⟨_,hK,this⟩
   |row hn hcap hk hb hsz' hS h1c h0c hoc hnil hcnt=>
    rename_i g cap cur ccc c2;cases hnil with|nil hzz=>
    have hcurl:(cur.toList.take (xs.length*j.size)).length=xs.length*j.size:=by exact AnI
    by_cases hroom:xs.length+ys.length≤cap
    ·have hfit:xs.length*inf2.size+cv.length≤cur.size:=by
      exact AmO
     have hrun:=run_append_room (P:=P) w t0 o.type e' inf2 g6 f1 g xs.length cap cur hb ad ys.length cc cv hcvs hmem honey hroom hfit;rw[←hev,←eY]at hrun;rw[f4]at hrun hfit;generalize hnew:(cur.toList.take (xs.length*j.size)++cv++cur.toList.drop (xs.length*j.size+cv.length)).toArray=new at hrun;have hnl:new.toList=cur.toList.take (xs.length*j.size)++cv++cur.toList.drop (xs.length*j.size+cv.length):=by rw[←hnew]
     have hpre:∀o',o'<S g→new[o']? =cur[o']? :=by intro o' ho';rw[hS]at ho';omega
     have hcg:∀x,cx x=(if x=g then 1 else 0):=fun x=>by rw[hcnt,hzz x];omega
     have hle:S g≤0:=by rw[hS];exact Axu _
     have hk1:=Stp.row (S:=S) (c:=cx) (s:=0) (new:=new) hb (by rw[hcg];simp) hpre hle;have hk2:=Stp.row (S:=S) (c:=c') (s:=0) (new:=new) hb (by rw[hcc,hcg];simp) hpre hle;have hr3:=hr1.step hk1 (fun b=>by rw[AyV,←hcc];exact h1 b);have hflat:=Fs xs ys;have hboth:=(Aa.app h1c hcv (c:=fun b=>ccc b+c0' b) (fun b=>rfl)).step hk1 (fun b=>by rw[h0c b,hz0 b,hcg];split<;>omega);have htake:new.toList.take ((xs++ys).length*j.size)=cur.toList.take (xs.length*j.size)++cv:=by exact Am4
     refine hwp hrun ⟨_,hK,A3.putrow hrf1 hnr h1 hd (hz.row hb hk2) (hs.trans hk2) hr3 (c1:=cx) ?_ (fun b=>by rw[hcc];omega)⟩;have hlen:xs.length+ys.length=(xs++ys).length:=oS;rw[hlen];refine .row (cur:=new) (c0:=fun b=>ccc b+c0' b) (c2:=fun _=>0) om hcap (fun x hx=> ?_) (setRow_heap w g cur new e' (0,0) hb) ?_ (by simp [upd]) ?_ (fun b=>by show ccc b+c0' b=0;rw[h0c b,hz0 b]) ?_ (.nil Al) (fun x=>by rw[hcg];simp)
     ·exact Aig
     ·exact qI
     ·exact Qd
     ·exact Aic
    ·have holds:∀jj u,(cur.toList.take (xs.length*j.size))[jj]? =some u→w.cell? ((⟨g,0,none⟩:Addr).add jj)=some u:=by
      exact AoC
     have hrun:=run_append_grow (P:=P) w t0 o.type e' inf2 z2 g6 f1 fz ⟨g,0,none⟩ xs.length cap (cur.toList.take (xs.length*j.size)) (by rw[f4];exact hcurl) holds ad ys.length cc cv hcvs hmem om om (growslice_fits om (by rw[f5];exact hby));rw[←hev,←eY]at hrun;have hge:=grownCap_ge w (xs.length+ys.length) cap e';have hle:=grownCap_le_maxLen w (xs.length+ys.length) cap e' hlim;exact Aa2
 ·exact Ad
theorem cH {x:Operand} {i:Nat} {y:AV} (h:(amv σ x)[i]? =some y) (hp:pb y=false):σ[i]? =some y:=by
 cases x with
 |tmp t=>
  simp only[amv]at h;revert h;generalize σ.getD t .any=v;intro h;have key:∀z,pb z=true→(σ.set t z)[i]? =some y→σ[i]? =some y:=fun z hz h=>(Af h (by rintro rfl;rw[hp]at hz;cases hz)).2
  cases v<;>simp only[Mn]at h<;>first
   |exact h
   |exact key _ Ra h
 |_=>exact h
theorem M4:∀(xs:List Operand) {σ:List AV} {i:Nat} {y:AV},(agrab σ xs).2[i]? =some y→pb y=false→σ[i]? =some y
 |[],σ,i,y,h,hp=>h
 |x::xs,σ,i,y,h,hp=>cH (M4 xs h hp) hp
theorem cI {g t s e k:Nat} {es:List AV} {rest:List Operand} {c:Call} (ho:o.op=.call c) (hc:c.callee=.value (.func g)) (hca:c.args.toList=.tmp t::rest) (hst:A3 dfs w0 S0 c0 σ a w) (hrb:Ft σ t=some (s,e,k,es))
 (h:R5 P σ g s e k es rest o.dst K):o.wp P a w (fun a' w'=>∃σ',K σ'∧A3 dfs w0 S0 c0 σ' a' w') Q:=by
 obtain⟨hds,⟨fn,code,hfn,hbody,hname⟩,_,hcall⟩:=h;obtain⟨hrf,S,cc,hr,h1,hd,hz,hs⟩:=hst;obtain⟨v,cx,cr,hev,hvs,hxr,hr1,hcc,_,_,hrf1,hsl⟩:=Ns hr hrf hrb;obtain⟨c1,c2,hv,hr2,hc12⟩:=Nm rest hr1;have hargs0:=Aa.cons hxr hv (c:=fun b=>cx b+c1 b) (fun b=>rfl);have hrun:=Es (P:=P) hfn hname hbody (c.args.map a.eval) w;have hargs:(v::rest.map a.eval).toArray=c.args.map a.eval:=by apply Array.ext';simp [hca,hev]
 have:=hcall w S v _ _ hz hargs0 (fun b=>by have:=h1 b;have:=hcc b;have:=hc12 b;show cx b+c1 b≤1;omega);rw[hargs]at this;have hexec:(execOp a.eval o).run P w=.ok (.enter g (c.args.map a.eval)) w:=by unfold execOp;simp [ho,resolve,hc,Act.eval,Deferred.ofValue,invoke,hrun]
 unfold Oper.wp;rw[hexec,Oper.upon_enter];refine this.mono fun e' w' ⟨u,r,y,S',c',he,hR,hpb,hy,hrr,hc1,hz',hstp⟩=> ?_;subst he;have hr3:=hr2.step hstp (fun b=>by have:=h1 b;have:=hcc b;have:=hc12 b;show c2 b+(cx b+c1 b)≤1;omega);have hfr:=hstp.frame (c:=cc) (c2:=c2) (fun b=>by have:=hcc b;have:=hc12 b;show cc b=cx b+c1 b+c2 b;omega);obtain⟨vr,us,d1,d2,hvu,hrr1,hrr2,hdd⟩:=hrr.uncons;injection hvu with e1 e2;subst e1;subst e2;have hlen2:(agrab (σ.set s .any) rest).2.length=σ.length:=by have:=hr2.length;have:=hr.length;omega
 obtain⟨cb,hrb2,hle⟩:=hr3.put hrr2 s om;rw[Ak hvs]at hrb2
 have hrfb:RefOk ((agrab (σ.set s .any) rest).2.set s y) a.tmps.toList:=by
  rcases hy with rfl|⟨e',k',es',rfl⟩
  ·exact (hrf1.agrab rest).less s rfl
  ·have hbase:=(R6 hr hrf hrb).1;have back:∀{i:Nat} {x:AV},(agrab (σ.set s .any) rest).2[i]? =some x→pb x=false→σ[i]? =some x:=fun h hp=>(Af (M4 rest h hp) (by rintro rfl;cases hp)).2;refine⟨fun i s2 off T2 cs2 hi hs2=> ?_,fun i s2 e2 k2 es2 hi hs2=> ?_,fun i s2 k3 j o e2 k2 es2 hi hs2=> ?_⟩
   ·obtain ⟨n1,g1⟩:=Af hi (by intro h;cases h);obtain⟨n2,g2⟩:=Af hs2 (by intro h;cases h);exact hrf.ref i s2 off T2 cs2 (back g1 rfl) (back g2 rfl)
   ·obtain ⟨n1,g1⟩:=Af hi (by intro h;cases h);by_cases hss:s=s2
    ·subst hss;exact hrf.al i s _ _ _ (back g1 rfl) hbase
    ·rw [Ag hss]at hs2;exact hrf.al i s2 _ _ _ (back g1 rfl) (back hs2 rfl)
   ·obtain ⟨n1,g1⟩:=Af hi (by intro h;cases h);by_cases hss:s=s2
    ·subst hss;exact hrf.pr i s k3 j o _ _ _ (back g1 rfl) hbase
    ·rw [Ag hss]at hs2;exact hrf.pr i s2 k3 j o _ _ _ (back g1 rfl) (back hs2 rfl)
 refine⟨_,hR,A3.value (c:=fun b=>c' b+c2 b) hrfb hpb ?_ hd hz' (hs.trans hfr) hrb2 hrr1 (fun b=>by have:=hle b;have:=hdd b;omega) _⟩;intro b;show c' b+c2 b≤1;have:=h1 b;have:=hcc b;have:=hc12 b;have:=hc1 b;rcases Axz b w.heap.size with hb|hb
 ·have h5:=hstp.own b hb;have h6:c' b≤cx b+c1 b:=h5;omega
 ·have:c2 b=0:=by
   exact Aa9
  omega
theorem Abb {S:Nat→Nat} {x:AV} {v:Value} {c:Nat→Nat} {pos:Bool} {K:AV→Prop} (h:Aa w S [x] [v] c) (hx:Vs pos K x):∃A n cap,v=.slice A n cap∧K (.raw (.bool (if A.isNone then pos else !pos))):=by
 cases h with
 |nilS h=>exact⟨_,_,_,rfl,hx⟩
 |slE hcap h=>
  rename_i k a cap
  cases a with
  |none=>exact⟨_,_,_,rfl,hx.1 rfl⟩
  |some a=>exact⟨_,_,_,rfl,hx.2⟩
 |sl hn hcap hsp hk h1 h0 hcell hst h=>exact⟨_,_,_,rfl,hx.2⟩
 |ownE h=>exact⟨_,_,_,rfl,hx.1 rfl⟩
 |own hn hcap hk hb hs' hS h1 h0 hoc h hcc=>exact⟨_,_,_,rfl,hx.2⟩
 |mineE h=>exact⟨_,_,_,rfl,hx.1 rfl⟩
 |mine hn hcap hk hb hs' hS h1 h0 hoc h hcc=>exact⟨_,_,_,rfl,hx.2⟩
 |_=>exact hx.elim
theorem tU (hT:Am P T) {t:Nat} (h:tT (T t)=true):∃e,P.underlying t=some (.slice e):=by
 unfold tT at h;split at h
 ·rename_i i hi;obtain⟨inf,z,d,g1,gz,gzz,g4,_,g6,g7⟩:=(hT t i hi).get;obtain⟨e',he'⟩:=Option.isSome_iff_exists.1 h;have hd':d=.slice e':=D3 (P:=P) (by rw[g7];exact he');exact⟨e',by rw[←hd'];exact g6⟩
 ·cases h
theorem jS (hT:Am P T) {op:BinOp} {t t':Nat} {x y:Operand} (ho:o.op=.binOp op t x y t') (hst:A3 dfs w0 S0 c0 σ a w) (h:jR T op t (aev σ x) (aev σ y) fun z=>K (aset σ o.dst z)):
 o.wp P a w (fun a' w'=>∃σ',K σ'∧A3 dfs w0 S0 c0 σ' a' w') Q:=by
 unfold jR at h;split at h
 ·rename_i hy;obtain⟨hrf,S,c,hr,h1,hd,hz,hs⟩:=hst;obtain⟨cx,hrx⟩:=Ar hr x;obtain⟨cy,hry⟩:=Ar hr y;rw[hy]at hry;have e2:a.eval y=.slice none 0 0:=by generalize a.eval y=v at hry;cases hry with|nilS h=>rfl
  have key:∀(op:BinOp) (pos:Bool),o.op=.binOp op t x y t'→tT (T t)=true→Vs pos (fun z=>K (aset σ o.dst z)) (aev σ x)→
   (∀(A:Option Addr) (n cap e:Nat),P.underlying t=some (.slice e)→(binOp op t (.slice A n cap) (.slice none 0 0)).run P w=.ok (.bool (if A.isNone then pos else !pos)) w)→
   o.wp P a w (fun a' w'=>∃σ',K σ'∧A3 dfs w0 S0 c0 σ' a' w') Q:=by
   intro op pos ho hel hnil hrun;obtain⟨e,he⟩:=tU hT hel;obtain⟨A,n,cap,e1,hK⟩:=Abb hrx hnil;have hg:∀(p q:Operand),(eqGuard op t p q (.slice A n cap) (.slice none 0 0)).run P w=.ok () w:=by intro p q;unfold eqGuard;split<;>simp
   refine Ao (v:=.bool (if A.isNone then pos else !pos)) (w':=w) ?_ ⟨_,hK,A3.value hrf rfl h1 hd hz hs hr (c1:=fun _=>0) (C2 rfl Al) (fun b=>om) _⟩;unfold execOp;simp only[ho,e1,e2,hg,hrun A n cap e he,Sem.run_bind,Result.andThen_ok];rfl
  cases op<;>simp only[]at h<;>try exact h.elim
  ·refine key .eql true ho h.1 h.2 fun A n cap e he=> ?_;rw[Lib.run_eql_slice_nil w t e A n cap 0 0 he];cases A<;>rfl
  ·refine key .neq false ho h.1 h.2 fun A n cap e he=> ?_;have hb:binOp .neq t (.slice A n cap) (.slice none 0 0)=(do pure (.bool (!(←Op.equal t (.slice A n cap) (.slice none 0 0))))):=rfl;have he':(Op.equal t (.slice A n cap) (.slice none 0 0)).run P w=.ok A.isNone w:=by simp [Op.equal,Op.maxDepth,Lib.run_equalIn_slice_nil w 9999 t e A n cap 0 0 he]
   rw[hb];simp only[Sem.run_bind,he',Result.andThen_ok,Sem.run_pure];cases A<;>rfl
 ·exact Vq hT ho hst h
theorem jT (hT:Am P T) {t n:Nat} {ps:Array (Nat×Operand)} (ho:o.op=.buildSlice t n ps) (hps:ps.toList=[]) (hst:A3 dfs w0 S0 c0 σ a w) (h:Aba T t n fun z=>K (aset σ o.dst z)):
 o.wp P a w (fun a' w'=>∃σ',K σ'∧A3 dfs w0 S0 c0 σ' a' w') Q:=by
 unfold Aba at h;split at h
 ·rename_i i hi;split at h
  ·rename_i e he;split at h
   ·rename_i j hj;obtain⟨rfl,hK⟩:=h;obtain⟨inf,z,d,g1,gz,gzz,g4,_,g6,g7⟩:=(hT t i hi).get;obtain⟨inf2,z2,d2,f1,fz,fzz,f4,_,f6,f7⟩:=(hT e j hj).get;have hd':d=.slice e:=D3 (P:=P) (by rw[g7];exact he);subst hd';obtain⟨hrf,S,c,hr,h1,hd,hz,hs⟩:=hst;have hsz2:(sizeOf e).run P w=.ok j.size w:=by simp [sizeOf,typeInfo,f1,f4]
    have hpe:ps= #[]:=by apply Array.ext';simpa using hps
    refine Ao (w':=w.alloc (.cells #[] e)) (v:=.slice (some ⟨w.heap.size,0,none⟩) 0 0) ?_ ⟨_,hK,A3.new (s:=0) hrf rfl h1 hr.lt hd hz hs hr (c1:=fun _=>0) ?_ (fun b=>by show 0+c b≤c b;omega) _⟩
    ·unfold execOp;simp only[ho,hpe,Instr.buildSlice,Sem.run_bind,run_underlying g6,Result.andThen_ok,hsz2];have hr0:∀f:Nat→Value,Array.map f (Array.range 0)= #[]:=fun f=>by apply Array.ext';simp
     simp [Instr.fill,newRow,hr0]
    ·exact .mine (es:=[]) (cur:= #[]) (c0:=fun _=>0) (c2:=fun _=>0) (Axu _) oD (fun x hx=>by simp at hx) (heap_alloc_new w _) oS (by simp [upd]) (by simp only[flat,Axq,Nat.zero_mul,AxI];exact .nil Al) Al oS (.nil Al) (fun x=>oS)
   ·exact Ad
  ·exact Ad
 ·exact Ad
theorem qW {k:Nat}:∀{es:List AV} {j:Nat} (off n:Nat),(∀x∈es,(cellsOf x).length=k)→j<es.length→off+n≤k→pcells (flat es) (j*k+off) n=pcells (cellsOf (es.getD j .any)) off n
 |[],j,off,n,_,h,_=>by simp at h
 |x::es,j,off,n,hk,hj,ho=>by
  have hx:=hk x oS
  cases j with
  |zero=>simp only[pcells,flat,Nat.zero_mul,Ayc,List.getD_cons_zero];rw[Ay5 om,Ayo (by simp;omega)]
  |succ j=>have ih:=qW (es:=es) (j:=j) off n (fun y hy=>hk y (by simp [hy])) (by simpa using hj) ho;rw[List.getD_cons_succ,←ih];simp only[pcells,flat];rw[show(j+1)*k+off=(cellsOf x).length+(j*k+off) by rw[hx,Ayh];omega,←Ay2,List.drop_left]
theorem cJ {k:Nat}:∀{es:List AV} {j:Nat} {el:AV} (off n:Nat) (ys:List AV),(∀x∈es,(cellsOf x).length=k)→j<es.length→off+n≤k→cellsOf el=pleft (cellsOf (es.getD j .any)) off n ys→pleft (flat es) (j*k+off) n ys=flat (es.set j el)
 |[],j,el,off,n,ys,_,h,_,_=>by simp at h
 |x::es,j,el,off,n,ys,hk,hj,ho,he=>by
  have hx:=hk x oS
  cases j with
  |zero=>rw[List.getD_cons_zero]at he;simp only[Aye,flat,he,pleft,Nat.zero_mul,Ayc];rw[Ayo om,Ay5 om];simp only[AxS]
  |succ j=>rw[List.getD_cons_succ]at he;have ih:=cJ (es:=es) (j:=j) (el:=el) off n ys (fun y hy=>hk y (by simp [hy])) (by simpa using hj) ho he;simp only[Ayf,flat];rw[←ih];simp only[pleft];rw[show(j+1)*k+off=(cellsOf x).length+(j*k+off) by rw[hx,Ayh];omega];rw[show(cellsOf x).length+(j*k+off)+n=(cellsOf x).length+(j*k+off+n) by omega,←Ay2,List.drop_left];rw[List.take_append,Axw om,show(cellsOf x).length+(j*k+off)-(cellsOf x).length=j*k+off by omega];simp only[AxS]
theorem cK {d s k j off b n cap:Nat} (hod:o.dst=some d) (hst:A3 dfs w0 S0 c0 σ a w) (hsd:s≠d) (hv:a.tmps.toList[s]? =some (.slice (some ⟨b,0,none⟩) n cap))
 (hrun:(execOp a.eval o).run P w=.ok (.value (.pointer (some ⟨b,j*k+off,none⟩))) w) (hK:K (σ.set d (.pref s k j off))):o.wp P a w (fun a' w'=>∃σ',K σ'∧A3 dfs w0 S0 c0 σ' a' w') Q:=by
 obtain⟨hrf,S,c,hr,h1,hd,hz,hs⟩:=hst;refine Ao (v:=.pointer (some ⟨b,j*k+off,none⟩)) (w':=w) hrun ⟨_,hK,?_⟩;rw[hod];obtain⟨c',h2,h3⟩:=hr.aset (Aa.pref (s:=s) (k:=k) (j:=j) (o:=off) (v:=.pointer (some ⟨b,j*k+off,none⟩)) (.nil Al)) (some d);exact⟨by rw[E2];exact hrf.newpref hsd hv hr.length,S,c',h2,fun b=>by have:=h1 b;have:=h3 b;omega,by rw[put_defers];exact hd,hz,hs.drop fun b=>by have:=h3 b;omega⟩
theorem tV (hT:Am P T) {t q s e k:Nat} {y:Operand} {es:List AV} (ho:o.op=.indexAddr t (.tmp q) y) (hst:A3 dfs w0 S0 c0 σ a w) (hrb:Ft σ q=some (s,e,k,es)) (h:M3 T t s k es.length (aev σ y) o.dst σ K):
 o.wp P a w (fun a' w'=>∃σ',K σ'∧A3 dfs w0 S0 c0 σ' a' w') Q:=by
 unfold M3 at h;split at h
 ·rename_i i hi;split at h
  ·rename_i e' he;split at h
   ·rename_i j hj;unfold cG at h;split at h
    ·rename_i kk m d hy hod;obtain⟨hk,h0,hm,hsd,hK⟩:=h;have hst':=hst;obtain⟨hrf,S,c,hr,_⟩:=hst;obtain⟨inf,zz,dd,g1,_,_,g4,_,g6,g7⟩:=(hT t i hi).get;have hd:dd=.slice e':=D3 (P:=P) (by rw[g7];exact he);subst hd;obtain⟨inf2,_,_,g1',_,_,g4',_⟩:=(hT e' j hj).get;have hsz2:(sizeOf e').run P w=.ok j.size w:=by simp [sizeOf,typeInfo,g1',g4']
     obtain⟨cy,hry⟩:=Ar hr y;rw[hy]at hry;have e2:=(Ay hry).1;obtain⟨v,cx,cr,hev,hvs,hxr,_⟩:=Ns hr hrf hrb;have hne:es≠[]:=by intro h;subst h;simp at hm
     cases hxr with
     |rowE h=>exact absurd rfl hne
     |row hn hcap hkk hb hs' hS hx1 h0' hoc h hcc=>rename_i b cap cur d0 d2;refine cK (k:=k) (j:=m.toNat) (off:=0) hod hst' hsd hvs ?_ hK;have hb1:m<(es.length:Int):=om;unfold execOp;simp only[ho,hev,e2,Instr.indexAt,Sem.run_bind,asIntOf,Sem.run_pure,Result.andThen_ok,run_underlying g6,h0,hb1,and_self,if_true,hsz2,hk,Hr,Ayc,AyT]
    ·exact Ad
   ·exact Ad
  ·exact Ad
 ·exact Ad
theorem qX {q s k j off e k':Nat} {es:List AV} {c:Nat→Nat} (hr:Aa w S σ a.tmps.toList c) (hrf:RefOk σ a.tmps.toList) (hq:σ.getD q .any=.pref s k j off) (hx:σ.getD s .any=.row e k' es):
 ∃b n cap,a.tmps.toList[s]? =some (.slice (some ⟨b,0,none⟩) n cap)∧a.eval (.tmp q)=.pointer (some ⟨b,j*k+off,none⟩):=by
 obtain⟨b,n,cap,h1,h2⟩:=hrf.pr q s k j off e k' es (A4 hr hq oS) (A4 hr hx oS);exact⟨b,n,cap,h1,Ck h2⟩
theorem jU {t q s k j off f:Nat} {i:TI} (ho:o.op=.fieldAddr t (.tmp q) f) (hi:Cx P t i) (hst:A3 dfs w0 S0 c0 σ a w) (hq:σ.getD q .any=.pref s k j off) (h:Pm i.td.flds[f]? (σ.getD s .any) s k j off o.dst σ K):
 o.wp P a w (fun a' w'=>∃σ',K σ'∧A3 dfs w0 S0 c0 σ' a' w') Q:=by
 unfold Pm at h;split at h
 ·rename_i fo n ag e k' es d hfl hx hod;obtain⟨hn,hsd,hK⟩:=h;obtain⟨fs,fd,hu,hfd,hoff,hsz,hag⟩:=Ly hi hfl;have hst':=hst;obtain⟨hrf,S,c,hr,_⟩:=hst;obtain⟨b,n',cap,h1,h2⟩:=qX hr hrf hq hx;refine cK (k:=k) (j:=j) (off:=off+fo) hod hst' hsd h1 ?_ hK;unfold execOp;simp [ho,h2,Instr.fieldAt,run_underlying hu,hfd,Instr.sureAddr,jM hsz hn,Hr,hoff,Nat.add_assoc]
 ·exact Ad
theorem jV {t q s k j off:Nat} {i:TI} (ho:o.op=.load t (.tmp q)) (hi:Cx P t i) (hst:A3 dfs w0 S0 c0 σ a w) (hq:σ.getD q .any=.pref s k j off) (h:Qw i (σ.getD s .any) k j off o.dst σ K):
 o.wp P a w (fun a' w'=>∃σ',K σ'∧A3 dfs w0 S0 c0 σ' a' w') Q:=by
 unfold Qw at h;split at h
 ·rename_i e k' es hx;obtain⟨rfl,hj,hoff,hK⟩:=h;obtain⟨hrf,S,c,hr,h1,hd,hz,hs⟩:=hst;obtain⟨b,n,cap,hv,hev⟩:=qX hr hrf hq hx;obtain⟨v,d1,d2,hv',hxr,hr2,hcc⟩:=hr.take s (A4 hr hx oS);rw[hv]at hv';injection hv' with hv';subst hv'
  cases hxr with
  |row hn hcap hkk hb hs' hS hx1 h0 hoc hnil hcc'=>
   rename_i cur e0 e2;have hfl:=qW off (lsz i) hkk hj hoff;have hlen:(flat es).length=es.length*k':=C8 hkk;obtain⟨p1,hp,hple⟩:=hx1.sub0 (j*k'+off) (lsz i);rw[hfl]at hp;have hjk:j*k'+k'≤es.length*k':=by exact Anh
   have hjc:j*k'+k'≤cap*k':=Ax1 hjk (Ayl k' hn)
   have hval:=Fq hp (fun u hu=>hoc u (AxL (AxK hu))) i.td.agg (fun ha=>by
    have hl1:lsz i=1:=by unfold lsz;rw[ha];rfl
    have hcl:=hkk _ (show es.getD j .any∈es by rw[Axy,List.getElem?_eq_getElem hj];exact Ayz hj);rw[pcells,AxC,AxQ,hcl];omega)
   obtain⟨e3,hval,hle3⟩:=hval.pl;have htk:((cur.toList.take (es.length*k')).drop (j*k'+off)).take (lsz i)=(cur.toList.drop (j*k'+off)).take (lsz i):=by rw[List.drop_take,List.take_take,Ay8 om]
   rw[htk]at hval;have hz3:Zc p1:=fun x=>by have:=hple x;have:=h0 x;omega
   refine Ao (w':=w) (v:=if i.td.agg then .agg ((cur.toList.drop (j*k'+off)).take (lsz i)).toArray else((cur.toList.drop (j*k'+off)).take (lsz i)).headD undef) ?_ ⟨_,hK,A3.value hrf (Kp _) h1 hd hz hs hr hval (fun x=> ?_) _⟩
   ·have hrun:=Ff (P:=P) (w:=w) (t:=t) (off:=j*k'+off) hi hb rfl (by rw[hs'];omega);exact AnA
   ·have:=hle3 x;have:=hz3 x;omega
 ·exact Ad
theorem jW {x:AV} {cs:List AV} {k:Nat} (hx:(cellsOf x).length=k) (hc:cs.length=k) (h1:(∀ys,x≠ .agg ys)→k=1→∀z,cs=[z]→cellsOf z=[z]):cellsOf (mkel x cs)=cs:=by
 by_cases ha:∃ys,x=.agg ys
 ·obtain ⟨ys,rfl⟩:=ha;rfl
 ·have hna:∀ys,x≠ .agg ys:=fun ys h=>ha ⟨ys,h⟩;have hk1:k=1:=by rw[←hx];cases x<;>first|rfl|exact absurd rfl (hna _)
  subst hk1
  match cs,hc with
  |[z],_=>
   have:=h1 hna rfl z rfl;have hm:mkel x [z]=z:=by cases x<;>first|rfl|exact absurd rfl (hna _)
   rw[hm];exact this
theorem jX {t q s k j off:Nat} {y:Operand} {i:TI} (ho:o.op=.store t (.tmp q) y) (hi:Cx P t i) (hst:A3 dfs w0 S0 c0 σ a w) (hq:σ.getD q .any=.pref s k j off) (h:Qx i ((amv σ y).getD s .any) s k j off (view (aev σ y)) o.dst (amv σ y) K):
 o.wp P a w (fun a' w'=>∃σ',K σ'∧A3 dfs w0 S0 c0 σ' a' w') Q:=by
 unfold Qx at h;split at h
 ·rename_i e k' es hx;obtain⟨rfl,hj,hoff,hok,hlen,hK⟩:=h;obtain⟨inf,z,d,g1,gz,gzz,g4,_,g6,g7⟩:=hi.get;obtain⟨hrf,S,c,hr,h1,hd,hz,hs⟩:=hst;obtain⟨cy,cr,hy0,hr1,hc⟩:=I6 hr y;have hy:=hy0.view;obtain⟨hcells,hone,hsz⟩:=Hh hy hok;have hσs:=A4 hr1 hx oS;have hσs0:=cH hσs rfl;have hσq:=A4 hr hq oS;obtain⟨b,n,cap,hv,hpq⟩:=hrf.pr q s k' j off e k' es hσq hσs0;have hev:=Ck hpq;obtain⟨v,d1,d2,hv',hxr,hr2,hcr⟩:=hr1.take s hσs;rw[hv]at hv';injection hv' with hv';subst hv';generalize hes:AV.row e k' es=xr at hxr;generalize hvv:Value.slice (some ⟨b,0,none⟩) n cap=vv at hxr
  cases hxr with
  |row hn hcap hkk hb hs' hS hx1 h0 hoc hnil hcc'=>
   rename_i e1 k1 es1 b1 cap1 cur e0 e2;injection hes with he1 he2 he3;subst he1;subst he2;subst he3;injection hvv with hv1 hv2 hv3;injection hv1 with hv1;injection hv1 with hv1;subst hv1;have hfl:(flat es).length=es.length*k':=C8 hkk;have hjk:j*k'+k'≤es.length*k':=by exact Anh
   have hjc:es.length*k'≤cap1*k':=Ayl k' hn;have hcb:c b≠0:=by rw[hc,hcr,hcc'];simp
   have hcsz:j*k'+off+(a.eval y).cells.toList.length≤cur.size:=by rw[hs'];simp at hsz⊢;omega
   have hrun:=run_storeCells_at P b (j*k'+off) e (a.eval y).cells.toList 0 cur w hb (by simpa using hcsz) hone;simp only[AyT]at hrun;generalize hnew:(cur.toList.take (j*k'+off)++(a.eval y).cells.toList++cur.toList.drop (j*k'+off+(a.eval y).cells.toList.length)).toArray=new at hrun;have hyl:(a.eval y).cells.toList.length=i.size:=by simp;omega
   have hnl:new.toList=cur.toList.take (j*k'+off)++(a.eval y).cells.toList++cur.toList.drop (j*k'+off+i.size):=by rw[←hnew,hyl]
   have hk:=Stp.row (S:=S) (c:=fun x=>if x=b then 1 else 0) (s:=0) (new:=new) hb oS (fun o ho=>by rw[hS]at ho;omega) om;have hSS:upd S b 0=S:=by funext x;unfold upd;split<;>simp_all
   rw[hSS]at hk;have hk2:=Stp.row (S:=S) (c:=c) (s:=0) (new:=new) hb hcb (fun o ho=>by rw[hS]at ho;omega) om;rw[hSS]at hk2;have htot:∀x,c x=cy x+((if x=b then 1 else 0)+e2 x+d2 x):=fun x=>by rw[hc,hcr,hcc']
   have hy':=hcells.step hk (fun x=>by have:=h1 x;have:=htot x;omega);have hx1':=hx1.step hk (fun x=>by have:=h1 x;have:=htot x;have:=h0 x;omega);have hr2':=hr2.step hk (fun x=>by have:=h1 x;have:=htot x;omega);have hb':=setRow_heap w b cur new e (0,0) hb;obtain⟨p1,p2,hp,hput,hce⟩:=hx1'.part (j*k'+off) i.size;obtain⟨c',hp2,hc'⟩:=hput _ _ _ hy'
   have hel:cellsOf (mkel (es.getD j .any) (pleft (cellsOf (es.getD j .any)) off i.size (cellsOf (view (aev σ y)))))=pleft (cellsOf (es.getD j .any)) off i.size (cellsOf (view (aev σ y))):=by
    have hmem:es.getD j .any∈es:=by exact Anw
    have hcl:=hkk _ hmem;refine jW hcl (by simp only[pleft,Axs,AxC,AxQ,hcl,hlen];omega) fun hna hk1 z hz'=> ?_;rcases AxG i.size with h0s|h1s
    ·have hcy0:cellsOf (view (aev σ y))=[]:=AxA om;rw[h0s,hcy0]at hz';simp only[pleft,AxF,AyT,AxR]at hz';generalize hxx:es.getD j .any=xx at *;have:cellsOf xx=[xx]:=by cases xx<;>first|rfl|exact absurd rfl (hna _)
     rw[this]at hz';injection hz' with hz';rw[←hz'];exact this
    ·have ho0:off=0:=om;have hs1:i.size=1:=om;subst ho0;rw[hs1]at hz';simp only[pleft,AxI,Ax8,Ayc]at hz';rw[AyN om,AxF]at hz';have hrz:=hcells;rw[hz']at hrz
     match hvq:(a.eval y).cells.toList,hyl with
     |[u],_=>rw[hvq]at hrz;exact bS hrz (hone u (by rw[hvq];simp))
     |[],hl=>rw[hs1]at hl;simp at hl
     |_::_::_,hl=>rw[hs1]at hl;simp at hl
   rw[cJ off i.size _ hkk hj hoff hel]at hp2
   have htk:(cur.toList.take (es.length*k')).take (j*k'+off)++(a.eval y).cells.toList++(cur.toList.take (es.length*k')).drop (j*k'+off+i.size)=new.toList.take (es.length*k'):=by
    rw[hnl,List.take_append,List.take_append,List.take_take,Ay8 om,List.drop_take];simp only[AxC,Axs,hyl];have hcl:cur.toList.length=cap1*k':=by simp [hs']
    rw[hcl,Ay8 om,Axw (show(List.take (j*k'+off) cur.toList).length≤es.length*k' by rw[AxC];omega),Axw (show(a.eval y).cells.toList.length≤es.length*k'-(j*k'+off) by omega)]
   rw[htk]at hp2
   have honeN:∀u∈new.toList.take (es.length*k'),u.oneCell'=true:=by
    rw[←htk];intro u hu;simp only[Ax5]at hu;rcases hu with(hu|hu)|hu
    ·exact hoc u (AxK hu)
    ·exact hone u hu
    ·exact hoc u (AxL hu)
   have hz':Zc c':=fun x=>by have:=hc' x;have:=hce x;have:=h0 x;simp only at *;omega
   have hsl:(es.set j (mkel (es.getD j .any) (pleft (cellsOf (es.getD j .any)) off i.size (cellsOf (view (aev σ y)))))).length=es.length:=oS
   have hrow:Aa (w.setRow b new) S [.row e k' (es.set j (mkel (es.getD j .any) (pleft (cellsOf (es.getD j .any)) off i.size (cellsOf (view (aev σ y))))))] [.slice (some ⟨b,0,none⟩) es.length cap1] (fun x=>if x=b then 1 else 0):=by
    rw[←hsl];refine .row (c2:=fun _=>0) (by rw[hsl];exact hn) hcap (fun z hz2=> ?_) hb' (by have:=congrArg List.length hnl;simp at this;rw[this];simp at hyl;omega) hS (by rw[hsl];exact hp2) hz' (by rw[hsl];exact honeN) (.nil Al) (fun x=>oS);rcases List.mem_or_eq_of_mem_set hz2 with hz2|rfl
    ·exact hkk z hz2
    ·rw [hel];have hmem:es.getD j .any∈es:=by exact Anw
     have hcl:=hkk _ hmem;simp only[pleft,Axs,AxC,AxQ,hcl,hlen];omega
   have hr3:=hr2'.fill hrow s (by have:=(List.getElem?_eq_some_iff.1 hσs).1;simp [this]);rw[Ayn,Ak (l:=a.tmps.toList) (by rw[hv,hv2,hv3])]at hr3;have hsz2:Sz (w.setRow b new) S:=hz.row hb hk2 (fun _ _=>rfl);refine Ks (w':=w.setRow b new) ?_ ⟨_,hK,A3.value ((hrf.amv y).rerow _ _ _ hσs) rfl h1 hd hsz2 (hs.trans hk2) hr3 (.any (.nil Al)) (fun x=> ?_) _⟩
   ·have hz2:(sizeOf t).run P w=.ok i.size w:=by simp [sizeOf,typeInfo,g1,g4]
    have hne:¬(a.eval y).cells.size≠i.size:=om;unfold execOp;simp [ho,hev,Instr.storeAt,Instr.sureAddr,storeVar,hz2,hne,hrun]
   ·have:=htot x;show 0+((if x=b then 1 else 0)+d2 x)≤c x;omega
  |rowE h=>injection hes with _ _ he;subst he;simp at hj
  |_=>cases hes
 ·exact Ad
theorem Jb (hT:Am P T) (hst:A3 dfs w0 S0 c0 σ a w) (h:Rc P T o σ K):o.wp P a w (fun a' w'=>∃σ',K σ'∧A3 dfs w0 S0 c0 σ' a' w') Q:=by
 have alias_sound:∀{t s d:Nat} {v:Value},o.op=.move (.tmp t)→o.dst=some d→a.tmps.toList[t]? =some v→s≠d→a.tmps.toList[s]? =some v→K (σ.set d (.alias s))→o.wp P a w (fun a' w'=>∃σ',K σ'∧A3 dfs w0 S0 c0 σ' a' w') Q:=by
  intro t s d v ho hd hvt hsd hvs hK;obtain⟨hrf,S,c,hr,h1,hdf,hz,hs⟩:=hst;refine Ao (v:=v) (w':=w) ?_ ⟨_,hK,?_⟩
  ·unfold execOp;simp [ho,Re hvt]
  ·rw [hd];obtain⟨c',h2,h3⟩:=hr.aset (Aa.alias (s:=s) (v:=v) (.nil Al)) (some d);refine⟨by rw[E2];exact hrf.newal hsd hvs hr.length,S,c',h2,fun b=>by have:=h1 b;have:=h3 b;omega,by rw[put_defers];exact hdf,hz,hs.drop fun b=>by have:=h3 b;omega⟩
 unfold Rc at h;split at h
 ·rename_i t ho;split at h
  ·rename_i e k es d hx hd;have hst':=hst;obtain⟨hrf,S,c,hr,h1,hdf,hz,hs⟩:=hst';obtain⟨v,c1,c2,hv,_⟩:=hr.take t (A4 hr hx oS);exact alias_sound ho hd hv h.1 hv h.2
  ·rename_i s d hx hd;have hst':=hst;obtain⟨hrf,S,c,hr,h1,hdf,hz,hs⟩:=hst';have hta:=A4 hr hx oS;obtain⟨v,c1,c2,hv,_⟩:=hr.take t hta;by_cases hrow:∃e k es,σ[s]? =some (.row e k es)
   ·obtain ⟨e,k,es,hrow⟩:=hrow;exact alias_sound ho hd hv h.1 ((hrf.al t s e k es hta hrow).symm.trans hv) h.2
   ·
    refine Ao (v:=v) (w':=w) ?_ ⟨_,h.2,?_⟩
    ·unfold execOp;simp [ho,Re hv]
    ·rw [hd];obtain⟨c',h2,h3⟩:=hr.aset (Aa.alias (s:=s) (v:=v) (.nil Al)) (some d);refine⟨?_,S,c',h2,fun b=>by have:=h1 b;have:=h3 b;omega,by rw[put_defers];exact hdf,hz,hs.drop fun b=>by have:=h3 b;omega⟩;rw[E2];refine⟨fun i s2 off2 T2 cs2 hi hs2=> ?_,fun i s2 e k es hi hs2=> ?_,fun i s2 k j o e k' es hi hs2=> ?_⟩
     ·obtain ⟨n1,g1⟩:=Af hi (by intro h;cases h);obtain⟨n2,g2⟩:=Af hs2 (by intro h;cases h);obtain⟨b,k1,k2⟩:=hrf.ref i s2 off2 T2 cs2 g1 g2;exact⟨b,by rw[Ag n2];exact k1,by rw[Ag n1];exact k2⟩
     ·obtain ⟨n2,g2⟩:=Af hs2 (by intro h;cases h);rw[List.getElem?_set]at hi;split at hi
      ·split at hi
       ·injection hi with hi;cases hi;exact absurd ⟨e,k,es,g2⟩ hrow
       ·cases hi
      ·rename_i hdi;rw[Ag hdi,Ag n2];exact hrf.al i s2 e k es hi g2
     ·obtain ⟨n1,g1⟩:=Af hi (by intro h;cases h);obtain⟨n2,g2⟩:=Af hs2 (by intro h;cases h);obtain⟨b,n,cap,k1,k2⟩:=hrf.pr i s2 k j o e k' es g1 g2;exact⟨b,n,cap,by rw[Ag n2];exact k1,by rw[Ag n1];exact k2⟩
  ·exact J8
 ·rename_i t ho;split at h
  ·rename_i e k es d hx hd;obtain⟨htd,hnr,hK⟩:=h;obtain⟨hrf,S,c,hr,h1,hdf,hz,hs⟩:=hst;obtain⟨v,c1,c2,hv,hxr,hr2,hc⟩:=hr.take t (A4 hr hx oS);refine Ao (v:=v) (w':=w) ?_ ⟨_,hK,?_⟩
   ·unfold execOp;simp [ho,Re hv]
   ·rw [hd];exact A3.putrow (hrf.less t rfl) hnr h1 hdf hz hs hr2 hxr (fun b=>by rw[hc];omega)
  ·exact J8
 ·rename_i c ho;split at h
  ·rename_i t hc hca;split at h
   ·rename_i s e k es hrb;split at h
    ·rename_i ty hta;split at h
     ·rename_i i hi;obtain⟨hel,h⟩:=h;obtain⟨inf,z,d,g1,gz,gzz,g4,_,g6,g7⟩:=(hT ty i hi).get;obtain⟨e',he'⟩:=Option.isSome_iff_exists.1 hel;have hd':d=.slice e':=D3 (P:=P) (by rw[g7];exact he');subst hd';obtain⟨hrf,S,cc,hr,h1,hdf,hz,hs⟩:=hst;obtain⟨v,cx,cr,hev,hvs,hxr,_⟩:=Ns hr hrf hrb;obtain⟨A,cap,rfl,_⟩:=qV hxr;refine Ao (v:=.int .i64 (es.length:Int)) (w':=w) ?_ ⟨_,h,A3.value hrf rfl h1 hdf hz hs hr (c1:=fun _=>0) (C2 rfl Al) (fun b=>om) _⟩;unfold execOp;simp [ho,resolve,hc,Aio hca,Aio hta,invoke,builtin,hev,Builtin.len_,run_underlying g6,goInt]
     ·exact Ad
    ·exact Ad
   ·exact J8
  ·rename_i t y hc hca;split at h
   ·rename_i s e k es hrb;split at h
    ·rename_i ty ty' hta;obtain⟨rfl,h⟩:=h;split at h
     ·rename_i i hi;split at h
      ·rename_i e' he;split at h
       ·rename_i j hj;exact Uw ho hc (tS hca) (tS hta) (hT ty i hi) he (hT e' j hj) hst hrb h
       ·exact Ad
      ·exact Ad
     ·exact Ad
    ·exact Ad
   ·exact J8
  ·rename_i g t rest hc hca;split at h
   ·rename_i s e k es hrb;exact cI ho hc hca hst hrb h
   ·exact J8
  ·exact J8
 ·rename_i t q y ho;split at h
  ·rename_i s e k es hrb;exact tV hT ho hst hrb h
  ·exact J8
 ·rename_i t q f ho;split at h
  ·rename_i s k j off hq;split at h
   ·rename_i i hi;exact jU ho (hT t i hi) hst hq h
   ·exact Ad
  ·exact J8
 ·rename_i t q ho;split at h
  ·rename_i s k j off hq;split at h
   ·rename_i i hi;exact jV ho (hT t i hi) hst hq h
   ·exact Ad
  ·exact J8
 ·rename_i t q y ho;split at h
  ·rename_i s k j off hq;split at h
   ·rename_i i hi;exact jX ho (hT t i hi) hst hq h
   ·exact Ad
  ·exact J8
 ·rename_i op t x y t' ho;exact jS hT ho hst h
 ·rename_i t n ps ho;split at h
  ·rename_i hps;exact jT hT ho hps hst h
  ·exact J8
 ·exact J8
def Qy (P:Program) (T:Bd) (ops:Array Oper) (K:List AV→Prop):List Oper→List AV→Prop
 |[],σ=>K σ
 |o::l,σ=>
  match o.guard with
  |none=>Rc P T o σ (Qy P T ops K l)
  |some (j,want)=>
   match C9 ops j with
   |some t=>
    match σ.getD t .any with
    |.raw (.bool e)=>
     C1 e
      (if want then Rc P T o (σ.set t (.raw (.bool true))) (Qy P T ops K l)else Qy P T ops K l (aset (σ.set t (.raw (.bool true))) o.dst (.tup [])))
      (if want then Qy P T ops K l (aset (σ.set t (.raw (.bool false))) o.dst (.tup []))else Rc P T o (σ.set t (.raw (.bool false))) (Qy P T ops K l))
    |.tup []=>Qy P T ops K l (aset σ o.dst (.tup []))
    |_=>False
   |none=>False
theorem Ga (hT:Am P T) {ops:Array Oper} {K:List AV→Prop} {Q:Exit→Act→World→Prop} {fr:List Nat}:
 ∀(l:List Nat) (os:List Oper) (σ:List AV) (a:Act) (w:World),l.map (ops[·]?)=os.map some→(∀s∈fr,∀o∈os,o.dst≠some s)→A3 dfs w0 S0 c0 σ a w→Qy P T ops K os σ→(∀σ a' w',A3 dfs w0 S0 c0 σ a' w'→K σ→(∀s∈fr,a'.tmps[s]? =a.tmps[s]?)→Q .normal a' w')→wpOps P ops Q l a w
 |[],os,σ,a,w,hl,hfr,hst,h,hQ=>by
  cases os with
  |nil=>exact hQ σ a w hst h (fun _ _=>rfl)
  |cons o os=>simp at hl
 |i::l,[],σ,a,w,hl,hfr,hst,h,hQ=>by simp at hl
 |i::l,o::os,σ,a,w,hl,hfr,hst,h,hQ=>by
  simp only[Axx,List.cons.injEq]at hl;obtain⟨ho,hl⟩:=hl;have hfro:=fun s hs=>hfr s hs o oS;have hfrs:∀s∈fr,∀o∈os,o.dst≠some s:=fun s hs o ho=>hfr s hs o (by simp [ho])
  have mono:o.wp P a w (fun a' w'=>∃σ',Qy P T ops K os σ'∧A3 dfs w0 S0 c0 σ' a' w') Q→o.wp P a w (wpOps P ops Q l) Q:=fun h=>
   A7 (fun a' w' ⟨⟨σ',h1,h2⟩,h3⟩=>Ga hT l os σ' a' w' hl hfrs h2 h1 fun σ'' a'' w'' g1 g2 g3=>hQ σ'' a'' w'' g1 g2 fun s hs=>(g3 s hs).trans (h3 s (hfro s hs))) (Rb h)
  have hQs:∀v σ a' w',A3 dfs w0 S0 c0 σ a' w'→K σ→(∀s∈fr,a'.tmps[s]? =(a.put o.dst v).tmps[s]?)→Q .normal a' w':=fun v σ'' a'' w'' g1 g2 g3=>
   hQ σ'' a'' w'' g1 g2 fun s hs=>(g3 s hs).trans (Cu a o.dst v s (hfro s hs))
  simp only[wpOps,ho];unfold Qy at h;split at h
  ·rename_i hg;have hw:Region.wanted o (yielded ops a.tmps)=true:=by simp [Region.wanted,hg]
   rw[if_pos hw];exact .inl (mono (Jb hT hst h))
  ·rename_i j want hg;split at h
   ·rename_i t ht;split at h
    ·rename_i e he;have hst':=hst;obtain⟨_,S,c,hr,_⟩:=hst;have hts:=getD_lt he oS;obtain⟨v,c1,c2,hv,hy,h2,hc⟩:=hr.take t (A4 hr he oS);have e1:=(Ay hy).1;subst e1;have hyl:yielded ops a.tmps j=some e:=by exact Anc
     have hset:∀b,e=b→A3 dfs w0 S0 c0 (σ.set t (.raw (.bool b))) a w:=by intro b hb;subst hb;rw[set_self hts he];exact hst'
     have hwant:Region.wanted o (yielded ops a.tmps)=(e==want):=by simp [Region.wanted,hg,hyl]
     rw[hwant]
     cases e with
     |true=>
      have h:=h.1 rfl
      cases want with
      |true=>rw[if_pos (show(true==true)=true from rfl)];exact .inl (mono (Jb hT (hset true rfl) h))
      |false=>rw[if_neg oS];exact Ga hT l os _ _ w hl hfrs (Ja (hset true rfl) _) h (hQs _)
     |false=>
      have h:=h.2 rfl
      cases want with
      |true=>rw[if_neg oS];exact Ga hT l os _ _ w hl hfrs (Ja (hset false rfl) _) h (hQs _)
      |false=>rw[if_pos (show(false==false)=true from rfl)];exact .inl (mono (Jb hT (hset false rfl) h))
    ·rename_i he;have hst':=hst;obtain⟨_,S,c,hr,_⟩:=hst;obtain⟨v,c1,c2,hv,hy,h2,hc⟩:=hr.take t (A4 hr he oS);have e1:v=.tuple #[]:=by exact qE
     have hyl:yielded ops a.tmps j=none:=by unfold yielded;unfold C9 at ht;rw[ht];exact AaI
     have hwant:Region.wanted o (yielded ops a.tmps)=false:=by simp [Region.wanted,hg,hyl]
     rw[hwant,if_neg oS];exact Ga hT l os _ _ w hl hfrs (Ja hst' _) h (hQs _)
    ·exact Ad
   ·exact Ad
end
end Go.Proofs.YtmophjggmekoeaaGreatDoor
