/- A string's bytes appended to bytes. -/
import Derived.Lib.AppendStr
import Derived.Test.YtmophjggmekoeaaGreatDoorC14
set_option linter.all false
namespace Go.Proofs.YtmophjggmekoeaaGreatDoor
section
open Go.RowKit
variable [Env]
variable {dfs : List Deferred}
section
variable {P : Program} {T : Bd} {w : World}
variable {w0 : World} {S0 c0 : Nat → Nat} {σ : List AV} {a : Act} {K : List AV → Prop} {Q : Exit → Act → World → Prop} {o : Oper}
def mP (σ:List AV) (e:Nat) (j:TI) (x y:Operand) (d:Option Nat) (K:List AV→Prop):Prop:=
 match I9 e 1 (aev σ x),aev (amv σ x) y with
 |some xs,.raw (.string s)=>j.size=1∧j.bytes=1∧j.zero.length=1∧xs.length+s.data.toList.length≤140737488355328∧(match aev σ x with
  |.mine _ _ _=>False
  |_=>True)∧K (aset (amv σ x) d (.own e 1 (xs++A5 s.data.toList)))
 |_,_=>False
theorem AjV {S:Nat→Nat} (s:ByteArray):Aa w S (flat (A5 s.data.toList)) (Lib.strCells s) (fun _=>0):=by
 unfold Lib.strCells;generalize s.data.toList=l
 induction l with
 |nil=>exact .nil Al
 |cons b l ih=>exact .raw rfl ih
theorem mQ {t u e:Nat} {x y:Operand} {c:Call} {i j:TI} (ho:o.op=.call c) (hc:c.callee=.builtin .append) (hca:c.args= #[x,y]) (hct:c.argTypes= #[t,u]) (hi:Cx P t i) (hu:P.underlying u=some .string) (he:i.td.elem=some e) (hj:Cx P e j)
 (hst:A3 dfs w0 S0 c0 σ a w) (h:mP σ e j x y o.dst K):o.wp P a w (fun a' w'=>∃σ',K σ'∧A3 dfs w0 S0 c0 σ' a' w') Q:=by
 obtain⟨inf,z,d,g1,gz,gzz,g4,_,g6,g7⟩:=hi.get;obtain⟨inf2,z2,d2,f1,fz,fzz,f4,f5,f6,f7⟩:=hj.get;have hd':d=.slice e:=D3 (P:=P) (by rw[g7];exact he);subst hd';unfold mP at h;split at h
 ·rename_i xs s hx hys;obtain⟨hj1,hjb,hjz,hby,hm,hK⟩:=h;obtain⟨hrf,S,c',hr,h1,hd,hz,hs⟩:=hst;obtain⟨cx,cr,hxr,hr1,hcc⟩:=I6 hr x;obtain⟨cy,hyr⟩:=Ar hr1 y;rw[hys]at hyr;have eY:=(Ay hyr).1;have hcv:Aa w S (flat (A5 s.data.toList)) (Lib.strCells s) (fun _=>0):=AjV s;generalize hcve:Lib.strCells s=cv at hcv;have honey:∀u∈cv,u.oneCell'=true:=by rw[←hcve];exact Lib.strCells_oneCell s
  have hcvn:cv.length=s.size:=by rw[←hcve];exact Lib.strCells_length s
  have hky:∀x∈A5 s.data.toList,(cellsOf x).length=1:=fun x hx=>by obtain⟨b,_,rfl⟩:=AxB.1 hx;rfl
  have hsl:s.data.toList.length=s.size:=Ay1;have hyl:(A5 s.data.toList).length=s.size:=by rw[A5,Axp,hsl]
  rw[hsl]at hby;generalize hyse:A5 s.data.toList=ys at *;have hz2l:z2.cells.size=1:=by have:=congrArg List.length fzz;simp at this;omega
  have hwp:∀{v:Value} {w':World},(Builtin.append_ #[t,u] o.type #[a.eval x,a.eval y]).run P w=.ok v w'→∀{next:Act→World→Prop},next (a.put o.dst v) w'→o.wp P a w next Q:=by
   intro v w' hrun next hn
   refine Ao (v:=v) (w':=w') ?_ hn;unfold execOp;simp only[ho,resolve,hc,hca,hct,invoke,builtin,Sem.run_bind,Sem.run_pure,Result.andThen_ok,AyS,Axx,Axv,hrun]
  have heY:a.eval y=.string s:=eY;rw[heY]at hwp
  have fresh:∀(xcells:List Value) (newcap:Nat) (v:Value),Aa w S (flat xs) xcells (fun _=>0)→(∀u∈xcells,u.oneCell'=true)→(∀x∈xs,(cellsOf x).length=1)→xs.length+ys.length≤newcap→newcap≤maxLen→
   v=.slice (some ⟨w.heap.size,0,none⟩) (xs.length+ys.length) newcap→
   A3 dfs w0 S0 c0 (aset (amv σ x) o.dst (.own e 1 (xs++ys))) (a.put o.dst v) (w.drew.alloc (.cells (xcells.toArray++cv.toArray++Builtin.zeroCells z2.cells (newcap-(xs.length+ys.length))) e)):=by
   intro xcells newcap v hxc hone hkx hcap hcm hv;have hxl:=hxc.length;have hflx:=C8 hkx;have hflat:=Fs xs ys;have hxw:Aa w.drew S (flat xs) xcells (fun _=>0):=hxc.keep (fun _ _ _=>rfl) (fun _=>Axu _) (fun _ _=>⟨rfl,rfl⟩);have hyw:Aa w.drew S (flat ys) cv (fun _=>0):=hcv.keep (fun _ _ _=>rfl) (fun _=>Axu _) (fun _ _=>⟨rfl,rfl⟩);have hrw:Aa w.drew S (amv σ x) a.tmps.toList cr:=hr1.keep (fun _ _ _=>rfl) (fun _=>Axu _) (fun _ _=>⟨rfl,rfl⟩);generalize hcur:(xcells.toArray++cv.toArray++Builtin.zeroCells z2.cells (newcap-(xs.length+ys.length)))=cur;have hcl:cur.toList=xcells++cv++(Builtin.zeroCells z2.cells (newcap-(xs.length+ys.length))).toList:=by rw[←hcur];simp
   have htake:cur.toList.take ((xs++ys).length*1)=xcells++cv:=by
    have:(xcells++cv).length=(xs++ys).length*1:=by simp;omega
    rw[hcl,←this,List.take_left]
   have hk:=Stp.alloc (w:=w.drew) (c:=fun _=>0) (S:=S) hz.drew (.cells cur e) ((xs++ys).length*1);have hboth:=(Aa.app hxw hyw (c:=fun _=>0) (fun b=>oS)).step hk (fun b=>oS);rw[hv];refine A3.new (w:=w.drew) (s:=(xs++ys).length*1) (hrf.amv x) rfl h1 hr.lt hd hz.drew (hs.trans Stp.drew) hrw (c1:=fun _=>0) ?_ (fun b=>by rw[hcc];omega) _;have hlen:xs.length+ys.length=(xs++ys).length:=oS;rw[hlen];refine .own (cap:=newcap) (cur:=cur) (c0:=fun _=>0) (c2:=fun _=>0) om hcm (fun x hx=> ?_) (heap_alloc_new _ _) ?_ (by simp [upd]) ?_ Al ?_ (.nil Al) (fun x=>rfl)
   ·exact Aif
   ·have hl2:=congrArg List.length hcl;have hzc:(Builtin.zeroCells z2.cells (newcap-(xs.length+ys.length))).size=(newcap-(xs.length+ys.length))*1:=by rw[size_zeroCells,hz2l]
    simp at hl2;omega
   ·exact Qd
   ·exact Aib
  have hlim:xs.length+ys.length≤maxLen:=by unfold maxLen;omega
  by_cases hye:s.size=0
  ·have hyn:ys=[]:=List.length_eq_zero_iff.1 om;subst hyn
   have hsame:∃cz,Aa w S [.own e 1 (xs++[])] [a.eval x] cz∧(∀b,cz b≤cx b)∧∃A n cap,a.eval x=.slice A n cap∧n≤cap:=by
    unfold I9 at hx;split at hx
    ·exact Atq
    ·exact Atg
    ·rename_i hxe;rw[hxe]at hm;exact hm.elim
    ·cases hx
   obtain⟨cz,hrz,hcz,A,n,cap,e1,hn⟩:=hsame
   have hrun:(Builtin.append_ #[t,u] o.type #[.slice A n cap,.string s]).run P w=.ok (.slice A n cap) w:=by
    have hcn:Lib.strCells s=[]:=AxA (by rw[hcve,hcvn];exact hye);have hf:=Lib.run_firstCells_string (P:=P) w inf2.size s;rw[hye,hcn]at hf
    cases A with
    |none=>simp [Builtin.append_,run_underlying g6,run_underlying hu,sizeOf,typeInfo,f1,Builtin.lenOf,hye,hn,hf]
    |some A=>simp [Builtin.append_,run_underlying g6,run_underlying hu,sizeOf,typeInfo,f1,Builtin.lenOf,hye,hn,hf,storeCells]
   rw[←e1]at hrun;exact AmY
  ·have hcvl:=hcv.length;have hfly:=C8 hky
   have nilcase:xs=[]→a.eval x=.slice none 0 0→o.wp P a w (fun a' w'=>∃σ',K σ'∧A3 dfs w0 S0 c0 σ' a' w') Q:=by
    intro hxe hev;subst hxe;have hrun:=run_append_nil_string (P:=P) w t u o.type e inf2 z2 g6 hu f1 fz s om om (by rw[f5,hjb];simp only[Axq,Ayc]at hby;omega);have e1:(s.data.map fun b=>Value.int .u8 b.toNat)=cv.toArray:=by rw[←hcve];apply Array.ext';simp [Lib.strCells]
    rw[e1,←hev]at hrun;have hge:=grownCap_ge w s.size 0 e;have hle:=grownCap_le_maxLen w s.size 0 e (by simpa[hyl]using hlim);have:=fresh [] (grownCap w s.size 0 e) _ (.nil Al) oS oS (by simpa[hyl]using hge) hle rfl;simp only[Axq,Ayc,hyl]at this;have e0:([]:List Value).toArray++cv.toArray++Builtin.zeroCells z2.cells (grownCap w s.size 0 e-s.size)=cv.toArray++Builtin.zeroCells z2.cells (grownCap w s.size 0 e-s.size):=oS;rw[e0]at this;exact hwp hrun ⟨_,hK,this⟩
   unfold I9 at hx;split at hx
   ·exact Am8
   ·rename_i e' k' es hxe;split at hx
    ·rename_i hee;obtain⟨rfl,rfl⟩:=hee;injection hx with hx;subst hx;rw[hxe]at hxr;revert hxr;generalize hev:a.eval x=v;intro hxr
     cases hxr with
     |ownE h=>exact nilcase rfl hev
     |own hn hcap hk hb hsz' hS h1c h0c hoc hnil hcnt=>
      rename_i g cap cur ccc c2;cases hnil with|nil hzz=>
      have hcurl:(cur.toList.take es.length).length=es.length:=by simp;omega
      rw[Ay3]at h1c hoc;by_cases hroom:es.length+s.size≤cap
      ·have hfit:es.length+s.size≤cur.size:=om;have hrun:=Lib.run_append_room_string (P:=P) w t u o.type e' inf2 g6 hu f1 om g es.length cap cur hb s hroom hfit;rw[←hev,hcve]at hrun;generalize hnew:(cur.toList.take es.length++cv++cur.toList.drop (es.length+s.size)).toArray=new at hrun;have hnl:new.toList=cur.toList.take es.length++cv++cur.toList.drop (es.length+s.size):=by rw[←hnew]
       have hpre:∀o',o'<S g→new[o']? =cur[o']? :=by intro o' ho';rw[hS,Ay3]at ho';exact Am0
       have hcg:∀x,cx x=(if x=g then 1 else 0):=fun x=>by rw[hcnt,hzz x];omega
       have hle:S g≤(es++ys).length*1:=by rw[hS];simp
       have hk1:=Stp.row (S:=S) (c:=cx) (s:=(es++ys).length*1) (new:=new) hb (by rw[hcg];simp) hpre hle;have hk2:=Stp.row (S:=S) (c:=c') (s:=(es++ys).length*1) (new:=new) hb (by rw[hcc,hcg];simp) hpre hle;have hr3:=hr1.step hk1 (fun b=>by rw[AyV,←hcc];exact h1 b);have hflat:=Fs es ys;have hboth:=(Aa.app h1c hcv (c:=fun b=>ccc b+0) (fun b=>rfl)).step hk1 (fun b=>by rw[h0c b,hcg];split<;>omega)
       have htake:new.toList.take ((es++ys).length*1)=cur.toList.take es.length++cv:=by
        have:(cur.toList.take es.length++cv).length=(es++ys).length*1:=by simp at hcurl⊢;omega
        rw[hnl,←this,List.take_left]
       refine hwp hrun ⟨_,hK,A3.value (hrf.amv x) rfl h1 hd (hz.row hb hk2) (hs.trans hk2) hr3 (c1:=cx) (y:=.own e' 1 (es++ys)) ?_ (fun b=>by rw[hcc];omega) _⟩;have hlen:es.length+s.size=(es++ys).length:=by simp;omega
       rw[hlen];refine .own (cur:=new) (c0:=fun b=>ccc b+0) (c2:=fun _=>0) om hcap (fun x hx=> ?_) (setRow_heap w g cur new e' (0,0) hb) ?_ (by simp [upd]) ?_ (fun b=>by show ccc b+0=0;rw[h0c b]) ?_ (.nil Al) (fun x=>by rw[hcg];simp)
       ·exact Aig
       ·exact qI
       ·exact Qd
       ·exact Aic
      ·have holds:∀jj u,(cur.toList.take es.length)[jj]? =some u→w.cell? ((⟨g,0,none⟩:Addr).add jj)=some u:=by
        exact AoC
       have hrun:=Lib.run_append_grow_string (P:=P) w t u o.type e' inf2 z2 g6 hu f1 fz ⟨g,0,none⟩ es.length cap (cur.toList.take es.length) (by rw[f4,hj1,Ay3];exact hcurl) holds s om om (by rw[f5,hjb];exact growslice_fits om om);rw[←hev,hcve]at hrun;have hge:=grownCap_ge w (es.length+s.size) cap e';have hle:=grownCap_le_maxLen w (es.length+s.size) cap e' (by rw[←hyl];exact hlim);have:=fresh (cur.toList.take es.length) (grownCap w (es.length+s.size) cap e') _ (h1c.congr fun b=>(h0c b).symm) hoc hk (by rw[hyl];exact hge) hle rfl;rw[hyl]at this;exact hwp hrun ⟨_,hK,this⟩
    ·cases hx
   ·rename_i hxe;rw[hxe]at hm;exact hm.elim
   ·cases hx
 ·exact Ad
end
end
section
open Go.RowKit
variable [Env]
variable {dfs : List Deferred}
def Hb:AV→Option (Nat×Nat)
 |.raw (.pointer (some ⟨b,off,none⟩))=>some (b,off)
 |_=>none
def E4:AV→Option Nat
 |.raw (.map (some b))=>some b
 |_=>none
theorem Hl {x:AV} {b off:Nat} (h:Hb x=some (b,off)):x=.raw (.pointer (some ⟨b,off,none⟩)):=by
 unfold Hb at h;split at h
 ·injection h with h;injection h with h1 h2;subst h1;subst h2;rfl
 ·cases h
theorem J0 {x:AV} {b:Nat} (h:E4 x=some b):x=.raw (.map (some b)):=by
 unfold E4 at h;split at h
 ·injection h with h;subst h;rfl
 ·cases h
def mR:AV→Option Value
 |.raw v=>some v
 |.nil=>some (.slice none 0 0)
 |_=>none
def Ade:AV→Option Value
 |.agg cs=>(cs.mapM mR).map fun vs=>.agg vs.toArray
 |x=>mR x
theorem Adf {w:World} {S c:Nat→Nat} {x:AV} {v u:Value} (hr:Aa w S [x] [v] c) (h:mR x=some u):v=u:=by
 unfold mR at h;split at h
 ·injection h with h;subst h;exact(Ay hr).1
 ·injection h with h;subst h;cases hr with|nilS h=>rfl
 ·cases h
theorem Adg {w:World} {S:Nat→Nat}:∀{xs:List AV} {vs us:List Value} {c:Nat→Nat},Aa w S xs vs c→xs.mapM mR=some us→vs=us
 |[],vs,us,c,hr,h=>by obtain⟨rfl,_⟩:=hr.zero;simp at h;exact h.symm
 |x::xs,vs,us,c,hr,h=>by
  obtain⟨v,vs',c1,c2,rfl,h1,h2,_⟩:=hr.uncons;simp only[List.mapM_cons,Option.bind_eq_bind]at h
  cases hx:mR x with
  |none=>rw[hx]at h;cases h
  |some u=>
   rw[hx]at h;simp only[AxD]at h
   cases hxs:xs.mapM mR with
   |none=>rw[hxs]at h;cases h
   |some us'=>rw[hxs]at h;injection h with h;subst h;rw[Adf h1 hx,Adg h2 hxs]
theorem mS {w:World} {S c:Nat→Nat} {x:AV} {v u:Value} (hr:Aa w S [x] [v] c) (h:Ade x=some u):v=u:=by
 unfold Ade at h;split at h
 ·rename_i cs
  cases hr with
  |agg h1 ho h2 hc=>
   cases h2 with|nil _=>
   obtain⟨us,hus,rfl⟩:=Ay9.1 h;rw[Adg h1 hus]
 ·exact Adf hr h
structure Gy extends HTab where
 kd:Nat→Option TypeDesc
 mv:Nat→String→Option Nat
 ek:Nat→Option Nat
def niq:Value→AV→Option (Nat×Bool)
 |.nilIface,.raw (.iface _ _)=>some (0,false)
 |.nilIface,.raw .nilIface=>some (0,true)
 |.pointer none,.raw (.pointer (some _))=>some (1,false)
 |.pointer none,.raw (.pointer none)=>some (1,true)
 |.map none,.raw (.map (some _))=>some (2,false)
 |.map none,.raw (.map none)=>some (2,true)
 |.nilFunc,.raw (.func _ _ _)=>some (3,false)
 |.nilFunc,.raw .nilFunc=>some (3,true)
 |_,_=>none
def ekD:Nat→TypeDesc→Prop
 |0,.interface _=>True
 |1,.pointer _=>True
 |2,.map _ _=>True
 |3,.func _ _ _=>True
 |_,_=>False
structure Cl (P:Program) (H:Gy):Prop where
 base:ApC P H.toHTab
 kd:∀t d,H.kd t=some d→P.underlying t=some d
 mv:∀t n g,H.mv t n=some g→∀v w,(method (P.types.size+Made.depth) t v n).run P w=.ok (g,v) w
 ek:∀t k,H.ek t=some k→∃d,P.underlying t=some d∧ekD k d
def hfa (o:Option TI) (f b off:Nat) (K:AV→Prop):Prop:=match o with
 |some i=>(match i.td.flds[f]? with
  |some (fo,some n,_)=>n≠0∧K (.raw (.pointer (some ⟨b,off+fo,none⟩)))
  |_=>False)
 |none=>False
def hld (o:Option TI) (gi:Option Nat) (off:Nat) (d:Option Nat) (γ σ:List AV) (K:List AV→List AV→Prop):Prop:=match o,gi with
 |some i,some gi=>(match γ.getD gi .any with
  |.nbox b Te cs=>off+lsz i≤cs.length∧K (γ.set gi (.nbox b Te (pleft cs off (lsz i) ((pcells cs off (lsz i)).map v1)))) (aset σ d (pl (pval i.td.agg (pcells cs off (lsz i)))))
  |_=>False)
 |_,_=>False
def mT (o:Option TI) (gi:Option Nat) (off:Nat) (y:Operand) (d:Option Nat) (γ σ:List AV) (K:List AV→List AV→Prop):Prop:=match o,gi with
 |some i,some gi=>(match γ.getD gi .any with
  |.nbox b Te cs=>off+i.size≤cs.length∧Iy (aev σ y)=true∧(cellsOf (aev σ y)).length=i.size∧K (γ.set gi (.nbox b Te (pleft cs off i.size (cellsOf (aev σ y))))) (aset (amv σ y) d .any)
  |_=>False)
 |_,_=>False
def hnc (x:AV) (A:Prop) (K:AV→Prop):Prop:=match x with
 |.raw (.pointer (some ad))=>K (.raw (.pointer (some ad)))
 |.raw (.iface t v)=>K (.raw (.iface t v))
 |.raw (.func (.func g) xs bs)=>K (.raw (.func (.func g) xs bs))
 |.clo g cs=>K (.clo g cs)
 |_=>A
def hmi (H:Gy) (t:Nat) (x:Option Value) (K:AV→Prop):Prop:=match x with
 |some v=>H.cn t=true∧K (.raw (.iface t v))
 |none=>False
def hmx (H:Gy) (t:Nat) (d:Option Nat) (γ σ:List AV) (K:List AV→List AV→Prop):AV→Prop
 |.elt y=>H.cn t=true∧∀ad,K (.nelt ad y::γ) (aset σ d (.raw (.iface t (.pointer (some ad)))))
 |x=>hmi H t (Ade x) fun y=>K γ (aset σ d y)
def mU (z:Option Value) (ok:Bool) (K:AV→Prop):Prop:=match z with
 |some z=>ok=true∧K (.tup [aconst z,.raw (.bool false)])
 |none=>False
def AjW (c:Bool) (t:Nat) (v:Value) (asserted:Nat) (ok:Bool) (z:Option Value) (K:AV→Prop):Prop:=
 c=true∧if t=asserted then K (if ok then .tup [aconst v,.raw (.bool true)]else aconst v)else mU z ok K
def hta (H:Gy) (t:Nat) (ok:Bool) (x:AV) (K:AV→Prop):Prop:=match x with
 |.raw (.iface t' v)=>AjW (H.cn t) t' v t ok (H.zr t) K
 |.raw .nilIface=>H.cn t=true∧mU (H.zr t) ok K
 |_=>False
def hbn (H:Gy) (b:BinOp) (t:Nat) (A:Prop) (K:AV→Prop):Option (Nat×Bool)→Prop
 |some (k,e)=>(match b with
  |.eql=>H.ek t=some k∧K (.raw (.bool e))
  |.neq=>H.ek t=some k∧K (.raw (.bool (!e)))
  |_=>A)
 |none=>A
def hpn (x:AV) (E:Value→Prop):Prop:=match x with
 |.raw (.iface t v)=>E (.iface t v)
 |_=>False
def N2 (d:Option TypeDesc) (k:Value) (ks:List Value):Prop:=match d with
 |some d=>Ec d k∧∀x∈ks,Ec d x
 |none=>False
def U4 (ok:Bool) (z:Value) (vs:List AV):Option Nat→AV
 |some j=>if ok then .tup [view (vs.getD j .any),.raw (.bool true)]else view (vs.getD j .any)
 |none=>if ok then .tup [aconst z,.raw (.bool false)]else aconst z
def Adh (H:Gy) (kt et:Nat) (x y:AV) (ok:Bool) (K:AV→Prop):Prop:=match x,y,H.zr et with
 |.nmap b ks vs,.raw k,some z=>N2 (H.kd kt) k ks∧K (U4 ok z vs (B5 k ks))
 |_,_,_=>False
def hlk (H:Gy) (m:Option (Nat×Nat)) (gi:Option Nat) (y:AV) (ok:Bool) (γ:List AV) (K:AV→Prop):Prop:=match m,gi with
 |some (kt,et),some gi=>Adh H kt et (γ.getD gi .any) y ok K
 |_,_=>False
def wA (b:Nat) (ks:List Value) (vs:List AV) (k:Value) (y:AV):Option Nat→AV
 |some j=>.nmap b ks (vs.set j y)
 |none=>.nmap b (ks++[k]) (vs++[y])
def Adi (d:Option TypeDesc) (x k y:AV) (K:AV→Prop):Prop:=match x,k with
 |.nmap b ks vs,.raw k=>N2 d k ks∧K (wA b ks vs k y (B5 k ks))
 |_,_=>False
def hup (H:Gy) (m:Option (Nat×Nat)) (gi:Option Nat) (x y:Operand) (d:Option Nat) (γ σ:List AV) (K:List AV→List AV→Prop):Prop:=match m,gi with
 |some (kt,et),some gi=>Adi (H.kd kt) (γ.getD gi .any) (aev σ x) (aev σ y) fun z=>K (γ.set gi z) (aset (amv σ y) d .any)
 |_,_=>False
def hlen (m:Option (Nat×Nat)) (x:AV) (K:AV→Prop):Prop:=match m,x with
 |some _,.nmap _ ks _=>K (.raw (.int .i64 (ks.length:Int)))
 |_,_=>False
def hcg (P:Program) (p:List AV) (g:Nat) (cs:List AV) (ar:List AV×List AV) (d:Option Nat) (γ:List AV) (K:List AV→List AV→Prop) (E:Value→List AV→List AV→Prop):Prop:=
 HC P g (p++(ar.1++cs)) γ (fun r γ'=>K γ' (aset ar.2 d r)) (fun v γ'=>E v γ' ar.2)
def hcv (P:Program) (f:AV) (ar:List AV×List AV) (d:Option Nat) (γ:List AV) (K:List AV→List AV→Prop) (E:Value→List AV→List AV→Prop):Prop:=match f with
 |.raw (.func (.func g) first caps)=>first.toList=[]∧hcg P [] g (caps.toList.map ac1) ar d γ K E
 |.clo g cs=>hcg P [] g cs ar d γ K E
 |_=>False
def Adj (P:Program) (H:Gy) (r:AV) (n:String) (ar:List AV×List AV) (d:Option Nat) (γ:List AV) (K:List AV→List AV→Prop) (E:Value→List AV→List AV→Prop):Prop:=match r with
 |.raw (.iface t (.pointer (some ad)))=>(match H.me t n with
  |some g=>hcg P [.raw (.pointer (some ad))] g [] ar d γ K E
  |none=>False)
 |.raw (.iface t v)=>(match H.mv t n with
  |some g=>hcg P [aconst v] g [] ar d γ K E
  |none=>False)
 |_=>False
def hrow (σ:List AV):List Operand→Bool
 |.tmp t::_=>(Ft σ t).isSome
 |_=>false
def rY (H:Gy) (x:Option Nat) (ty:List Nat) (γ:List AV) (A:Prop) (K:AV→Prop):Prop:=match x,ty with
 |some b,[ty]=>(match Jz b γ with
  |some gi=>hlen (H.mp ty) (γ.getD gi .any) K
  |none=>False)
 |_,_=>A
def AjY (T:Bd) (σ:List AV) (x y:Operand) (d:Option Nat) (K:List AV→Prop):Option TI→Option TI→Prop
 |some i,some u=>u.td.str=true∧(match i.td.elem with
  |some e=>(match T e with
   |some j=>mP σ e j x y d K
   |none=>False)
  |none=>False)
 |_,_=>False
def hop (P:Program) (T:Bd) (H:Gy) (d:Option Nat) (op:Op) (γ σ:List AV) (K:List AV→List AV→Prop) (E:Value→List AV→List AV→Prop):Prop:=
 match op with
 |.fieldAddr t (.tmp q) f=>(match Hb (σ.getD q .any)with
  |some (b,off)=>hfa (T t) f b off fun y=>K γ (aset σ d y)
  |none=>Ct P T d op σ (K γ))
 |.load t (.tmp q)=>(match Hb (σ.getD q .any)with
  |some (b,off)=>hld (T t) (Jz b γ) off d γ σ K
  |none=>Ct P T d op σ (K γ))
 |.store t (.tmp q) y=>(match Hb (σ.getD q .any)with
  |some (b,off)=>mT (T t) (Jz b γ) off y d γ σ K
  |none=>Ct P T d op σ (K γ))
 |.nilCheck x=>hnc (aev σ x) (Ct P T d op σ (K γ)) fun y=>K γ (aset σ d y)
 |.makeInterface t x=>hmx H t d γ σ K (aev σ x)
 |.typeAssert x _ t ok=>hta H t ok (aev σ x) fun y=>K γ (aset σ d y)
 |.binOp b t x (.const v) t'=>hbn H b t (Ct P T d op σ (K γ)) (fun y=>K γ (aset σ d y)) (niq v (aev σ x))
 |.panic x=>hpn (aev σ x) fun v=>E v γ σ
 |.makeMap t none=>∀b,(∀x∈γ,M8 x≠some b)→K (.nmap b [] []::γ) (aset σ d (.raw (.map (some b))))
 |.lookup t (.tmp q) x ok=>(match E4 (σ.getD q .any)with
  |some b=>hlk H (H.mp t) (Jz b γ) (aev σ x) ok γ fun y=>K γ (aset σ d y)
  |none=>Ct P T d op σ (K γ))
 |.mapUpdate t (.tmp q) x y=>(match E4 (σ.getD q .any)with
  |some b=>hup H (H.mp t) (Jz b γ) x y d γ σ K
  |none=>Ct P T d op σ (K γ))
 |.insert t (.tmp q) x y=>(match E4 (σ.getD q .any)with
  |some b=>hup H (H.mp t) (Jz b γ) x y d γ σ K
  |none=>Ct P T d op σ (K γ))
 |.call c=>(match c.callee with
  |.builtin .len=>(match c.args.toList with
   |[.tmp t]=>rY H (E4 (σ.getD t .any)) c.argTypes.toList γ (Ct P T d op σ (K γ)) fun y=>K γ (aset σ d y)
   |_=>Ct P T d op σ (K γ))
  |.builtin .append=>(match c.args.toList,c.argTypes.toList with
   |[x,y],[t,t']=>bif t==t' then Ct P T d op σ (K γ)else AjY T σ x y d (K γ) (T t) (T t')
   |_,_=>Ct P T d op σ (K γ))
  |.value f=>bif hrow σ c.args.toList then Ct P T d op σ (K γ)else hcv P (aev σ f) (agrab σ c.args.toList) d γ K E
  |.invoke r n=>Adj P H (aev σ r) n (agrab σ c.args.toList) d γ K E
  |_=>Ct P T d op σ (K γ))
 |_=>Ct P T d op σ (K γ)
section
variable {P : Program} {T : Bd} {H : Gy} {w0 w : World} {S0 c0 : Nat → Nat} {γ σ : List AV} {a : Act} {o : Oper} {Q : Exit → Act → World → Prop} {K : List AV → List AV → Prop} {E : Value → List AV → List AV → Prop}
theorem Gp {b gi:Nat} (h:Jz b γ=some gi):γ[gi]? =some (γ.getD gi .any)∧M8 (γ.getD gi .any)=some b:=by
 obtain⟨x,h1,h2⟩:=dV h;have:γ.getD gi .any=x:=by rw[Axy,h1];rfl
 rw[this];exact⟨h1,h2⟩
theorem AjZ (hT:Am P T) (hst:Ah dfs w0 S0 c0 γ σ a w) (h:Rc P T o σ (K γ)):o.wp P a w (fun a' w'=>∃γ' σ',K γ' σ'∧Ah dfs w0 S0 c0 γ' σ' a' w') Q:=
 A7 (fun a' w' ⟨σ',hK,hs⟩=>⟨γ,σ',hK,hs⟩) (hst.old fun w0 S0 c0 hs=>Jb hT hs h)
theorem Aka (h:Ct P T o.dst o.op σ (K γ)):Rc P T o σ (K γ):=h
theorem hq {v:Value} {y:AV} (hst:Ah dfs w0 S0 c0 γ σ a w) (hp:pb y=true) (hrun:(execOp a.eval o).run P w=.ok (.value v) w) (hy:∀S c,Aa w S σ a.tmps.toList c→∃cy,Aa w S [y] [v] cy∧Zc cy) (hK:K γ (aset σ o.dst y)):
 o.wp P a w (fun a' w'=>∃γ' σ',K γ' σ'∧Ah dfs w0 S0 c0 γ' σ' a' w') Q:=
 A7 (fun a' w' hs=>⟨γ,_,hK,hs⟩) (Add hst hp hrun hy)
theorem Ah.opnd (hst:Ah dfs w0 S0 c0 γ σ a w) (x:Operand):∃S c,Aa w S [aev σ x] [a.eval x] c:=by obtain⟨S,c,c1,gv,hrf,hr,_⟩:=hst;obtain⟨cy,h⟩:=Ar hr x;exact⟨S,cy,h⟩
theorem Pq {kt:Nat} {k:Value} {ks:List Value} (hH:Cl P H) (h:N2 (H.kd kt) k ks):ApD P kt k ks:=by
 unfold N2 at h;split at h
 ·rename_i d hd;exact⟨d,hH.kd _ _ hd,h.1,h.2⟩
 ·exact Ad
theorem wB (v:Value):pb (aconst v)=true:=by
 unfold aconst;split
 ·split<;>rfl
 ·unfold ac1;split<;>rfl
theorem M9 {α:Type} {xs:Array α} {l:List α} (h:xs.toList=l):xs=l.toArray:=by apply Array.ext';simpa using h
theorem L4 {p ys:List AV} {pu us:List Value} {g:Nat} {xs:List Operand} (hst:Ah dfs w0 S0 c0 γ σ a w) (hps:∀S c,Aa w S σ a.tmps.toList c→∃e,Aa w S p pu e∧Zc e) (hys:∀S c,Aa w S σ a.tmps.toList c→∃e,Aa w S ys us e∧Zc e)
 (hexec:Gn P g→(execOp a.eval o).run P w=.ok (.enter g (pu++(xs.map a.eval++us)).toArray) w) (h:hcg P p g ys (agrab σ xs) o.dst γ K E)
 (hE:∀v γ' σ' w',E v γ' σ'→Ah dfs w0 S0 c0 γ' σ' a w'→Q (.panic [{v:=v,recovered:=false}]) a w'):o.wp P a w (fun a' w'=>∃γ' σ',K γ' σ'∧Ah dfs w0 S0 c0 γ' σ' a' w') Q:=
 dX hst hps hys hexec h hE
theorem wC {f:Operand} {c:Call} (ho:o.op=.call c) (hc:c.callee=.value f) (hst:Ah dfs w0 S0 c0 γ σ a w) (h:hcv P (aev σ f) (agrab σ c.args.toList) o.dst γ K E)
 (hE:∀v γ' σ' w',E v γ' σ'→Ah dfs w0 S0 c0 γ' σ' a w'→Q (.panic [{v:=v,recovered:=false}]) a w'):o.wp P a w (fun a' w'=>∃γ' σ',K γ' σ'∧Ah dfs w0 S0 c0 γ' σ' a' w') Q:=by
 unfold hcv at h;split at h
 ·rename_i g first caps hf
  obtain⟨hfirst,h⟩:=h;have e1:=hst.rawOp hf;have hfe:first= #[]:=M9 hfirst
  subst hfe;refine L4 (pu:=[]) (us:=caps.toList) hst (fun S c _=>⟨_,.nil Al,Al⟩) (fun S c _=>⟨_,Kq _,Al⟩) (fun hfn=> ?_) h hE;have hargs:([]++(c.args.toList.map a.eval++caps.toList)).toArray=c.args.map a.eval++caps:=by apply Array.ext';simp
  rw[hargs];obtain⟨fn,code,hfn,hbody,hname⟩:=hfn;have hrun:=Es (P:=P) hfn hname hbody ((c.args.map a.eval)++caps) w;exact qD
 ·rename_i g cs hf;obtain⟨S1,c1,hop⟩:=hst.opnd f;rw[hf]at hop
  obtain⟨us,e1⟩:∃us:List Value,a.eval f=.func (.func g) #[] us.toArray:=by
   generalize a.eval f=v at hop
   cases hop with
   |clo h1 h0 h=>exact⟨_,rfl⟩
  refine L4 (pu:=[]) (us:=us) hst (fun S c _=>⟨_,.nil Al,Al⟩) (fun S c hr=> ?_) (fun hfn=> ?_) h hE
  ·obtain ⟨cx,hrx⟩:=Ar hr f;rw[hf,e1]at hrx;generalize hv:(Value.func (.func g) #[] us.toArray)=v at hrx
   cases hrx with
   |clo h1 h0 h=>injection hv with _ _ hv;have hv:=congrArg Array.toList hv;simp only[List.toList_toArray]at hv;subst hv;exact⟨_,h1,h0⟩
  ·have hargs:([]++(c.args.toList.map a.eval++us)).toArray=c.args.map a.eval++us.toArray:=by
    apply Array.ext';simp
   rw[hargs];obtain⟨fn,code,hfn,hbody,hname⟩:=hfn;have hrun:=Es (P:=P) hfn hname hbody ((c.args.map a.eval)++us.toArray) w;exact qD
 ·exact Ad
theorem mV (hH:Cl P H) {r:Operand} {n:String} {c:Call} (ho:o.op=.call c) (hc:c.callee=.invoke r n) (hst:Ah dfs w0 S0 c0 γ σ a w) (h:Adj P H (aev σ r) n (agrab σ c.args.toList) o.dst γ K E)
 (hE:∀v γ' σ' w',E v γ' σ'→Ah dfs w0 S0 c0 γ' σ' a w'→Q (.panic [{v:=v,recovered:=false}]) a w'):o.wp P a w (fun a' w'=>∃γ' σ',K γ' σ'∧Ah dfs w0 S0 c0 γ' σ' a' w') Q:=by
 have key:∀{t g:Nat} {v:Value},aev σ r=.raw (.iface t v)→(method (P.types.size+Made.depth) t v n).run P w=.ok (g,v) w→Gn P g→(execOp a.eval o).run P w=.ok (.enter g ([v]++(c.args.toList.map a.eval++[])).toArray) w:=fun{t g v} hr hm hfn=>by
  have e1:=hst.rawOp hr;obtain⟨fn,code,hfn,hbody,hname⟩:=hfn;have hargs:([v]++(c.args.toList.map a.eval++[])).toArray= #[v]++c.args.map a.eval:=by apply Array.ext';simp
  rw[hargs];have hrun:=Es (P:=P) hfn hname hbody (#[v]++c.args.map a.eval) w;have hx:(#[Value.iface t v]++c.args.map a.eval).extract 1 (1+c.args.size)=c.args.map a.eval:=by apply Array.ext';simp only[Array.toList_extract,Array.toList_append,AyU,List.extract_eq_take_drop];simp only[Ax4,Ax8,List.drop_succ_cons,List.drop_zero,AyZ];exact Axw oS
  unfold execOp;have h0:(#[Value.iface t v]++c.args.map a.eval)[0]? =some (.iface t v):=by rw[←Array.getElem?_toList,Array.toList_append];rfl
  simp [ho,resolve,hc,e1,invoke,callMethod,Sem.run_bind,hm,hrun,hx,h0]
 unfold Adj at h;split at h
 ·rename_i t ad hr;split at h
  ·rename_i g hg;exact L4 (pu:=[.pointer (some ad)]) (us:=[]) hst (fun S c _=>⟨_,.raw rfl (.nil Al),Al⟩) (fun S c _=>⟨_,.nil Al,Al⟩) (key hr (hH.base.me t n g hg ad w)) h hE
  ·exact Ad
 ·rename_i t v _ hr;split at h
  ·rename_i g hg;exact L4 (pu:=[v]) (us:=[]) hst (fun S c _=>⟨_,F7 v,Al⟩) (fun S c _=>⟨_,.nil Al,Al⟩) (key hr (hH.mv t n g hg v w)) h hE
  ·exact Ad
 ·exact Ad
theorem Adk {t:Nat} {u v:Value} {e:Bool} (h:∀n,(Op.equalIn (n+1) t u v).run P w=.ok e w):(Op.equal t u v).run P w=.ok e w:=h 9999
def mW:Value→Bool
 |.nilIface|.iface _ _|.pointer _|.map _|.nilFunc|.func _ _ _=>true
 |_=>false
theorem mX {t:Nat} {u v:Value} {e:Bool} (hu:mW u=true) (h:(Op.equal t u v).run P w=.ok e w):(binOp .eql t u v).run P w=.ok (.bool e) w:=by exact AmI
theorem mY {t:Nat} {u v:Value} {e:Bool} (hu:mW u=true) (h:(Op.equal t u v).run P w=.ok e w):(binOp .neq t u v).run P w=.ok (.bool (!e)) w:=by exact AmI
theorem Yg {v u:Value} {x:AV} {k t:Nat} {e:Bool} {S c:Nat→Nat} {d:TypeDesc} (h:niq v x=some (k,e)) (hr:Aa w S [x] [u] c) (hu:P.underlying t=some d) (hk:ekD k d) (op:BinOp) (y:Operand):
 (eqGuard op t y (.const v) u v).run P w=.ok () w∧(Op.equal t u v).run P w=.ok e w∧(binOp .eql t u v).run P w=.ok (.bool e) w∧(binOp .neq t u v).run P w=.ok (.bool (!e)) w:=by
 unfold niq at h
 split at h<;>first
  |cases h;done
  |(injection h with h
    injection h with h1 h2;subst h1;subst h2;have e1:=(Ay hr).1;subst e1;cases d<;>simp only[ekD]at hk;refine⟨by unfold eqGuard;cases op<;>simp,?_⟩;refine(fun he=>⟨he,mX rfl he,mY rfl he⟩) (Adk fun n=> ?_);simp [Op.equalIn,run_underlying hu])
theorem Fj (hT:Am P T) (hH:Cl P H) (hst:Ah dfs w0 S0 c0 γ σ a w) (h:hop P T H o.dst o.op γ σ K E)
 (hE:∀v γ' σ' w',E v γ' σ'→Ah dfs w0 S0 c0 γ' σ' a w'→Q (.panic [{v:=v,recovered:=false}]) a w'):o.wp P a w (fun a' w'=>∃γ' σ',K γ' σ'∧Ah dfs w0 S0 c0 γ' σ' a' w') Q:=by
 have old:Ct P T o.dst o.op σ (K γ)→o.wp P a w (fun a' w'=>∃γ' σ',K γ' σ'∧Ah dfs w0 S0 c0 γ' σ' a' w') Q:=fun h=>AjZ hT hst (Aka h);unfold hop at h;split at h
 ·rename_i t q f ho;split at h
  ·rename_i b off hp;unfold hfa at h;split at h
   ·rename_i i hi;split at h
    ·rename_i fo n ag hf;exact A7 (fun a' w' hs=>⟨γ,_,h.2,hs⟩) (mM ho (hT t i hi) hst (Hl hp) hf h.1)
    ·exact Ad
   ·exact Ad
  ·exact old h
 ·rename_i t q ho;split at h
  ·rename_i b off hp;unfold hld at h;split at h
   ·rename_i i gi hi hgi;split at h
    ·rename_i b' Te cs hx;obtain⟨g1,g2⟩:=Gp hgi;rw[hx]at g1 g2;injection g2 with g2;subst g2;exact A7 (fun a' w' hs=>⟨_,_,h.2,hs⟩) (dW ho (hT t i hi) hst (Hl hp) g1 rfl h.1)
    ·exact Ad
   ·exact Ad
  ·exact old h
 ·rename_i t q y ho;split at h
  ·rename_i b off hp;unfold mT at h;split at h
   ·rename_i i gi hi hgi;split at h
    ·rename_i b' Te cs hx;obtain⟨g1,g2⟩:=Gp hgi;rw[hx]at g1 g2;injection g2 with g2;subst g2;exact A7 (fun a' w' hs=>⟨_,_,h.2.2.2,hs⟩) (Yf ho (hT t i hi) hst (Hl hp) g1 h.2.1 h.2.2.1 h.1)
    ·exact Ad
   ·exact Ad
  ·exact old h
 ·rename_i x ho;have raw:∀{v:Value},aev σ x=.raw v→v.oneCell'=true→(∀w,(execOp a.eval o).run P w=.ok (.value (a.eval x)) w)→K γ (aset σ o.dst (.raw v))→o.wp P a w (fun a' w'=>∃γ' σ',K γ' σ'∧Ah dfs w0 S0 c0 γ' σ' a' w') Q:=fun{v} hx h1 hrun hK=>by have e1:=hst.rawOp hx;exact hq hst rfl (by rw[hrun,e1]) (fun S c hr=>⟨_,.raw h1 (.nil Al),Al⟩) hK
  unfold hnc at h;split at h
  ·rename_i ad hx;exact AaH
  ·rename_i t v hx;exact AaH
  ·rename_i g xs bs hx;exact AaH
  ·rename_i g cs hx;obtain⟨S1,c1,hop⟩:=hst.opnd x;rw[hx]at hop
   obtain⟨us,e1⟩:∃us:List Value,a.eval x=.func (.func g) #[] us.toArray:=by
    generalize a.eval x=v at hop
    cases hop with
    |clo h1 h0 h=>exact⟨_,rfl⟩
   refine hq hst rfl (v:=a.eval x) (by unfold execOp;simp [ho,e1]) (fun S c hr=> ?_) h;obtain⟨cx,hrx⟩:=Ar hr x;rw[hx,e1]at hrx;rw[e1]
   cases hrx with
   |clo h1 h0 h=>exact⟨_,.clo h1 h0 (.nil Al),Al⟩
  ·exact old h
 ·rename_i t x ho;have hrun:H.cn t=true→∀w,(execOp a.eval o).run P w=.ok (.value (.iface t (a.eval x))) w:=fun hcn w=>by obtain⟨d,hd,hni⟩:=hH.base.cn t hcn;unfold execOp;simp only[ho,Instr.makeInterface,Sem.run_bind,run_underlying hd,Result.andThen_ok];cases d<;>first|exact absurd rfl (hni _)|rfl
  unfold hmx at h;split at h
  ·rename_i y hx;obtain⟨hcn,h⟩:=h;obtain⟨S,c,c1,gv,hrf,hr,hg,h1,hd,hz,hs⟩:=hst;obtain⟨cy,hry⟩:=Ar hr x;rw[hx]at hry;generalize hv:a.eval x=v at hry
   cases hry with
   |elt hsp k1 k0 hcell hsz k2=>
    rename_i ad cv c0';obtain⟨c4,h2,h3⟩:=hr.aset (.raw (v:=.iface t (.pointer (some ad))) rfl (.nil Al)) o.dst;refine Ao (w':=w) (v:=.iface t (.pointer (some ad))) (by rw[hrun hcn,hv]) ⟨_,_,h ad,S,c4,c1,undef::gv,hrf.aset _ _ rfl,h2,.nelt hsp k1 k0 hcell hsz hg,fun b=> ?_,by rw[put_defers];exact hd,hz,hs.drop fun b=> ?_⟩
    ·have:=h1 b;have:=h3 b;omega
    ·have:=h3 b;show c4 b+c1 b≤c b+c1 b;omega
  ·unfold hmi at h;split at h
   ·rename_i v hv;obtain⟨S1,c1,hop⟩:=hst.opnd x;have e1:=mS hop hv;exact hq hst rfl (v:=.iface t v) (by rw[hrun h.1,e1]) (fun S c hr=>⟨_,.raw rfl (.nil Al),Al⟩) h.2
   ·exact Ad
 ·rename_i x xt t ok ho
  have hfail:∀{v:Value},H.cn t=true→aev σ x=.raw v→(v=.nilIface∨∃t' u,v=.iface t' u∧t'≠t)→mU (H.zr t) ok (fun y=>K γ (aset σ o.dst y))→o.wp P a w (fun a' w'=>∃γ' σ',K γ' σ'∧Ah dfs w0 S0 c0 γ' σ' a' w') Q:=fun{v} hcn hx hv h=>by
   unfold mU at h;split at h
   ·rename_i z hz;obtain⟨rfl,hK⟩:=h;have hzr:=hH.base.zr t z hz;obtain⟨d,hd,hni⟩:=hH.base.cn t hcn;refine hq hst (y:=.tup [aconst z,.raw (.bool false)]) (v:=.tuple #[z,.bool false]) rfl ?_ (fun S c hr=>⟨fun _=>0,Aa.tup (c1:=fun _=>0) (Aa.cons (c2:=fun _=>0) (F7 z) (.raw rfl (.nil Al)) (fun b=>rfl)) (.nil Al) (fun b=>rfl),Al⟩) hK;unfold execOp;simp only[ho,Instr.typeAssert,hst.rawOp hx,Sem.run_bind,run_underlying hd,Result.andThen_ok];rcases hv with rfl|⟨t',u,rfl,hne⟩
    ·cases d<;>first|exact absurd rfl (hni _)|simp [hzr]
    ·cases d<;>first|exact absurd rfl (hni _)|simp [hzr,hne]
   ·exact Ad
  unfold hta at h;split at h
  ·rename_i t' v hx;obtain⟨hcn,h⟩:=h;split at h
   ·rename_i ht;subst ht;obtain⟨d,hd,hni⟩:=hH.base.cn t' hcn;have hrun:(execOp a.eval o).run P w=.ok (.value (if ok then .tuple #[v,.bool true]else v)) w:=by unfold execOp;simp only[ho,Instr.typeAssert,hst.rawOp hx,Sem.run_bind,run_underlying hd,Result.andThen_ok];cases d<;>first|exact absurd rfl (hni _)|simp
    cases ok with
    |true=>exact hq hst (y:=.tup [aconst v,.raw (.bool true)]) rfl hrun (fun S c hr=>⟨fun _=>0,Aa.tup (c1:=fun _=>0) (Aa.cons (c2:=fun _=>0) (F7 v) (.raw rfl (.nil Al)) (fun b=>rfl)) (.nil Al) (fun b=>rfl),Al⟩) h
    |false=>exact hq hst (y:=aconst v) (wB v) hrun (fun S c hr=>⟨_,F7 v,Al⟩) h
   ·rename_i ht;exact hfail hcn hx (.inr ⟨_,_,rfl,ht⟩) h
  ·rename_i hx;exact hfail h.1 hx (.inl rfl) h.2
  ·exact Ad
 ·rename_i b t x v t' ho;unfold hbn at h;split at h
  ·rename_i k e hn;have key:∀{u:Value},H.ek t=some k→(binOp b t (a.eval x) v).run P w=.ok u w→u.oneCell'=true→K γ (aset σ o.dst (.raw u))→o.wp P a w (fun a' w'=>∃γ' σ',K γ' σ'∧Ah dfs w0 S0 c0 γ' σ' a' w') Q:=fun{u} hek hb h1 hK=>by obtain⟨d,hd,hkd⟩:=hH.ek t k hek;obtain⟨S1,c1,hop⟩:=hst.opnd x;have hg:=(Yg hn hop hd hkd b x).1;refine hq hst rfl (v:=u) ?_ (fun S c hr=>⟨_,.raw h1 (.nil Al),Al⟩) hK;unfold execOp;simp only[ho,Act.eval,Sem.run_bind,Sem.run_pure,Result.andThen_ok]at hg hb⊢;simp only[hg,hb,Result.andThen_ok,Sem.run_pure]
   split at h
   ·obtain ⟨d,hd,hkd⟩:=hH.ek t k h.1;obtain⟨S1,c1,hop⟩:=hst.opnd x;exact key h.1 (Yg hn hop hd hkd .eql x).2.2.1 rfl h.2
   ·obtain ⟨d,hd,hkd⟩:=hH.ek t k h.1;obtain⟨S1,c1,hop⟩:=hst.opnd x;exact key h.1 (Yg hn hop hd hkd .eql x).2.2.2 rfl h.2
   ·exact old h
  ·exact old h
 ·rename_i x ho;unfold hpn at h;split at h
  ·rename_i t v hx;have hrun:(execOp a.eval o).run P w=.halt (.panic (.iface t v)) w:=by unfold execOp;simp only[ho,Instr.panic,hst.rawOp hx];rfl
   unfold Oper.wp;rw[hrun,Oper.upon_panic];exact hE _ _ _ _ h hst
  ·exact Ad
 ·rename_i t ho;exact A7 (fun a' w' ⟨b,hb,hs⟩=>⟨_,_,h b hb,hs⟩) (dZ ho hst)
 ·rename_i t q x ok ho;split at h
  ·rename_i b hp;unfold hlk at h;split at h
   ·rename_i kt et gi hm hgi;unfold Adh at h;split at h
    ·rename_i b' ks vs k z hx hk hz;obtain⟨g1,g2⟩:=Gp hgi;rw[hx]at g1 g2;injection g2 with g2;subst g2;refine A7 (fun a' w' hs=>⟨γ,_,h.2,?_⟩) (U3 ho (hH.base.mp t kt et hm) (hH.base.zr et z hz) hst (J0 hp) hk g1 (Pq hH h.1));unfold U4;exact hs
    ·exact Ad
   ·exact Ad
  ·exact old h
 ·rename_i t q x y ho;split at h
  ·rename_i b hp;unfold hup at h;split at h
   ·rename_i kt et gi hm hgi;unfold Adi at h;split at h
    ·rename_i b' ks vs k hx hk;obtain⟨g1,g2⟩:=Gp hgi;rw[hx]at g1 g2;injection g2 with g2;subst g2;refine A7 (fun a' w' hs=>⟨_,_,h.2,?_⟩) (Ms (.inl ho) (hH.base.mp t kt et hm) hst (J0 hp) hk g1 (Pq hH h.1));unfold wA;exact hs
    ·exact Ad
   ·exact Ad
  ·exact old h
 ·rename_i t q x y ho;split at h
  ·rename_i b hp;unfold hup at h;split at h
   ·rename_i kt et gi hm hgi;unfold Adi at h;split at h
    ·rename_i b' ks vs k hx hk;obtain⟨g1,g2⟩:=Gp hgi;rw[hx]at g1 g2;injection g2 with g2;subst g2;refine A7 (fun a' w' hs=>⟨_,_,h.2,?_⟩) (Ms (.inr ho) (hH.base.mp t kt et hm) hst (J0 hp) hk g1 (Pq hH h.1));unfold wA;exact hs
    ·exact Ad
   ·exact Ad
  ·exact old h
 ·rename_i c ho;split at h
  ·rename_i hc;split at h
   ·rename_i t hca;unfold rY at h;split at h
    ·rename_i b ty hp hty;split at h
     ·rename_i gi hgi;unfold hlen at h;split at h
      ·rename_i m b' ks vs hm hx;obtain⟨kt,et⟩:=m;obtain⟨g1,g2⟩:=Gp hgi;rw[hx]at g1 g2;injection g2 with g2;subst g2;have hst':=hst;obtain⟨S,cc,c1,gv,hrf,hr,hg,h1,hdf,hzz,hs⟩:=hst;obtain⟨es,clk,d1,c2,hb,hS,hkeys,_⟩:=Ah.takeMap hg g1;have e1:=hst'.raw (J0 hp);refine hq hst' rfl (v:=.int .i64 (ks.length:Int)) ?_ (fun S c hr=>⟨_,.raw rfl (.nil Al),Al⟩) h;have hgo:(getObj b').run P w=.ok (.map es clk) w:=by simp [getObj,Sem.run,hb]
       have hl:es.size=ks.length:=by rw[←hkeys];simp
       unfold execOp;simp [ho,resolve,hc,M9 hca,M9 hty,invoke,builtin,Builtin.len_,run_underlying (hH.base.mp ty kt et hm),e1,Sem.run_bind,hgo,goInt,hl]
      ·exact Ad
     ·exact Ad
    ·exact old h
   ·exact old h
  ·rename_i hc;split at h
   ·rename_i x y t t' hca hct
    cases htt:(t==t')with
    |true=>rw[htt]at h;exact old h
    |false=>
     rw[htt]at h;simp only[cond_false]at h;unfold AjY at h;split at h
     ·rename_i i iu hi hiu;obtain⟨hstr,h⟩:=h;split at h
      ·rename_i e he;split at h
       ·rename_i j hj;obtain⟨inf,z,d2,_,_,_,_,_,g6,g7⟩:=(hT t' iu hiu).get;have hd2:d2=.string:=Pb (P:=P) (by rw[g7];exact hstr);subst hd2;exact A7 (fun a' w' ⟨σ',hK,hs⟩=>⟨γ,σ',hK,hs⟩) (hst.old fun w0 S0 c0 hs'=>mQ ho hc (M9 hca) (M9 hct) (hT t i hi) g6 he (hT e j hj) hs' h)
       ·exact Ad
      ·exact Ad
     ·exact Ad
   ·exact old h
  ·rename_i f hc
   cases hrw:hrow σ c.args.toList with
   |true=>rw[hrw]at h;exact old h
   |false=>rw[hrw]at h;exact wC ho hc hst h hE
  ·rename_i r n hc;exact mV hH ho hc hst h hE
  ·exact old h
 ·exact old h
end
end
section
open Go.RowKit
variable [Env]
variable {dfs : List Deferred}
def J1 (P:Program) (T:Bd) (H:Gy) (K:List AV→List AV→Prop) (E:Value→List AV→List AV→Prop):List CO→List AV→List AV→Prop
 |[],γ,σ=>K γ σ
 |⟨d,op,none⟩::l,γ,σ=>hop P T H d op γ σ (J1 P T H K E l) E
 |⟨d,op,some (t,want)⟩::l,γ,σ=>
  match σ.getD t .any with
  |.raw (.bool e)=>
   C1 e
    (if want then hop P T H d op γ (σ.set t (.raw (.bool true))) (J1 P T H K E l) E else J1 P T H K E l γ (aset (σ.set t (.raw (.bool true))) d (.tup [])))
    (if want then J1 P T H K E l γ (aset (σ.set t (.raw (.bool false))) d (.tup []))else hop P T H d op γ (σ.set t (.raw (.bool false))) (J1 P T H K E l) E)
  |.tup []=>J1 P T H K E l γ (aset σ d (.tup []))
  |_=>False
section
variable {P : Program} {T : Bd} {H : Gy} {w0 : World} {S0 c0 : Nat → Nat} {γ σ : List AV} {a : Act} {w : World}
theorem Ah.skip (hst:Ah dfs w0 S0 c0 γ σ a w) (d:Option Nat):Ah dfs w0 S0 c0 γ (aset σ d (.tup [])) (a.put d undef) w:=by obtain⟨S,c,h1,h2⟩:=hst.open;exact h2 _ _ _ (Ja h1 d)
theorem Sw (hT:Am P T) (hH:Cl P H) {ops:Array Oper} {K:List AV→List AV→Prop} {E:Value→List AV→List AV→Prop} {Q:Exit→Act→World→Prop}:
 ∀(l:List Nat) (os:List Oper) (cs:List CO) (γ σ:List AV) (a:Act) (w:World),l.map (ops[·]?)=os.map some→B2 ops os=some cs→Ah dfs w0 S0 c0 γ σ a w→J1 P T H K E cs γ σ→
  (∀γ σ a' w',Ah dfs w0 S0 c0 γ σ a' w'→K γ σ→Q .normal a' w')→(∀v γ σ a' w',E v γ σ→Ah dfs w0 S0 c0 γ σ a' w'→Q (.panic [{v:=v,recovered:=false}]) a' w')→wpOps P ops Q l a w
 |[],os,cs,γ,σ,a,w,hl,hcs,hst,h,hQ,hE=>by exact AhX
 |i::l,[],cs,γ,σ,a,w,hl,hcs,hst,h,hQ,hE=>by simp at hl
 |i::l,o::os,cs,γ,σ,a,w,hl,hcs,hst,h,hQ,hE=>by
  simp only[Axx,List.cons.injEq]at hl;obtain⟨ho,hl⟩:=hl;simp only[B2]at hcs;split at hcs
  ·rename_i g r hg hr;injection hcs with hcs;subst hcs;have rest:∀γ σ a w,Ah dfs w0 S0 c0 γ σ a w→J1 P T H K E r γ σ→wpOps P ops Q l a w:=fun γ σ a w hst h=>Sw hT hH l os r γ σ a w hl hr hst h hQ hE
   have one:∀γ σ,Ah dfs w0 S0 c0 γ σ a w→hop P T H o.dst o.op γ σ (J1 P T H K E r) E→o.wp P a w (wpOps P ops Q l) Q:=fun γ σ hst h=>
    A7 (fun a' w' ⟨γ',σ',h1,h2⟩=>rest γ' σ' a' w' h2 h1) (Fj hT hH hst h fun v γ' σ' w' h1 h2=>hE v γ' σ' a w' h1 h2)
   simp only[wpOps,ho]
   cases hgd:o.guard with
   |none=>
    rw[hgd]at hg;simp only[Bf]at hg;injection hg with hg;subst hg;have hw:Region.wanted o (yielded ops a.tmps)=true:=by simp [Region.wanted,hgd]
    rw[if_pos hw];exact .inl (one γ σ hst h)
   |some jw=>
    obtain⟨j,want⟩:=jw;rw[hgd]at hg;simp only[Bf]at hg;split at hg
    ·rename_i t ht;injection hg with hg;subst hg;simp only[J1]at h
     have val:∀{x:AV},σ.getD t .any=x→x≠ .any→∃v S c,yielded ops a.tmps j=(match v with
      |.bool b=>some b
      |_=>none)∧Aa w S [x] [v] c:=fun{x} hx hne=>by
      exact Atl
     split at h
     ·rename_i e he;obtain⟨v,S,c,hyl,hy⟩:=val he oS;have e1:=(Ay hy).1;subst e1;have hts:=getD_lt he oS;have hset:∀b,e=b→Ah dfs w0 S0 c0 γ (σ.set t (.raw (.bool b))) a w:=by intro b hb;subst hb;rw[set_self hts he];exact hst
      have hwant:Region.wanted o (yielded ops a.tmps)=(e==want):=by simp [Region.wanted,hgd,hyl]
      rw[hwant]
      cases e with
      |true=>
       have h:=h.1 rfl
       cases want with
       |true=>rw[if_pos (show(true==true)=true from rfl)];exact .inl (one _ _ (hset true rfl) h)
       |false=>rw[if_neg oS];exact rest _ _ _ w ((hset true rfl).skip _) h
      |false=>
       have h:=h.2 rfl
       cases want with
       |true=>rw[if_neg oS];exact rest _ _ _ w ((hset false rfl).skip _) h
       |false=>rw[if_pos (show(false==false)=true from rfl)];exact .inl (one _ _ (hset false rfl) h)
     ·rename_i he;obtain⟨v,S,c,hyl,hy⟩:=val he oS;have e1:v=.tuple #[]:=by exact qE
      subst e1;have hwant:Region.wanted o (yielded ops a.tmps)=false:=by simp [Region.wanted,hgd,hyl]
      rw[hwant,if_neg oS];exact rest _ _ _ w (hst.skip _) h
     ·exact Ad
    ·cases hg
  ·cases hcs
end
end
end Go.Proofs.YtmophjggmekoeaaGreatDoor
