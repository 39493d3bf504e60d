/- The operations that leave the world as it is. -/
import Derived.Lib.Strings
import Derived.Test.YtmophjggmekoeaaGreatDoorC3
set_option linter.all false
namespace Go.Proofs.YtmophjggmekoeaaGreatDoor
open Go.RowKit
variable [Env]
variable {dfs : List Deferred}
def Gv (vs:List Value):Bool:=vs.all Value.oneCell'
def lsz (i:TI):Nat:=if i.td.agg then i.size else 1
def G6 (σ:List AV) (i:TI) (x:Operand) (d:Option Nat) (K:List AV→Prop):Prop:=
 match x with
 |.tmp s=>
  match σ.getD s .any with
  |.box T cs=>lsz i≤cs.length∧K (aset (σ.set s (.box T (pleft cs 0 (lsz i) ((pcells cs 0 (lsz i)).map v1)))) d (pl (pval i.td.agg (pcells cs 0 (lsz i)))))
  |.ref s' off=>
   match σ.getD s' .any with
   |.box T cs=>off+lsz i≤cs.length∧K (aset (σ.set s' (.box T (pleft cs off (lsz i) ((pcells cs off (lsz i)).map v1)))) d (pl (pval i.td.agg (pcells cs off (lsz i)))))
   |_=>False
  |.elt y=>Iy y=true∧(cellsOf y).length=lsz i∧K (aset σ d (pl (pval i.td.agg (cellsOf y))))
  |_=>False
 |_=>False
def Bl (σ:List AV) (i:TI) (x:Operand) (f:Nat) (d:Option Nat) (K:List AV→Prop):Prop:=
 match i.td.flds[f]?,d with
 |some (off,some n,some agg),some d=>
  match x with
  |.tmp s=>
   match σ.getD s .any with
   |.box _ _=>n≠0∧s≠d∧K (σ.set d (.ref s off))
   |.ref s' o=>match σ.getD s' .any with
    |.box _ _=>n≠0∧s'≠d∧K (σ.set d (.ref s' (o+off)))
    |_=>False
   |.elt y=>n≠0∧Iy y=true∧(agg=false→n=1)∧off+n≤(cellsOf y).length∧K (σ.set d (.elt (pval agg (pcells (cellsOf y) off n))))
   |_=>False
  |_=>False
 |_,_=>False
def Pe (i:TI) (f:Nat) (x:AV) (K:AV→Prop):Prop:=
 match i.td.flds[f]?,x with
 |some (off,some n,some agg),.agg cs=>(agg=false→n=1)∧off+n≤cs.length∧K (pl (pval agg ((pcells cs off n).map v1)))
 |_,_=>False
def Ik (σ:List AV) (i:TI) (x:Operand) (f:Nat) (d:Option Nat) (K:List AV→Prop):Prop:=
 match x with
 |.tmp s=>
  match σ.getD s .any with
  |.agg cs=>
   match i.td.flds[f]? with
   |some (off,some n,some agg)=>(agg=false→n=1)∧off+n≤cs.length∧K (aset (σ.set s (.agg (pleft cs off n ((pcells cs off n).map v1)))) d (pl (pval agg (pcells cs off n))))
   |_=>False
  |_=>False
 |x=>Pe i f (aev σ x) fun z=>K (aset σ d z)
def bP (size:Nat) (agg:Bool):Nat→Nat→List (Nat×Option Nat×Option Bool)
 |_,0=>[]
 |off,n+1=>(off,some size,some agg)::bP size agg (off+size) n
theorem bQ (size:Nat) (agg:Bool):∀(n off k:Nat) (p:Nat×Option Nat×Option Bool),(bP size agg off n)[k]? =some p→p=(off+k*size,some size,some agg)
 |0,off,k,p,h=>by simp [bP]at h
 |n+1,off,0,p,h=>by simp [bP]at h;simp [←h]
 |n+1,off,k+1,p,h=>by simp only[bP,List.getElem?_cons_succ]at h;have:=bQ size agg n (off+size) k p h;rw[this,Nat.succ_mul];congr 1;omega
def bok (T:Bd) (i:TI):Bool:=i.td.struct||match i.td.arr with
 |some (_,e)=>(T e).isSome
 |none=>false
def Il (T:Bd) (i:TI):List (Nat×Option Nat×Option Bool):=
 if i.td.struct then i.td.flds else match i.td.arr with
  |some (n,e)=>match T e with
   |some j=>bP j.size j.td.agg 0 n
   |none=>[]
  |none=>[]
def Ej (σ:List AV) (x:Operand) (n:Nat) (d:Option Nat) (K:List AV→Prop):Prop:=
 match x with
 |.tmp s=>
  match σ.getD s .any with
  |.tup cs=>n<cs.length∧K (aset (σ.set s (.tup (cs.set n (v2 (cs.getD n .any))))) d (pl (cs.getD n .any)))
  |_=>False
 |_=>False
def Kr (T:Bd) (i:TI) (x y:AV) (K:AV→Prop):Prop:=
 match x,y with
 |.raw (.string s),.raw (.int _ n)=>i.td.str=true∧0≤n∧n.toNat<s.data.toList.length∧K (.raw (.int .u8 ((s.data.toList.getD n.toNat 0).toNat:Int)))
 |.agg cs,.raw (.int _ n)=>
  match i.td.arr with
  |some (len,e)=>
   match T e with
   |some j=>0≤n∧n<len∧(j.td.agg=false→j.size=1)∧n.toNat *j.size+j.size≤cs.length∧K (pl (pval j.td.agg ((pcells cs (n.toNat *j.size) j.size).map v1)))
   |none=>False
  |none=>False
 |_,_=>False
def Ek (T:Bd) (i:TI) (x y:AV) (K:AV→Prop):Prop:=
 match i.td.elem with
 |some e=>
  match T e with
  |some j=>
   match x,y with
   |.sl k es,.raw (.int _ n)=>k=j.size∧0≤n∧n.toNat<es.length∧K (.elt (es.getD n.toNat .any))
   |.own _ k es,.raw (.int _ n)=>k=j.size∧0≤n∧n.toNat<es.length∧K (.elt (es.getD n.toNat .any))
   |_,_=>False
  |none=>False
 |none=>False
def Bz (dflt:Int):Option AV→(Int→Prop)→Prop
 |none,K=>K dflt
 |some (.raw (.int _ n)),K=>K n
 |_,_=>False
def Hp (T:Bd) (i:TI) (x:AV) (lo hi:Option AV) (K:AV→Prop):Prop:=
 match x with
 |.raw (.string s)=>i.td.str=true∧Bz 0 lo fun l=>Bz s.data.toList.length hi fun h=>
  0≤l∧l≤h∧h≤s.data.toList.length∧K (.raw (.string ⟨((s.data.toList.drop l.toNat).take (h.toNat-l.toNat)).toArray⟩))
 |.sl k es=>
  match i.td.elem with
  |some e=>match T e with
   |some j=>k=j.size∧Bz 0 lo fun l=>Bz es.length hi fun h=>0≤l∧l≤h∧h≤es.length∧K (.sl k ((es.drop l.toNat).take (h.toNat-l.toNat)))
   |none=>False
  |none=>False
 |.own _ k es=>
  match i.td.elem with
  |some e=>match T e with
   |some j=>k=j.size∧Bz 0 lo fun l=>Bz es.length hi fun h=>0≤l∧l≤h∧h≤es.length∧K (.sl k ((es.drop l.toNat).take (h.toNat-l.toNat)))
   |none=>False
  |none=>False
 |.slx k es zs=>
  match i.td.elem with
  |some e=>match T e with
   |some j=>k=j.size∧Bz 0 lo fun l=>Bz es.length hi fun h=>(l=0∧h=((es++zs).length:Int))∧K (.sl k (es++zs))
   |none=>False
  |none=>False
 |_=>False
def Xi (i:TI):AV→(AV→Prop)→Prop
 |.raw (.string s),K=>i.td.str=true∧K (.raw (.int .i64 (s.data.toList.length:Int)))
 |.sl _ es,K=>i.td.elem.isSome=true∧K (.raw (.int .i64 (es.length:Int)))
 |.own _ _ es,K=>i.td.elem.isSome=true∧K (.raw (.int .i64 (es.length:Int)))
 |.nil,K=>i.td.elem.isSome=true∧K (.raw (.int .i64 0))
 |_,_=>False
section
variable {P : Program} {T : Bd} {w : World} {S : Nat → Nat}
theorem Ao {o:Oper} {a:Act} {next:Act→World→Prop} {Q:Exit→Act→World→Prop} {v:Value} {w':World} (h:(execOp a.eval o).run P w=.ok (.value v) w') (hn:next (a.put o.dst v) w'):o.wp P a w next Q:=by unfold Oper.wp;rw[h];exact hn
theorem A4 {σ:List AV} {vs:List Value} {c:Nat→Nat} (h:Aa w S σ vs c) {s:Nat} {x:AV} (hx:σ.getD s .any=x) (hne:x≠ .any):σ[s]? =some x:=by
 rw[Axy]at hx
 cases hs:σ[s]? with
 |none=>rw[hs]at hx;exact absurd hx.symm hne
 |some y=>rw[hs]at hx;simp at hx;rw[hx]
theorem Ff {t b off n:Nat} {i:TI} {cur:Array Value} {Te:TypeId} (hi:Cx P t i) (hb:w.heap[b]? =some (.cells cur Te (0,0))) (hn:n=lsz i) (hl:off+n≤cur.size):
 (Instr.loadAt t (.pointer (some ⟨b,off,none⟩))).run P w=.ok (if i.td.agg then .agg ((cur.toList.drop off).take n).toArray else((cur.toList.drop off).take n).headD undef) w:=by
 obtain⟨inf,z,d,h1,_,_,h4,_,h6,h7⟩:=hi.get;unfold lsz at hn
 cases ha:i.td.agg with
 |true=>
  simp only[ha,if_true]at hn⊢;refine run_loadAt_mid w b off t _ d ?_ h6 ?_ ?_
  ·intro j v hj;rw[cell_of_row w b (off+j) cur Te (0,0) hb];exact AoH
  ·have:=M0 (P:=P) (d:=d);rw[h7,ha]at this;cases d<;>simp_all [O9]
  ·rw [h1];simp;omega
 |false=>
  simp only[ha,Ax0,if_false]at hn⊢;subst hn;have hagg:(isAgg t).run P w=.ok false w:=by have:=M0 (P:=P) (d:=d);rw[h7,ha]at this;unfold isAgg;rw[Sem.run_bind,run_underlying h6 w];cases d<;>simp_all [O9]
  have hc:w.cell? ⟨b,off,none⟩=some cur[off]:=by rw[cell_of_row w b off cur Te (0,0) hb];simp
  have hd:(cur.toList.drop off).take 1=[cur[off]]:=by rw[Ayd (by simp;omega)];simp
  rw[hd];simp [Instr.loadAt,Instr.sureAddr,loadVar,hagg,hc]
theorem Ck {a:Act} {s:Nat} {v:Value} (hv:a.tmps.toList[s]? =some v):a.eval (.tmp s)=v:=by exact Anz
theorem Hq {σ:List AV} {a:Act} {c:Nat→Nat} (h:Aa w S σ a.tmps.toList c) {s Te:Nat} {cs:List AV} (hx:σ.getD s .any=.box Te cs):
 ∃b cur d1 c2,a.eval (.tmp s)=.pointer (some ⟨b,0,none⟩)∧w.heap[b]? =some (.cells cur Te (0,0))∧S b=0∧Aa w S cs cur.toList d1∧(∀u∈cur.toList,u.oneCell'=true)∧
  Aa w S (σ.set s .any) a.tmps.toList c2∧(∀x,c x=(if x=b then 1 else 0)+d1 x+c2 x)∧a.tmps.toList[s]? =some (.pointer (some ⟨b,0,none⟩)):=by
 have hs:=A4 h hx oS;obtain⟨v,c1,c2,hv,h1,h2,hc⟩:=h.take s hs
 cases h1 with
 |box hb hS h1 hoc h hcc=>
  cases h with|nil hz=>
  exact⟨_,_,_,c2,Ck hv,hb,hS,h1,hoc,h2,fun x=>by rw[hc,hcc,hz x];omega,hv⟩
theorem Xj {σ:List AV} {a:Act} {c2 d1 c:Nat→Nat} {s b Te:Nat} {cs:List AV} {cur:Array Value} (hr:Aa w S (σ.set s .any) a.tmps.toList c2) (hs:s<σ.length) (hv:a.tmps.toList[s]? =some (.pointer (some ⟨b,0,none⟩)))
 (hb:w.heap[b]? =some (.cells cur Te (0,0))) (hS:S b=0) (h1:Aa w S cs cur.toList d1) (ho:∀u∈cur.toList,u.oneCell'=true) (hc:∀x,c x=(if x=b then 1 else 0)+d1 x+c2 x):
 Aa w S (σ.set s (.box Te cs)) a.tmps.toList c:=by
 have:=hr.fill (Aa.box (c:=fun x=>(if x=b then 1 else 0)+d1 x) hb hS h1 ho (.nil Al) (fun x=>oS)) s (by simp [hs]);rw[Ayn,Ak hv]at this;exact this.congr fun x=>by rw[hc]
theorem getD_lt {σ:List AV} {s:Nat} {x:AV} (hx:σ.getD s .any=x) (hne:x≠ .any):s<σ.length:=by
 rcases Axz s σ.length with h|h
 ·exact h
 ·rw [Axy,List.getElem?_eq_none h]at hx;exact absurd hx.symm hne
theorem M1 (vs:List Value) (off n:Nat):vs.take off++(vs.drop off).take n++vs.drop (off+n)=vs:=by exact Anv
section
variable {w0 : World} {S0 c0 : Nat → Nat} {σ : List AV} {a : Act} {K : List AV → Prop} {Q : Exit → Act → World → Prop} {o : Oper}
theorem Vj {t n off s Te:Nat} {x:Operand} {i:TI} {cs:List AV} (ho:o.op=.load t x) (hi:Cx P t i) (hst:A3 dfs w0 S0 c0 σ a w) (hn:n=lsz i)
 (hx:σ.getD s .any=.box Te cs) (he:∀b,a.tmps.toList[s]? =some (.pointer (some ⟨b,0,none⟩))→a.eval x=.pointer (some ⟨b,off,none⟩)) (hl:off+n≤cs.length)
 (h:K (aset (σ.set s (.box Te (pleft cs off n ((pcells cs off n).map v1)))) o.dst (pl (pval i.td.agg (pcells cs off n))))):
 o.wp P a w (fun a' w'=>∃σ',K σ'∧A3 dfs w0 S0 c0 σ' a' w') Q:=by
 obtain⟨hrf,S,c,hr,h1,hd,hz,hs⟩:=hst;obtain⟨b,cur,d1,c2,hev,hb,hS,hcs,hone,hr2,hc,hv⟩:=Hq hr hx;have he:=he b hv;have hcl:=hcs.length;obtain⟨e1,e2,hp,hput,hce⟩:=hcs.part off n;obtain⟨c',hp2,hc'⟩:=hput _ _ _ (Aa.map_v Aa.v1 hp);rw[M1]at hp2;have hr3:=Xj (c:=fun x=>(if x=b then 1 else 0)+c' x+c2 x) hr2 (getD_lt hx oS) hv hb hS hp2 hone (fun x=>rfl);have hval:=Fq hp (fun u hu=>hone u (AxL (AxK hu))) i.td.agg (fun ha=>by unfold lsz at hn;rw[ha]at hn;simp at hn;subst hn;simp [pcells];omega);obtain⟨e3,hval,hle⟩:=hval.pl;refine Ao (w':=w) (v:=if i.td.agg then .agg ((cur.toList.drop off).take n).toArray else((cur.toList.drop off).take n).headD undef) ?_ ⟨_,h,A3.value (hrf.rebox _ _ (A4 hr hx oS)) (Kp _) h1 hd hz hs hr3 hval (fun x=> ?_) _⟩
 ·have hrun:=Ff (off:=off) hi hb hn (by simp at hcl;omega);exact Aax
 ·rw [hc,hce];have:=hc' x;have:=hle x;show e3 x+((if x=b then 1 else 0)+c' x+c2 x)≤_;omega
theorem bR {t:Nat} {x:Operand} {i:TI} (ho:o.op=.load t x) (hi:Cx P t i) (hst:A3 dfs w0 S0 c0 σ a w) (h:G6 σ i x o.dst K):
 o.wp P a w (fun a' w'=>∃σ',K σ'∧A3 dfs w0 S0 c0 σ' a' w') Q:=by
 unfold G6 at h
 cases x with
 |tmp s=>
  simp only[]at h;split at h
  ·rename_i Te cs hx;exact Vj ho hi hst rfl hx (fun b hb=>Ck hb) om h.2
  ·rename_i s' off hx;split at h
   ·rename_i Te cs hx';obtain⟨hl,hK⟩:=h;have hst':=hst;obtain⟨hrf,S,c,hr,hrest⟩:=hst;obtain⟨b,hb1,hb2⟩:=hrf.ref s s' off Te cs (A4 hr hx oS) (A4 hr hx' oS);exact Vj ho hi hst' rfl hx' (fun b' hb'=>by rw[hb1]at hb';cases hb';exact Ck hb2) hl hK
   ·exact Ad
  ·rename_i y hx;obtain⟨hok,hlen,hK⟩:=h;obtain⟨hrf,S,c,hr,h1,hd,hz,hs⟩:=hst;have hsl:=A4 hr hx oS;obtain⟨v,c1,c2,hv,hy,h2,hc⟩:=hr.take s hsl
   cases hy with
   |elt hsp hcv h0 hcell hst hnil=>
    rename_i ad cv ce;have hev:=Ck hv;have hcl:=hcv.length;unfold lsz at hlen;have hval:=Fq hcv (fun u hu=>by obtain⟨j,hj⟩:=List.getElem?_of_mem hu;exact(hcell j u hj).2) i.td.agg (fun ha=>by rw[ha]at hlen;simpa using hlen);obtain⟨e3,hval,hle⟩:=hval.pl;obtain⟨bb,oo,sp⟩:=ad;simp at hsp;subst hsp;obtain⟨inf,z,d,g1,_,_,g4,_,g6,g7⟩:=hi.get;have htd:=M0 (P:=P) (d:=d);refine Ao (w':=w) (v:=if i.td.agg then .agg cv.toArray else cv.headD undef) ?_ ⟨_,hK,A3.value hrf (Kp _) h1 hd hz hs hr hval (fun x=>by have:=hle x;rw[h0 x]at this;omega) _⟩
    have:(Instr.loadAt t (.pointer (some ⟨bb,oo,none⟩))).run P w=.ok (if i.td.agg then .agg cv.toArray else cv.headD undef) w:=by
     cases ha:i.td.agg with
     |true=>
      simp only[if_true];refine run_loadAt_mid w bb oo t cv d (fun j v hj=>(hcell j v hj).1) g6 ?_ ?_
      ·rw [g7,ha]at htd;cases d<;>simp_all [O9]
      ·rw [g1];rw[ha]at hlen;simp at hlen⊢;omega
     |false=>
      have hagg:(isAgg t).run P w=.ok false w:=by rw[g7,ha]at htd;exact Aie
      rw[ha]at hlen;simp at hlen
      match cv,hcl with
      |[u],_=>have:=(hcell 0 u rfl).1;exact An4
      |[],hcl=>simp at hcl;omega
      |_::_::_,hcl=>simp at hcl;omega
    unfold execOp;simp only[ho,hev,Sem.run_bind,this,Result.andThen_ok,Sem.run_pure]
  ·exact Ad
 |_=>exact h.elim
theorem Bi {v:Value} {y:AV} (hst:A3 dfs w0 S0 c0 σ a w) (hp:pb y=true) (hrun:(execOp a.eval o).run P w=.ok (.value v) w) (hy:∀S c,Aa w S σ a.tmps.toList c→∃cy,Aa w S [y] [v] cy∧Zc cy)
 (hK:K (aset σ o.dst y)):o.wp P a w (fun a' w'=>∃σ',K σ'∧A3 dfs w0 S0 c0 σ' a' w') Q:=by
 obtain⟨hrf,S,c,hr,h1,hd,hz,hs⟩:=hst;obtain⟨cy,h2,h3⟩:=hy S c hr;exact Ao hrun ⟨_,hK,A3.value hrf hp h1 hd hz hs hr h2 (fun x=>by rw[h3 x];omega) _⟩
theorem Ar {S:Nat→Nat} {c:Nat→Nat} (hr:Aa w S σ a.tmps.toList c) (x:Operand):∃cx,Aa w S [aev σ x] [a.eval x] cx:=by obtain⟨c1,c2,h1,_⟩:=I6 hr x;exact⟨c1,h1⟩
theorem jM {f:Field} {n:Nat} (hsz:(P.info? f.type).map (·.size)=some n) (hn:n≠0) (ad:Addr):(fieldPlace ad f).run P w=.ok (ad.add f.offset) w:=by
 cases hq:P.info? f.type with
 |none=>rw[hq]at hsz;simp at hsz
 |some inf=>rw[hq]at hsz;simp at hsz;simp [fieldPlace,sizeOf,typeInfo,hq,hsz,hn]
theorem Ly {t f off:Nat} {n:Option Nat} {ag:Option Bool} {i:TI} (hi:Cx P t i) (h:i.td.flds[f]? =some (off,n,ag)):
 ∃fs fd,P.underlying t=some (.struct fs)∧fs[f]? =some fd∧fd.offset=off∧(P.info? fd.type).map (·.size)=n∧(P.underlying fd.type).map O9=ag:=by
 obtain⟨inf,z,d,h1,_,_,h4,_,h6,h7⟩:=hi.get;rw[←h7]at h;cases d<;>simp [Fe]at h;rename_i fs;obtain⟨fd,hf,rfl,rfl,rfl⟩:=h;exact⟨fs,fd,h6,hf,rfl,rfl,rfl⟩
theorem Hr (b o n:Nat):(⟨b,o,none⟩:Addr).add n=⟨b,o+n,none⟩:=by unfold Addr.add;split<;>simp_all
theorem bS {S:Nat→Nat} {z:AV} {u:Value} {c:Nat→Nat} (h:Aa w S [z] [u] c) (ho:u.oneCell'=true):cellsOf z=[z]:=by
 cases h with
 |agg h1 hoc h hcc=>simp [Value.oneCell']at ho
 |_=>rfl
theorem Pf {s d off b Te:Nat} {cs:List AV} (hod:o.dst=some d) (hst:A3 dfs w0 S0 c0 σ a w) (hs:σ[s]? =some (.box Te cs)) (hsd:s≠d) (hb:a.tmps.toList[s]? =some (.pointer (some ⟨b,0,none⟩)))
 (hrun:(execOp a.eval o).run P w=.ok (.value (.pointer (some ⟨b,off,none⟩))) w) (hK:K (σ.set d (.ref s off))):o.wp P a w (fun a' w'=>∃σ',K σ'∧A3 dfs w0 S0 c0 σ' a' w') Q:=by
 obtain⟨hrf,S,c,hr,h1,hd,hz,hs'⟩:=hst;refine Ao hrun ⟨_,hK,?_⟩;have hl:=hr.length;rw[hod];refine⟨?_,?_⟩
 ·rw [E2];exact hrf.newref hs hsd hb hl
 ·obtain ⟨c',h2,h3⟩:=hr.aset (y:=.ref s off) (u:=.pointer (some ⟨b,off,none⟩)) (c1:=fun _=>0) (.ref (.nil Al)) (some d);exact⟨S,c',h2,fun x=>by have:=h1 x;have:=h3 x;omega,by rw[put_defers];exact hd,hz,hs'.drop fun x=>by have:=h3 x;omega⟩
theorem Ph {t f:Nat} {x:Operand} {i:TI} (ho:o.op=.fieldAddr t x f) (hi:Cx P t i) (hst:A3 dfs w0 S0 c0 σ a w) (h:Bl σ i x f o.dst K):
 o.wp P a w (fun a' w'=>∃σ',K σ'∧A3 dfs w0 S0 c0 σ' a' w') Q:=by
 unfold Bl at h;split at h
 ·rename_i off n agg d hfl hod;obtain⟨fs,fd,hu,hfd,hoff,hsz,hag⟩:=Ly hi hfl
  cases x with
  |tmp s=>
   simp only[]at h;split at h
   ·rename_i Te cs hx;obtain⟨hn,hsd,hK⟩:=h;have hst':=hst;obtain⟨_,S,c,hr,_⟩:=hst;obtain⟨b,cur,d1,c2,hev,_,_,_,_,_,_,hv⟩:=Hq hr hx;refine Pf hod hst' (A4 hr hx oS) hsd hv ?_ hK;exact AoF
   ·rename_i s' o' hx;split at h
    ·rename_i Te cs hx';obtain⟨hn,hsd,hK⟩:=h;have hst':=hst;obtain⟨hrf,S,c,hr,_⟩:=hst;obtain⟨b,hb1,hb2⟩:=hrf.ref s s' o' Te cs (A4 hr hx oS) (A4 hr hx' oS);have hev:=Ck hb2;refine Pf hod hst' (A4 hr hx' oS) hsd hb1 ?_ hK;exact AoF
    ·exact Ad
   ·rename_i y hx;obtain⟨hn,hok,hag1,hlen,hK⟩:=h;have hst':=hst;obtain⟨_,S,c,hr,_⟩:=hst;have hsl:=A4 hr hx oS;obtain⟨v,c1,c2,hv,hy,h2,hc⟩:=hr.take s hsl
    cases hy with
    |elt hsp hcv h0 hcell hst2 hnil=>
     rename_i ad cv ce;obtain⟨bb,oo,sp⟩:=ad;simp at hsp;subst hsp;have hev:=Ck hv;have hK':K (aset σ o.dst (.elt (pval agg (pcells (cellsOf y) off n)))):=by rw[hod];exact hK
     refine Bi hst' rfl (v:=.pointer (some ⟨bb,oo+off,none⟩)) ?_ (fun S' c' hr'=> ?_) hK'
     ·exact AoF
     ·have hsl':=A4 hr' hx oS;obtain⟨v',c1',c2',hv',hy',_,_⟩:=hr'.take s hsl';rw[hv]at hv';cases hv'
      cases hy' with
      |elt hsp hcv h0 hcell hst2 hnil=>
       rename_i cv ce;have hcl:=hcv.length;obtain⟨d1,hp,hd⟩:=hcv.sub0 off n;refine⟨fun _=>0,?_,Al⟩;have hpl:(pcells (cellsOf y) off n).length=n:=by simp [pcells];omega
       have hce:cellsOf (pval agg (pcells (cellsOf y) off n))=pcells (cellsOf y) off n:=by
        cases agg with
        |true=>rfl
        |false=>
         have:=hag1 rfl;subst this;have hvl:((cv.drop off).take 1).length=1:=by simp;omega
         revert hp hpl;generalize pcells (cellsOf y) off 1=q;intro hp hpl
         match q,hpl with
         |[z],_=>
          match hvq:(cv.drop off).take 1,hvl with
          |[u],_=>
           rw[hvq]at hp;refine bS hp ?_;have hj:((cv.drop off).take 1)[0]? =some u:=by rw[hvq];rfl
           rw[List.getElem?_take]at hj;simp only[Nat.lt_one_iff,if_true,List.getElem?_drop,AyT]at hj;exact(hcell off u hj).2
       refine .elt (cv:=(cv.drop off).take n) (c0:=d1) rfl (by rw[hce];exact hp) (fun b=>by have:=hd b;rw[h0 b]at this;omega) (fun j u hj=> ?_) ?_ (.nil Al)
       ·rw [List.getElem?_take]at hj;split at hj
        ·rw [List.getElem?_drop]at hj;have:=hcell (off+j) u hj;simpa[Nat.add_assoc]using this
        ·cases hj
       ·simp at hst2⊢;omega
   ·exact Ad
  |_=>exact h.elim
 ·exact Ad
theorem AaV {e:Nat} {j:TI} (hj:Cx P e j) {cs:Array Value} {off:Nat} (hl:off+j.size≤cs.size) (h1:j.td.agg=false→j.size=1):
 (part e cs off).run P w=.ok (if j.td.agg then .agg ((cs.toList.drop off).take j.size).toArray else((cs.toList.drop off).take j.size).headD undef) w:=by
 obtain⟨inf,z,d,g1,_,_,g4,_,g6,g7⟩:=hj.get;have htd:=M0 (P:=P) (d:=d);rw[g7]at htd
 cases ha:j.td.agg with
 |true=>
  have hagg:(isAgg e).run P w=.ok true w:=by rw[ha]at htd;exact Aie
  have he:cs.extract off (off+j.size)=((cs.toList.drop off).take j.size).toArray:=by apply Array.ext';simp [Array.toList_extract,List.extract]
  simp [part,hagg,sizeOf,typeInfo,g1,g4,he]
 |false=>
  have hagg:(isAgg e).run P w=.ok false w:=by rw[ha]at htd;exact Aie
  have hs:=h1 ha;rw[hs]at hl⊢;have hd:(cs.toList.drop off).take 1=[cs[off]]:=by rw[Ayd (by simp;omega)];simp
  rw[hd];have hc:cs[off]? =some cs[off]:=oS;simp [part,hagg,hc]
def zc1:AV→Bool
 |.raw _|.nil|.sl _ _|.elt _|.clo _ _|.any=>true
 |_=>false
theorem bU {S:Nat→Nat} {x:AV} {v:Value} {c:Nat→Nat} (h:Aa w S [x] [v] c) (hz:zc1 x=true):Zc c:=by
 cases h with
 |any h=>cases h with|nil hc=>exact hc
 |raw h1 h=>cases h with|nil hc=>exact hc
 |nilS h=>cases h with|nil hc=>exact hc
 |slE hcap h=>cases h with|nil hc=>exact hc
 |sl hn hcap hsp hk h1 h0 hcell hst h=>cases h with|nil hc=>exact hc
 |elt hsp h1 h0 hcell hst h=>cases h with|nil hc=>exact hc
 |clo h1 h0 h=>cases h with|nil hc=>exact hc
 |_=>simp [zc1]at hz
theorem Vk {S:Nat→Nat}:∀{xs:List AV} {vs:List Value} {c:Nat→Nat},Aa w S xs vs c→xs.all zc1=true→Zc c
 |[],vs,c,h,_=>h.zero.2
 |x::xs,vs,c,h,hz=>by obtain⟨v,us,d1,d2,rfl,h1,h2,hd⟩:=h.uncons;simp only[Azb,Ax3]at hz;have e1:=bU h1 hz.1;have e2:=Vk h2 hz.2;exact fun b=>by rw[hd,e1 b,e2 b]
theorem bV {S:Nat→Nat} {c:Nat→Nat} (hr:Aa w S σ a.tmps.toList c):∀(xs:List Operand),(xs.map (aev σ)).all zc1=true→Aa w S (xs.map (aev σ)) (xs.map a.eval) (fun _=>0)
 |[],_=>.nil Al
 |x::xs,h=>by simp only[Axx,Azb,Ax3]at h;obtain⟨cx,h1⟩:=Ar hr x;exact Aa.cons h1 (bV hr xs h.2) (fun b=>by rw[bU h1 h.1 b])
theorem Xk {S:Nat→Nat} {cs:List AV} {v:Value} {c:Nat→Nat} (h:Aa w S [.agg cs] [v] c):∃vs c1,v=.agg (List.toArray vs)∧Aa w S cs vs c1∧(∀u∈vs,u.oneCell'=true)∧∀b,c b=c1 b:=by
 cases h with
 |agg h1' hoc h hcc=>cases h with|nil hz=>exact⟨_,_,rfl,h1',hoc,fun b=>by rw[hcc,hz b];omega⟩
theorem bW {S:Nat→Nat} {cs:List AV} {v:Value} {c:Nat→Nat} (h:Aa w S [.agg cs] [v] c) {e:Nat} {j:TI} (hj:Cx P e j) {off:Nat} (hl:off+j.size≤cs.length) (h1:j.td.agg=false→j.size=1):
 ∃vs r,v=.agg vs∧(part e vs off).run P w=.ok r w∧Aa w S [pval j.td.agg ((pcells cs off j.size).map v1)] [r] (fun _=>0)∧vs.size=cs.length:=by
 cases h with
 |agg h1' hoc h hcc=>rename_i vs c1 c2;have hcl:=h1'.length;obtain⟨d1,hp,hd⟩:=h1'.sub0 off j.size;refine⟨vs.toArray,_,rfl,AaV hj (by simp;omega) h1,?_,by simpa using hcl⟩;exact Fq (Aa.map_v Aa.v1 hp) (fun u hu=>hoc u (AxL (AxK hu))) j.td.agg (fun ha=>by have:=h1 ha;simp [pcells];omega)
theorem Xl {t f:Nat} {x:Operand} {i:TI} (ho:o.op=.field t x f) (hi:Cx P t i) (hst:A3 dfs w0 S0 c0 σ a w) (h:Pe i f (aev σ x) fun y=>K (aset σ o.dst y)):
 o.wp P a w (fun a' w'=>∃σ',K σ'∧A3 dfs w0 S0 c0 σ' a' w') Q:=by
 unfold Pe at h;split at h
 ·rename_i off n agg cs hfl hx;obtain⟨h1,hl,hK⟩:=h;obtain⟨fs,fd,hu,hfd,hoff,hsz,hag⟩:=Ly hi hfl;have hst':=hst;obtain⟨_,S,c,hr,_⟩:=hst;obtain⟨cx,hrx⟩:=Ar hr x;rw[hx]at hrx
  cases hq:P.info? fd.type with
  |none=>rw[hq]at hsz;simp at hsz
  |some inf=>
   cases hqu:P.underlying fd.type with
   |none=>rw[hqu]at hag;simp at hag
   |some d=>
    rw[hq]at hsz;rw[hqu]at hag;simp at hsz hag;generalize hj:(⟨(inf.zero.map (·.cells.toList)).getD [],inf.size,inf.bytes,Fe P d,none⟩:TI)=j;have hjs:j.size=n:=by rw[←hj];exact hsz
    have hja:j.td.agg=agg:=by rw[←hj,←hag];exact M0.symm
    have hrun:∀(vs:Array Value),off+n≤vs.size→(part fd.type vs off).run P w=.ok (if agg then .agg ((vs.toList.drop off).take n).toArray else((vs.toList.drop off).take n).headD undef) w:=by exact AsR
    obtain⟨vs,c1,hev,hcs,hoc,_⟩:=Xk hrx;have hcl:=hcs.length;refine Bi hst' (Kp _) (v:=if agg then .agg ((vs.drop off).take n).toArray else((vs.drop off).take n).headD undef) ?_ (fun S' c' hr'=> ?_) hK
    ·unfold execOp;have:=hrun vs.toArray (by simp;omega);simp only[ho,hev,Instr.field,Sem.run_bind,run_underlying hu,Result.andThen_ok,hfd,asAgg,Sem.run_pure,hoff,this]
    ·obtain ⟨cx',hrx'⟩:=Ar hr' x;rw[hx,hev]at hrx';obtain⟨vs',c1',hev',hcs',hoc',_⟩:=Xk hrx';have:vs'=vs:=by simpa using hev'.symm
     subst this;obtain⟨d1,hp,hd⟩:=hcs'.sub0 off n;obtain⟨e3,hval,hle⟩:=(Fq (Aa.map_v Aa.v1 hp) (fun u hu=>hoc u (AxL (AxK hu))) agg (fun ha=>by have:=h1 ha;simp [pcells];omega)).pl;exact⟨_,hval,fun b=>Nat.le_zero.1 (hle b)⟩
 ·exact Ad
theorem Uu {t f:Nat} {x:Operand} {i:TI} (ho:o.op=.field t x f) (hi:Cx P t i) (hst:A3 dfs w0 S0 c0 σ a w) (h:Ik σ i x f o.dst K):
 o.wp P a w (fun a' w'=>∃σ',K σ'∧A3 dfs w0 S0 c0 σ' a' w') Q:=by
 unfold Ik at h;split at h
 ·rename_i s;split at h
  ·rename_i cs hx;split at h
   ·rename_i off n agg hfl;obtain⟨h1,hl,hK⟩:=h;obtain⟨fs,fd,hu,hfd,hoff,hsz,hag⟩:=Ly hi hfl;obtain⟨hrf,S,c,hr,h1',hd,hz,hs⟩:=hst;obtain⟨v,c1,c2,hv,hy,h2,hc⟩:=hr.take s (A4 hr hx oS);have hslt:=getD_lt hx oS;have hev0:=Ck hv
    cases hq:P.info? fd.type with
    |none=>rw[hq]at hsz;simp at hsz
    |some inf=>
     cases hqu:P.underlying fd.type with
     |none=>rw[hqu]at hag;simp at hag
     |some d=>
    rw[hq]at hsz;rw[hqu]at hag;simp at hsz hag;generalize hj:(⟨(inf.zero.map (·.cells.toList)).getD [],inf.size,inf.bytes,Fe P d,none⟩:TI)=j;have hjs:j.size=n:=by rw[←hj];exact hsz
    have hja:j.td.agg=agg:=by rw[←hj,←hag];exact M0.symm
    have hrun:∀(vs:Array Value),off+n≤vs.size→(part fd.type vs off).run P w=.ok (if agg then .agg ((vs.toList.drop off).take n).toArray else((vs.toList.drop off).take n).headD undef) w:=by exact AsR
    obtain⟨vs,e1,rfl,hcs,hoc,he1⟩:=Xk hy;have hcl:=hcs.length;obtain⟨d1,d2,hp,hput,hdd⟩:=hcs.part off n;obtain⟨c',hleft,hle⟩:=hput _ _ _ (Aa.map_v Aa.v1 hp);have hvs:vs.take off++(vs.drop off).take n++vs.drop (off+n)=vs:=by exact Anv
    rw[hvs]at hleft;have hr3:=h2.fill (Aa.agg (c:=fun b=>c' b) (xs:=[]) (us:=[]) (c2:=fun _=>0) hleft hoc (.nil Al) (fun b=>oS)) s (by simp [hslt]);rw[Ayn,Ak hv]at hr3;obtain⟨e3,hval,hle3⟩:=(Fq hp (fun u hu=>hoc u (AxL (AxK hu))) agg (fun ha=>by have:=h1 ha;simp [pcells];omega)).pl;refine Ao (w':=w) (v:=if agg then .agg ((vs.drop off).take n).toArray else((vs.drop off).take n).headD undef) ?_ ⟨_,hK,A3.value (hrf.less s rfl) (Kp _) h1' hd hz hs hr3 hval (fun b=> ?_) _⟩
    ·unfold execOp;have:=hrun vs.toArray (by simp;omega);simp only[ho,hev0,Instr.field,Sem.run_bind,run_underlying hu,Result.andThen_ok,hfd,asAgg,Sem.run_pure,hoff,this]
    ·have:=hc b;have:=he1 b;have:=hdd b;have:=hle b;have:=hle3 b;show e3 b+(c' b+c2 b)≤c b;omega
   ·exact Ad
  ·exact Ad
 ·exact Xl ho hi hst h
theorem Rz {n:Nat} {x:Operand} (ho:o.op=.extract x n) (hst:A3 dfs w0 S0 c0 σ a w) (h:Ej σ x n o.dst K):
 o.wp P a w (fun a' w'=>∃σ',K σ'∧A3 dfs w0 S0 c0 σ' a' w') Q:=by
 unfold Ej at h
 cases x with
 |tmp s=>
  simp only[]at h;split at h
  ·rename_i cs hx;obtain⟨hn,hK⟩:=h;obtain⟨hrf,S,c,hr,h1,hd,hz,hs⟩:=hst;obtain⟨v,c1,c2,hv,hy,h2,hc⟩:=hr.take s (A4 hr hx oS);have hev:=Ck hv;have hslt:=getD_lt hx oS
   cases hy with
   |tup hcs hnil hcc=>
    rename_i vs d1 d2;cases hnil with|nil hz2=>
    have hcl:=hcs.length;have hget:cs[n]? =some (cs.getD n .any):=by simp [hn]
    obtain⟨u,e1,e2,hu,hu1,hu2,he⟩:=hcs.take n hget;have hfill:=hu2.fill hu1.v2 n (by simp [hn]);rw[Ayn,Ak hu]at hfill;have hr3:=h2.fill (Aa.tup (c:=fun b=>e2 b) (xs:=[]) (us:=[]) (c2:=fun _=>0) hfill (.nil Al) (fun b=>oS)) s (by simp [hslt]);rw[Ayn,Ak hv]at hr3;obtain⟨e3,hu1,hle⟩:=hu1.pl;refine Ao (w':=w) (v:=u) ?_ ⟨_,hK,A3.value (hrf.less s rfl) (Kp _) h1 hd hz hs hr3 hu1 (fun b=> ?_) _⟩
    ·unfold execOp;have:vs.toArray[n]? =some u:=by simpa using hu
     simp [ho,hev,Instr.extract,this]
    ·have:=hc b;have:=hcc b;have:=he b;have:=hz2 b;have:=hle b;show e3 b+(e2 b+c2 b)≤c b;omega
  ·exact Ad
 |_=>exact h.elim
theorem Xm {t:Nat} {x y:Operand} {i:TI} (hT:Am P T) (ho:o.op=.index t x y) (hi:Cx P t i) (hst:A3 dfs w0 S0 c0 σ a w) (h:Kr T i (aev σ x) (aev σ y) fun z=>K (aset σ o.dst z)):
 o.wp P a w (fun a' w'=>∃σ',K σ'∧A3 dfs w0 S0 c0 σ' a' w') Q:=by
 have hst':=hst;obtain⟨_,S,c,hr,_⟩:=hst;obtain⟨cx,hrx⟩:=Ar hr x;obtain⟨cy,hry⟩:=Ar hr y;obtain⟨inf,zz,d,g1,_,_,g4,_,g6,g7⟩:=hi.get;unfold Kr at h;split at h
 ·rename_i s k n hx hy;rw[hx]at hrx;rw[hy]at hry;have e1:=(Ay hrx).1;have e2:=(Ay hry).1;obtain⟨hstr,h0,hl,hK⟩:=h;have hd:d=.string:=Pb (P:=P) (by rw[g7];exact hstr);subst hd;have hl':n.toNat<s.size:=hl;refine Bi hst' rfl (v:=.int .u8 ((s.data.toList.getD n.toNat 0).toNat:Int)) ?_ (fun S' c' hr'=>⟨_,C2 rfl Al,Al⟩) hK;unfold execOp
  have hg:s[n.toNat]? =some (s.data.toList.getD n.toNat 0):=by
   have:s[n.toNat]? =some s[n.toNat]:=getElem?_pos s n.toNat hl';rw[this];have hlt:n.toNat<s.data.size:=hl';have:s.data.toList.getD n.toNat 0=s.data[n.toNat]:=by rw[Axy,Array.getElem?_toList,Array.getElem?_eq_getElem hlt];rfl
   rw[this];rfl
  simp only[ho,e1,e2,Instr.index,Sem.run_bind,asIntOf,Sem.run_pure,Result.andThen_ok,run_underlying g6,h0,if_true,hg]
 ·rename_i cs k n hx hy;rw[hx]at hrx;rw[hy]at hry;have e2:=(Ay hry).1;split at h
  ·rename_i len e harr;split at h
   ·rename_i j hj;obtain⟨h0,hlt,hag,hl,hK⟩:=h;have hd:d=.array len e:=by rw[←g7]at harr;cases d<;>simp [Fe]at harr<;>simp [harr]
    subst hd;obtain⟨vs,r,e1,hrun,hrr,hsz⟩:=bW hrx (hT e j hj) hl hag;refine Bi hst' (Kp _) (v:=r) ?_ (fun S' c' hr'=> ?_) hK
    ·unfold execOp;obtain⟨inf2,_,_,g1',_,_,g4',_⟩:=(hT e j hj).get;have hsz2:(sizeOf e).run P w=.ok j.size w:=by simp [sizeOf,typeInfo,g1',g4']
     simp only[ho,e1,e2,Instr.index,Sem.run_bind,asIntOf,Sem.run_pure,Result.andThen_ok,run_underlying g6,h0,hlt,and_self,if_true,hsz2,hrun]
    ·obtain ⟨cx',hrx'⟩:=Ar hr' x;rw[hx]at hrx';obtain⟨vs',r',e1',hrun',hrr',hsz'⟩:=bW hrx' (hT e j hj) hl hag;have:vs'=vs:=by rw[e1]at e1';simpa using e1'.symm
     subst this;rw[hrun]at hrun';cases hrun';obtain⟨e3,hval,hle⟩:=hrr'.pl;exact⟨_,hval,fun b=>Nat.le_zero.1 (hle b)⟩
   ·exact Ad
  ·exact Ad
 ·exact Ad
theorem Jt {S:Nat→Nat} {k:Nat} {es:List AV} {v:Value} {c:Nat→Nat} (h:Aa w S [.sl k es] [v] c):
 ∃a cap,v=.slice a es.length cap∧es.length≤cap∧cap≤maxLen∧(∀x∈es,(cellsOf x).length=k)∧
  (es≠[]→∃ad cv c0,a=some ad∧ad.spot=none∧Aa w S (flat es) cv c0∧Zc c0∧(∀j u,cv[j]? =some u→w.cell? ⟨ad.block,ad.off+j,none⟩=some u∧u.oneCell'=true)∧ad.off+cv.length≤S ad.block):=by
 cases h with
 |slE hcap h=>exact⟨_,_,rfl,AxM _,hcap,oS,fun h=>absurd rfl h⟩
 |sl hn hcap hsp hk h1 h0 hcell hst h=>exact⟨_,_,rfl,hn,hcap,hk,fun _=>⟨_,_,_,rfl,hsp,h1,h0,hcell,hst⟩⟩
theorem F8 {S:Nat→Nat} {e k:Nat} {es:List AV} {v:Value} {c:Nat→Nat} (h:Aa w S [.own e k es] [v] c):Aa w S [.sl k es] [v] (fun _=>0):=h.view
theorem Ju {k:Nat}:∀{es:List AV} (n:Nat),(∀x∈es,(cellsOf x).length=k)→n≤es.length→(flat es).take (n*k)=flat (es.take n)∧(flat es).drop (n*k)=flat (es.drop n)
 |es,0,h,_=>by simp [flat]
 |[],n+1,h,hn=>by simp at hn
 |x::es,n+1,h,hn=>by
  have hx:=h x oS;have ih:=Ju (es:=es) n (fun y hy=>h y (by simp [hy])) (by simpa using hn);simp only[flat,AyX,List.drop_succ_cons];have e1:(n+1)*k=(cellsOf x).length+n*k:=by rw[hx,Ayh];omega
  rw[e1];exact⟨by rw[List.take_length_add_append,ih.1],by rw[List.drop_length_add_append,ih.2]⟩
theorem C8 {k:Nat}:∀{es:List AV},(∀x∈es,(cellsOf x).length=k)→(flat es).length=es.length*k
 |[],_=>by simp [flat]
 |x::es,h=>by rw[flat,Axs,h x oS,C8 (fun y hy=>h y (by simp [hy])),Axr,Ayh];omega
theorem Aik {S:Nat→Nat} {k:Nat} {es:List AV} {ad:Addr} {cv:List Value} {c0:Nat→Nat} (hk:∀x∈es,(cellsOf x).length=k) (hsp:ad.spot=none) (h1:Aa w S (flat es) cv c0) (h0:Zc c0)
 (hcell:∀j u,cv[j]? =some u→w.cell? ⟨ad.block,ad.off+j,none⟩=some u∧u.oneCell'=true) (hst:ad.off+cv.length≤S ad.block) (n:Nat) (hn:n<es.length):
 Aa w S [.elt (es.getD n .any)] [.pointer (some (ad.add (n*k)))] (fun _=>0):=by
 obtain⟨bb,oo,sp⟩:=ad;simp at hsp;subst hsp;rw[Hr];have hcl:=h1.length;have hfl:=C8 hk;obtain⟨d1,hp,hd⟩:=h1.sub0 (n*k) k;have hx:es.getD n .any=es[n]:=by simp [hn]
 have hcells:pcells (flat es) (n*k) k=cellsOf (es.getD n .any):=by rw[pcells,(Ju n hk om).2,Ayd hn,flat,hx];have:=hk es[n] (Ayz hn);rw[Ayo om,Axw om]
 rw[hcells]at hp;have hb:n*k+k≤es.length*k:=by have:(n+1)*k≤es.length*k:=Ayl k hn;rw[Ayh]at this;omega
 refine .elt (cv:=(cv.drop (n*k)).take k) (c0:=d1) rfl hp (fun b=>by have:=hd b;rw[h0 b]at this;omega) (fun j u hj=> ?_) ?_ (.nil Al)
 ·rw [List.getElem?_take]at hj;split at hj
  ·rw [List.getElem?_drop]at hj;have:=hcell (n*k+j) u hj;simpa[Nat.add_assoc]using this
  ·cases hj
 ·simp at hst⊢;omega
theorem I8 {t:Nat} {x y:Operand} {i:TI} (hT:Am P T) (ho:o.op=.indexAddr t x y) (hi:Cx P t i) (hst:A3 dfs w0 S0 c0 σ a w) (h:Ek T i (aev σ x) (aev σ y) fun z=>K (aset σ o.dst z)):
 o.wp P a w (fun a' w'=>∃σ',K σ'∧A3 dfs w0 S0 c0 σ' a' w') Q:=by
 have hst':=hst;obtain⟨_,S,c,hr,_⟩:=hst;obtain⟨cx,hrx⟩:=Ar hr x;obtain⟨cy,hry⟩:=Ar hr y;obtain⟨inf,zz,d,g1,_,_,g4,_,g6,g7⟩:=hi.get;unfold Ek at h;split at h
 ·rename_i e he;have hd:d=.slice e:=D3 (P:=P) (by rw[g7];exact he);subst hd;split at h
  ·rename_i j hj;obtain⟨inf2,_,_,g1',_,_,g4',_⟩:=(hT e j hj).get;have hsz2:(sizeOf e).run P w=.ok j.size w:=by simp [sizeOf,typeInfo,g1',g4']
   have key:∀(k:Nat) (es:List AV) (kk:IntKind) (n:Int),(∀S c,Aa w S σ a.tmps.toList c→∃cx,Aa w S [.sl k es] [a.eval x] cx)→aev σ y=.raw (.int kk n)→k=j.size→0≤n→n.toNat<es.length→K (aset σ o.dst (.elt (es.getD n.toNat .any)))→
    o.wp P a w (fun a' w'=>∃σ',K σ'∧A3 dfs w0 S0 c0 σ' a' w') Q:=by
    intro k es kk n hrx hy hk h0 hl hK;rw[hy]at hry;have e2:=(Ay hry).1;obtain⟨cx,hrx1⟩:=hrx S c hr;obtain⟨A,cap,e1,hn,hcap,hks,hmem⟩:=Jt hrx1;have hne:es≠[]:=by intro h;subst h;simp at hl
    obtain⟨ad,cv,c0',rfl,hsp,h1,hz0,hcell,hstb⟩:=hmem hne;refine Bi hst' rfl (v:=.pointer (some (ad.add (n.toNat *k)))) ?_ (fun S' c' hr'=> ?_) hK
    ·have hb:n<(es.length:Int):=om;unfold execOp;simp only[ho,e1,e2,Instr.indexAt,Sem.run_bind,asIntOf,Sem.run_pure,Result.andThen_ok,run_underlying g6,h0,hb,and_self,if_true,hsz2,hk]
    ·obtain ⟨cx',hrx'⟩:=hrx S' c' hr';obtain⟨A',cap',e1',hn',hcap',hks',hmem'⟩:=Jt hrx';obtain⟨ad',cv',c0'',hA',hsp',h1',hz0',hcell',hstb'⟩:=hmem' hne;rw[e1]at e1';injection e1' with e3 e4 e5;subst hA';injection e3 with e3;subst e3;exact⟨_,Aik hks' hsp' h1' hz0' hcell' hstb' _ hl,Al⟩
   split at h
   ·rename_i k es kk n hx hy;obtain⟨hk,h0,hl,hK⟩:=h;exact key k es kk n (fun S c hr=>by obtain⟨cx,h⟩:=Ar hr x;rw[hx]at h;exact⟨_,h⟩) hy hk h0 hl hK
   ·rename_i e' k es kk n hx hy;obtain⟨hk,h0,hl,hK⟩:=h;exact key k es kk n (fun S c hr=>by obtain⟨cx,h⟩:=Ar hr x;rw[hx]at h;exact⟨_,F8 h⟩) hy hk h0 hl hK
   ·exact Ad
  ·exact Ad
 ·exact Ad
def Bt (T:Bd) (σ:List AV) (i:TI) (x y:Operand) (d:Option Nat) (K:List AV→Prop):Prop:=
 match x with
 |.tmp s=>
  match σ.getD s .any with
  |.box _ _=>
   match i.td.arr,aev σ y,d with
   |some (len,e),.raw (.int _ n),some d=>
    match T e with
    |some j=>0≤n∧n<len∧s≠d∧K (σ.set d (.ref s (n.toNat *j.size)))
    |none=>False
   |_,_,_=>False
  |_=>Ek T i (aev σ x) (aev σ y) fun z=>K (aset σ d z)
 |_=>Ek T i (aev σ x) (aev σ y) fun z=>K (aset σ d z)
theorem Np {t:Nat} {x y:Operand} {i:TI} (hT:Am P T) (ho:o.op=.indexAddr t x y) (hi:Cx P t i) (hst:A3 dfs w0 S0 c0 σ a w) (h:Bt T σ i x y o.dst K):
 o.wp P a w (fun a' w'=>∃σ',K σ'∧A3 dfs w0 S0 c0 σ' a' w') Q:=by
 unfold Bt at h;split at h
 ·rename_i s;split at h
  ·rename_i Te cs hx;split at h
   ·rename_i len e kk n d harr hy hod;split at h
    ·rename_i j hj;obtain⟨h0,hn,hsd,hK⟩:=h;have hst':=hst;obtain⟨_,S,c,hr,_⟩:=hst;obtain⟨b,cur,d1,c2,hev,_,_,_,_,_,_,hv⟩:=Hq hr hx;obtain⟨cy,hry⟩:=Ar hr y;rw[hy]at hry;have e2:=(Ay hry).1;obtain⟨inf,zz,dd,g1,_,_,g4,_,g6,g7⟩:=hi.get;have hd:dd=.array len e:=by rw[←g7]at harr;cases dd<;>simp [Fe]at harr;rw[harr.1,harr.2]
     subst hd;obtain⟨inf2,_,_,g1',_,_,g4',_⟩:=(hT e j hj).get;have hsz2:(sizeOf e).run P w=.ok j.size w:=by simp [sizeOf,typeInfo,g1',g4']
     refine Pf hod hst' (A4 hr hx oS) hsd hv ?_ hK;unfold execOp;simp only[ho,e2,hev,Instr.indexAt,Sem.run_bind,asIntOf,Sem.run_pure,Result.andThen_ok,run_underlying g6,Instr.sureAddr,h0,hn,and_self,if_true,hsz2,Hr,Ayc]
    ·exact Ad
   ·exact Ad
  ·exact I8 hT ho hi hst h
 ·exact I8 hT ho hi hst h
theorem F9 {op:Option Operand} {dflt:Int} {K':Int→Prop} (h:Bz dflt (op.map (aev σ)) K'):∃n:Int,K' n∧
 ((op=none∧n=dflt)∨∃x k,op=some x∧aev σ x=.raw (.int k n)):=by
 cases op with
 |none=>exact⟨dflt,h,.inl ⟨rfl,rfl⟩⟩
 |some x=>
  simp only[AyG,Bz]at h;split at h
  ·rename_i heq;cases heq
  ·rename_i heq;injection heq with heq;exact⟨_,h,.inr ⟨x,_,rfl,heq⟩⟩
  ·exact Ad
theorem run_sliceBound {k:IntKind} {i:Int} {y:Nat} (h0:0≤i) (h1:i≤y) (code:BoundsCode):(Instr.sliceBound (.int k i) y code).run P w=.ok i.toNat w:=by simp [Instr.sliceBound,asIntOf,h0,h1]
theorem R0 {isS:Bool} {len cap:Nat} {lo hi:Option Operand} {l h:Int} (hl:(lo=none∧l=0)∨∃x k,lo=some x∧a.eval x=.int k l) (hh:(hi=none∧h=len)∨∃x k,hi=some x∧a.eval x=.int k h)
 (h0:0≤l) (h1:l≤h) (h2:h≤len) (h3:len≤cap):(Instr.sliceBounds isS len cap (lo.map a.eval) (hi.map a.eval) none).run P w=.ok (l.toNat,h.toNat,cap) w:=by
 exact Atc
theorem bX {isS:Bool} {len cap:Nat} {lo hi:Option Operand} {l h:Int} (hl:(lo=none∧l=0)∨∃x k,lo=some x∧a.eval x=.int k l) (hh:(hi=none∧h=len)∨∃x k,hi=some x∧a.eval x=.int k h)
 (h0:0≤l) (h1:l≤h) (h2:h≤cap):(Instr.sliceBounds isS len cap (lo.map a.eval) (hi.map a.eval) none).run P w=.ok (l.toNat,h.toNat,cap) w:=by
 exact Atc
theorem Xn {t:Nat} {x:Operand} {lo hi:Option Operand} {i:TI} (hT:Am P T) (ho:o.op=.slice t x lo hi none) (hi':Cx P t i) (hst:A3 dfs w0 S0 c0 σ a w) (h:Hp T i (aev σ x) (lo.map (aev σ)) (hi.map (aev σ)) fun z=>K (aset σ o.dst z)):
 o.wp P a w (fun a' w'=>∃σ',K σ'∧A3 dfs w0 S0 c0 σ' a' w') Q:=by
 have hst':=hst;obtain⟨_,S,c,hr,_⟩:=hst;obtain⟨cx,hrx⟩:=Ar hr x;obtain⟨inf,zz,d,g1,_,_,g4,_,g6,g7⟩:=hi'.get
 have hb:∀{op:Option Operand} {n dflt:Int},((op=none∧n=dflt)∨∃x k,op=some x∧aev σ x=.raw (.int k n))→(op=none∧n=dflt)∨∃x k,op=some x∧a.eval x=.int k n:=by
  intro op n dflt h;rcases h with h|⟨x,k,hx,he⟩
  ·exact .inl h
  ·obtain ⟨cx,hrx⟩:=Ar hr x;rw[he]at hrx;exact .inr ⟨x,k,hx,(Ay hrx).1⟩
 have key:∀(k:Nat) (es:List AV) (e:Nat) (j:TI),(∀S c,Aa w S σ a.tmps.toList c→∃cx,Aa w S [.sl k es] [a.eval x] cx)→i.td.elem=some e→T e=some j→k=j.size→
  (Bz 0 (lo.map (aev σ)) fun l=>Bz es.length (hi.map (aev σ)) fun h=>0≤l∧l≤h∧h≤es.length∧K (aset σ o.dst (.sl k ((es.drop l.toNat).take (h.toNat-l.toNat)))))→
  o.wp P a w (fun a' w'=>∃σ',K σ'∧A3 dfs w0 S0 c0 σ' a' w') Q:=by
  intro k es e j hrx he hj hk h;have hd:d=.slice e:=D3 (P:=P) (by rw[g7];exact he);subst hd;obtain⟨inf2,_,_,g1',_,_,g4',_⟩:=(hT e j hj).get;have hsz2:(sizeOf e).run P w=.ok j.size w:=by simp [sizeOf,typeInfo,g1',g4']
  obtain⟨l,h,hL⟩:=F9 h;obtain⟨hh,h,hH⟩:=F9 h;obtain⟨h0,h1,h2,hK⟩:=h;obtain⟨cx,hrx1⟩:=hrx S c hr;obtain⟨A,cap,e1,hn,hcap,hks,hmem⟩:=Jt hrx1;have hrb:=R0 (P:=P) (w:=w) (isS:=true) (cap:=cap) (hb hL) (hb hH) h0 h1 h2 hn;refine Bi hst' rfl (v:=.slice (if cap=l.toNat then A else A.map (·.add (l.toNat *j.size))) (hh.toNat-l.toNat) (cap-l.toNat)) ?_ (fun S' c' hr'=> ?_) hK
  ·unfold execOp;have hna:∀(m:Option Value),(Instr.sliceAt t (a.eval x) (lo.map a.eval) (hi.map a.eval) m).run P w=(Instr.slice t (a.eval x) (lo.map a.eval) (hi.map a.eval) m).run P w:=by exact AaR
   simp only[ho,Option.map_none,Sem.run_bind,hna];rw[e1];simp only[Instr.slice,Sem.run_bind,run_underlying g6,Result.andThen_ok,hrb,hsz2,Sem.run_pure]
  ·obtain ⟨cx',hrx'⟩:=hrx S' c' hr';obtain⟨A',cap',e1',hn',hcap',hks',hmem'⟩:=Jt hrx';rw[e1]at e1';injection e1' with e3 e4 e5;subst e3;subst e5;have hlen:((es.drop l.toNat).take (hh.toNat-l.toNat)).length=hh.toNat-l.toNat:=by simp;omega
   have hsub:∀x∈(es.drop l.toNat).take (hh.toNat-l.toNat),(cellsOf x).length=k:=fun x hx=>hks' x (AxL (AxK hx));have hks2:∀x∈es.drop l.toNat,(cellsOf x).length=k:=fun x hx=>hks' x (AxL hx);have hfe:pcells (flat es) (l.toNat *k) ((hh.toNat-l.toNat)*k)=flat ((es.drop l.toNat).take (hh.toNat-l.toNat)):=by rw[pcells,(Ju l.toNat hks' om).2,(Ju (hh.toNat-l.toNat) hks2 (by simp;omega)).1]
   have hne0:(es.drop l.toNat).take (hh.toNat-l.toNat)≠[]→es≠[]:=by intro hemp h;subst h;simp at hemp
   revert hlen hsub hfe hne0;generalize (es.drop l.toNat).take (hh.toNat-l.toNat)=L;intro hlen hsub hfe hne0;rw[←hlen];refine⟨fun _=>0,?_,Al⟩;by_cases hemp:L=[]
   ·rw [hemp];exact .slE om (.nil Al)
   ·have hne:es≠[]:=hne0 hemp
    have hlt:l.toNat<hh.toNat:=by
     rcases Axz l.toNat hh.toNat with h|h
     ·exact h
     ·exact absurd (AxA (by rw[hlen];omega)) hemp
    obtain⟨ad,cv,cc,rfl,hsp,h1c,hz0,hcell,hstb⟩:=hmem' hne;rw[if_neg (show¬cap=l.toNat by omega)];obtain⟨bb,oo,sp⟩:=ad;simp at hsp;subst hsp;simp only[AyG,Hr];have hcl:=h1c.length;have hfl:=C8 hks';obtain⟨d1,hp,hdd⟩:=h1c.sub0 (l.toNat *k) ((hh.toNat-l.toNat)*k);rw[hfe]at hp;have hpl:=hp.length;refine .sl (c0:=d1) (cap:=cap-l.toNat) (ad:=⟨bb,oo+l.toNat *j.size,none⟩) (by rw[hlen];omega) om rfl hsub hp (fun b=>by have:=hdd b;rw[hz0 b]at this;omega) (fun jj u hj'=> ?_) ?_ (.nil Al)
    ·rw [List.getElem?_take]at hj';split at hj'
     ·rw [List.getElem?_drop]at hj';have:=hcell (l.toNat *k+jj) u hj';rw[←hk];simpa[Nat.add_assoc]using this
     ·cases hj'
    ·have:l.toNat *k+(hh.toNat-l.toNat)*k≤es.length*k:=by
      rw[←Ayh];exact Ayl k om
     simp only[AxC,AxQ,←hk]at hstb⊢;omega
 unfold Hp at h;split at h
 ·rename_i s hx;rw[hx]at hrx;have e1:=(Ay hrx).1;obtain⟨hstr,h⟩:=h;have hd:d=.string:=Pb (P:=P) (by rw[g7];exact hstr);subst hd;obtain⟨l,h,hL⟩:=F9 h;obtain⟨hh,h,hH⟩:=F9 h;obtain⟨h0,h1,h2,hK⟩:=h;have hsz:s.data.toList.length=s.size:=rfl;have hrb:=R0 (P:=P) (w:=w) (isS:=false) (len:=s.size) (cap:=s.size) (hb hL) (hb hH) h0 h1 om (Axu _);refine Bi hst' rfl (v:=.string ⟨((s.data.toList.drop l.toNat).take (hh.toNat-l.toNat)).toArray⟩) ?_ (fun S' c' hr'=>⟨_,C2 rfl Al,Al⟩) hK;have he:s.extract l.toNat hh.toNat=⟨((s.data.toList.drop l.toNat).take (hh.toNat-l.toNat)).toArray⟩:=by have:=Go.Lib.extract_data s l.toNat hh.toNat;generalize s.extract l.toNat hh.toNat=r at this;cases r;simp at this;simp [←this]
  unfold execOp;have hna:∀(m:Option Value),(Instr.sliceAt t (a.eval x) (lo.map a.eval) (hi.map a.eval) m).run P w=(Instr.slice t (a.eval x) (lo.map a.eval) (hi.map a.eval) m).run P w:=by exact AaR
  simp only[ho,Option.map_none,Sem.run_bind,hna];rw[e1];simp [Instr.slice,run_underlying g6,hrb,he]
 ·rename_i k es hx;split at h
  ·rename_i e he;split at h
   ·rename_i j hj;exact key k es e j (fun S c hr=>by obtain⟨cx,h⟩:=Ar hr x;rw[hx]at h;exact⟨_,h⟩) he hj h.1 h.2
   ·exact Ad
  ·exact Ad
 ·rename_i e' k es hx;split at h
  ·rename_i e he;split at h
   ·rename_i j hj;exact key k es e j (fun S c hr=>by obtain⟨cx,h⟩:=Ar hr x;rw[hx]at h;exact⟨_,F8 h⟩) he hj h.1 h.2
   ·exact Ad
  ·exact Ad
 ·rename_i k es zs hx;split at h
  ·rename_i e he;split at h
   ·rename_i j hj;obtain⟨hk,h⟩:=h;have hd:d=.slice e:=D3 (P:=P) (by rw[g7];exact he);subst hd;obtain⟨inf2,_,_,g1',_,_,g4',_⟩:=(hT e j hj).get;have hsz2:(sizeOf e).run P w=.ok j.size w:=by simp [sizeOf,typeInfo,g1',g4']
    obtain⟨l,h,hL⟩:=F9 h;obtain⟨hh,h,hH⟩:=F9 h;obtain⟨⟨rfl,rfl⟩,hK⟩:=h;have hx0:=hrx;rw[hx]at hx0;obtain⟨ad,e1⟩:∃ad,a.eval x=.slice (some ad) es.length (es.length+zs.length):=by generalize hv:a.eval x=v at hx0;cases hx0 with|slx=>exact⟨_,rfl⟩
    have hrb:=bX (P:=P) (w:=w) (isS:=true) (len:=es.length) (cap:=es.length+zs.length) (hb hL) (hb hH) (Int.le_refl 0) (Int.natCast_nonneg _) oS;refine Bi hst' rfl (v:=.slice (some ad) (es++zs).length (es++zs).length) ?_ (fun S' c' hr'=> ?_) hK
    ·unfold execOp;have hna:∀(m:Option Value),(Instr.sliceAt t (a.eval x) (lo.map a.eval) (hi.map a.eval) m).run P w=(Instr.slice t (a.eval x) (lo.map a.eval) (hi.map a.eval) m).run P w:=by exact AaR
     simp only[ho,Option.map_none,Sem.run_bind,hna];rw[e1];simp only[Instr.slice,Sem.run_bind,run_underlying g6,Result.andThen_ok,hrb,hsz2,Sem.run_pure,Int.toNat_zero,AyI,Nat.zero_mul,Nat.sub_zero,Axs];split
     ·rfl
     ·have:ad.add 0=ad:=rfl;simp [this]
    ·obtain ⟨cx',h2⟩:=Ar hr' x;rw[hx,e1]at h2
     cases h2 with
     |slx hcap hsp hks h1 h0 hcell hst h=>exact⟨_,.sl (Axu _) (by rw[Axs];exact hcap) hsp hks h1 h0 hcell hst (.nil Al),Al⟩
   ·exact Ad
  ·exact Ad
 ·exact Ad
theorem jN {t:Nat} {x:Operand} {c:Call} {i:TI} (ho:o.op=.call c) (hc:c.callee=.builtin .len) (hca:c.args= #[x]) (hct:c.argTypes= #[t]) (hi:Cx P t i)
 (hst:A3 dfs w0 S0 c0 σ a w) (h:Xi i (aev σ x) fun z=>K (aset σ o.dst z)):o.wp P a w (fun a' w'=>∃σ',K σ'∧A3 dfs w0 S0 c0 σ' a' w') Q:=by
 have hst':=hst;obtain⟨_,S,cc,hr,_⟩:=hst;obtain⟨cx,hrx⟩:=Ar hr x;obtain⟨inf,zz,d,g1,_,_,g4,_,g6,g7⟩:=hi.get
 have key:∀(v:Value) (n:Nat),a.eval x=v→((∃s,v=.string s∧d=.string∧n=s.size)∨(∃A cap e,v=.slice A n cap∧d=.slice e))→K (aset σ o.dst (.raw (.int .i64 (n:Int))))→
  o.wp P a w (fun a' w'=>∃σ',K σ'∧A3 dfs w0 S0 c0 σ' a' w') Q:=by
  intro v n hev hv hK;refine Bi hst' rfl (v:=.int .i64 (n:Int)) ?_ (fun S' c' hr'=>⟨_,C2 rfl Al,Al⟩) hK;unfold execOp;rcases hv with⟨s,rfl,rfl,rfl⟩|⟨A,cap,e,rfl,rfl⟩
  ·exact An1
  ·exact An1
 have hds:i.td.str=true→d=.string:=fun hk=>Pb (P:=P) (by rw[g7];exact hk);have hdl:i.td.elem.isSome=true→∃e,d=.slice e:=fun hk=>by obtain⟨e,he⟩:=Option.isSome_iff_exists.1 hk;exact⟨e,D3 (P:=P) (by rw[g7];exact he)⟩
 unfold Xi at h;split at h
 ·rename_i s hx;rw[hx]at hrx;have e1:=(Ay hrx).1;exact key _ s.size e1 (.inl ⟨s,rfl,hds h.1,rfl⟩) h.2
 ·rename_i k es hx;rw[hx]at hrx;obtain⟨A,cap,e1,_⟩:=Jt hrx;exact AnB
 ·rename_i e' k es hx;rw[hx]at hrx;obtain⟨A,cap,e1,_⟩:=Jt (F8 hrx);exact AnB
 ·rename_i hx;rw[hx]at hrx;have e1:a.eval x=.slice none 0 0:=by revert hrx;generalize a.eval x=v;intro hrx;cases hrx with|nilS h=>rfl
  obtain⟨e,hd⟩:=hdl h.1;exact key _ 0 e1 (.inr ⟨none,0,e,rfl,hd⟩) h.2
 ·exact Ad
end
end
end Go.Proofs.YtmophjggmekoeaaGreatDoor
