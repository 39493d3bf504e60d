/- Code of which some regions are walked by hand; a slice in a box, lent to the rest of a region. -/
import Derived.MapKept
import Derived.Test.YtmophjggmekoeaaGreatDoorC13
set_option linter.all false
namespace Go.Proofs.YtmophjggmekoeaaGreatDoor
section
open Go.RowKit
variable [Env]
variable {dfs : List Deferred}
inductive CX where
 |base (c:CC)
 |ext (c:Code)
 |seq (a b:CX)
 |cond (c:Operand) (x y:CX)
 |block (id:Nat) (c:CX)
 |loop (c:CX)
 |scope (c:CX)
def Ri:List Nat→Nat→Bool
 |[],_=>false
 |k::r,id=>if k=id then true else Ri r id
section
variable {P : Program} {T : Bd} {w0 : World} {S0 c0 : Nat → Nat}
def kr (s:Nat) (x:AV):AV:=bif Km s x then x else .any
end
section
variable {P : Program} {T : Bd} {Q : Exit → List AV → Prop} {K : List AV → Prop} {σ : List AV}
end
theorem Aps (s:Nat):kr s .any=.any:=rfl
theorem Apt (s:Nat) (v:Value):kr s (.raw v)=.raw v:=rfl
theorem Apu (s:Nat) (cs:List AV):kr s (.agg cs)=.agg cs:=rfl
theorem Apv (s:Nat) (cs:List AV):kr s (.tup cs)=.tup cs:=rfl
theorem Apw (s:Nat):kr s .nil=.nil:=rfl
theorem AtY (s k:Nat) (es:List AV):kr s (.sl k es)=.sl k es:=rfl
theorem Apx (s e k:Nat) (es:List AV):kr s (.own e k es)=.own e k es:=rfl
theorem AjP (s e k:Nat) (es:List AV):kr s (.mine e k es)=.mine e k es:=rfl
theorem Apy (s e k:Nat) (es:List AV):kr s (.row e k es)=.row e k es:=rfl
theorem Apz (s U:Nat) (cs:List AV):kr s (.box U cs)=.box U cs:=rfl
theorem Ap0 (s:Nat) (x:AV):kr s (.elt x)=.elt x:=rfl
theorem Ap1 (s g:Nat) (cs:List AV):kr s (.clo g cs)=.clo g cs:=rfl
attribute [go_sem] Aps Apt Apu Apv Apw AtY Apx AjP Apy Apz Ap0 Ap1 Axx Axv
end
section
open Go.RowKit
variable [Env]
variable {dfs : List Deferred}
def AtZ:AV→Bool
 |.raw _=>true
 |_=>false
def kfl:AV→Bool
 |.any=>true
 |.raw _=>true
 |.nil=>true
 |.own _ _ es=>es.all AtZ
 |_=>false
def kf (x:AV):AV:=bif kfl x then x else .any
section
variable {P : Program} {T : Bd} {w0 : World} {S0 c0 : Nat → Nat}
end
theorem Ap2:kf .any=.any:=rfl
theorem Ap3 (v:Value):kf (.raw v)=.raw v:=rfl
theorem Ap4:kf .nil=.nil:=rfl
theorem Ap5 (cs:List AV):kf (.agg cs)=.any:=rfl
theorem Ap6 (cs:List AV):kf (.tup cs)=.any:=rfl
theorem Aua (k:Nat) (es:List AV):kf (.sl k es)=.any:=rfl
theorem AjQ (e k:Nat) (es:List AV):kf (.mine e k es)=.any:=rfl
theorem Ap7 (e k:Nat) (es:List AV):kf (.row e k es)=.any:=rfl
theorem Ap8 (U:Nat) (cs:List AV):kf (.box U cs)=.any:=rfl
theorem Ap9 (x:AV):kf (.elt x)=.any:=rfl
theorem ApA (g:Nat) (cs:List AV):kf (.clo g cs)=.any:=rfl
theorem ApB (t o:Nat):kf (.ref t o)=.any:=rfl
theorem Adc (t:Nat):kf (.alias t)=.any:=rfl
theorem AjR (t k j o:Nat):kf (.pref t k j o)=.any:=rfl
attribute [go_sem] Ap2 Ap3 Ap4 Ap5 Ap6 Aua AjQ Ap7 Ap8 Ap9 ApA ApB Adc AjR
end
section
open Go.RowKit
variable [Env]
variable {dfs : List Deferred}
section
variable {P : Program} {T : Bd}
end
section
variable {P : Program} {T : Bd}
end
section
variable {P : Program} {T : Bd} {K : List AV → Prop} {σ : List AV}
end
end
section
open Go.RowKit
variable [Env]
variable {dfs : List Deferred}
def Ah (dfs:List Deferred) (w0:World) (S0 c0:Nat→Nat) (γ σ:List AV) (a:Act) (w:World):Prop:=
 ∃S c c1 gv,RefOk σ a.tmps.toList∧Aa w S σ a.tmps.toList c∧Aa w S γ gv c1∧(∀b,c b+c1 b≤1)∧a.defers=dfs∧Sz w S∧Stp w0 S0 c0 w S (fun b=>c b+c1 b)
def Jz (b:Nat):List AV→Option Nat
 |[]=>none
 |.nbox b' _ _::r=>if b'=b then some 0 else(Jz b r).map (·+1)
 |.nmap b' _ _::r=>if b'=b then some 0 else(Jz b r).map (·+1)
 |_::r=>(Jz b r).map (·+1)
def M8:AV→Option Nat
 |.nbox b _ _=>some b
 |.nmap b _ _=>some b
 |_=>none
theorem dV {b:Nat}:∀{γ:List AV} {i:Nat},Jz b γ=some i→∃x,γ[i]? =some x∧M8 x=some b
 |[],i,h=>by simp [Jz]at h
 |x::r,i,h=>by
  have key:∀{i:Nat},(Jz b r).map (·+1)=some i→∃y,(x::r)[i]? =some y∧M8 y=some b:=fun{i} h=>by
   cases hg:Jz b r with
   |none=>rw[hg]at h;cases h
   |some j=>rw[hg]at h;simp only[AyG,Option.some.injEq]at h;subst h;obtain⟨y,h1,h2⟩:=dV hg;exact⟨y,by simpa using h1,h2⟩
  cases x<;>simp only[Jz]at h<;>first
   |exact key h
   |(split at h
     ·rename_i hb;injection h with h;subst h;subst hb;exact⟨_,rfl,rfl⟩
     ·exact key h)
section
variable {P : Program} {T : Bd} {w0 w : World} {S0 c0 : Nat → Nat} {γ σ : List AV} {a : Act} {o : Oper} {Q : Exit → Act → World → Prop}
theorem Ah.open (h:Ah dfs w0 S0 c0 γ σ a w):∃S c,A3 dfs w S c σ a w∧∀σ' a' w',A3 dfs w S c σ' a' w'→Ah dfs w0 S0 c0 γ σ' a' w':=by
 obtain⟨S,c,c1,gv,hrf,hr,hg,h1,hd,hz,hs⟩:=h;refine⟨S,c,⟨hrf,S,c,hr,fun b=>by have:=h1 b;omega,hd,hz,Stp.refl w S c⟩,fun σ' a' w' ⟨hrf',S',c',hr',h1',hd',hz',hs'⟩=> ?_⟩;have hfr:=hs'.frame (c:=fun b=>c b+c1 b) (c2:=c1) (fun b=>rfl);refine⟨S',c',c1,gv,hrf',hr',hg.step hs' (fun b=>by have:=h1 b;omega),fun b=> ?_,hd',hz',hs.trans hfr⟩;rcases Axz b w.heap.size with hb|hb
 ·have:=hs'.own b hb;have:=h1 b;omega
 ·have:c1 b=0:=by
   exact AnH
  have:=h1' b;omega
theorem Ah.old {K:List AV→Prop} (h:Ah dfs w0 S0 c0 γ σ a w) (hop:∀(w0:World) (S0 c0:Nat→Nat),A3 dfs w0 S0 c0 σ a w→o.wp P a w (fun a' w'=>∃σ',K σ'∧A3 dfs w0 S0 c0 σ' a' w') Q):
 o.wp P a w (fun a' w'=>∃σ',K σ'∧Ah dfs w0 S0 c0 γ σ' a' w') Q:=by
 obtain⟨S,c,h1,h2⟩:=h.open;exact A7 (fun a' w' ⟨σ',hK,hs⟩=>⟨σ',hK,h2 _ _ _ hs⟩) (hop w S c h1)
theorem Ah.drew (h:Ah dfs w0 S0 c0 γ σ a w):Ah dfs w0 S0 c0 γ σ a w.drew:=by obtain⟨S,c,h1,h2⟩:=h.open;exact h2 _ _ _ h1.drew
theorem Ah.wk {σ':List AV} (h:Ah dfs w0 S0 c0 γ σ a w) (hw:Wk σ σ'):Ah dfs w0 S0 c0 γ σ' a w:=by obtain⟨S,c,h1,h2⟩:=h.open;exact h2 _ _ _ (hw.stt h1)
theorem Ah.raw {t:Nat} {v:Value} (h:Ah dfs w0 S0 c0 γ σ a w) (ht:σ.getD t .any=.raw v):a.eval (.tmp t)=v:=by
 obtain⟨S,c,c1,gv,hrf,hr,_⟩:=h;obtain⟨cy,hry⟩:=Ar hr (.tmp t);have:aev σ (.tmp t)=.raw v:=by show pl (σ.getD t .any)=_;rw[ht];rfl
 rw[this]at hry;exact(Ay hry).1
theorem Ah.rawOp {x:Operand} {v:Value} (h:Ah dfs w0 S0 c0 γ σ a w) (ht:aev σ x=.raw v):a.eval x=v:=by obtain⟨S,c,c1,gv,hrf,hr,_⟩:=h;obtain⟨cy,hry⟩:=Ar hr x;rw[ht]at hry;exact(Ay hry).1
theorem Add {v:Value} {y:AV} (hst:Ah dfs w0 S0 c0 γ σ a w) (hp:pb y=true) (hrun:(execOp a.eval o).run P w=.ok (.value v) w) (hy:∀S c,Aa w S σ a.tmps.toList c→∃cy,Aa w S [y] [v] cy∧Zc cy):
 o.wp P a w (fun a' w'=>Ah dfs w0 S0 c0 γ (aset σ o.dst y) a' w') Q:=
 A7 (fun a' w' ⟨σ',e,hs⟩=>by subst e;exact hs) (hst.old (K:=fun σ'=>σ'=aset σ o.dst y) fun w0 S0 c0 hs=>Bi hs hp hrun hy rfl)
theorem AjS {v:Value} (hst:Ah dfs w0 S0 c0 γ σ a w) (hv:v.oneCell'=true) (hrun:(execOp a.eval o).run P w=.ok (.value v) w):
 o.wp P a w (fun a' w'=>Ah dfs w0 S0 c0 γ (aset σ o.dst (.raw v)) a' w') Q:=
 Add hst rfl hrun fun S c hr=>⟨_,.raw hv (.nil Al),Al⟩
theorem mM {t f b off fo n q:Nat} {ag:Option Bool} {i:TI} (ho:o.op=.fieldAddr t (.tmp q) f) (hi:Cx P t i) (hst:Ah dfs w0 S0 c0 γ σ a w) (hq:σ.getD q .any=.raw (.pointer (some ⟨b,off,none⟩))) (hf:i.td.flds[f]? =some (fo,some n,ag)) (hn:n≠0):
 o.wp P a w (fun a' w'=>Ah dfs w0 S0 c0 γ (aset σ o.dst (.raw (.pointer (some ⟨b,off+fo,none⟩)))) a' w') Q:=by
 obtain⟨fs,fd,hu,hfd,hoff,hsz,hag⟩:=Ly hi hf;refine AjS hst rfl ?_;unfold execOp;simp [ho,hst.raw hq,Instr.fieldAt,run_underlying hu,hfd,Instr.sureAddr,jM hsz hn,Hr,hoff]
theorem Ah.takeBox {gi b Te:Nat} {cs:List AV} {gv:List Value} {S c1:Nat→Nat} (hg:Aa w S γ gv c1) (hx:γ[gi]? =some (.nbox b Te cs)):
 ∃cur d1 c2,w.heap[b]? =some (.cells cur Te (0,0))∧S b=0∧Aa w S cs cur.toList d1∧(∀u∈cur.toList,u.oneCell'=true)∧Aa w S (γ.set gi .any) gv c2∧(∀x,c1 x=(if x=b then 1 else 0)+d1 x+c2 x)∧
  ∀(w':World) (S':Nat→Nat) (cur':Array Value) (cs':List AV) (d c3:Nat→Nat),Aa w' S' (γ.set gi .any) gv c3→w'.heap[b]? =some (.cells cur' Te (0,0))→S' b=0→Aa w' S' cs' cur'.toList d→(∀u∈cur'.toList,u.oneCell'=true)→
   Aa w' S' (γ.set gi (.nbox b Te cs')) gv (fun x=>(if x=b then 1 else 0)+d x+c3 x):=by
 obtain⟨v,e1,e2,hv,hy,h2,hc⟩:=hg.take gi hx
 cases hy with
 |nbox hb hS h1 hoc h hcc=>
  cases h with|nil hz=>
  refine⟨_,_,e2,hb,hS,h1,hoc,h2,fun x=>by rw[hc,hcc,hz x];omega,fun w' S' cur' cs' d c3 k1 k2 k3 k4 k5=> ?_⟩;have hl:=(List.getElem?_eq_some_iff.1 hx).1;have hfl:=k1.fill (Aa.nbox (v:=v) k2 k3 k4 k5 (.nil Al) (fun x=>rfl)) gi (by rw[List.getElem?_set_self hl]);exact AnO
theorem dW {t n off gi b Te q:Nat} {i:TI} {cs:List AV} (ho:o.op=.load t (.tmp q)) (hi:Cx P t i) (hst:Ah dfs w0 S0 c0 γ σ a w) (hq:σ.getD q .any=.raw (.pointer (some ⟨b,off,none⟩))) (hx:γ[gi]? =some (.nbox b Te cs)) (hn:n=lsz i) (hl:off+n≤cs.length):
 o.wp P a w (fun a' w'=>Ah dfs w0 S0 c0 (γ.set gi (.nbox b Te (pleft cs off n ((pcells cs off n).map v1)))) (aset σ o.dst (pl (pval i.td.agg (pcells cs off n)))) a' w') Q:=by
 have he:=hst.raw hq;obtain⟨S,c,c1,gv,hrf,hr,hg,h1,hd,hz,hs⟩:=hst;obtain⟨cur,d1,c2,hb,hS,hcs,hone,hg2,hc,hput⟩:=Ah.takeBox hg hx;have hcl:=hcs.length;obtain⟨e1,e2,hp,hpt,hce⟩:=hcs.part off n;obtain⟨c',hp2,hc'⟩:=hpt _ _ _ (Aa.map_v Aa.v1 hp);rw[M1]at hp2;have hg3:=hput w S cur _ c' c2 hg2 hb hS hp2 hone;have hval:=Fq hp (fun u hu=>hone u (AxL (AxK hu))) i.td.agg (fun ha=>by unfold lsz at hn;rw[ha]at hn;simp at hn;subst hn;simp [pcells];omega);obtain⟨e3,hval,hle⟩:=hval.pl;obtain⟨c4,h2,h3⟩:=hr.aset hval o.dst;refine Ao (w':=w) (v:=if i.td.agg then .agg ((cur.toList.drop off).take n).toArray else((cur.toList.drop off).take n).headD undef) ?_ ⟨S,c4,_,gv,hrf.aset _ _ (Kp _),h2,hg3,fun x=> ?_,by rw[put_defers];exact hd,hz,hs.drop fun x=> ?_⟩
 ·have hrun:=Ff (off:=off) hi hb hn (by simp at hcl;omega);exact Aax
 ·have:=h1 x;have:=hc x;have:=hce x;have:=hc' x;have:=hle x;have:=h3 x;show c4 x+((if x=b then 1 else 0)+c' x+c2 x)≤1;omega
 ·have:=hc x;have:=hce x;have:=hc' x;have:=hle x;have:=h3 x;show c4 x+((if x=b then 1 else 0)+c' x+c2 x)≤c x+c1 x;omega
theorem Yf {t off gi b Te q:Nat} {y:Operand} {i:TI} {cs:List AV} (ho:o.op=.store t (.tmp q) y) (hi:Cx P t i) (hst:Ah dfs w0 S0 c0 γ σ a w) (hq:σ.getD q .any=.raw (.pointer (some ⟨b,off,none⟩))) (hx:γ[gi]? =some (.nbox b Te cs))
 (hok:Iy (aev σ y)=true) (hlen:(cellsOf (aev σ y)).length=i.size) (hl:off+i.size≤cs.length):
 o.wp P a w (fun a' w'=>Ah dfs w0 S0 c0 (γ.set gi (.nbox b Te (pleft cs off i.size (cellsOf (aev σ y))))) (aset (amv σ y) o.dst .any) a' w') Q:=by
 have he:=hst.raw hq;obtain⟨inf,z,d,g1,gz,gzz,g4,_,g6,g7⟩:=hi.get;obtain⟨S,c,cg,gv,hrf,hr,hg,h1,hd,hz,hs⟩:=hst;obtain⟨cy,cr,hy,hr1,hc⟩:=I6 hr y;obtain⟨hcells,hone,hsz⟩:=Hh hy hok;obtain⟨cur,d1,c2,hb,hS,hcs,hone2,hg2,hcg,hput⟩:=Ah.takeBox hg hx;have hcl:=hcs.length;have hcsz:off+(a.eval y).cells.toList.length≤cur.size:=by simp at hcl⊢;omega
 have hrun:=run_storeCells_at P b off Te (a.eval y).cells.toList 0 cur w hb (by simpa using hcsz) hone;simp only[AyT]at hrun;generalize hnew:(cur.toList.take off++(a.eval y).cells.toList++cur.toList.drop (off+(a.eval y).cells.toList.length)).toArray=new at hrun;have hnl:new.toList=cur.toList.take off++(a.eval y).cells.toList++cur.toList.drop (off+i.size):=by rw[←hnew];simp;congr 1;omega
 have hk:=Stp.row (S:=S) (c:=fun x=>if x=b then 1 else 0) (s:=0) (new:=new) hb oS (fun o ho=>by rw[hS]at ho;omega) om;have hSS:upd S b 0=S:=by funext x;unfold upd;split<;>simp_all
 rw[hSS]at hk;have hcb:c b+cg b≠0:=by have:=hcg b;simp at this;omega
 have hk2:=Stp.row (S:=S) (c:=fun x=>c x+cg x) (s:=0) (new:=new) hb hcb (fun o ho=>by rw[hS]at ho;omega) om;rw[hSS]at hk2;have htot:∀x,c x+cg x=cy x+cr x+((if x=b then 1 else 0)+d1 x+c2 x):=fun x=>by have:=hc x;have:=hcg x;omega
 have hy':=hcells.step hk (fun x=>by have:=h1 x;have:=htot x;omega);have hcs':=hcs.step hk (fun x=>by have:=h1 x;have:=htot x;omega);have hr2:=hr1.step hk (fun x=>by have:=h1 x;have:=htot x;omega);have hg2':=hg2.step hk (fun x=>by have:=h1 x;have:=htot x;omega);obtain⟨e1,e2,hp,hpt,hce⟩:=hcs'.part off i.size;obtain⟨c',hp2,hc'⟩:=hpt _ _ _ hy';rw[←hnl]at hp2;have hb':=setRow_heap w b cur new Te (0,0) hb;have honeN:∀u∈new.toList,u.oneCell'=true:=by exact Ams
 have hg3:=hput _ S new _ c' c2 hg2' hb' hS hp2 honeN;have hsz2:Sz (w.setRow b new) S:=hz.row hb hk2 (fun _ _=>rfl);obtain⟨c4,h2,h3⟩:=hr2.aset (.any (v:=undef) (.nil Al)) o.dst;refine Ks (w':=w.setRow b new) ?_ ⟨S,c4,_,gv,(hrf.amv y).aset _ _ rfl,h2,hg3,fun x=> ?_,by rw[put_defers];exact hd,hsz2,(hs.trans hk2).drop fun x=> ?_⟩
 ·exact Atr
 ·have:=h1 x;have:=htot x;have:=hce x;have:=hc' x;have:=h3 x;show c4 x+((if x=b then 1 else 0)+c' x+c2 x)≤1;omega
 ·have:=htot x;have:=hce x;have:=hc' x;have:=h3 x;show c4 x+((if x=b then 1 else 0)+c' x+c2 x)≤c x+cg x;omega
theorem Ah.name {d Te:Nat} {cs:List AV} (hst:Ah dfs w0 S0 c0 γ σ a w) (hx:σ[d]? =some (.box Te cs)):
 ∃b,(∀x∈γ,M8 x≠some b)∧Ah dfs w0 S0 c0 (.nbox b Te cs::γ) (σ.set d (.raw (.pointer (some ⟨b,0,none⟩)))) a w:=by
 obtain⟨S,c,c1,gv,hrf,hr,hg,h1,hd,hz,hs⟩:=hst;obtain⟨v,e1,e2,hv,hy,h2,hc⟩:=hr.take d hx
 cases hy with
 |box hb hS hcs hoc h hcc=>
  rename_i b cur d1 e3;cases h with|nil hz3=>
  have hfl:=h2.fill (Aa.raw (v:=.pointer (some ⟨b,0,none⟩)) rfl (.nil Al)) d (by rw[List.getElem?_set_self (List.getElem?_eq_some_iff.1 hx).1]);rw[Ayn,Ak hv]at hfl;refine⟨b,fun x hx'=> ?_,S,_,_,undef::gv,?_,hfl,Aa.nbox hb hS hcs hoc hg (fun x=>rfl),fun x=> ?_,hd,hz,hs.drop fun x=> ?_⟩
  ·intro he;obtain⟨j,hj⟩:=List.getElem?_of_mem hx';obtain⟨u,f1,f2,_,hu,_,hff⟩:=hg.take j hj;have:0<f1 b:=by exact Ats
   have:=h1 b;have:=hff b;have:=hc b;have:=hcc b;simp at *;omega
  ·have:=hrf.set d (.pointer (some ⟨b,0,none⟩)) (y:=.raw (.pointer (some ⟨b,0,none⟩))) rfl;rwa [Ak hv]at this
  ·have:=h1 x;have:=hc x;have:=hcc x;have:=hz3 x;show 0+e2 x+((if x=b then 1 else 0)+(d1 x+c1 x))≤1;omega
  ·have:=hc x;have:=hcc x;have:=hz3 x;show 0+e2 x+((if x=b then 1 else 0)+(d1 x+c1 x))≤c x+c1 x;omega
end
end
section
open Go.RowKit
variable [Env]
variable {dfs : List Deferred}
def HC (P:Program) (g:Nat) (args γ:List AV) (K:AV→List AV→Prop) (E:Value→List AV→Prop):Prop:=
 Gn P g∧∀w S vs gv c c1,Sz w S→Aa w S args vs c→Aa w S γ gv c1→(∀b,c b+c1 b≤1)→Calls P g vs.toArray w fun e w'=>
  (∃v r γ' S' c' c1' gv',e=.returned v∧K r γ'∧pb r=true∧Aa w' S' [r] [v] c'∧Aa w' S' γ' gv' c1'∧(∀b,c' b+c1' b≤1)∧Sz w' S'∧Stp w S (fun b=>c b+c1 b) w' S' (fun b=>c' b+c1' b))∨
  (∃v γ' S' c1' gv',e=.panicked [{v:=v,recovered:=false}]∧E v γ'∧Aa w' S' γ' gv' c1'∧(∀b,c1' b≤1)∧Sz w' S'∧Stp w S (fun b=>c b+c1 b) w' S' c1')
section
variable {P : Program} {g : Nat} {args γ : List AV} {K K' : AV → List AV → Prop} {E E' : Value → List AV → Prop}
theorem HC.mono (h:HC P g args γ K E) (hk:∀r γ,K r γ→K' r γ) (he:∀v γ,E v γ→E' v γ):HC P g args γ K' E':=
 ⟨h.1,fun w S vs gv c c1 hz hr hg hc=>(h.2 w S vs gv c c1 hz hr hg hc).mono fun e w' hq=>by
  rcases hq with⟨v,r,γ',S',c',c1',gv',h1,h2,h3⟩|⟨v,γ',S',c1',gv',h1,h2,h3⟩
  ·exact .inl ⟨v,r,γ',S',c',c1',gv',h1,hk _ _ h2,h3⟩
  ·exact .inr ⟨v,γ',S',c1',gv',h1,he _ _ h2,h3⟩⟩
theorem HC.old {R:AV→Prop} (h:Ab P g args R) (hk:∀r,R r→K r γ):HC P g args γ K E:=
 ⟨h.1,fun w S vs gv c c1 hz hr hg hc=>(h.2.2 w S vs c hz hr (fun b=>by have:=hc b;omega)).mono fun e w' ⟨v,r,S',c',he,hR,hp,hr',h1,hz',hs⟩=>by
  refine .inl ⟨v,r,γ,S',c',c1,gv,he,hk r hR,hp,hr',hg.step hs (fun b=>by have:=hc b;omega),fun b=> ?_,hz',hs.frame (fun b=>rfl)⟩;rcases Axz b w.heap.size with hb|hb
  ·have:=hs.own b hb;have:=hc b;omega
  ·have:c1 b=0:=by
    exact AnH
   have:=h1 b;omega⟩
theorem HC.plain {R:AV→Prop} (h:HC P g args [] (fun r γ=>γ=[]∧R r) (fun _ _=>False)) (hR:∃r,R r):Ab P g args R:=
 ⟨h.1,hR,fun w S vs c hz hr hc=>(h.2 w S vs [] c (fun _=>0) hz hr (.nil Al) (fun b=>by have:=hc b;omega)).mono fun e w' hq=>by
  rcases hq with⟨v,r,γ',S',c',c1',gv',h1,⟨rfl,h2⟩,h3,h4,h5,h6,h7,h8⟩|⟨v,γ',S',c1',gv',h1,h2,h3⟩
  ·obtain ⟨rfl,hz1⟩:=h5.zero;refine⟨v,r,S',c',h1,h2,h3,h4,fun b=>by have:=h6 b;omega,h7,?_⟩;have e1:(fun b=>c b+0)=c:=by funext b;omega
   have e2:(fun b=>c' b+c1' b)=c':=by funext b;have:=hz1 b;omega
   rw[e1,e2]at h8;exact h8
  ·exact h2.elim⟩
theorem HC.wk {args':List AV} (h:HC P g args γ K E) (hw:Wk args' args):HC P g args' γ K E:=
 ⟨h.1,fun w S vs gv c c1 hz hr hg hc=>by
  obtain⟨c',hr',hle⟩:=hw.rep hr
  have conv:∀{w' S' d},Stp w S (fun b=>c' b+c1 b) w' S' d→Stp w S (fun b=>c b+c1 b) w' S' d:=fun h6=>
   ⟨h6.os,h6.tape,h6.output,h6.size,fun b hb h0=>h6.keep b hb (by have:=hle b;omega),h6.cell,h6.le,fun b hb=>Ax1 (h6.own b hb) (by have:=hle b;omega)⟩
  refine(h.2 w S vs gv c' c1 hz hr' hg (fun b=>by have:=hc b;have:=hle b;omega)).mono fun e w' hq=> ?_;rcases hq with⟨v,r,γ',S',c',c1',gv',h1,h2,h3,h4,h5,h6,h7,h8⟩|⟨v,γ',S',c1',gv',h1,h2,h3,h4,h5,h6⟩
  ·exact .inl ⟨v,r,γ',S',c',c1',gv',h1,h2,h3,h4,h5,h6,h7,conv h8⟩
  ·exact .inr ⟨v,γ',S',c1',gv',h1,h2,h3,h4,h5,conv h6⟩⟩
theorem Aa.perm {w:World} {S:Nat→Nat} {xs ys:List AV} (hp:xs.Perm ys):∀{vs:List Value} {c:Nat→Nat},Aa w S xs vs c→∃us,Aa w S ys us c:=by
 induction hp with
 |nil=>intro vs c h;exact⟨vs,h⟩
 |cons x hp ih=>intro vs c h;obtain⟨v,us,d1,d2,rfl,h1,h2,hd⟩:=h.uncons;obtain⟨us',h3⟩:=ih h2;exact⟨_,Aa.cons h1 h3 hd⟩
 |swap x y l=>intro vs c h;obtain⟨v,us,d1,d2,rfl,h1,h2,hd⟩:=h.uncons;obtain⟨v2,us2,e1,e2,rfl,h3,h4,he⟩:=h2.uncons;exact⟨_,Aa.cons h3 (Aa.cons h1 h4 (fun b=>rfl)) (fun b=>by rw[hd,he];omega)⟩
 |trans h1 h2 ih1 ih2=>intro vs c h;obtain⟨us,h3⟩:=ih1 h;exact ih2 h3
theorem HC.perm {γ':List AV} (h:HC P g args γ' K E) (hp:γ.Perm γ'):HC P g args γ K E:=
 ⟨h.1,fun w S vs gv c c1 hz hr hg hc=>by obtain⟨gv',hg'⟩:=hg.perm hp;exact h.2 w S vs gv' c c1 hz hr hg' hc⟩
theorem HC.frame {γ1 γ2:List AV} (h:HC P g args γ1 (fun r γ=>K r (γ++γ2)) (fun v γ=>E v (γ++γ2))):HC P g args (γ1++γ2) K E:=
 ⟨h.1,fun w S vs gv c c1 hz hr hg hc=>by
  obtain⟨u1,u2,d1,d2,rfl,hg1,hg2,hd⟩:=hg.unapp;refine(h.2 w S vs u1 c d1 hz hr hg1 (fun b=>by have:=hc b;have:=hd b;omega)).mono fun e w' hq=> ?_;have hfr:∀{w' S' d},Stp w S (fun b=>c b+d1 b) w' S' d→Stp w S (fun b=>c b+c1 b) w' S' (fun b=>d b+d2 b):=fun h=>h.frame (fun b=>by have:=hd b;show c b+c1 b=c b+d1 b+d2 b;omega);have hst:∀{w' S' d},Stp w S (fun b=>c b+d1 b) w' S' d→Aa w' S' γ2 u2 d2:=fun h=>hg2.step h (fun b=>by have:=hc b;have:=hd b;show d2 b+(c b+d1 b)≤1;omega)
  have hlt:∀b,w.heap.size≤b→d2 b=0:=fun b hb=>by
   rcases AxG (d2 b)with h|h
   ·exact h
   ·have:=hg2.lt b h;omega
  rcases hq with⟨v,r,γ',S',c',c1',gv',h1,h2,h3,h4,h5,h6,h7,h8⟩|⟨v,γ',S',c1',gv',h1,h2,h3,h4,h5,h6⟩
  ·refine .inl ⟨v,r,_,S',c',_,_,h1,h2,h3,h4,Aa.app h5 (hst h8) (fun b=>rfl),fun b=> ?_,h7,(hfr h8).drop fun b=>by show c' b+(c1' b+d2 b)≤c' b+c1' b+d2 b;omega⟩;rcases Axz b w.heap.size with hb|hb
   ·have:=h8.own b hb;have:=hc b;have:=hd b;show c' b+(c1' b+d2 b)≤1;omega
   ·have:=hlt b hb;have:=h6 b;show c' b+(c1' b+d2 b)≤1;omega
  ·refine .inr ⟨v,_,S',_,_,h1,h2,Aa.app h3 (hst h6) (fun b=>rfl),fun b=> ?_,h5,hfr h6⟩;rcases Axz b w.heap.size with hb|hb
   ·have:=h6.own b hb;have:=hc b;have:=hd b;show c1' b+d2 b≤1;omega
   ·have:=hlt b hb;have:=h4 b;show c1' b+d2 b≤1;omega⟩
end
structure HTab where
 mp:Nat→Option (Nat×Nat)
 cn:Nat→Bool
 me:Nat→String→Option Nat
 zr:Nat→Option Value
structure ApC (P:Program) (H:HTab):Prop where
 mp:∀t k e,H.mp t=some (k,e)→P.underlying t=some (.map k e)
 cn:∀t,H.cn t=true→∃d,P.underlying t=some d∧∀ms,d≠ .interface ms
 me:∀t n g,H.me t n=some g→∀ad w,(method (P.types.size+Made.depth) t (.pointer (some ad)) n).run P w=.ok (g,.pointer (some ad)) w
 zr:∀t v,H.zr t=some v→∀w,(zeroValue t).run P w=.ok v w
section
variable {P : Program} {T : Bd} {w0 w : World} {S0 c0 : Nat → Nat} {γ σ : List AV} {a : Act} {o : Oper} {Q : Exit → Act → World → Prop}
theorem dX {g:Nat} {xs:List Operand} {ps ys:List AV} {pu us:List Value} {K:List AV→List AV→Prop} {E:Value→List AV→List AV→Prop} (hst:Ah dfs w0 S0 c0 γ σ a w) (hps:∀S c,Aa w S σ a.tmps.toList c→∃e,Aa w S ps pu e∧Zc e) (hys:∀S c,Aa w S σ a.tmps.toList c→∃e,Aa w S ys us e∧Zc e)
 (hexec:Gn P g→(execOp a.eval o).run P w=.ok (.enter g (pu++(xs.map a.eval++us)).toArray) w)
 (h:HC P g (ps++((agrab σ xs).1++ys)) γ (fun r γ'=>K γ' (aset (agrab σ xs).2 o.dst r)) (fun v γ'=>E v γ' (agrab σ xs).2))
 (hE:∀v γ' σ' w',E v γ' σ'→Ah dfs w0 S0 c0 γ' σ' a w'→Q (.panic [{v:=v,recovered:=false}]) a w'):
 o.wp P a w (fun a' w'=>∃γ' σ',K γ' σ'∧Ah dfs w0 S0 c0 γ' σ' a' w') Q:=by
 obtain⟨S,cc,cg,gv,hrf,hr,hg,h1,hd,hz,hs⟩:=hst;obtain⟨c1,c2,hv,hr2,hcc⟩:=Nm xs hr;obtain⟨e0,hys',hz0⟩:=hys S cc hr;obtain⟨e1,hps',hz1⟩:=hps S cc hr;have hvs:=Aa.app hps' (Aa.app hv hys' (c:=c1) (fun b=>by rw[hz0 b];omega)) (c:=c1) (fun b=>by rw[hz1 b];omega);have hc:=h.2 w S _ gv c1 cg hz hvs hg (fun b=>by have:=h1 b;have:=hcc b;omega);unfold Oper.wp;rw[hexec h.1,Oper.upon_enter];have hfr:∀{w' S' d},Stp w S (fun b=>c1 b+cg b) w' S' d→Stp w S (fun b=>cc b+cg b) w' S' (fun b=>d b+c2 b):=fun h=>h.frame (fun b=>by have:=hcc b;show cc b+cg b=c1 b+cg b+c2 b;omega);have hst:∀{w' S' d},Stp w S (fun b=>c1 b+cg b) w' S' d→Aa w' S' (agrab σ xs).2 a.tmps.toList c2:=fun h=>hr2.step h (fun b=>by have:=h1 b;have:=hcc b;show c2 b+(c1 b+cg b)≤1;omega);have hlt:∀b,w.heap.size≤b→c2 b=0:=fun b hb=>by exact Aa9
 refine hc.mono fun e w' hq=> ?_;rcases hq with⟨v,r,γ',S',c',c1',gv',he,hK,hp,hrr,hgg,h6,h7,h8⟩|⟨v,γ',S',c1',gv',he,hEv,hgg,h4,h5,h6⟩
 ·subst he;obtain⟨c4,h9,h10⟩:=(hst h8).aset hrr o.dst;refine⟨_,_,hK,S',c4,c1',gv',(hrf.agrab _).aset _ _ hp,h9,hgg,fun b=> ?_,by rw[put_defers];exact hd,h7,(hs.trans (hfr h8)).drop fun b=> ?_⟩
  ·rcases Axz b w.heap.size with hb|hb
   ·have:=h8.own b hb;have:=h10 b;have:=h1 b;have:=hcc b;simp only at *;omega
   ·have:=hlt b hb;have:=h6 b;have:=h10 b;omega
  ·have:=h10 b;show c4 b+c1' b≤c' b+c1' b+c2 b;omega
 ·subst he;refine hE v γ' _ w' hEv ⟨S',c2,c1',gv',hrf.agrab _,hst h6,hgg,fun b=> ?_,hd,h5,(hs.trans (hfr h6)).drop fun b=> ?_⟩
  ·rcases Axz b w.heap.size with hb|hb
   ·have:=h6.own b hb;have:=h1 b;have:=hcc b;simp only at *;omega
   ·have:=hlt b hb;have:=h4 b;omega
  ·show c2 b+c1' b≤c1' b+c2 b;omega
end
end
section
open Go.RowKit
variable [Env]
variable {dfs : List Deferred}
def Ec:TypeDesc→Value→Prop
 |.string,.string _=>True
 |.int _,.int .i64 _=>True
 |_,_=>False
def dY:Value→Value→Bool
 |.string a,.string b=>a==b
 |.int _ a,.int _ b=>a==b
 |_,_=>false
def B5 (k:Value) (ks:List Value):Option Nat:=ks.findIdx? (dY k)
theorem Hk {d:TypeDesc} {k:Value} (h:Ec d k):(∃s,d=.string∧k=.string s)∨∃ik n,d=.int ik∧k=.int .i64 n:=by
 unfold Ec at h;split at h
 ·exact .inl ⟨_,rfl,rfl⟩
 ·exact .inr ⟨_,_,rfl,rfl⟩
 ·exact Ad
theorem mN {d:TypeDesc} {k x:Value} (h1:Ec d k) (h2:Ec d x):Instr.sameNow d k x=some (dY k x):=by
 rcases Hk h1 with⟨s,rfl,rfl⟩|⟨ik,n,rfl,rfl⟩<;>rcases Hk h2 with⟨s2,e,rfl⟩|⟨ik2,n2,e,rfl⟩<;>first
  |cases e;done
  |simp [Instr.sameNow,dY]
theorem AjT {d:TypeDesc} {k x:Value} (h1:Ec d k) (h2:Ec d x) (h:dY k x=true):k=x:=by
 rcases Hk h1 with⟨s,rfl,rfl⟩|⟨ik,n,rfl,rfl⟩<;>rcases Hk h2 with⟨s2,e,rfl⟩|⟨ik2,n2,e,rfl⟩<;>first
  |cases e;done
  |(have:=(Go.MapKept.bytes_beq _ _).1 h;rw[this])
  |(simp only[dY,beq_iff_eq]at h;rw[h])
theorem AjU {d:TypeDesc} {k:Value} (h1:Ec d k):Instr.sameBits 10000 k k=true:=by
 rcases Hk h1 with⟨s,rfl,rfl⟩|⟨ik,n,rfl,rfl⟩
 ·exact (Go.MapKept.bytes_beq s s).2 rfl
 ·simp [Instr.sameBits]
theorem Sv {d:TypeDesc} {k:Value} (h1:Ec d k):∀(es:List MapEntry) (i:Nat),(∀x∈es.map (·.key),Ec d x)→
 Instr.findNow d k es i=some ((B5 k (es.map (·.key))).map fun j=>(i+j,(es.map (·.val)).getD j undef))
 |[],i,h=>rfl
 |e::es,i,h=>by
  have h2:=mN h1 (h e.key oS);unfold Instr.findNow;rw[h2];simp only[B5,Axx,List.findIdx?_cons]
  cases hv:dY k e.key with
  |true=>simp
  |false=>simp only[Ax0,if_false];rw[Sv h1 es (i+1) fun x hx=>h x (by simp at hx⊢;exact .inr hx)];simp only[B5];cases (es.map (·.key)).findIdx? (dY k)<;>simp;omega
section
variable {P : Program} {w : World} {kt et mt b clk : Nat} {d : TypeDesc} {es : Array MapEntry} {k : Value}
theorem run_checkKey (hu:P.underlying kt=some d) (h1:Ec d k) (e:Bool):(Instr.checkKey e 10000 kt k).run P w=.ok () w:=by unfold Instr.checkKey;rw[Sem.run_bind,run_underlying hu w];rcases Hk h1 with⟨s,rfl,rfl⟩|⟨ik,n,rfl,rfl⟩<;>simp
theorem run_findKey (hu:P.underlying kt=some d) (h1:Ec d k) (hk:∀x∈es.toList.map (·.key),Ec d x):
 (Instr.findKey kt k es.toList).run P w=.ok ((B5 k (es.toList.map (·.key))).map fun j=>(j,(es.toList.map (·.val)).getD j undef)) w:=by
 unfold Instr.findKey;rw[Sem.run_bind,run_underlying hu w];simp only[Result.andThen_ok];rw[Sv h1 es.toList 0 hk];simp
theorem mO {z:Value} (hm:P.underlying mt=some (.map kt et)) (hu:P.underlying kt=some d) (hz:∀w,(zeroValue et).run P w=.ok z w) (hb:w.heap[b]? =some (.map es clk)) (h1:Ec d k) (hk:∀x∈es.toList.map (·.key),Ec d x) (ok:Bool):
 (Instr.lookup mt (.map (some b)) k ok).run P w=.ok (match B5 k (es.toList.map (·.key))with
  |some j=>if ok then .tuple #[(es.toList.map (·.val)).getD j undef,.bool true]else(es.toList.map (·.val)).getD j undef
  |none=>if ok then .tuple #[z,.bool false]else z) w:=by
 have hg:(getObj b).run P w=.ok (.map es clk) w:=by simp [getObj,Sem.run,hb]
 unfold Instr.lookup;simp only[Sem.run_bind,run_underlying hm w,Result.andThen_ok,hg,Sem.run_pure,run_checkKey hu h1,run_findKey hu h1 hk]
 cases B5 k (es.toList.map (·.key))with
 |none=>cases ok<;>simp [hz]
 |some j=>cases ok<;>simp
theorem U2 {v:Value} (hm:P.underlying mt=some (.map kt et)) (hu:P.underlying kt=some d) (hb:w.heap[b]? =some (.map es clk)) (h1:Ec d k) (hk:∀x∈es.toList.map (·.key),Ec d x):
 ∃es' clk',(Instr.mapUpdate mt (.map (some b)) k v).run P w=.ok () {w with heap:=w.heap.setIfInBounds b (.map es' clk')}∧
  es'.toList.map (·.key)=(match B5 k (es.toList.map (·.key))with|some j=>es.toList.map (·.key)|none=>es.toList.map (·.key)++[k])∧
  es'.toList.map (·.val)=(match B5 k (es.toList.map (·.key))with|some j=>(es.toList.map (·.val)).set j v|none=>es.toList.map (·.val)++[v])∧
  (((es.toList.map (·.born)).Pairwise (·< ·)∧∀e∈es.toList,e.born<clk)→(es'.toList.map (·.born)).Pairwise (·< ·)∧∀e∈es'.toList,e.born<clk'):=by
 have hg:(getObj b).run P w=.ok (.map es clk) w:=by simp [getObj,Sem.run,hb]
 have hs:∀o,(setObj b o).run P w=.ok () {w with heap:=w.heap.setIfInBounds b o}:=fun o=>by simp [setObj,Sem.run,hb]
 have hun:(Instr.mapUpdate mt (.map (some b)) k v).run P w=((match B5 k (es.toList.map (·.key))with
  |some j=>do
   let key←Instr.keyThatStays (((es[j]?).map (·.key)).getD k) k
   setObj b (.map (es.modify j fun e=>{e with key,val:=v}) clk)
  |none=>setObj b (.map (es.push {key:=k,val:=v,born:=clk}) (clk+1)):Sem Unit)).run P w:=by
  unfold Instr.mapUpdate;simp only[Sem.run_bind,run_underlying hm w,Result.andThen_ok,hg,run_checkKey hu h1,run_findKey hu h1 hk];cases B5 k (es.toList.map (·.key))<;>rfl
 cases hf:B5 k (es.toList.map (·.key))with
 |none=>
  rw[hf]at hun;refine⟨_,_,hun.trans (hs _),oS,oS,fun⟨g1,g2⟩=>⟨?_,fun e he=> ?_⟩⟩
  ·simp only[Array.toList_push,AxJ,Axx,Axv];refine Ayq.2 ⟨g1,List.pairwise_singleton _ _,fun x hx y hy=> ?_⟩;rw[Ax6]at hy;obtain⟨e,he,rfl⟩:=AxB.1 hx;rw[hy];exact g2 e he
  ·simp only[Array.toList_push,Ax5,Ax6]at he;rcases he with he|rfl
   ·have:=g2 e he;omega
   ·exact Nat.lt_succ_self _
 |some j=>
  rw[hf]at hun;unfold B5 at hf;obtain⟨hj,hv,_⟩:=List.findIdx?_eq_some_iff_getElem.1 hf;have hj':j<es.size:=by simpa using hj
  have hkj:k=es[j].key:=by have:=AjT h1 (hk _ (Ayz hj)) hv;exact G5
  have hst:(Instr.keyThatStays (((es[j]?).map (·.key)).getD k) k).run P w=.ok k w:=by
   have:((es[j]?).map (·.key)).getD k=k:=by rw[Array.getElem?_eq_getElem hj'];simp [←hkj]
   rw[this];unfold Instr.keyThatStays;rw[AjU h1];simp
  have hrun:(Instr.mapUpdate mt (.map (some b)) k v).run P w=.ok () {w with heap:=w.heap.setIfInBounds b (.map (es.modify j fun e=>{e with key:=k,val:=v}) clk)}:=by rw[hun];simp only[Sem.run_bind,hst,Result.andThen_ok,hs]
  have hml:∀{α:Type} (f:MapEntry→α),(es.modify j fun e=>{e with key:=k,val:=v}).toList.map f=(es.toList.map f).set j (f {es[j]with key:=k,val:=v}):=fun f=>by
   apply Ayw;intro q;simp only[List.getElem?_map,Array.getElem?_toList,List.getElem?_set,Array.getElem?_modify,Axp,Ay1];by_cases hq:j=q
   ·subst hq;simp [hj']
   ·simp [hq]
  refine⟨_,_,hrun,?_,?_,fun⟨g1,g2⟩=>⟨?_,fun e he=> ?_⟩⟩
  ·rw [hml];exact Ak (by simp [hj',hkj])
  ·rw [hml]
  ·rw [hml];have:(es.toList.map (·.born)).set j es[j].born=es.toList.map (·.born):=Ak (by simp [hj']);rw[this];exact g1
  ·obtain ⟨q,hq⟩:=List.getElem?_of_mem he;have h3:=congrArg (fun l=>l[q]?) (hml (·.born));have:(es.toList.map (·.born)).set j es[j].born=es.toList.map (·.born):=Ak (by simp [hj']);simp only[this,List.getElem?_map,hq,AyG]at h3
   cases hq2:es.toList[q]? with
   |none=>rw[hq2]at h3;cases h3
   |some e2=>rw[hq2]at h3;simp only[AyG,Option.some.injEq]at h3;rw[h3];exact g2 e2 (Axt hq2)
end
section
variable {P : Program} {w0 w : World} {S0 c0 : Nat → Nat} {γ σ : List AV} {a : Act} {o : Oper} {Q : Exit → Act → World → Prop}
theorem Ah.takeMap {gi b:Nat} {ks:List Value} {vs:List AV} {gv:List Value} {S c1:Nat→Nat} (hg:Aa w S γ gv c1) (hx:γ[gi]? =some (.nmap b ks vs)):
 ∃es k d1 c2,w.heap[b]? =some (.map es k)∧S b=0∧es.toList.map (·.key)=ks∧((es.toList.map (·.born)).Pairwise (·< ·)∧∀e∈es.toList,e.born<k)∧Aa w S vs (es.toList.map (·.val)) d1∧Aa w S (γ.set gi .any) gv c2∧(∀x,c1 x=(if x=b then 1 else 0)+d1 x+c2 x)∧
  ∀(w':World) (S':Nat→Nat) (es':Array MapEntry) (k':Nat) (ks':List Value) (vs':List AV) (d c3:Nat→Nat),Aa w' S' (γ.set gi .any) gv c3→w'.heap[b]? =some (.map es' k')→S' b=0→es'.toList.map (·.key)=ks'→((es'.toList.map (·.born)).Pairwise (·< ·)∧∀e∈es'.toList,e.born<k')→Aa w' S' vs' (es'.toList.map (·.val)) d→
   Aa w' S' (γ.set gi (.nmap b ks' vs')) gv (fun x=>(if x=b then 1 else 0)+d x+c3 x):=by
 obtain⟨v,e1,e2,hv,hy,h2,hc⟩:=hg.take gi hx
 cases hy with
 |nmap hb hS hks hbn h1 h hcc=>
  cases h with|nil hz=>
  refine⟨_,_,_,e2,hb,hS,hks,hbn,h1,h2,fun x=>by rw[hc,hcc,hz x];omega,fun w' S' es' k' ks' vs' d c3 k1 k2 k3 k4 k5 k6=> ?_⟩;have hl:=(List.getElem?_eq_some_iff.1 hx).1;have hfl:=k1.fill (Aa.nmap (v:=v) k2 k3 k4 k5 k6 (.nil Al) (fun x=>rfl)) gi (by rw[List.getElem?_set_self hl]);exact AnO
theorem Stp.obj {S c:Nat→Nat} {b:Nat} (ob:Obj) (hc:c b≠0) (hS:S b=0):Stp w S c {w with heap:=w.heap.setIfInBounds b ob} S c where
 os:=rfl
 tape:=rfl
 output:=⟨rfl,fun _=>Axu _⟩
 size:=oS
 keep x hx hx0:=by
  have:b≠x:=by rintro rfl;exact hc hx0
  exact⟨by simp [Array.getElem?_setIfInBounds,this],rfl⟩
 cell x o ho:=by
  have:b≠x:=by rintro rfl;omega
  exact World.cell?_of_block (by simp [Array.getElem?_setIfInBounds,this])
 le _:=Axu _
 own _ _:=Axu _
def ApD (P:Program) (kt:Nat) (k:Value) (ks:List Value):Prop:=∃d,P.underlying kt=some d∧Ec d k∧∀x∈ks,Ec d x
theorem U3 {mt kt et b gi q:Nat} {x:Operand} {k z:Value} {ks:List Value} {vs:List AV} {ok:Bool} (ho:o.op=.lookup mt (.tmp q) x ok) (hm:P.underlying mt=some (.map kt et)) (hz:∀w,(zeroValue et).run P w=.ok z w) (hst:Ah dfs w0 S0 c0 γ σ a w)
 (hq:σ.getD q .any=.raw (.map (some b))) (hk:aev σ x=.raw k) (hx:γ[gi]? =some (.nmap b ks vs)) (hkd:ApD P kt k ks):
 o.wp P a w (fun a' w'=>Ah dfs w0 S0 c0 γ (aset σ o.dst (match B5 k ks with
  |some j=>if ok then .tup [view (vs.getD j .any),.raw (.bool true)]else view (vs.getD j .any)
  |none=>if ok then .tup [aconst z,.raw (.bool false)]else aconst z)) a' w') Q:=by
 obtain⟨d,hd,hkk,hks⟩:=hkd;have e1:=hst.raw hq;have e2:=hst.rawOp hk;have hst':=hst;obtain⟨S,c,c1,gv,hrf,hr,hg,h1,hdf,hzz,hs⟩:=hst;obtain⟨es,clk,d1,c2,hb,hS,hkeys,hbn,hvs,hg2,hc,hput⟩:=Ah.takeMap hg hx;have hrun:=mO hm hd hz hb hkk (by rw[hkeys];exact hks) ok;rw[hkeys]at hrun
 have hexec:(execOp a.eval o).run P w=.ok (.value (match B5 k ks with
  |some j=>if ok then .tuple #[(es.toList.map (·.val)).getD j undef,.bool true]else(es.toList.map (·.val)).getD j undef
  |none=>if ok then .tuple #[z,.bool false]else z)) w:=by
  unfold execOp;simp only[ho,e1,e2,Sem.run_bind,hrun,Result.andThen_ok,Sem.run_pure]
 have key:∀{y:AV} {v:Value},pb y=true→(∃cy,Aa w S [y] [v] cy∧Zc cy)→(execOp a.eval o).run P w=.ok (.value v) w→o.wp P a w (fun a' w'=>Ah dfs w0 S0 c0 γ (aset σ o.dst y) a' w') Q:=fun{y v} hp ⟨cy,hy,hzc⟩ hrun=>by obtain⟨c4,h2,h3⟩:=hr.aset hy o.dst;exact Ao hrun ⟨S,c4,c1,gv,hrf.aset _ _ hp,h2,hg,fun x=>by have:=h3 x;have:=h1 x;have:=hzc x;omega,by rw[put_defers];exact hdf,hzz,hs.drop fun x=>by have:=h3 x;have:=hzc x;show c4 x+c1 x≤c x+c1 x;omega⟩
 have hpv:∀y:AV,pb (view y)=true:=fun y=>by cases y<;>first|rfl|exact Atw _
 cases hf:B5 k ks with
 |none=>
  rw[hf]at hexec;have hzr:Aa w S [aconst z] [z] (fun _=>0):=F7 z
  have hpz:pb (aconst z)=true:=by
   unfold aconst;split
   ·split<;>rfl
   ·unfold ac1;split<;>rfl
  cases ok with
  |true=>exact key (y:=.tup [aconst z,.raw (.bool false)]) rfl ⟨fun _=>0,Aa.tup (c1:=fun _=>0) (Aa.cons (c2:=fun _=>0) hzr (.raw rfl (.nil Al)) (fun b=>rfl)) (.nil Al) (fun b=>rfl),Al⟩ hexec
  |false=>exact key hpz ⟨_,hzr,Al⟩ hexec
 |some j=>
  rw[hf]at hexec;unfold B5 at hf;obtain⟨hj,_,_⟩:=List.findIdx?_eq_some_iff_getElem.1 hf;have hjl:j<vs.length:=by have:=hvs.length;rw[←hkeys]at hj;simp at this hj;omega
  obtain⟨v,f1,f2,hv,hy,_,_⟩:=hvs.take j (List.getElem?_eq_getElem hjl);have e3:(es.toList.map (·.val)).getD j undef=v:=by rw[Axy,hv];rfl
  have e4:vs.getD j .any=vs[j]:=by rw[Axy,List.getElem?_eq_getElem hjl];rfl
  simp only[e3]at hexec;simp only[e4];have hvr:=hy.view
  cases ok with
  |true=>exact key (y:=.tup [view vs[j],.raw (.bool true)]) rfl ⟨fun _=>0,Aa.tup (c1:=fun _=>0) (Aa.cons (c2:=fun _=>0) hvr (.raw rfl (.nil Al)) (fun b=>rfl)) (.nil Al) (fun b=>rfl),Al⟩ hexec
  |false=>exact key (hpv _) ⟨_,hvr,Al⟩ hexec
theorem Ms {mt kt et b gi q:Nat} {x y:Operand} {k:Value} {ks:List Value} {vs:List AV} (ho:o.op=.mapUpdate mt (.tmp q) x y∨o.op=.insert mt (.tmp q) x y) (hm:P.underlying mt=some (.map kt et)) (hst:Ah dfs w0 S0 c0 γ σ a w)
 (hq:σ.getD q .any=.raw (.map (some b))) (hk:aev σ x=.raw k) (hx:γ[gi]? =some (.nmap b ks vs)) (hkd:ApD P kt k ks):
 o.wp P a w (fun a' w'=>Ah dfs w0 S0 c0 (γ.set gi (match B5 k ks with
  |some j=>.nmap b ks (vs.set j (aev σ y))
  |none=>.nmap b (ks++[k]) (vs++[aev σ y]))) (aset (amv σ y) o.dst .any) a' w') Q:=by
 obtain⟨d,hd,hkk,hks⟩:=hkd;have e1:=hst.raw hq;have e2:=hst.rawOp hk;obtain⟨S,c,c1,gv,hrf,hr,hg,h1,hdf,hz,hs⟩:=hst;obtain⟨cy,cr,hy,hr1,hc⟩:=I6 hr y;obtain⟨es,clk,d1,c2,hb,hS,hkeys,hbn,hvs,hg2,hcg,hput⟩:=Ah.takeMap hg hx;obtain⟨es',clk',hrun,hk',hv',hbn'⟩:=U2 (v:=a.eval y) hm hd hb hkk (by rw[hkeys];exact hks);rw[hkeys]at hk' hv';have hlt:b<w.heap.size:=(Array.getElem?_eq_some_iff.1 hb).1;obtain⟨w',hw'⟩:∃w':World,{w with heap:=w.heap.setIfInBounds b (.map es' clk')}=w':=⟨_,rfl⟩;have hk1:Stp w S (fun x=>if x=b then 1 else 0) w' S (fun x=>if x=b then 1 else 0):=by rw[←hw'];exact Stp.obj _ oS hS
 have hk2:Stp w S (fun x=>c x+c1 x) w' S (fun x=>c x+c1 x):=by rw[←hw'];exact Stp.obj _ (by have:=hcg b;simp at this;show c b+c1 b≠0;omega) hS
 have htot:∀x,c x+c1 x=cy x+cr x+((if x=b then 1 else 0)+d1 x+c2 x):=fun x=>by have:=hc x;have:=hcg x;omega
 have hy':=hy.step hk1 (fun x=>by have:=h1 x;have:=htot x;omega);have hvs':=hvs.step hk1 (fun x=>by have:=h1 x;have:=htot x;omega);have hr2:=hr1.step hk1 (fun x=>by have:=h1 x;have:=htot x;omega);have hg2':=hg2.step hk1 (fun x=>by have:=h1 x;have:=htot x;omega);have hb':w'.heap[b]? =some (.map es' clk'):=by rw[←hw'];simp [hlt]
 have hz':Sz w' S:=hz.stp hk2 (fun x hx=>by rw[←hw']at hx;simp at hx;exact hz.z x hx);have hexec:(execOp a.eval o).run P w=.ok .skip w':=by rw[←hw'];unfold execOp;rcases ho with ho|ho<;>simp only[ho,e1,e2,Sem.run_bind,hrun,Result.andThen_ok,Sem.run_pure]
 obtain⟨c4,h2,h3⟩:=hr2.aset (.any (v:=undef) (.nil Al)) o.dst
 cases hf:B5 k ks with
 |none=>
  rw[hf]at hk' hv';have hg3:=hput w' S es' clk' _ (vs++[aev σ y]) (fun x=>d1 x+cy x) c2 hg2' hb' hS hk' (hbn' hbn) (by rw[hv'];exact Aa.app hvs' hy' (fun x=>rfl));refine Ks hexec ⟨S,c4,_,gv,(hrf.amv y).aset _ _ rfl,h2,hg3,fun x=> ?_,by rw[put_defers];exact hdf,hz',(hs.trans hk2).drop fun x=> ?_⟩
  ·have:=h1 x;have:=htot x;have:=h3 x;show c4 x+((if x=b then 1 else 0)+(d1 x+cy x)+c2 x)≤1;omega
  ·have:=htot x;have:=h3 x;show c4 x+((if x=b then 1 else 0)+(d1 x+cy x)+c2 x)≤c x+c1 x;omega
 |some j=>
  rw[hf]at hk' hv';unfold B5 at hf;obtain⟨hj,_,_⟩:=List.findIdx?_eq_some_iff_getElem.1 hf;have hjl:j<vs.length:=by have:=hvs.length;rw[←hkeys]at hj;simp at this hj;omega
  obtain⟨c5,hset,hle5⟩:=hvs'.put hy' j hjl;have hg3:=hput w' S es' clk' _ (vs.set j (aev σ y)) c5 c2 hg2' hb' hS hk' (hbn' hbn) (by rw[hv'];exact hset);refine Ks hexec ⟨S,c4,_,gv,(hrf.amv y).aset _ _ rfl,h2,hg3,fun x=> ?_,by rw[put_defers];exact hdf,hz',(hs.trans hk2).drop fun x=> ?_⟩
  ·have:=h1 x;have:=htot x;have:=h3 x;have:=hle5 x;show c4 x+((if x=b then 1 else 0)+c5 x+c2 x)≤1;omega
  ·have:=htot x;have:=h3 x;have:=hle5 x;show c4 x+((if x=b then 1 else 0)+c5 x+c2 x)≤c x+c1 x;omega
theorem dZ {mt:Nat} (ho:o.op=.makeMap mt none) (hst:Ah dfs w0 S0 c0 γ σ a w):
 o.wp P a w (fun a' w'=>∃b,(∀x∈γ,M8 x≠some b)∧Ah dfs w0 S0 c0 (.nmap b [] []::γ) (aset σ o.dst (.raw (.map (some b)))) a' w') Q:=by
 obtain⟨S,c,c1,gv,hrf,hr,hg,h1,hdf,hz,hs⟩:=hst;have hS0:upd S w.heap.size 0=S:=by funext x;unfold upd;split<;>simp_all [hz.z]
 have hk:=Stp.alloc (w:=w) (S:=S) (c:=fun _=>0) hz (.map #[] 0) 0;rw[hS0]at hk;have hk2:=Stp.alloc (w:=w) (S:=S) (c:=fun b=>c b+c1 b) hz (.map #[] 0) 0;rw[hS0]at hk2;have hz2:=hz.alloc (.map #[] 0) 0;rw[hS0]at hz2;have hr2:=hr.step hk (fun b=>by have:=h1 b;show c b+0≤1;omega);have hg2:=hg.step hk (fun b=>by have:=h1 b;show c1 b+0≤1;omega)
 have hn:c w.heap.size=0∧c1 w.heap.size=0:=by
  constructor
  ·exact Ana
  ·rcases AxG (c1 w.heap.size)with h|h
   ·exact h
   ·exact absurd (hg.lt _ h) (Nat.lt_irrefl _)
 obtain⟨c4,h2,h3⟩:=hr2.aset (.raw (v:=.map (some w.heap.size)) rfl (.nil Al)) o.dst;refine Ao (w':=w.alloc (.map #[] 0)) (v:=.map (some w.heap.size)) ?_ ⟨w.heap.size,fun x hx he=> ?_,S,c4,_,undef::gv,hrf.aset _ _ rfl,h2,Aa.nmap (heap_alloc_new w _) (hz.z _ (Axu _)) rfl ⟨oS,oS⟩ (c1:=fun _=>0) (by simpa using Aa.nil Al) hg2 (fun x=>rfl),fun x=> ?_,by rw[put_defers];exact hdf,hz2,(hs.trans hk2).drop fun x=> ?_⟩
 ·unfold execOp;simp [ho,Instr.makeMap]
 ·obtain ⟨j,hj⟩:=List.getElem?_of_mem hx;obtain⟨u,f1,f2,_,hu,_,hff⟩:=hg.take j hj;have:0<f1 w.heap.size:=by exact Ats
  have:=hff w.heap.size;omega
 ·have:=h1 x;have:=h3 x;show c4 x+((if x=w.heap.size then 1 else 0)+(0+c1 x))≤1;split
  ·rename_i hx;subst hx;omega
  ·omega
 ·have:=h3 x;show c4 x+((if x=w.heap.size then 1 else 0)+(0+c1 x))≤(if x=w.heap.size then 1 else 0)+(c x+c1 x);omega
end
end
end Go.Proofs.YtmophjggmekoeaaGreatDoor
