/- Regions in the order of the text; what is only looked at. -/
import Derived.Test.YtmophjggmekoeaaGreatDoorC9
set_option linter.all false
namespace Go.Proofs.YtmophjggmekoeaaGreatDoor
section
open Go.RowKit
variable [Env]
variable {dfs : List Deferred}
section
variable (P : Program) (T : Bd)
def Ct (d:Option Nat) (op:Op) (σ:List AV) (K:List AV→Prop):Prop:=Rc P T {dst:=d,op:=op,type:=0,pos:= "",after:= #[],guard:=none} σ K
def dcop (d:Option Nat) (op:Op) (σ:List AV) (K:List AV→Prop):Prop:=Ku P T {dst:=d,op:=op,type:=0,pos:= "",after:= #[],guard:=none} σ K
def El (K:List AV→Prop):List CO→List AV→Prop
 |[],σ=>K σ
 |⟨d,op,none⟩::l,σ=>Ct P T d op σ (El K l)
 |⟨d,op,some (t,want)⟩::l,σ=>
  match σ.getD t .any with
  |.raw (.bool e)=>
   C1 e
    (if want then Ct P T d op (σ.set t (.raw (.bool true))) (El K l)else El K l (aset (σ.set t (.raw (.bool true))) d (.tup [])))
    (if want then El K l (aset (σ.set t (.raw (.bool false))) d (.tup []))else Ct P T d op (σ.set t (.raw (.bool false))) (El K l))
  |.tup []=>El K l (aset σ d (.tup []))
  |_=>False
def fxp (d:Option Nat) (σ σ':List AV) (A:Prop):List Nat→Prop
 |[]=>A
 |s::sh=>(d≠some s→σ'.getD s .any=σ.getD s .any)∧fxp d σ σ' A sh
def rH (σ:List AV) (A:Prop):List Nat→Prop
 |[]=>A
 |d::bm=>nrq d σ=true∧rH σ A bm
def fin2 (sh bm:List Nat) (d:Option Nat) (σ σ':List AV) (A:Prop):Prop:=fxp d σ σ' (rH σ' A bm) sh
def Et (rb:List Nat) (op:Op) (σ:List AV) (A:Prop):Prop:=
 match op with
 |.load _ (.tmp s)=>(match σ.getD s .any with
  |.ref s' _=>rb.contains (s*100000+s')=true∧s'<100000∧A
  |.pref s' _ _ _=>rb.contains (s*100000+s')=true∧s'<100000∧A
  |_=>A)
 |.store _ (.tmp s) _=>(match σ.getD s .any with
  |.ref s' _=>rb.contains (s*100000+s')=true∧s'<100000∧A
  |.pref s' _ _ _=>rb.contains (s*100000+s')=true∧s'<100000∧A
  |_=>A)
 |.indexAddr _ (.tmp s) _=>(match σ.getD s .any with
  |.alias s'=>rb.contains (s*100000+s')=true∧s'<100000∧A
  |_=>A)
 |.fieldAddr _ (.tmp s) _=>(match σ.getD s .any with
  |.ref s' _=>rb.contains (s*100000+s')=true∧s'<100000∧A
  |.pref s' _ _ _=>rb.contains (s*100000+s')=true∧s'<100000∧A
  |_=>A)
 |_=>A
def Mo (sh rb bm:List Nat) (K:List AV→Prop):List CO→List AV→Prop
 |[],σ=>K σ
 |⟨d,op,none⟩::l,σ=>Et rb op σ (dcop P T d op σ fun σ'=>fin2 (bG sh op) bm d σ σ' (Mo sh rb bm K l σ'))
 |⟨d,op,some (t,want)⟩::l,σ=>
  match σ.getD t .any with
  |.raw (.bool e)=>
   C1 e
    (if want then Et rb op (σ.set t (.raw (.bool true))) (dcop P T d op (σ.set t (.raw (.bool true))) fun σ'=>fin2 (bG sh op) bm d (σ.set t (.raw (.bool true))) σ' (Mo sh rb bm K l σ'))
     else fin2 (bG sh op) bm d (σ.set t (.raw (.bool true))) (aset (σ.set t (.raw (.bool true))) d (.tup [])) (Mo sh rb bm K l (aset (σ.set t (.raw (.bool true))) d (.tup []))))
    (if want then fin2 (bG sh op) bm d (σ.set t (.raw (.bool false))) (aset (σ.set t (.raw (.bool false))) d (.tup [])) (Mo sh rb bm K l (aset (σ.set t (.raw (.bool false))) d (.tup [])))
     else Et rb op (σ.set t (.raw (.bool false))) (dcop P T d op (σ.set t (.raw (.bool false))) fun σ'=>fin2 (bG sh op) bm d (σ.set t (.raw (.bool false))) σ' (Mo sh rb bm K l σ')))
  |.tup []=>fin2 (bG sh op) bm d σ (aset σ d (.tup [])) (Mo sh rb bm K l (aset σ d (.tup [])))
  |_=>False
end
section
variable {P : Program} {T : Bd} {sh rb bm : List Nat}
theorem Nw {σ:List AV} {A:Prop}:∀{bm:List Nat},rH σ A bm↔Nr bm σ∧A
 |[]=>by simp [rH,Nr]
 |d::bm=>by simp only[rH,Nw (bm:=bm),Nr,Ax2,forall_eq_or_imp,and_assoc]
theorem rI {d:Option Nat} {σ σ':List AV} {A:Prop}:∀{sh:List Nat},fxp d σ σ' A sh↔Fx sh d σ σ'∧A
 |[]=>by simp [fxp,Fx]
 |s::sh=>by simp only[fxp,rI (sh:=sh),Fx,Ax2,forall_eq_or_imp,and_assoc]
theorem Nx {d:Option Nat} {σ σ':List AV} {A:Prop}:fin2 sh bm d σ σ' A↔Fx sh d σ σ'∧Nr bm σ'∧A:=by rw[fin2,rI,Nw]
theorem Vy {op:Op} {c:CO} {σ:List AV} {A:Prop} (ho:c.op=op) (hb:Ky rb op=false) (h:Et rb op σ A):Xs (Bj rb c) op σ∧A:=by
 have hin:∀s s',s∈rA op→rb.contains (s*100000+s')=true→s'<100000→(Bj rb c).contains s'=true:=by intro s s' hs h1 h2;rw[G9];have:s'∈(rA op).flatMap (Ait rb):=List.mem_flatMap.2 ⟨s,hs,Abq h1 h2⟩;simp [Bj,ho,hb,this]
 cases op<;>try exact⟨trivial,h⟩
 case load t x=>
  exact AhS
 case store t x y=>
  exact AhS
 case indexAddr t x y=>
  exact AhS
 case fieldAddr t x f=>
  exact AhS
theorem Abw {op:Op} {σ:List AV} {A:Prop} (h:Et rb op σ A):A:=by
 cases op<;>try exact h
 case load t x=>
  exact AhV
 case store t x y=>
  exact AhV
 case indexAddr t x y=>
  exact AhV
 case fieldAddr t x f=>
  exact AhV
theorem AoO {c:CO} {σ:List AV} {K:List AV→Prop} (hb:Ky rb c.op=true) (hbm:Mr rb bm c=true) (hn:Nr bm σ) (h:Ku P T (uA c) σ K):rC T c σ K:=by
 obtain⟨dst,op,gd⟩:=c;cases op<;>try (simp [Ky]at hb;done)
 rename_i t x f;cases x<;>try (simp [Ky]at hb;done)
 rename_i s;simp only[Ky]at hb;simp only[Mr,hb,AxP,Aza]at hbm;have hx:=(Nu.1 (hn _ (G9.1 hbm))).1 (AyA _ _);rw[AyZ]at hx
 cases hv:σ.getD s .any with
 |box U cs=>
  simp only[Ku,Ca,uA,Fg,hv]at h
  cases hi:T t with
  |none=>rw[hi]at h;exact h.elim
  |some i=>
   rw[hi]at h;simp only[Bl,hv]at h;split at h
   ·rename_i off n ag d hf;simp only[rC,hi,hf];exact h
   ·exact Ad
 |_=>rw[hv]at hx;cases hx
theorem Aiy {c:CO} {σ:List AV} {K:List AV→Prop} (hb:Ky rb c.op=true) (h:dcop P T c.dst c.op σ K):
 dcop P T c.dst c.op σ (fun σ'=>(∀t,(Bj rb c).contains t=false→σ'.getD t .any=σ.getD t .any)∧K σ'):=by
 obtain⟨dst,op,gd⟩:=c;cases op<;>try (simp [Ky]at hb;done)
 rename_i t x f;cases x<;>try (simp [Ky]at hb;done)
 rename_i s
 have hset:∀(d:Nat) (y:AV),dst=some d→∀u,(Bj rb ⟨dst,.fieldAddr t (.tmp s) f,gd⟩).contains u=false→(σ.set d y).getD u .any=σ.getD u .any:=by
  intro d y hd u hu;have hne:d≠u:=by rintro rfl;have:=Nt (rb:=rb) (c:=⟨dst,.fieldAddr t (.tmp s) f,gd⟩) d hd;rw[this]at hu;cases hu
  by_cases hl:u<σ.length
  ·rw [Jc hl,if_neg hne]
  ·exact AaK
 have h0:∀(K:List AV→Prop),Ca P T {dst:=dst,op:=.fieldAddr t (.tmp s) f,type:=0,pos:= "",after:= #[],guard:=none} σ K→
  Ca P T {dst:=dst,op:=.fieldAddr t (.tmp s) f,type:=0,pos:= "",after:= #[],guard:=none} σ (fun σ'=>(∀u,(Bj rb ⟨dst,.fieldAddr t (.tmp s) f,gd⟩).contains u=false→σ'.getD u .any=σ.getD u .any)∧K σ'):=by
  intro K h;simp only[Ca,Fg]at h⊢
  cases hi:T t with
  |none=>rw[hi]at h;exact h.elim
  |some i=>
   rw[hi]at h;simp only[Bl]at h⊢;split at h
   ·rename_i off n ag d hf;try simp only[hf]
    split at h
    ·rename_i hv;(try simp only[hv]);exact⟨h.1,h.2.1,hset _ _ rfl,h.2.2⟩
    ·rename_i s' o hv;try simp only[hv]
     split at h
     ·rename_i hv2;(try simp only[hv2]);exact⟨h.1,h.2.1,hset _ _ rfl,h.2.2⟩
     ·exact Ad
    ·rename_i y hv;(try simp only[hv]);exact⟨h.1,h.2.1,h.2.2.1,h.2.2.2.1,hset _ _ rfl,h.2.2.2.2⟩
    ·exact Ad
   ·exact Ad
 simp only[dcop,Ku]at h⊢;generalize hv:σ.getD s .any=v at h⊢;cases v<;>first|exact h0 _ h|skip
 simp only[]at h⊢
 cases hi:T t with
 |none=>rw[hi]at h;exact h.elim
 |some i=>
  rw[hi]at h;simp only[]at h⊢;unfold Pm at h⊢;split at h
  ·exact ⟨h.1,h.2.1,hset _ _ rfl,h.2.2⟩
  ·exact Ad
theorem Xx {cs:List CO} {K:List AV→Prop} (hbm:∀c∈cs,Mr rb bm c=true):∀(l:List CO) (k:Nat) (σ:List AV),cs.drop k=l→Nr bm σ→Mo P T sh rb bm K l σ→dl P T sh rb bm cs K (List.range' k l.length) σ
 |[],k,σ,hl,hn,h=>h
 |⟨d,op,g⟩::l,k,σ,hl,hn,h=>by
  have hk:cs[k]? =some ⟨d,op,g⟩:=by have:=congrArg (·[0]?) hl;simpa[List.getElem?_drop]using this
  have hl':cs.drop (k+1)=l:=by have:=congrArg (List.drop 1) hl;simpa[Ay2,AyV]using this
  simp only[Axr,List.range'_succ,dl,hk];unfold stp Ux;have hbc:=hbm _ (Axt hk)
  have step:∀σ,Nr bm σ→Et rb op σ (dcop P T d op σ fun σ'=>fin2 (bG sh op) bm d σ σ' (Mo P T sh rb bm K l σ'))→
   Kf P T rb ⟨d,op,g⟩ σ (fun σ'=>Fx (bG sh op) d σ σ'∧Nr bm σ'∧dl P T sh rb bm cs K (List.range' (k+1) l.length) σ'):=by
   intro σ hn h;have next:∀x,fin2 (bG sh op) bm d σ x (Mo P T sh rb bm K l x)→Fx (bG sh op) d σ x∧Nr bm x∧dl P T sh rb bm cs K (List.range' (k+1) l.length) x:=fun x hx=>by obtain⟨g1,g2,g3⟩:=Nx.1 hx;exact⟨g1,g2,Xx hbm l (k+1) x hl' g2 g3⟩
   unfold Kf;split
   ·rename_i hb;exact cU (AoO (c:=⟨d,op,g⟩) hb hbc hn (Abw h)) next
   ·rename_i hb;have hb:Ky rb op=false:=by simpa using hb
    obtain⟨h1,h2⟩:=Vy (c:=⟨d,op,g⟩) rfl hb h;exact⟨h1,Kx (o:=uA ⟨d,op,g⟩) h2 next⟩
  have skip:∀σ,fin2 (bG sh op) bm d σ (aset σ d (.tup [])) (Mo P T sh rb bm K l (aset σ d (.tup [])))→Fx (bG sh op) d σ (aset σ d (.tup []))∧Nr bm (aset σ d (.tup []))∧dl P T sh rb bm cs K (List.range' (k+1) l.length) (aset σ d (.tup [])):=by intro σ h;obtain⟨g1,g2,g3⟩:=Nx.1 h;exact⟨g1,g2,Xx hbm l (k+1) _ hl' g2 g3⟩
  cases g with
  |none=>exact step σ hn h
  |some tw=>
   obtain⟨t,want⟩:=tw;simp only[Mo]at h;simp only[];split at h
   ·rename_i e he;have hts:=getD_lt he oS;have hset:∀b,e=b→σ.set t (.raw (.bool b))=σ:=fun b hb=>by subst hb;exact set_self hts he
    rw[he]
    cases e with
    |true=>
     have h:=h.1 rfl;rw[hset true rfl]at h
     cases want with
     |true=>exact step σ hn h
     |false=>exact skip σ h
    |false=>
     have h:=h.2 rfl;rw[hset false rfl]at h
     cases want with
     |true=>exact skip σ h
     |false=>exact step σ hn h
   ·rename_i he;rw[he];exact skip σ h
   ·exact Ad
def nv:AV→AV
 |.box T cs=>.box T (cs.map v1)
 |.ref s o=>.ref s o
 |.pref s k j o=>.pref s k j o
 |.nbox b T cs=>.nbox b T cs
 |.nmap b ks vs=>.nmap b ks vs
 |.row e k es=>.row e k es
 |.alias s=>.alias s
 |.mine e k es=>.mine e k es
 |x=>view x
def rv (x y:AV):AV:=match x with
 |.own _ _ _=>x
 |.agg _=>x
 |.tup _=>x
 |_=>y
def rgn (run:(List AV→Prop)→List AV→Prop):List Nat→(List AV→Prop)→List AV→Prop
 |[],K,σ=>run K σ
 |s::vs,K,σ=>rgn run vs (fun σ'=>K (σ'.set s (rv (σ.getD s .any) (σ'.getD s .any)))) (σ.set s (nv (σ.getD s .any)))
def Vz (X:Act→World→(Act→World→Prop)→Prop) (fr:List Nat) (run:(List AV→Prop)→List AV→Prop):Prop:=
 ∀(dfs:List Deferred) (w0:World) (S0 c0:Nat→Nat) (σ:List AV) (a:Act) (w:World) (K:List AV→Prop) (post:Act→World→Prop),A3 dfs w0 S0 c0 σ a w→run K σ→
  (∀σ' a' w',A3 dfs w0 S0 c0 σ' a' w'→K σ'→(∀s∈fr,a'.tmps[s]? =a.tmps[s]?)→post a' w')→X a w post
theorem Gl {σ:List AV} {s:Nat}:σ.set s (σ.getD s .any)=σ:=by
 by_cases h:s<σ.length
 ·exact set_self h rfl
 ·rw [Ayu om]
theorem L1 {X:Act→World→(Act→World→Prop)→Prop} {fr:List Nat} {run:(List AV→Prop)→List AV→Prop} (hrun:Vz X fr run):
 ∀(vs:List Nat),(∀s∈vs,s∈fr)→Vz X fr (rgn run vs)
 |[],_=>hrun
 |s::vs,hvs=>by
  have ih:=L1 hrun vs fun t ht=>hvs t (by simp [ht]);have hsf:=hvs s oS;intro dfs w0 S0 c0 σ a w K post hst h hpost;simp only[rgn]at h;by_cases hs:s<σ.length
  case neg=>
   have e1:σ.set s (nv (σ.getD s .any))=σ:=Ayu om;rw[e1]at h;refine ih dfs w0 S0 c0 σ a w _ post hst h fun σ' a' w' g1 g2 g3=>hpost _ a' w' ?_ g2 g3;have:rv (σ.getD s .any) (σ'.getD s .any)=σ'.getD s .any:=by rw[E3 om];rfl
   rw[this,Gl];exact g1
  case pos=>
  have back:∀x,σ.getD s .any=x→pb x=true→nv x=view x→rv x=(fun _=>x)→X a w post:=by
   intro x hx hp hnv hrv;rw[hx,hnv,hrv]at h;have hx':σ[s]? =some x:=by rw[←hx];simp [Axy,hs]
   obtain⟨hrf,S,c,hr,h1,hd,hz,hstp⟩:=hst;obtain⟨v,c1,c2,hv,hxr,hr2,hc⟩:=hr.take s hx';have hr3:=hr2.fill hxr.view s (by simp [hs]);rw[Ayn,Ak hv]at hr3;have hst2:A3 dfs w S c2 (σ.set s (view x)) a w:=⟨hrf.less s Ra,S,c2,hr3.congr fun b=>oS,fun b=>by have:=h1 b;rw[hc]at this;omega,hd,hz,Stp.refl w S c2⟩;refine ih dfs w S c2 _ a w _ post hst2 h fun σ' a' w' g1 g2 g3=>hpost _ a' w' ?_ g2 g3;obtain⟨krf,S',c',kr,k1,kd,kz,kst⟩:=g1;have hv':a'.tmps.toList[s]? =some v:=by exact Anq
   have hxr':Aa w' S' [x] [v] c1:=hxr.step kst fun b=>by have:=h1 b;rw[hc]at this;exact this
   have hlen:s<σ'.length:=by have:=kr.length;have:=(List.getElem?_eq_some_iff.1 hv').1;omega
   obtain⟨c'',kr2,kle⟩:=kr.put hxr' s hlen;rw[Ak hv']at kr2;refine⟨krf.less s hp,S',c'',kr2,fun b=> ?_,kd,kz,?_⟩
   ·have:=kle b;by_cases hb:b<w.heap.size
    ·have:=kst.own b hb;have:=h1 b;rw[hc]at this;omega
    ·exact AmN
   ·refine hstp.trans ⟨kst.os,kst.tape,kst.output,kst.size,fun b hb hcb=>kst.keep b hb (by have:=hc b;omega),kst.cell,kst.le,fun b hb=> ?_⟩;have:=kle b;have:=kst.own b hb;have:=hc b;omega
  have same:∀x,σ.getD s .any=x→nv x=x→rv x=(fun y=>y)→X a w post:=by intro x hx hnv hrv;rw[hx,hnv,hrv,←hx,Gl]at h;refine ih dfs w0 S0 c0 σ a w _ post hst h fun σ' a' w' g1 g2 g3=>hpost _ a' w' ?_ g2 g3;simp only[Gl];exact g1
  cases hx:σ.getD s .any with
  |any=>exact same _ hx rfl rfl
  |raw v=>exact same _ hx rfl rfl
  |agg cs=>exact back _ hx rfl rfl rfl
  |tup cs=>exact back _ hx rfl rfl rfl
  |nil=>exact same _ hx rfl rfl
  |sl k es=>exact same _ hx rfl rfl
  |own e k es=>exact back _ hx rfl rfl rfl
  |ref s o=>exact same _ hx rfl rfl
  |pref s k j o=>exact same _ hx rfl rfl
  |slx k es zs=>exact same _ hx rfl rfl
  |nbox b T cs=>exact same _ hx rfl rfl
  |nmap b ks vs=>exact same _ hx rfl rfl
  |nelt ad x=>exact same _ hx rfl rfl
  |row e k es=>exact same _ hx rfl rfl
  |alias s=>exact same _ hx rfl rfl
  |mine e k es=>exact same _ hx rfl rfl
  |elt y=>exact same _ hx rfl rfl
  |clo g cs=>exact same _ hx rfl rfl
  |yld l st=>exact same _ hx rfl rfl
  |box U cs=>
   rw[hx]at h;refine ih dfs w0 S0 c0 _ a w _ post ?_ h fun σ' a' w' g1 g2 g3=>hpost _ a' w' ?_ g2 g3
   ·have hx':σ[s]? =some (.box U cs):=by rw[←hx];simp [Axy,hs]
    obtain⟨hrf,S,c,hr,h1,hd,hz,hstp⟩:=hst;obtain⟨v,c1,c2,hv,hxr,hr2,hc⟩:=hr.take s hx'
    cases hxr with
    |box hb hS h3 ho h4 hcc=>
     rename_i b cur d1 d2
     cases h4 with
     |nil hz4=>
     have hbox:=Aa.box (c:=fun x=>if x=b then 1 else 0) (T:=U) hb hS (Aa.map_v Aa.v1 h3) ho (.nil (c:=fun _=>0) Al) (fun x=>oS);have hr3:=hr2.fill hbox s (by simp [hs]);rw[Ayn,Ak hv]at hr3;refine⟨hrf.rebox U _ hx',S,_,hr3,fun x=> ?_,hd,hz,hstp.drop fun x=> ?_⟩
     ·have:=h1 x;have:=hc x;have:=hcc x;show _+c2 x≤1;omega
     ·have:=hc x;have:=hcc x;show _+c2 x≤c x;omega
   ·simp only[rv,Gl];exact g1
def tw1 (x:AV) (m:Bool) (s:Nat) (A:List AV→Prop) (σ:List AV):Prop:=match x with
 |.own e k []=>σ.all (Km s)=true∧A (σ.set s (.row e k []))
 |.row e k es=>A (σ.set s (bif m then .mine e k es else .own e k es))
 |.mine e k es=>(bif m then(σ.all (Km s)=true∧A (σ.set s (.row e k es)))else A σ)
 |.alias _=>A (σ.set s .any)
 |.pref _ _ _ _=>A (σ.set s .any)
 |.box _ cs=>cs.all zc1=true∧A (σ.set s (.elt (.agg cs)))
 |_=>A σ
def kK:List Nat→(List AV→Prop)→List AV→Prop
 |[],K,σ=>K σ
 |s::ts,K,σ=>tw1 (σ.getD (s % 100000) .any) (decide (100000≤s)) (s % 100000) (kK ts K) σ
theorem cZ {σ:List AV} {vs:List Value} {d e k:Nat} {es:List AV} (h:RefOk σ vs) (hn:σ.all (Km d)=true):RefOk (σ.set d (.row e k es)) vs:=by
 refine⟨fun i s off T2 cs2 hi hs=> ?_,fun i s e2 k2 es2 hi hs=> ?_,fun i s k3 j o e2 k2 es2 hi hs=> ?_⟩
 ·exact AmB
 ·obtain ⟨n1,h1⟩:=Af hi (by intro h;cases h);have hsd:d≠s:=by have:=Ry hn h1;simp [Km]at this;exact fun h=>this h.symm
  rw[Ag hsd]at hs;exact h.al i s e2 k2 es2 h1 hs
 ·obtain ⟨n1,h1⟩:=Af hi (by intro h;cases h);have hsd:d≠s:=by have:=Ry hn h1;simp [Km]at this;exact fun h=>this h.symm
  rw[Ag hsd]at hs;exact h.pr i s k3 j o e2 k2 es2 h1 hs
theorem Cp:∀(ts:List Nat) {w0:World} {S0 c0:Nat→Nat} {σ:List AV} {a:Act} {w:World} {K:List AV→Prop},A3 dfs w0 S0 c0 σ a w→kK ts K σ→∃σ',K σ'∧A3 dfs w0 S0 c0 σ' a w
 |[],w0,S0,c0,σ,a,w,K,hst,h=>⟨σ,h,hst⟩
 |s::ts,w0,S0,c0,σ,a,w,K,hst,h=>by
  simp only[kK]at h;generalize s % 100000=s at h;generalize decide (100000≤_)=m at h;unfold tw1 at h;split at h
  ·rename_i e k hx;obtain⟨hn,h⟩:=h;refine Cp ts ?_ h;obtain⟨hrf,S,c,hr,h1,hd,hz,hs⟩:=hst;obtain⟨v,c1,c2,hv,hxr,hr2,hc⟩:=hr.take s (A4 hr hx oS);have hlt:=getD_lt hx oS
   have hrow:Aa w S [.row e k []] [v] c1:=by
    cases hxr with
    |ownE h=>exact .rowE h
    |own hn hcap hk hb hs' hS h1 h0 hoc h hcc=>exact .row hn hcap hk hb hs' (by simpa using hS) h1 h0 hoc h hcc
   exact Am6
  ·rename_i e k es hx;refine Cp ts ?_ h;obtain⟨hrf,S,c,hr,h1,hd,hz,hs⟩:=hst;obtain⟨v,c1,c2,hv,hxr,hr2,hc⟩:=hr.take s (A4 hr hx oS);have hlt:=getD_lt hx oS
   cases m with
   |true=>
    have hmine:Aa w S [.mine e k es] [v] c1:=by
     cases hxr with
     |rowE h=>exact .mineE h
     |row hn hcap hk hb hs' hS hx1 h0 hoc h hcc=>exact .mine hn hcap hk hb hs' hS hx1 h0 hoc h hcc
    have:=hr2.fill hmine s (by simp [hlt]);exact AmZ
   |false=>
   cases hxr with
   |rowE h=>have:=hr2.fill (Aa.ownE (e:=e) (k:=k) h) s (by simp [hlt]);exact AmZ
   |row hn hcap hk hb hs' hS hx1 h0 hoc h hcc=>
    rename_i b cap cur d0 d2
    cases h with
    |nil hz2=>
    have hcb:0<c b:=by rw[hc,hcc];simp;omega
    have hle:∀x,S x≤upd S b (es.length*k) x:=by
     intro x;unfold upd;split
     ·exact AaQ
     ·exact F6
    have hkeep:∀{xs vs c'},Aa w S xs vs c'→c' b=0→Aa w (upd S b (es.length*k)) xs vs c':=fun h hb0=>
     h.keep (fun _ _ _=>rfl) hle (fun x hx=>⟨rfl,by unfold upd;rw[if_neg];intro hxb;subst hxb;omega⟩)
    have hown:Aa w (upd S b (es.length*k)) [.own e k es] [.slice (some ⟨b,0,none⟩) es.length cap] c1:=
     .own hn hcap hk hb hs' (by simp [upd]) (hkeep hx1 (h0 b)) h0 hoc (.nil hz2) hcc
    have hb1:c1 b=1:=by rw[hcc,hz2 b];simp
    have hb2:c2 b=0:=by have:=h1 b;rw[hc,hb1]at this;omega
    have:=(hkeep hr2 hb2).fill hown s (by simp [hlt]);rw[Ayn,Ak hv]at this;refine⟨hrf.less s rfl,_,c,this.congr fun b=>hc b,h1,hd,⟨fun x hx=> ?_,hz.g.upd0 hS _⟩,⟨hs.os,hs.tape,hs.output,hs.size,fun x hx hx0=>⟨(hs.keep x hx hx0).1,?_⟩,hs.cell,fun x=> ?_,hs.own⟩⟩
    ·unfold upd;rw[if_neg]
     ·exact hz x hx
     ·exact AaF
    ·exact Anb
    ·exact An3
  ·rename_i e k es hx
   cases m with
   |false=>exact Cp ts hst h
   |true=>
    obtain⟨hn,h⟩:=h;refine Cp ts ?_ h;obtain⟨hrf,S,c,hr,h1,hd,hz,hs⟩:=hst;obtain⟨v,c1,c2,hv,hxr,hr2,hc⟩:=hr.take s (A4 hr hx oS);have hlt:=getD_lt hx oS
    have hrow:Aa w S [.row e k es] [v] c1:=by
     cases hxr with
     |mineE h=>exact .rowE h
     |mine hn hcap hk hb hs' hS hx1 h0 hoc h hcc=>exact .row hn hcap hk hb hs' hS hx1 h0 hoc h hcc
    exact Am6
  ·rename_i s' hx;exact Atk
  ·rename_i s' k' j' o' hx;exact Atk
  ·rename_i T cs hx;obtain⟨hzc,h⟩:=h;refine Cp ts ?_ h;obtain⟨hrf,S,c,hr,h1,hd,hz,hs⟩:=hst;obtain⟨v,c1,c2,hv,hxr,hr2,hc⟩:=hr.take s (A4 hr hx oS);have hlt:=getD_lt hx oS
   cases hxr with
   |box hb hS hx1 ho hn hcc=>
    rename_i b cur d1 d2
    cases hn with
    |nil hz2=>
    have hz1:=Vk hx1 hzc;have hcb:0<c b:=by rw[hc,hcc];simp;omega
    have hle:∀x,S x≤upd S b cur.size x:=by
     intro x;unfold upd;split
     ·exact AaQ
     ·exact F6
    have hkeep:∀{xs vs c'},Aa w S xs vs c'→c' b=0→Aa w (upd S b cur.size) xs vs c':=fun h hb0=>
     h.keep (fun _ _ _=>rfl) hle (fun x hx=>⟨rfl,by unfold upd;rw[if_neg];intro hxb;subst hxb;omega⟩)
    have helt:Aa w (upd S b cur.size) [.elt (.agg cs)] [.pointer (some ⟨b,0,none⟩)] (fun _=>0):=by refine .elt (cv:=cur.toList) rfl (hkeep hx1 (hz1 b)) hz1 (fun j u hj=>⟨?_,ho u (Axt hj)⟩) (by simp [upd]) (.nil Al);simp only[Ayc];rw[cell_of_row w b j cur T (0,0) hb];simpa using hj
    have hb1:c1 b=1:=by rw[hcc,hz1 b,hz2 b];simp
    have hb2:c2 b=0:=by have:=h1 b;rw[hc,hb1]at this;omega
    have:=(hkeep hr2 hb2).fill helt s (by simp [hlt]);rw[Ayn,Ak hv]at this;refine⟨hrf.less s rfl,_,c2,this.congr fun b=>oS,fun b=>by have:=h1 b;have:=hc b;omega,hd,⟨fun x hx=> ?_,hz.g.upd0 hS _⟩,⟨hs.os,hs.tape,hs.output,hs.size,fun x hx hx0=>⟨(hs.keep x hx hx0).1,?_⟩,hs.cell,fun x=> ?_,fun x hx=>by have:=hs.own x hx;have:=hc x;omega⟩⟩
    ·unfold upd;rw[if_neg]
     ·exact hz x hx
     ·exact AaF
    ·exact Anb
    ·exact An3
  ·exact Cp ts hst h
def XO (P:Program) (ops:Array Oper) (l:List Nat) (a:Act) (w:World) (post:Act→World→Prop):Prop:=∀Q:Exit→Act→World→Prop,(∀a w,post a w→Q .normal a w)→wpOps P ops Q l a w
def Sg (vs:List Nat) (ops:List Oper):Bool:=vs.all fun s=>ops.all fun o=>o.dst != some s
theorem Pn {vs:List Nat} {ops:List Oper} (h:Sg vs ops=true):∀s∈vs,∀o∈ops,o.dst≠some s:=by intro s hs o ho;have:=Ax7.1 (Ax7.1 h s hs) o ho;exact G5
theorem Xy {ops:Array Oper} (K:List AV→Prop):∀(l:List Oper) (r:List CO),B2 ops l=some r→Qy P T ops K l=El P T K r
 |[],r,h=>by simp [B2]at h;subst h;rfl
 |o::l,r,h=>by
  simp only[B2]at h;split at h
  ·rename_i g r' hg hr;injection h with h;subst h;have ih:=Xy K l r' hr;funext σ
   cases hgd:o.guard with
   |none=>rw[hgd]at hg;simp only[Bf]at hg;injection hg with hg;subst hg;simp only[Qy,hgd,El,ih];rfl
   |some jw=>
    obtain⟨j,want⟩:=jw;rw[hgd]at hg;simp only[Bf]at hg;split at hg
    ·rename_i t ht;injection hg with hg;subst hg;simp only[Qy,hgd,ht,El,ih];rfl
    ·cases hg
  ·cases h
theorem run_text (hT:Am P T) {ops:Array Oper} {cs:List CO} (hcs:B2 ops ops.toList=some cs) {vs:List Nat} (hv:Sg vs ops.toList=true):
 Vz (XO P ops (List.range ops.size)) vs fun K σ=>El P T K cs σ:=by
 intro dfs w0 S0 c0 σ a w K post hst h hpost Q hQ;rw[←Xy K _ _ hcs]at h;refine Ga hT (List.range ops.size) ops.toList σ a w ?_ (Pn hv) hst h fun σ a w h1 h2 h3=>hQ _ _ (hpost σ a w h1 h2 h3);exact Aa5
def ann (sh rb:List Nat) (l:List CO):List (CO×List Nat):=l.map fun c=>(c,(bG sh c.op).filter fun s=>(Bj rb c).contains s)
def I0 (P:Program) (T:Bd) (rb bm:List Nat) (K:List AV→Prop):List (CO×List Nat)→List AV→Prop
 |[],σ=>K σ
 |(⟨d,op,none⟩,sh)::l,σ=>Et rb op σ (dcop P T d op σ fun σ'=>fin2 sh bm d σ σ' (I0 P T rb bm K l σ'))
 |(⟨d,op,some (t,want)⟩,sh)::l,σ=>
  match σ.getD t .any with
  |.raw (.bool e)=>
   C1 e
    (if want then Et rb op (σ.set t (.raw (.bool true))) (dcop P T d op (σ.set t (.raw (.bool true))) fun σ'=>fin2 sh bm d (σ.set t (.raw (.bool true))) σ' (I0 P T rb bm K l σ'))
     else fin2 sh bm d (σ.set t (.raw (.bool true))) (aset (σ.set t (.raw (.bool true))) d (.tup [])) (I0 P T rb bm K l (aset (σ.set t (.raw (.bool true))) d (.tup []))))
    (if want then fin2 sh bm d (σ.set t (.raw (.bool false))) (aset (σ.set t (.raw (.bool false))) d (.tup [])) (I0 P T rb bm K l (aset (σ.set t (.raw (.bool false))) d (.tup [])))
     else Et rb op (σ.set t (.raw (.bool false))) (dcop P T d op (σ.set t (.raw (.bool false))) fun σ'=>fin2 sh bm d (σ.set t (.raw (.bool false))) σ' (I0 P T rb bm K l σ')))
  |.tup []=>fin2 sh bm d σ (aset σ d (.tup [])) (I0 P T rb bm K l (aset σ d (.tup [])))
  |_=>False
theorem uD {op:Op} {σ:List AV} {A B:Prop} (h:Et rb op σ A) (f:A→B):Et rb op σ B:=by
 cases op<;>try exact f h
 case load t x=>
  exact AhU
 case store t x y=>
  exact AhU
 case indexAddr t x y=>
  exact AhU
 case fieldAddr t x g=>
  exact AhU
theorem Aby {c:CO} {σ:List AV} {K:List AV→Prop} (hb:Ky rb c.op=false) (ht:Xs (Bj rb c) c.op σ) (h:dcop P T c.dst c.op σ K):
 dcop P T c.dst c.op σ (fun σ'=>(∀t,(Bj rb c).contains t=false→σ'.getD t .any=σ.getD t .any)∧K σ'):=by
 have nat:∀K,Ku P T (uA c) σ K↔Ku P T (uA c) σ (fun σ'=>K (Cz (Bj rb c) σ' σ)):=fun K=>by have:=Xu (P:=P) (T:=T) (D:=Bj rb c) (σ:=σ) (τ:=σ) (K:=K) (o:=uA c) rfl (rB hb) Nt ht;rw[R7]at this;exact this
 refine(nat _).2 (Kx ((nat K).1 h) fun x hx=>⟨fun t htt=> ?_,hx⟩);by_cases hl:t<σ.length
 ·rw [Ch hl,htt];rfl
 ·exact AaN
theorem Po {c:CO} {σ σ':List AV} {A B:Prop} (hU:∀t,(Bj rb c).contains t=false→σ'.getD t .any=σ.getD t .any) (h:fin2 (sh.filter fun s=>(Bj rb c).contains s) bm c.dst σ σ' A) (f:A→B):fin2 sh bm c.dst σ σ' B:=by
 obtain⟨h1,h2,h3⟩:=Nx.1 h;refine Nx.2 ⟨fun s hs hd=> ?_,h2,f h3⟩
 cases hc:(Bj rb c).contains s with
 |true=>exact h1 s (Ayj.2 ⟨hs,hc⟩) hd
 |false=>exact hU s hc
theorem V0 {K:List AV→Prop}:∀(l:List CO) (σ:List AV),I0 P T rb bm K (ann sh rb l) σ→Mo P T sh rb bm K l σ
 |[],σ,h=>h
 |⟨d,op,g⟩::l,σ,h=>by
  have ih:=V0 (K:=K) l
  have step:∀σ,Et rb op σ (dcop P T d op σ fun σ'=>fin2 ((bG sh op).filter fun s=>(Bj rb ⟨d,op,g⟩).contains s) bm d σ σ' (I0 P T rb bm K (ann sh rb l) σ'))→
   Et rb op σ (dcop P T d op σ fun σ'=>fin2 (bG sh op) bm d σ σ' (Mo P T sh rb bm K l σ')):=by
   intro σ h;refine uD h fun h'=> ?_;by_cases hb:Ky rb op=true
   ·exact Kx (Aiy (c:=⟨d,op,g⟩) (rb:=rb) hb h') fun x ⟨hx,hy⟩=>Po (c:=⟨d,op,g⟩) hx hy (ih x)
   have hb:Ky rb op=false:=by simpa using hb
   obtain⟨h1,h⟩:=Vy (c:=⟨d,op,g⟩) rfl hb h;exact Kx (Aby (c:=⟨d,op,g⟩) (rb:=rb) hb h1 h) fun x ⟨hx,hy⟩=>Po (c:=⟨d,op,g⟩) hx hy (ih x)
  have skip:∀σ,fin2 ((bG sh op).filter fun s=>(Bj rb ⟨d,op,g⟩).contains s) bm d σ (aset σ d (.tup [])) (I0 P T rb bm K (ann sh rb l) (aset σ d (.tup [])))→fin2 (bG sh op) bm d σ (aset σ d (.tup [])) (Mo P T sh rb bm K l (aset σ d (.tup []))):=by
   intro σ h;refine Po (c:=⟨d,op,g⟩) (fun t ht=> ?_) h (ih _)
   cases hd:d with
   |none=>rfl
   |some d'=>
    have hne:d'≠t:=by rintro rfl;have:=Nt (rb:=rb) (c:=⟨d,op,g⟩) d' hd;rw[this]at ht;cases ht
    simp only[aset];by_cases hl:t<σ.length
    ·rw [Jc hl,if_neg hne]
    ·exact AaK
  cases g with
  |none=>exact step σ h
  |some tw=>
   obtain⟨t,want⟩:=tw;simp only[ann,Axx,I0]at h;simp only[Mo];split at h
   ·rename_i e he;refine⟨fun h1=> ?_,fun h1=> ?_⟩
    ·have h:=h.1 h1
     cases want with
     |true=>exact step _ h
     |false=>exact skip _ h
    ·have h:=h.2 h1
     cases want with
     |true=>exact skip _ h
     |false=>exact step _ h
   ·rename_i he;exact skip _ h
   ·exact Ad
theorem Abz (hT:Am P T) {ops:Array Oper} {cs:List CO} (hcs:B2 ops ops.toList=some cs) {vs:List Nat} (hv:Sg vs ops.toList=true) (hc:uB ops.toList cs rb sh bm=true) (t:Nat):
 Vz (XO P ops (Region.linearise .any ops t)) vs fun K σ=>rH σ (Mo P T sh rb bm K cs σ) bm:=by
 intro dfs w0 S0 c0 σ a w K post hst h hpost Q hQ;obtain⟨hn,h⟩:=Nw.1 h;refine wpAny_sound ops.size t _ a w (kJ hT hcs hc (Pn hv) ops.size _ σ a w oS ?_ ?_ hst hn ?_ fun σ a w h1 h2 h3=>hQ _ _ (hpost σ a w h1 h2 h3))
 ·have:rem ops.size (Array.replicate ops.size false)=List.range ops.size:=by
   exact Anr
  rw[this,List.length_range]
 ·intro j oj _ hl;rw[getD_replicate_false]at hl;cases hl
 ·have h1:rem ops.size (Array.replicate ops.size false)=List.range ops.size:=by
   exact Anr
  rw[h1];have hbm:∀c∈cs,Mr rb bm c=true:=fun c hcm=>by obtain⟨i,hi,rfl⟩:=List.getElem_of_mem hcm;have hl:=(Nv hcs).1;have hio:ops.toList[i]? =some (ops.toList[i]'om):=List.getElem?_eq_getElem _;obtain⟨c',hc',_,_,_,h4⟩:=Rh hc hio;rw[List.getElem?_eq_getElem hi]at hc';injection hc' with hc';rw[hc'];exact h4
  have:=Xx (P:=P) (T:=T) (sh:=sh) (rb:=rb) (bm:=bm) (cs:=cs) (K:=K) hbm cs 0 σ rfl hn h;rw[List.range_eq_range'];have hl:=(Nv hcs).1;simp at hl;rw[←hl];exact this
theorem V1 (hT:Am P T) {ops:Array Oper} {cs:List CO} (hcs:B2 ops ops.toList=some cs) {vs:List Nat} (hv:Sg vs ops.toList=true) (hc:uB ops.toList cs rb sh bm=true) (t:Nat):
 Vz (XO P ops (Region.linearise .any ops t)) vs fun K σ=>rH σ (I0 P T rb bm K (ann sh rb cs) σ) bm:=by
 intro dfs w0 S0 c0 σ a w K post hst h hpost;obtain⟨h1,h2⟩:=Nw.1 h;exact Abz hT hcs hv hc t dfs w0 S0 c0 σ a w K post hst (Nw.2 ⟨h1,V0 cs σ h2⟩) hpost
end
end
section
open Go.RowKit
variable [Env]
variable {dfs : List Deferred}
def klend (e k s Te:Nat) (dst:Option Nat) (τ:List AV) (K:List AV→Prop) (r y:AV):Prop:=match y with
 |.row e' k' es'=>e'=e∧k'=k∧K (aset (τ.set s (.box Te [.mine e k es'])) dst r)
 |_=>False
def Ab0 (P:Program) (x:AV) (s d g:Nat) (rest:List Operand) (dst:Option Nat) (K:List AV→Prop) (σ:List AV):Prop:=match x with
 |.box Te [.mine e k es]=>B9 P g (.row e k es) (agrab ((σ.set s .any).set d .any) rest).1 (klend e k s Te dst (agrab ((σ.set s .any).set d .any) rest).2 K)
 |_=>False
def dA (P:Program) (T:Bd) (t s d g:Nat) (rest:List Operand) (dst:Option Nat) (K:List AV→Prop) (σ:List AV):Prop:=
 match T t with
 |some i=>i.td.agg=false∧dst≠some s∧σ.length.ble d=false∧Ab0 P (σ.getD s .any) s d g rest dst K σ
 |none=>False
section
variable {P : Program} {T : Bd} {w : World}
variable {w0 : World} {S0 c0 : Nat → Nat} {σ : List AV} {a : Act} {K : List AV → Prop}
theorem Si (hT:Am P T) {ops:Array Oper} {o1 o2:Oper} {t s d g:Nat} {rest:List Operand} {c:Call} (hops:ops.toList=[o1,o2]) (ho1:o1.op=.load t (.tmp s)) (hd1:o1.dst=some d) (hg1:o1.guard=none)
 (ho2:o2.op=.call c) (hg2:o2.guard=none) (hc:c.callee=.value (.func g)) (hca:c.args.toList=.tmp d::rest) (hds:d≠s) (hst:A3 dfs w0 S0 c0 σ a w) (h:dA P T t s d g rest o2.dst K σ):
 XO P ops (List.range ops.size) a w (fun a' w'=>∃σ',K σ'∧A3 dfs w0 S0 c0 σ' a' w'∧∀s',o1.dst≠some s'→o2.dst≠some s'→a'.tmps[s']? =a.tmps[s']?):=by
 intro Q hQ;have hsz:ops.size=2:=by rw[←Ay1,hops];rfl
 have hg0:ops[0]? =some o1:=by rw[←Array.getElem?_toList,hops];rfl
 have hg1':ops[1]? =some o2:=by rw[←Array.getElem?_toList,hops];rfl
 rw[hsz,show List.range 2=[0,1]from rfl];unfold dA at h;split at h
 ·rename_i i hi;obtain⟨hagg,hdst,hdlt,h⟩:=h
  have hdlt:d<σ.length:=by
   rcases Axz d σ.length with h|h
   ·exact h
   ·rw [Nat.ble_eq_true_of_le h]at hdlt;cases hdlt
  unfold Ab0 at h;split at h
  ·rename_i Te e k es hx;obtain⟨⟨fn,code,hfn,hbody,hname⟩,_,hcall⟩:=h;obtain⟨hrf,S,cc,hr,h1,hd,hz,hs⟩:=hst;have hσs:σ[s]? =some (.box Te [.mine e k es]):=A4 hr hx oS;obtain⟨b,cur,d1,c2,hev,hb,hS,hcs,hone,hr2,hcc,hv⟩:=Hq hr hx;have hcl:=hcs.length
   obtain⟨v,hcv⟩:∃v,cur.toList=[v]:=by
    match hq:cur.toList,hcl with
    |[v],_=>exact⟨v,rfl⟩
   have hl1:lsz i=1:=by unfold lsz;rw[hagg];rfl
   have hrun1:=Ff (P:=P) (t:=t) (off:=0) (n:=1) (hT t i hi) hb hl1.symm (by rw[←Ay1,hcv];simp);rw[hagg,hcv]at hrun1;simp only[Ax0,if_false,List.drop_zero,AyX,AxI,List.headD_cons]at hrun1;have hexec1:(execOp a.eval o1).run P w=.ok (.value v) w:=by unfold execOp;simp only[Act.eval]at hev;simp [ho1,Act.eval,hev,hrun1]
   have hw1:Region.wanted o1 (yielded ops a.tmps)=true:=by simp [Region.wanted,hg1]
   simp only[wpOps,hg0];rw[if_pos hw1];refine .inl (Ao hexec1 ?_);rw[hd1];simp only[wpOps,hg1'];have hw2:Region.wanted o2 (yielded ops (a.put (some d) v).tmps)=true:=by simp [Region.wanted,hg2]
   rw[if_pos hw2];refine .inl ?_;obtain⟨a1,ha1⟩:∃a1,a.put (some d) v=a1:=⟨_,rfl⟩;have ht1:a1.tmps.toList=a.tmps.toList.set d v:=by rw[←ha1,E2]
   have hdf1:a1.defers=dfs:=by rw[←ha1,put_defers];exact hd
   rw[ha1];have hsl:s<σ.length:=(List.getElem?_eq_some_iff.1 hσs).1;have hr3:∃c3,Aa w S ((σ.set s .any).set d .any) a1.tmps.toList c3∧∀x,c3 x≤c2 x:=by obtain⟨c3,g1,g2⟩:=hr2.put (y:=.any) (u:=v) (cy:=fun _=>0) (.any (.nil Al)) d (by simpa using hdlt);rw[←ht1]at g1;exact⟨c3,g1,fun x=>by have:=g2 x;omega⟩
   obtain⟨c3,hr3,hle3⟩:=hr3;obtain⟨c4,c5,hargsr,hr4,hc45⟩:=Nm rest hr3;have hmine:Aa w S [.mine e k es] [v] d1:=by rw[←hcv];exact hcs
   have hrow:Aa w S [.row e k es] [v] d1:=by
    cases hmine with
    |mineE h=>exact .rowE h
    |mine hn hcap hk hb hs' hS hx1 h0 hoc h hcc=>exact .row hn hcap hk hb hs' hS hx1 h0 hoc h hcc
   have hargs0:=Aa.cons hrow hargsr (c:=fun x=>d1 x+c4 x) (fun x=>rfl);have hbound:∀x,(if x=b then 1 else 0)+d1 x+c4 x+c5 x≤1:=fun x=>by have:=h1 x;have:=hcc x;have:=hle3 x;have:=hc45 x;omega
   have hal:a.tmps.toList.length=σ.length:=hr.length;have hev1:a1.eval (.tmp d)=v:=Ck (by rw[ht1,List.getElem?_set_self om]);have hvs1:a1.tmps.toList[s]? =some (.pointer (some ⟨b,0,none⟩)):=by rw[ht1,Ag hds];exact hv
   have hrun:=Es (P:=P) hfn hname hbody (c.args.map a1.eval) w;have hargs:(v::rest.map a1.eval).toArray=c.args.map a1.eval:=by apply Array.ext';simp [hca,hev1]
   have:=hcall w S v _ _ hz hargs0 (fun x=>by have:=hbound x;show d1 x+c4 x≤1;omega);rw[hargs]at this;have hexec:(execOp a1.eval o2).run P w=.ok (.enter g (c.args.map a1.eval)) w:=by unfold execOp;simp [ho2,resolve,hc,Act.eval,Deferred.ofValue,invoke,hrun]
   unfold Oper.wp;rw[hexec,Oper.upon_enter];refine this.mono fun e' w' ⟨u,r,y,S',c',he,hR,hpb,hy,hrr,hc1,hz',hstp⟩=> ?_;subst he
   obtain⟨es',rfl,hK⟩:∃es',y=.row e k es'∧K (aset ((agrab ((σ.set s .any).set d .any) rest).2.set s (.box Te [.mine e k es'])) o2.dst r):=by
    unfold klend at hR;split at hR
    ·obtain ⟨rfl,rfl,hK⟩:=hR;exact⟨_,rfl,hK⟩
    ·exact hR.elim
   have hr5:=hr4.step hstp (fun x=>by have:=hbound x;show c5 x+(d1 x+c4 x)≤1;omega);obtain⟨vr,us,e1,e2,hvu,hrr1,hrr2,hdd⟩:=hrr.uncons;injection hvu with q1 q2;subst q1;subst q2;have hbs:b<w.heap.size:=(Array.getElem?_eq_some_iff.1 hb).1;have hb0:d1 b+c4 b=0:=by have:=hbound b;simp at this;omega
   have hkb:=hstp.keep b hbs hb0
   have hmine':Aa w' S' [.mine e k es'] cur.toList e2:=by
    rw[hcv]
    cases hrr2 with
    |rowE h=>exact .mineE h
    |row hn hcap hk hb hs' hS hx1 h0 hoc h hcc=>exact .mine hn hcap hk hb hs' hS hx1 h0 hoc h hcc
   have hbox:Aa w' S' [.box Te [.mine e k es']] [.pointer (some ⟨b,0,none⟩)] (fun x=>(if x=b then 1 else 0)+e2 x):=
    .box (c2:=fun _=>0) (hkb.1.trans hb) (hkb.2.trans hS) hmine' hone (.nil Al) (fun x=>oS)
   have hlen2:(agrab ((σ.set s .any).set d .any) rest).2.length=σ.length:=by have g1:=hr4.length;rw[ht1,List.length_set]at g1;omega
   obtain⟨cb,hrb2,hle⟩:=hr5.put hbox s om;rw[Ak hvs1]at hrb2;have back:∀{i:Nat} {x:AV},(agrab ((σ.set s .any).set d .any) rest).2[i]? =some x→pb x=false→σ[i]? =some x∧i≠d:=fun h hp=>by obtain⟨n1,g1⟩:=Af (M4 rest h hp) (by rintro rfl;cases hp);exact⟨(Af g1 (by rintro rfl;cases hp)).2,fun h=>n1 h.symm⟩
   have hrfb:RefOk ((agrab ((σ.set s .any).set d .any) rest).2.set s (.box Te [.mine e k es'])) a1.tmps.toList:=by
    refine⟨fun i s2 off T2 cs2 hi hs2=> ?_,fun i s2 e2 k2 es2 hi hs2=> ?_,fun i s2 k3 j o e2 k2 es2 hi hs2=> ?_⟩
    ·obtain ⟨n1,g1⟩:=Af hi (by intro h;cases h);obtain⟨g1,n2⟩:=back g1 rfl;by_cases hss:s=s2
     ·subst hss;obtain⟨b',k1,k2⟩:=hrf.ref i s off _ _ g1 hσs;exact⟨b',by rw[ht1,Ag hds];exact k1,by rw[ht1,Ag (fun h=>n2 h.symm)];exact k2⟩
     ·rw [Ag hss]at hs2;obtain⟨g2,n3⟩:=back hs2 rfl;obtain⟨b',k1,k2⟩:=hrf.ref i s2 off _ _ g1 g2;exact⟨b',by rw[ht1,Ag (fun h=>n3 h.symm)];exact k1,by rw[ht1,Ag (fun h=>n2 h.symm)];exact k2⟩
    ·obtain ⟨n1,g1⟩:=Af hi (by intro h;cases h);obtain⟨n2,g2⟩:=Af hs2 (by intro h;cases h);obtain⟨g1,n3⟩:=back g1 rfl;obtain⟨g2,n4⟩:=back g2 rfl;rw[ht1,Ag (fun h=>n3 h.symm),Ag (fun h=>n4 h.symm)];exact hrf.al i s2 _ _ _ g1 g2
    ·obtain ⟨n1,g1⟩:=Af hi (by intro h;cases h);obtain⟨n2,g2⟩:=Af hs2 (by intro h;cases h);obtain⟨g1,n3⟩:=back g1 rfl;obtain⟨g2,n4⟩:=back g2 rfl;obtain⟨b',n',cap',k1,k2'⟩:=hrf.pr i s2 k3 j o _ _ _ g1 g2;exact⟨b',n',cap',by rw[ht1,Ag (fun h=>n4 h.symm)];exact k1,by rw[ht1,Ag (fun h=>n3 h.symm)];exact k2'⟩
   have hfr:Stp w S cc w' S' (fun x=>c' x+c5 x+if x=b then 1 else 0):=by have:=hstp.frame (c:=cc) (c2:=fun x=>cc x-(d1 x+c4 x)) (fun x=>by have:=hcc x;have:=hle3 x;have:=hc45 x;show cc x=d1 x+c4 x+(cc x-(d1 x+c4 x));omega);refine this.drop fun x=> ?_;have:=hcc x;have:=hle3 x;have:=hc45 x;show c' x+c5 x+(if x=b then 1 else 0)≤c' x+(cc x-(d1 x+c4 x));omega
   refine hQ _ _ ⟨_,hK,A3.value (c:=fun x=>c' x+c5 x+if x=b then 1 else 0) hrfb hpb ?_ hdf1 hz' (hs.trans hfr) hrb2 hrr1 (fun x=>by have:=hle x;have:=hdd x;omega) _,fun s' k1 k2=>(Cu a1 _ _ s' k2).trans (by rw[←ha1];exact Cu a _ _ s' (by rw[←hd1];exact k1))⟩;intro x;have h1x:=hbound x;have hc1x:=hc1 x;rcases Axz x w.heap.size with hb|hb
   ·have h6:c' x≤d1 x+c4 x:=hstp.own x hb;show c' x+c5 x+(if x=b then 1 else 0)≤1;omega
   ·have g1:c5 x=0:=by
     rcases AxG (c5 x)with h|h
     ·exact h
     ·have:=hr4.lt x h;omega
    have g2:x≠b:=om;simp only[g1,g2,if_false];omega
  ·exact Ad
 ·exact Ad
end
end
end Go.Proofs.YtmophjggmekoeaaGreatDoor
