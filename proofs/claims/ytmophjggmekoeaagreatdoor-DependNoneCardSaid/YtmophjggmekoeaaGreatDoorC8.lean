/- What an operation touches, and that it comes out one way: for regions whose order is drawn. What .. -/
import Derived.Test.YtmophjggmekoeaaGreatDoorC7
set_option linter.all false
namespace Go.Proofs.YtmophjggmekoeaaGreatDoor
open Go.RowKit
variable [Env]
def Ca (P:Program) (T:Bd) (o:Oper) (σ:List AV) (K:List AV→Prop):Prop:=
 match o.op with
 |.alloc t=>match T t with
  |some i=>match o.dst with
   |some d=>Gv i.zero=true∧K (σ.set d (.box t (i.zero.map ac1)))
   |none=>False
  |none=>False
 |.box t x=>match o.dst with
  |some d=>Iy (aev σ x)=true∧K ((amv σ x).set d (.box t (cellsOf (aev σ x))))
  |none=>False
 |_=>Fg P T o σ K
def Ku (P:Program) (T:Bd) (o:Oper) (σ:List AV) (K:List AV→Prop):Prop:=
 match o.op with
 |.move (.tmp t)=>
  match σ.getD t .any,o.dst with
  |.row _ _ _,some d=>t≠d∧K (σ.set d (.alias t))
  |.alias s,some d=>s≠d∧K (σ.set d (.alias s))
  |_,_=>Ca P T o σ K
 |.indexAddr t (.tmp q) y=>match σ.getD q .any with
  |.row _ k es=>M3 T t q k es.length (aev σ y) o.dst σ K
  |.alias s=>(match σ.getD s .any with
   |.row _ k es=>M3 T t s k es.length (aev σ y) o.dst σ K
   |_=>Ca P T o σ K)
  |_=>Ca P T o σ K
 |.fieldAddr t (.tmp q) f=>match σ.getD q .any with
  |.pref s k j off=>(match T t with
   |some i=>Pm i.td.flds[f]? (σ.getD s .any) s k j off o.dst σ K
   |none=>False)
  |_=>Ca P T o σ K
 |.load t (.tmp q)=>match σ.getD q .any with
  |.pref s k j off=>(match T t with
   |some i=>Qw i (σ.getD s .any) k j off o.dst σ K
   |none=>False)
  |_=>Ca P T o σ K
 |.store t (.tmp q) y=>match σ.getD q .any with
  |.pref s k j off=>(match T t with
   |some i=>Qx i ((amv σ y).getD s .any) s k j off (view (aev σ y)) o.dst (amv σ y) K
   |none=>False)
  |_=>Ca P T o σ K
 |_=>Ca P T o σ K
theorem Aip {P:Program} {T:Bd} {o:Oper} {σ:List AV} {K:List AV→Prop} (h:Ku P T o σ K):Rc P T o σ K∨Ca P T o σ K:=by
 unfold Ku at h;split at h
 ·rename_i t ho;split at h
  ·rename_i hx hd;left;unfold Rc;simp only[ho,hx,hd];exact h
  ·rename_i hx hd;left;unfold Rc;simp only[ho,hx,hd];exact h
  ·exact .inr h
 ·rename_i t q y ho;split at h
  ·rename_i hx;left;unfold Rc;simp only[ho,Ft,hx];exact h
  ·rename_i hx;split at h
   ·rename_i hx2;left;unfold Rc;simp only[ho,Ft,hx,hx2];exact h
   ·exact .inr h
  ·exact .inr h
 ·rename_i t q f ho;exact Aa3
 ·rename_i t q ho;exact Aa3
 ·rename_i t q y ho;exact Aa3
 ·exact .inr h
def Cz (D:List Nat) (σ τ:List AV):List AV:=τ.mapIdx fun i y=>if D.contains i then σ.getD i .any else y
section
variable {D : List Nat} {σ τ : List AV}
theorem Aw:(Cz D σ τ).length=τ.length:=by simp [Cz]
theorem Ch {t:Nat} (ht:t<τ.length):(Cz D σ τ).getD t .any=if D.contains t then σ.getD t .any else τ.getD t .any:=by simp [Cz,Axy,List.getElem?_mapIdx,ht]
theorem E3 {l:List AV} {t:Nat} (h:l.length≤t):l.getD t .any=.any:=by simp [Axy,List.getElem?_eq_none h]
theorem C4 (hl:σ.length=τ.length) {t:Nat} (hd:D.contains t=true):(Cz D σ τ).getD t .any=σ.getD t .any:=by
 by_cases ht:t<τ.length
 ·rw [Ch ht,if_pos hd]
 ·exact AaN
theorem Kv {l m:List AV} (hl:l.length=m.length) (h:∀t,t<m.length→l.getD t .any=m.getD t .any):l=m:=by apply List.ext_getElem hl;intro i h1 h2;have:=h i h2;simpa[Axy,h1,h2]using this
theorem Jc {l:List AV} {i t:Nat} {x:AV} (ht:t<l.length):(l.set i x).getD t .any=if i=t then x else l.getD t .any:=by
 simp only[Axy,List.getElem?_set];split
 ·rename_i h;subst h;simp [ht]
 ·rfl
theorem Da (hl:σ.length=τ.length) {i:Nat} (x:AV) (hd:D.contains i=true):(Cz D σ τ).set i x=Cz D (σ.set i x) τ:=by
 refine Kv (by simp [Aw]) fun t ht=> ?_;rw[Aw]at ht;rw[Jc (by rw[Aw];exact ht),Ch ht,Ch ht,Jc om];by_cases h:i=t
 ·subst h;simp [hd];exact fun h=>absurd (by simpa using hd) h
 ·simp [h]
theorem R7:Cz D σ σ=σ:=Kv Aw fun t ht=>by rw[Ch ht];split<;>rfl
def Ez (D:List Nat):Operand→Prop
 |.tmp t=>D.contains t=true
 |_=>True
theorem Bn (hl:σ.length=τ.length) {x:Operand} (hx:Ez D x):aev (Cz D σ τ) x=aev σ x:=by cases x<;>simp only[aev];rw[C4 hl hx]
theorem Abc (hl:σ.length=τ.length) {t:Nat} (hx:D.contains t=true) (y:AV):Mn (Cz D σ τ) t y=Cz D (Mn σ t y) τ:=by cases y<;>simp only[Mn]<;>first|rfl|exact Da hl _ hx
theorem Im (hl:σ.length=τ.length) {x:Operand} (hx:Ez D x):amv (Cz D σ τ) x=Cz D (amv σ x) τ:=by cases x<;>simp only[amv];rw[C4 hl hx];exact Abc hl hx _
theorem cL {t:Nat} {y:AV}:(Mn σ t y).length=σ.length:=by cases y<;>simp [Mn]
theorem Dh {x:Operand}:(amv σ x).length=σ.length:=by cases x<;>simp only[amv];exact cL
theorem G8:∀(xs:List Operand) {σ:List AV},(agrab σ xs).2.length=σ.length
 |[],σ=>rfl
 |x::xs,σ=>by simp only[agrab];rw[G8 xs,Dh]
theorem L0:∀(xs:List Operand) {σ:List AV},σ.length=τ.length→(∀x∈xs,Ez D x)→agrab (Cz D σ τ) xs=((agrab σ xs).1,Cz D (agrab σ xs).2 τ)
 |[],σ,hl,hx=>rfl
 |x::xs,σ,hl,hx=>by have h1:=hx x oS;simp only[agrab];rw[Bn hl h1,Im hl h1,L0 xs (by rw[Dh];exact hl) (fun y hy=>hx y (by simp [hy]))]
theorem Bu (hl:σ.length=τ.length) {d:Option Nat} (x:AV) (hd:∀t,d=some t→D.contains t=true):aset (Cz D σ τ) d x=Cz D (aset σ d x) τ:=by
 cases d with
 |none=>rfl
 |some d=>exact Da hl x (hd d rfl)
end
def Xs (D:List Nat) (op:Op) (σ:List AV):Prop:=
 match op with
 |.load _ (.tmp s)=>match σ.getD s .any with
  |.ref s' _=>D.contains s'=true
  |.pref s' _ _ _=>D.contains s'=true
  |_=>True
 |.store _ (.tmp s) _=>match σ.getD s .any with
  |.ref s' _=>D.contains s'=true
  |.pref s' _ _ _=>D.contains s'=true
  |_=>True
 |.fieldAddr _ (.tmp s) _=>match σ.getD s .any with
  |.ref s' _=>D.contains s'=true
  |.pref s' _ _ _=>D.contains s'=true
  |_=>True
 |.indexAddr _ (.tmp s) _=>match σ.getD s .any with
  |.alias s'=>D.contains s'=true
  |_=>True
 |_=>True
theorem qZ {σ:List AV} {y:Operand} {s:Nat} {x:AV} (hx:pb x=false):(amv σ y).getD s .any=x↔σ.getD s .any=x:=by
 cases y with
 |tmp t=>
  simp only[amv];by_cases ht:t<σ.length
  ·by_cases hp:pb (σ.getD t .any)=true
   ·have h1:=Xg σ t ht hp;simp only[amv]at h1;rw[h1];by_cases hs:s<σ.length
    ·rw [Jc hs];split
     ·rename_i h;subst h;constructor
      ·intro h;have:=Ra (x:=σ.getD t .any);rw[h,hx]at this;cases this
      ·intro h;rw[h,hx]at hp;cases hp
     ·rfl
    ·exact AaK
   ·have h1:=(Xh σ t (by simpa using hp)).1;simp only[amv]at h1;rw[h1]
  ·have hx:σ.getD t .any=.any:=E3 (Nat.le_of_not_lt ht);rw[hx];rfl
 |_=>rfl
theorem Aiq {σ:List AV} {y:Operand} {s s' off:Nat}:(amv σ y).getD s .any=.ref s' off↔σ.getD s .any=.ref s' off:=qZ rfl
theorem cM {σ:List AV} {y:Operand} {d:Nat} (h:σ.all (Km d)=true):(amv σ y).all (Km d)=true:=by
 rw[Ax7]at *;intro x hx;obtain⟨i,hi,hxi⟩:=List.getElem_of_mem hx;have hg:(amv σ y).getD i .any=x:=by simp [Axy,hi,hxi]
 have hi':i<σ.length:=by rw[Dh]at hi;exact hi
 cases hp:pb x with
 |true=>cases x<;>first|rfl|(simp [pb]at hp)
 |false=>
  have hm:σ.getD i .any∈σ:=by simp [Axy,hi']
  rw[(qZ hp).1 hg]at hm;exact h _ hm
theorem jY {P:Program} {T:Bd} {o:Oper} {σ:List AV} {K:List AV→Prop} (h:Ca P T o σ K)
 (hn:∀d,o.dst=some d→(match o.op with
  |.alloc _=>True
  |.box _ _=>True
  |_=>False)→σ.all (Km d)=true):Fg P T o σ K:=by
 unfold Ca at h;split at h
 ·rename_i t ho;unfold Fg;simp only[ho]at hn⊢;split at h
  ·rename_i i hi;simp only[hi];split at h
   ·rename_i d hd;simp only[hd,Pj];exact⟨h.1,hn d hd trivial,h.2⟩
   ·exact Ad
  ·exact Ad
 ·rename_i t x ho;unfold Fg;simp only[ho]at hn⊢;split at h
  ·rename_i d hd;simp only[hd,tP];exact⟨h.1,cM (hn d hd trivial),h.2⟩
  ·exact Ad
 ·exact h
end Go.Proofs.YtmophjggmekoeaaGreatDoor
namespace Go.Proofs.YtmophjggmekoeaaGreatDoor
open Go.RowKit
variable [Env]
section
variable {P : Program} {T : Bd} {D : List Nat} {σ τ : List AV} {K : List AV → Prop} {dst : Option Nat}
theorem tW (hl:σ.length=τ.length) {i:TI} {x:Operand} (hx:Ez D x) (hd:∀t,dst=some t→D.contains t=true) (ht:∀t,Xs D (.load t x) σ):
 G6 (Cz D σ τ) i x dst K↔G6 σ i x dst (fun σ'=>K (Cz D σ' τ)):=by
 cases x with
 |tmp s=>
  have ht:=ht 0;simp only[G6,Xs,Ez]at *;rw[C4 hl hx];revert ht;generalize hv:σ.getD s .any=v;intro ht;cases v<;>simp only[]at ht⊢
  case box T cs=>
   exact AaS
  case ref s' off=>
   rw[C4 hl ht];generalize σ.getD s' .any=u;cases u<;>simp only[];rw[Da hl _ ht,Bu (by simp [hl]) _ hd]
  case elt y=>rw[Bu hl _ hd]
 |_=>exact Iff.rfl
theorem R8 (hl:σ.length=τ.length) {i:TI} {x:Operand} {f:Nat} (hx:Ez D x) (hd:∀t,dst=some t→D.contains t=true) (ht:∀t,Xs D (.fieldAddr t x f) σ):
 Bl (Cz D σ τ) i x f dst K↔Bl σ i x f dst (fun σ'=>K (Cz D σ' τ)):=by
 unfold Bl;split
 ·rename_i off n agg d hf;have hd:=hd d rfl
  cases x with
  |tmp s=>
   have ht:=ht 0;simp only[Xs,Ez]at *;rw[C4 hl hx];revert ht;generalize hv:σ.getD s .any=v;intro ht;cases v<;>simp only[]at ht⊢
   case box T cs=>rw[Da hl _ hd]
   case ref s' off=>
    rw[C4 hl ht];generalize σ.getD s' .any=u;cases u<;>simp only[];rw[Da hl _ hd]
   case elt y=>rw[Da hl _ hd]
  |_=>exact Iff.rfl
 ·exact Fb
theorem Xt (hl:σ.length=τ.length) {x:Operand} {n:Nat} (hx:Ez D x) (hd:∀t,dst=some t→D.contains t=true):
 Ej (Cz D σ τ) x n dst K↔Ej σ x n dst (fun σ'=>K (Cz D σ' τ)):=by
 unfold Ej
 cases x with
 |tmp s=>simp only[Ez]at hx;simp only[];rw[C4 hl hx];generalize hv:σ.getD s .any=v;cases v<;>simp only[];exact AaS
 |_=>exact Iff.rfl
theorem cN (hl:σ.length=τ.length) {i:TI} {x:Operand} {n:Nat} (hx:Ez D x) (hd:∀t,dst=some t→D.contains t=true):
 Ik (Cz D σ τ) i x n dst K↔Ik σ i x n dst (fun σ'=>K (Cz D σ' τ)):=by
 unfold Ik
 cases x with
 |tmp s=>
  simp only[Ez]at hx;simp only[];rw[C4 hl hx];generalize hv:σ.getD s .any=v;cases v<;>simp only[];generalize i.td.flds[n]? =p
  cases p with
  |none=>exact Iff.rfl
  |some p=>obtain⟨off,sz,ag⟩:=p;cases sz<;>cases ag<;>simp only[];exact AaS
 |_=>simp only[];rw[Bn hl (by simp [Ez])];exact Vi
theorem Qz (hl:σ.length=τ.length) {e n:Nat} {j:TI} {ps:List (Nat×Operand)} (hx:∀x∈ps.map (·.2),Ez D x) (hd:∀t,dst=some t→D.contains t=true):
 Co (Cz D σ τ) e j n ps dst K↔Co σ e j n ps dst (fun σ'=>K (Cz D σ' τ)):=by
 unfold Co;rw[L0 _ hl hx,Bu (by rw[G8];exact hl) _ hd]
theorem jZ (hl:σ.length=τ.length) {i:TI} {x y:Operand} (hx:Ez D x) (hy:Ez D y) (hd:∀t,dst=some t→D.contains t=true) (ht:∀t,Xs D (.store t x y) σ):
 Gx (Cz D σ τ) i x y dst K↔Gx σ i x y dst (fun σ'=>K (Cz D σ' τ)):=by
 unfold Gx
 cases x with
 |tmp s=>
  have ht:=ht 0;simp only[Xs,Ez]at *;have hl2:(amv σ y).length=τ.length:=by rw[Dh];exact hl
  rw[Bn hl hy,Im hl hy,C4 hl2 hx];generalize hv:(amv σ y).getD s .any=v;cases v<;>simp only[]
  case box T cs=>rw[Da hl2 _ hx,Bu (by simp [hl2]) _ hd]
  case ref s' off=>
   rw[Aiq.1 hv]at ht;simp only[]at ht;rw[C4 hl2 ht];generalize (amv σ y).getD s' .any=u;cases u<;>simp only[];rw[Da hl2 _ ht,Bu (by simp [hl2]) _ hd]
 |_=>exact Iff.rfl
theorem cO (hl:σ.length=τ.length) {e:Nat} {j:TI} {x y:Operand} (hx:Ez D x) (hy:Ez D y) (hd:∀t,dst=some t→D.contains t=true):
 D4 (Cz D σ τ) e j x y dst K↔D4 σ e j x y dst (fun σ'=>K (Cz D σ' τ)):=by
 unfold D4;have hl2:(amv σ x).length=τ.length:=by rw[Dh];exact hl
 rw[Bn hl hx,Im hl hx,Bn hl2 hy];simp only[Bu hl2 _ hd]
theorem tX (hl:σ.length=τ.length) {f:Operand} {xs:List Operand} (hf:Ez D f) (hx:∀x∈xs,Ez D x) (hd:∀t,dst=some t→D.contains t=true):
 Dr P (Cz D σ τ) f xs dst K↔Dr P σ f xs dst (fun σ'=>K (Cz D σ' τ)):=by
 unfold Dr;rw[Bn hl hf,L0 _ hl hx];have:∀r,aset (Cz D (agrab σ xs).2 τ) dst r=Cz D (aset (agrab σ xs).2 dst r) τ:=fun r=>Bu (by rw[G8];exact hl) r hd;simp only[this]
theorem Vt {flds:List (Nat×Option Nat×Option Bool)} {K K':List AV→Prop} (h:∀cs,K cs↔K' cs):∀(ps:List (Nat×AV)) (cs:List AV),Fp flds ps cs K↔Fp flds ps cs K'
 |[],cs=>h cs
 |(i,x)::r,cs=>by
  simp only[Fp];split
  ·rw [Vt h r]
  ·exact Fb
theorem Abd {o:Oper} (hl:σ.length=τ.length) (hx:∀x∈o.op.operands.toList,Ez D x) (hd:∀t,o.dst=some t→D.contains t=true) (ht:Xs D o.op σ):
 Ca P T o (Cz D σ τ) K↔Ca P T o σ (fun σ'=>K (Cz D σ' τ)):=by
 obtain⟨dst,op,type,pos,after,guard⟩:=o;simp only at hx hd ht;cases op
 case move x=>
  exact AmF
 case assign x=>
  exact AmF
 case pick c x y=>
  have h1:=hx c (by simp [Op.operands]);have h2:=hx x (by simp [Op.operands]);have h3:=hx y (by simp [Op.operands]);simp only[Ca,Fg];rw[Bn hl h1,Bn hl h2,Bn hl h3,Im hl h2,Im hl h3,Bu (by rw[Dh];exact hl) _ hd,Bu (by rw[Dh];exact hl) _ hd]
 case alloc t=>
  simp only[Ca];cases T t<;>simp only[];cases dst<;>simp only[];rw[Da hl _ (hd _ rfl)]
 case box t x=>
  have h1:=hx x (by simp [Op.operands]);simp only[Ca];cases dst<;>simp only[];rw[Bn hl h1,Im hl h1,Da (by rw[Dh];exact hl) _ (hd _ rfl)]
 case build t ps=>
  have h1:∀x∈ps.toList.map (·.2),Ez D x:=fun x h=>hx x (by simpa[Op.operands]using h);simp only[Ca,Fg];cases T t<;>simp only[];rw[L0 _ hl h1];rw[Vt (K':=fun cs=>K (Cz D (aset (agrab σ (ps.toList.map (·.2))).2 dst (.agg cs)) τ))];intro cs;rw[Bu (by rw[G8];exact hl) _ hd]
 case buildSlice t n ps=>
  have h1:∀x∈ps.toList.map (·.2),Ez D x:=fun x h=>hx x (by simpa[Op.operands]using h);simp only[Ca,Fg]
  cases T t with
  |none=>exact Iff.rfl
  |some i=>
   simp only[]
   cases i.td.elem with
   |none=>exact Iff.rfl
   |some e=>simp only[];cases T e<;>simp only[];exact Qz hl h1 hd
 case load t x=>
  have h1:=hx x (by simp [Op.operands]);simp only[Ca,Fg];cases T t<;>simp only[];exact tW hl h1 hd (fun _=>by cases x<;>exact ht)
 case store t x y=>
  have h1:=hx x (by simp [Op.operands]);have h2:=hx y (by simp [Op.operands]);simp only[Ca,Fg];cases T t<;>simp only[];exact jZ hl h1 h2 hd (fun _=>by cases x<;>exact ht)
 case binOp op t x y t'=>
  exact AoB
 case unOp op t x=>
  exact AoG
 case convert s d x=>
  exact AoG
 case nilCheck x=>
  exact AoG
 case makeFunc f first caps=>
  simp only[Ca,Fg];have hcap:∀xs:List Operand,xs=caps.toList→xs.map (aev (Cz D σ τ))=xs.map (aev σ):=fun xs hxs=>AyY fun x h=>Bn hl (hx x (by subst hxs;simp [Op.operands];right;simpa using h));cases f<;>simp only[];split
  ·exact Vi
  ·rename_i x xs h1 h2;rw[hcap (x::xs) h2.symm];exact Vi
  ·exact Fb
 case makeSlice t x y=>
  exact AoB
 case slice t x lo hi mx=>
  have h1:=hx x (by simp [Op.operands])
  cases mx with
  |some m=>exact Iff.rfl
  |none=>
   have h2:lo.map (aev (Cz D σ τ))=lo.map (aev σ):=by
    cases lo with
    |none=>rfl
    |some z=>exact congrArg some (Bn hl (hx z (by simp [Op.operands])))
   have h3:hi.map (aev (Cz D σ τ))=hi.map (aev σ):=by
    cases hi with
    |none=>rfl
    |some z=>exact congrArg some (Bn hl (hx z (by simp [Op.operands])))
   simp only[Ca,Fg];rw[Bn hl h1,h2,h3];exact Vi
 case fieldAddr t x f=>
  have h1:=hx x (by simp [Op.operands]);simp only[Ca,Fg];cases T t<;>simp only[];exact R8 hl h1 hd (fun _=>by cases x<;>exact ht)
 case field t x f=>
  have h1:=hx x (by simp [Op.operands]);simp only[Ca,Fg];cases T t<;>simp only[];exact cN hl h1 hd
 case indexAddr t x y=>
  have h1:=hx x (by simp [Op.operands]);have h2:=hx y (by simp [Op.operands]);simp only[Ca,Fg];cases T t<;>simp only[];unfold Bt
  cases x with
  |tmp s=>
   simp only[];rw[C4 hl h1];rw[Bn hl h2,Bn hl h1];generalize σ.getD s .any=v;cases v<;>simp only[Bu hl _ hd];rename_i i Te cs;generalize aev σ y=u;cases i.td.arr<;>cases u<;>try exact Iff.rfl
   rename_i le vv;cases dst<;>cases vv<;>try exact Iff.rfl
   simp only[];cases T le.2<;>simp only[];rw[Da hl _ (hd _ rfl)]
  |_=>simp only[];rw[Bn hl h1,Bn hl h2];exact Vi
 case index t x y=>
  exact AoB
 case extract x n=>
  have h1:=hx x (by simp [Op.operands]);simp only[Ca,Fg];exact Xt hl h1 hd
 case call c=>
  have hargs:∀x∈c.args.toList,Ez D x:=by
   intro x h;have h':x∈c.args:=by simpa using h
   refine hx x ?_;simp [Op.operands,Call.operands];cases c.callee<;>simp [h']
  simp only[Ca,Fg]
  cases hc:c.callee with
  |value f=>have h1:=hx f (by simp [Op.operands,Call.operands,hc]);exact tX hl h1 hargs hd
  |invoke r m=>exact Iff.rfl
  |builtin b=>
   cases b<;>simp only[]
   case len=>
    split
    ·rename_i x t ha hta;have h1:=hargs x (by rw[ha];simp);rw[Bn hl h1];exact Vi
    ·exact Fb
   case append=>
    split
    ·rename_i x y t t' ha hta;have h1:=hargs x (by rw[ha];simp);have h2:=hargs y (by rw[ha];simp)
     cases T t with
     |none=>exact Iff.rfl
     |some i=>
      simp only[]
      cases i.td.elem with
      |none=>exact Iff.rfl
      |some e=>
       simp only[]
       cases T e with
       |none=>exact Iff.rfl
       |some j=>simp only[];rw[cO hl h1 h2 hd]
    ·exact Fb
   case min=>
    exact Amu
   case max=>
    exact Amu
 all_goals exact Iff.rfl
theorem cP (hl:σ.length=τ.length) {t s k n:Nat} {y:AV} (hd:∀t,dst=some t→D.contains t=true):
 M3 T t s k n y dst (Cz D σ τ) K↔M3 T t s k n y dst σ (fun σ'=>K (Cz D σ' τ)):=by
 unfold M3;split
 ·split
  ·split
   ·unfold cG;split
    ·rw [Da hl _ (hd _ rfl)]
    ·exact Fb
   ·exact Fb
  ·exact Fb
 ·exact Fb
theorem Abe (hl:σ.length=τ.length) {p:Option (Nat×Option Nat×Option Bool)} {x:AV} {s k j off:Nat} (hd:∀t,dst=some t→D.contains t=true):
 Pm p x s k j off dst (Cz D σ τ) K↔Pm p x s k j off dst σ (fun σ'=>K (Cz D σ' τ)):=by
 unfold Pm;split
 ·rw [Da hl _ (hd _ rfl)]
 ·exact Fb
theorem Abf (hl:σ.length=τ.length) {i:TI} {x:AV} {k j off:Nat} (hd:∀t,dst=some t→D.contains t=true):
 Qw i x k j off dst (Cz D σ τ) K↔Qw i x k j off dst σ (fun σ'=>K (Cz D σ' τ)):=by
 unfold Qw;split
 ·rw [Bu hl _ hd]
 ·exact Fb
theorem Abg (hl:σ.length=τ.length) {i:TI} {x y:AV} {s k j off:Nat} (hs:D.contains s=true) (hd:∀t,dst=some t→D.contains t=true):
 Qx i x s k j off y dst (Cz D σ τ) K↔Qx i x s k j off y dst σ (fun σ'=>K (Cz D σ' τ)):=by
 unfold Qx;split
 ·rw [Da hl _ hs,Bu (by simp [hl]) _ hd]
 ·exact Fb
theorem Xu {o:Oper} (hl:σ.length=τ.length) (hx:∀x∈o.op.operands.toList,Ez D x) (hd:∀t,o.dst=some t→D.contains t=true) (ht:Xs D o.op σ):
 Ku P T o (Cz D σ τ) K↔Ku P T o σ (fun σ'=>K (Cz D σ' τ)):=by
 have hb:=Abd (P:=P) (T:=T) (K:=K) (o:=o) hl hx hd ht;obtain⟨dst,op,type,pos,after,guard⟩:=o;simp only at hx hd ht;cases op
 case move x=>
  have h1:=hx x (by simp [Op.operands])
  cases x with
  |tmp t=>
   simp only[Ez]at h1;simp only[Ku];rw[C4 hl h1];generalize σ.getD t .any=v
   cases dst with
   |none=>cases v<;>exact hb
   |some d=>cases v<;>first|exact hb|(simp only[];rw[Da hl _ (hd _ rfl)])
  |_=>exact hb
 case indexAddr t x y=>
  have h1:=hx x (by simp [Op.operands]);have h2:=hx y (by simp [Op.operands])
  cases x with
  |tmp q=>
   simp only[Ez]at h1;simp only[Ku];simp only[Xs]at ht;rw[C4 hl h1,Bn hl h2];generalize σ.getD q .any=v at ht⊢;cases v<;>first|exact hb|skip
   case row e k es=>exact cP hl hd
   case alias s=>
    simp only[]at ht⊢;rw[C4 hl ht];generalize σ.getD s .any=u;cases u<;>first|exact hb|exact cP hl hd
  |_=>exact hb
 case fieldAddr t x f=>
  have h1:=hx x (by simp [Op.operands])
  cases x with
  |tmp q=>
   simp only[Ez]at h1;simp only[Ku];simp only[Xs]at ht;rw[C4 hl h1];generalize σ.getD q .any=v at ht⊢;cases v<;>first|exact hb|skip
   simp only[]at ht⊢;cases T t<;>simp only[];rw[C4 hl ht];exact Abe hl hd
  |_=>exact hb
 case load t x=>
  have h1:=hx x (by simp [Op.operands])
  cases x with
  |tmp q=>
   simp only[Ez]at h1;simp only[Ku];simp only[Xs]at ht;rw[C4 hl h1];generalize σ.getD q .any=v at ht⊢;cases v<;>first|exact hb|skip
   simp only[]at ht⊢;cases T t<;>simp only[];rw[C4 hl ht];exact Abf hl hd
  |_=>exact hb
 case store t x y=>
  have h1:=hx x (by simp [Op.operands]);have h2:=hx y (by simp [Op.operands])
  cases x with
  |tmp q=>
   simp only[Ez]at h1;simp only[Ku];simp only[Xs]at ht;rw[C4 hl h1];generalize σ.getD q .any=v at ht⊢;cases v<;>first|exact hb|skip
   simp only[]at ht⊢;cases T t<;>simp only[];have hl2:(amv σ y).length=τ.length:=by rw[Dh];exact hl
   rw[Bn hl h2,Im hl h2,C4 hl2 ht];exact Abg hl2 ht hd
  |_=>exact hb
 all_goals exact hb
end
end Go.Proofs.YtmophjggmekoeaaGreatDoor
namespace Go.Proofs.YtmophjggmekoeaaGreatDoor
section
open Go.RowKit
variable [Env]
def Dt {α:Type} (F:(α→Prop)→Prop):Prop:=∀K,F K→∃y,K y∧∀K',F K'↔K' y
theorem Dt.map {α β:Type} {F:(α→Prop)→Prop} (h:Dt F) (g:α→β):Dt (fun K:β→Prop=>F fun z=>K (g z)):=fun K hK=>by obtain⟨y,h1,h2⟩:=h _ hK;exact⟨g y,h1,fun K'=>h2 _⟩
theorem Dt.none {α:Type}:Dt (fun _:α→Prop=>False):=fun _ h=>h.elim
theorem Dt.and {α:Type} {F:(α→Prop)→Prop} (h:Dt F) (c:Prop):Dt (fun K=>c∧F K):=fun K hK=>by obtain⟨y,h1,h2⟩:=h _ hK.2;exact⟨y,h1,fun K'=>⟨fun h=>(h2 K').1 h.2,fun h=>⟨hK.1,(h2 K').2 h⟩⟩⟩
theorem Dt.one {α:Type} (y:α):Dt (fun K:α→Prop=>K y):=fun K h=>⟨y,h,fun _=>Iff.rfl⟩
theorem M5 {l m:List UInt8} (h:A5 l=A5 m):l=m:=by
 induction l generalizing m with
 |nil=>cases m with
  |nil=>rfl
  |cons b m=>simp [A5]at h
 |cons a l ih=>cases m with
  |nil=>simp [A5]at h
  |cons b m=>simp only[A5,Axx,List.cons.injEq,qT,AV.raw.injEq,Value.int.injEq,true_and]at h;have h1:a=b:=UInt8.toNat_inj.1 om;have h2:=ih (by simpa[A5]using h.2);rw[h1,h2]
section
variable {P : Program} {T : Bd} {σ : List AV}
theorem Abh (op:BinOp) (x y:AV):Dt (F3 op x y):=by
 intro K h;unfold F3 at h;split at h
 ·exact qz5
 ·exact qz5
 ·exact Ad
theorem Abi (o:Option TI) (xs ys:List AV) (neg:Bool):Dt (fun K=>jL o xs ys K neg):=by
 intro K h
 cases o with
 |none=>exact h.elim
 |some i=>
  show∃y,_∧_;have h':tO i.eqs xs ys K neg:=h
  cases hq:i.eqs with
  |none=>rw[hq]at h';exact h'.elim
  |some q=>
   rw[hq]at h';have h2:jK (Pd xs ys q) K neg:=h'
   cases hb:Pd xs ys q with
   |none=>rw[hb]at h2;exact h2.elim
   |some b=>rw[hb]at h2;refine⟨.raw (.bool (b != neg)),h2,fun K'=> ?_⟩;show tO i.eqs xs ys K' neg↔_;rw[hq];show jK (Pd xs ys q) K' neg↔_;rw[hb];exact Fb
theorem tY (op:BinOp) (t:Nat) (x y:AV):Dt (I7 T op t x y):=by
 intro K h;unfold I7 at h;split at h
 ·cases op<;>first
   |exact h.elim
   |exact⟨_,h.2,fun K'=>⟨fun h'=>h'.2,fun h'=>⟨h.1,h'⟩⟩⟩
 ·cases op<;>first
   |exact h.elim
   |exact Abi _ _ _ _ K h
 ·rename_i hno hno2;obtain⟨y',h1,h2⟩:=Abh op _ _ K h;refine⟨y',h1,fun K'=> ?_⟩;rw[←h2 K'];unfold I7;split
  ·exact absurd rfl (hno _ _ rfl)
  ·exact absurd rfl (hno2 _ _ rfl)
  ·exact Fb
theorem Air (x:AV):Dt (anc x):=by intro K h;cases x<;>simp only[anc]at h;exact⟨_,h,fun K'=>Iff.rfl⟩
theorem Ais (op:UnOp) (x:AV):Dt (aun op x):=by
 intro K h;unfold aun at h;split at h
 ·exact qz5
 ·exact qz5
 ·exact Ad
theorem kB (s d:TI) (x:AV):Dt (Iz T s d x):=by
 intro K h;unfold Iz at h;split at h
 ·split at h
  ·rename_i hk;refine⟨_,h,fun K'=> ?_⟩;simp only[Iz,hk]
  ·exact Ad
 ·exact qz1
 ·exact Am2
 ·exact Am2
 ·exact Ad
theorem R9 (e:Nat) (j:TI) (x y:AV):Dt (Hs e j x y):=by
 intro K h;unfold Hs at h;split at h
 ·exact qz1
 ·exact Ad
theorem cQ (mx:Bool) (x y:AV):Dt (tR mx x y):=by
 intro K h;unfold tR at h;split at h
 ·exact qz1
 ·exact Ad
theorem Abj (i:TI) (x:AV):Dt (Xi i x):=by intro K h;unfold Xi at h;exact AsV
theorem kC (i:TI) (f:Nat) (x:AV):Dt (Pe i f x):=by
 intro K h;unfold Pe at h;split at h
 ·rename_i off n agg cs hf;refine⟨_,h.2.2,fun K'=> ?_⟩;simp only[Pe,hf];exact⟨fun h'=>h'.2.2,fun h'=>⟨h.1,h.2.1,h'⟩⟩
 ·exact Ad
theorem kD (i:TI) (x y:AV):Dt (Kr T i x y):=by
 intro K h;unfold Kr at h;split at h
 ·exact qz1
 ·split at h
  ·rename_i len e ha;split at h
   ·rename_i j hj;refine⟨_,h.2.2.2.2,fun K'=> ?_⟩;simp only[Kr,ha,hj];exact⟨fun h'=>h'.2.2.2.2,fun h'=>⟨h.1,h.2.1,h.2.2.1,h.2.2.2.1,h'⟩⟩
   ·exact Ad
  ·exact Ad
 ·exact Ad
theorem Kw (i:TI) (x y:AV):Dt (Ek T i x y):=by
 intro K h;unfold Ek at h;split at h
 ·rename_i e he;split at h
  ·rename_i j hj;split at h
   ·exact AmL
   ·exact AmL
   ·exact Ad
  ·exact Ad
 ·exact Ad
theorem Sa (dflt:Int) (x:Option AV):Dt (Bz dflt x):=by intro K h;unfold Bz at h;exact AsV
theorem Qh (d1 d2:Int) (x y:Option AV) (c:Int→Int→Prop) {α:Type} (g:Int→Int→α):Dt (fun K:α→Prop=>Bz d1 x fun l=>Bz d2 y fun h=>c l h∧K (g l h)):=by intro K h;obtain⟨l,h1,h2⟩:=Sa d1 x _ h;obtain⟨m,h3,h4⟩:=Sa d2 y _ h1;refine⟨g l m,h3.2,fun K'=> ?_⟩;show(Bz d1 x fun l=>Bz d2 y fun h=>c l h∧K' (g l h))↔_;rw[h2,h4];exact⟨fun h=>h.2,fun h=>⟨h3.1,h⟩⟩
theorem kE (i:TI) (x:AV) (lo hi:Option AV):Dt (Hp T i x lo hi):=by
 intro K h;have key:∀(d1 d2:Int) (n:Int) (g:Int→Int→AV),Dt (fun K:AV→Prop=>Bz d1 lo fun l=>Bz d2 hi fun h=>0≤l∧l≤h∧h≤n∧K (g l h)):=by intro d1 d2 n g;have:=Qh d1 d2 lo hi (fun l h=>0≤l∧l≤h∧h≤n) g;simpa only[and_assoc]using this
 unfold Hp at h;split at h
 ·obtain ⟨y,h1,h2⟩:=((key 0 _ _ fun l h=>_).and _) K h;exact⟨y,h1,h2⟩
 ·split at h
  ·rename_i e he;split at h
   ·exact AmD
   ·exact Ad
  ·exact Ad
 ·split at h
  ·rename_i e he;split at h
   ·exact AmD
   ·exact Ad
  ·exact Ad
 ·rename_i k es zs;split at h
  ·rename_i e he;split at h
   ·rename_i j hj;obtain⟨y,h1,h2⟩:=((Qh 0 _ lo hi (fun l h=>l=0∧h=((es++zs).length:Int)) (fun _ _=>AV.sl k (es++zs))).and (k=j.size)) K h;exact⟨y,h1,fun K'=>by simp only[Hp,he,hj];exact h2 K'⟩
   ·exact Ad
  ·exact Ad
 ·exact Ad
theorem Vu (flds:List (Nat×Option Nat×Option Bool)):∀(ps:List (Nat×AV)) (cs:List AV),Dt (Fp flds ps cs)
 |[],cs=>Dt.one cs
 |(i,x)::r,cs=>by
  intro K h;simp only[Fp]at h;split at h
  ·rename_i off size ag hf;obtain⟨y,h1,h2⟩:=Vu flds r _ K h.2.2.2;refine⟨y,h1,fun K'=> ?_⟩;simp only[Fp,hf];exact⟨fun h'=>(h2 K').1 h'.2.2.2,fun h'=>⟨h.1,h.2.1,h.2.2.1,(h2 K').2 h'⟩⟩
  ·exact Ad
theorem tZ (i:TI) (x:Operand) (d:Option Nat):Dt (G6 σ i x d):=by intro K h;unfold G6 at h⊢;exact qz2
theorem Sc (i:TI) (x:Operand) (f:Nat) (d:Option Nat):Dt (Bl σ i x f d):=by
 intro K h;unfold Bl at h⊢;revert h;generalize i.td.flds[f]? =fl;intro h;split at h
 ·exact qz2
 ·exact Ad
theorem Xv (x:Operand) (n:Nat) (d:Option Nat):Dt (Ej σ x n d):=by
 intro K h;unfold Ej at h⊢
 cases x with
 |tmp s=>
  revert h;simp only[];generalize σ.getD s .any=v;intro h;cases v<;>simp only[]at h⊢<;>try exact h.elim
  case tup cs=>first
   |exact h.elim
   |exact⟨_,h,fun K'=>Iff.rfl⟩
   |exact⟨_,h.2,fun K'=>⟨fun h'=>h'.2,fun h'=>⟨h.1,h'⟩⟩⟩
   |exact⟨_,h.2.2,fun K'=>⟨fun h'=>h'.2.2,fun h'=>⟨h.1,h.2.1,h'⟩⟩⟩
   |exact⟨_,h.2.2.2,fun K'=>⟨fun h'=>h'.2.2.2,fun h'=>⟨h.1,h.2.1,h.2.2.1,h'⟩⟩⟩
   |exact⟨_,h.2.2.2.2,fun K'=>⟨fun h'=>h'.2.2.2.2,fun h'=>⟨h.1,h.2.1,h.2.2.1,h.2.2.2.1,h'⟩⟩⟩
   |exact⟨_,h.2.2.2.2.2,fun K'=>⟨fun h'=>h'.2.2.2.2.2,fun h'=>⟨h.1,h.2.1,h.2.2.1,h.2.2.2.1,h.2.2.2.2.1,h'⟩⟩⟩
   |exact⟨_,h.2.2.2.2.2.2,fun K'=>⟨fun h'=>h'.2.2.2.2.2.2,fun h'=>⟨h.1,h.2.1,h.2.2.1,h.2.2.2.1,h.2.2.2.2.1,h.2.2.2.2.2.1,h'⟩⟩⟩
 |_=>exact h.elim
theorem cR (i:TI) (x:Operand) (n:Nat) (d:Option Nat):Dt (Ik σ i x n d):=by
 intro K h;unfold Ik at h⊢
 cases x with
 |tmp s=>
  revert h;simp only[];generalize σ.getD s .any=v;intro h;cases v<;>simp only[]at h⊢<;>try exact h.elim
  revert h;generalize i.td.flds[n]? =p;intro h
  cases p with
  |none=>exact h.elim
  |some p=>
   obtain⟨off,sz,ag⟩:=p;cases sz<;>cases ag<;>simp only[]at h⊢<;>try exact h.elim
   exact AaA
 |_=>exact((kC _ _ _).map _) K h
theorem Q0 (e n:Nat) (j:TI) (ps:List (Nat×Operand)) (d:Option Nat):Dt (Co σ e j n ps d):=by intro K h;unfold Co at h⊢;exact qz1
theorem kF (i:TI) (x y:Operand) (d:Option Nat):Dt (Gx σ i x y d):=by
 intro K h;unfold Gx at h⊢
 cases x with
 |tmp s=>
  revert h;simp only[];generalize (amv σ y).getD s .any=v;intro h;cases v<;>simp only[]at h⊢<;>try exact h.elim
  case box U cs=>first
   |exact h.elim
   |exact⟨_,h,fun K'=>Iff.rfl⟩
   |exact⟨_,h.2,fun K'=>⟨fun h'=>h'.2,fun h'=>⟨h.1,h'⟩⟩⟩
   |exact⟨_,h.2.2,fun K'=>⟨fun h'=>h'.2.2,fun h'=>⟨h.1,h.2.1,h'⟩⟩⟩
   |exact⟨_,h.2.2.2,fun K'=>⟨fun h'=>h'.2.2.2,fun h'=>⟨h.1,h.2.1,h.2.2.1,h'⟩⟩⟩
   |exact⟨_,h.2.2.2.2,fun K'=>⟨fun h'=>h'.2.2.2.2,fun h'=>⟨h.1,h.2.1,h.2.2.1,h.2.2.2.1,h'⟩⟩⟩
   |exact⟨_,h.2.2.2.2.2,fun K'=>⟨fun h'=>h'.2.2.2.2.2,fun h'=>⟨h.1,h.2.1,h.2.2.1,h.2.2.2.1,h.2.2.2.2.1,h'⟩⟩⟩
   |exact⟨_,h.2.2.2.2.2.2,fun K'=>⟨fun h'=>h'.2.2.2.2.2.2,fun h'=>⟨h.1,h.2.1,h.2.2.1,h.2.2.2.1,h.2.2.2.2.1,h.2.2.2.2.2.1,h'⟩⟩⟩
  case ref s' off=>
   revert h;generalize (amv σ y).getD s' .any=u;intro h;cases u<;>simp only[]at h⊢<;>try exact h.elim
   case box U cs=>first
    |exact h.elim
    |exact⟨_,h,fun K'=>Iff.rfl⟩
    |exact⟨_,h.2,fun K'=>⟨fun h'=>h'.2,fun h'=>⟨h.1,h'⟩⟩⟩
    |exact⟨_,h.2.2,fun K'=>⟨fun h'=>h'.2.2,fun h'=>⟨h.1,h.2.1,h'⟩⟩⟩
    |exact⟨_,h.2.2.2,fun K'=>⟨fun h'=>h'.2.2.2,fun h'=>⟨h.1,h.2.1,h.2.2.1,h'⟩⟩⟩
    |exact⟨_,h.2.2.2.2,fun K'=>⟨fun h'=>h'.2.2.2.2,fun h'=>⟨h.1,h.2.1,h.2.2.1,h.2.2.2.1,h'⟩⟩⟩
    |exact⟨_,h.2.2.2.2.2,fun K'=>⟨fun h'=>h'.2.2.2.2.2,fun h'=>⟨h.1,h.2.1,h.2.2.1,h.2.2.2.1,h.2.2.2.2.1,h'⟩⟩⟩
    |exact⟨_,h.2.2.2.2.2.2,fun K'=>⟨fun h'=>h'.2.2.2.2.2.2,fun h'=>⟨h.1,h.2.1,h.2.2.1,h.2.2.2.1,h.2.2.2.2.1,h.2.2.2.2.2.1,h'⟩⟩⟩
 |_=>exact h.elim
theorem cS (e:Nat) (j:TI) (x y:Operand) (d:Option Nat):Dt (D4 σ e j x y d):=by
 intro K h;unfold D4 at h⊢;revert h;generalize I9 e j.size (aev σ x)=u;generalize M2 j.size (aev (amv σ x) y)=v;intro h
 cases u<;>cases v<;>simp only[]at h⊢<;>first
  |exact h.elim
  |exact⟨_,h,fun K'=>Iff.rfl⟩
  |exact⟨_,h.2,fun K'=>⟨fun h'=>h'.2,fun h'=>⟨h.1,h'⟩⟩⟩
  |exact⟨_,h.2.2,fun K'=>⟨fun h'=>h'.2.2,fun h'=>⟨h.1,h.2.1,h'⟩⟩⟩
  |exact⟨_,h.2.2.2,fun K'=>⟨fun h'=>h'.2.2.2,fun h'=>⟨h.1,h.2.1,h.2.2.1,h'⟩⟩⟩
  |exact⟨_,h.2.2.2.2,fun K'=>⟨fun h'=>h'.2.2.2.2,fun h'=>⟨h.1,h.2.1,h.2.2.1,h.2.2.2.1,h'⟩⟩⟩
  |exact⟨_,h.2.2.2.2.2,fun K'=>⟨fun h'=>h'.2.2.2.2.2,fun h'=>⟨h.1,h.2.1,h.2.2.1,h.2.2.2.1,h.2.2.2.2.1,h'⟩⟩⟩
  |exact⟨_,h.2.2.2.2.2.2,fun K'=>⟨fun h'=>h'.2.2.2.2.2.2,fun h'=>⟨h.1,h.2.1,h.2.2.1,h.2.2.2.1,h.2.2.2.2.1,h.2.2.2.2.2.1,h'⟩⟩⟩
def Fu:Op→Bool
 |.call c=>match c.callee with
  |.value _=>true
  |_=>false
 |_=>false
theorem Abk {o:Oper} (hc:Fu o.op=false):Dt (Ca P T o σ):=by
 obtain⟨dst,op,type,pos,after,guard⟩:=o;simp only at hc;intro K h;cases op<;>(try exact h.elim)
 case move x=>exact⟨_,h,fun K'=>Iff.rfl⟩
 case assign x=>exact⟨_,h,fun K'=>Iff.rfl⟩
 case pick c x y=>
  simp only[Ca,Fg]at h⊢;revert h;generalize aev σ c=v;intro h;split at h
  ·rename_i e
   cases e with
   |true=>exact⟨_,h.1 rfl,fun K'=>by simp only[Qe]⟩
   |false=>exact⟨_,h.2 rfl,fun K'=>by simp only[Nn]⟩
  ·exact Ad
 case alloc t=>
  simp only[Ca]at h⊢;revert h;cases T t<;>intro h<;>simp only[]at h⊢<;>(try exact h.elim);exact AsU
 case box t x=>
  simp only[Ca]at h⊢;exact AsU
 case build t ps=>
  simp only[Ca,Fg]at h⊢;revert h;cases T t<;>intro h<;>simp only[]at h⊢<;>(try exact h.elim);exact(((((Vu _ _ _).map _).and _).and _).and _) K h
 case buildSlice t n ps=>
  simp only[Ca,Fg]at h⊢;revert h
  cases T t with
  |none=>intro h;exact h.elim
  |some i=>
   simp only[]
   cases i.td.elem with
   |none=>intro h;exact h.elim
   |some e=>
    simp only[]
    cases T e with
    |none=>intro h;exact h.elim
    |some j=>intro h;exact Q0 _ _ _ _ _ K h
 case load t x=>
  simp only[Ca,Fg]at h⊢;revert h;cases T t<;>intro h<;>simp only[]at h⊢<;>(try exact h.elim);exact tZ _ _ _ K h
 case store t x y=>
  simp only[Ca,Fg]at h⊢;revert h;cases T t<;>intro h<;>simp only[]at h⊢<;>(try exact h.elim);exact kF _ _ _ _ K h
 case binOp op t x y t'=>exact((tY op t _ _).map _) K h
 case unOp op t x=>exact((Ais op _).map _) K h
 case nilCheck x=>exact((Air _).map _) K h
 case convert s d x=>
  simp only[Ca,Fg]at h⊢;revert h;cases T s<;>cases T d<;>intro h<;>simp only[]at h⊢<;>(try exact h.elim);exact((kB _ _ _).map _) K h
 case makeFunc f first caps=>
  cases f with
  |func f=>
   simp only[Ca,Fg]at h⊢;revert h;generalize first.toList=l1
   generalize caps.toList=l2;intro h;cases l1<;>cases l2<;>simp only[]at h⊢<;>(try exact h.elim)
   ·exact ⟨_,h,fun K'=>Iff.rfl⟩
   ·exact ⟨_,h.2,fun K'=>⟨fun h'=>h'.2,fun h'=>⟨h.1,h'⟩⟩⟩
  |_=>exact h.elim
 case makeSlice t x y=>
  simp only[Ca,Fg]at h⊢;revert h
  cases T t with
  |none=>intro h;exact h.elim
  |some i=>
   simp only[]
   cases i.td.elem with
   |none=>intro h;exact h.elim
   |some e=>
    simp only[]
    cases T e with
    |none=>intro h;exact h.elim
    |some j=>intro h;exact((R9 _ _ _ _).map _) K h
 case slice t x lo hi mx=>
  cases mx with
  |some m=>exact h.elim
  |none=>simp only[Ca,Fg]at h⊢;revert h;cases T t<;>intro h<;>simp only[]at h⊢<;>(try exact h.elim);exact((kE _ _ _ _).map _) K h
 case fieldAddr t x f=>
  simp only[Ca,Fg]at h⊢;revert h;cases T t<;>intro h<;>simp only[]at h⊢<;>(try exact h.elim);exact Sc _ _ _ _ K h
 case field t x f=>
  simp only[Ca,Fg]at h⊢;revert h;cases T t<;>intro h<;>simp only[]at h⊢<;>(try exact h.elim);exact cR _ _ _ _ K h
 case indexAddr t x y=>
  simp only[Ca,Fg]at h⊢;revert h;cases T t<;>intro h<;>simp only[]at h⊢<;>(try exact h.elim);unfold Bt at h⊢
  cases x with
  |tmp s=>
   simp only[]at h⊢;revert h;cases hv:σ.getD s .any<;>intro h<;>simp only[]at h⊢<;>try exact((Kw _ _ _).map _) K h
   rename_i i Te cs;revert h;generalize i.td.arr=ar;generalize aev σ y=u;intro h;cases ar<;>cases u<;>(try exact h.elim);rename_i le vv;cases dst<;>cases vv<;>(try exact h.elim);simp only[]at h⊢;revert h;cases T le.2<;>intro h<;>simp only[]at h⊢<;>(try exact h.elim);exact Ant
  |_=>exact((Kw _ _ _).map _) K h
 case index t x y=>
  simp only[Ca,Fg]at h⊢;revert h;cases T t<;>intro h<;>simp only[]at h⊢<;>(try exact h.elim);exact((kD _ _ _).map _) K h
 case extract x n=>exact Xv _ _ _ K h
 case call c=>
  obtain⟨callee,args,argTypes⟩:=c
  cases callee with
  |value f=>simp [Fu]at hc
  |invoke r m=>exact h.elim
  |builtin b=>
   cases b<;>(try exact h.elim)
   case len=>
    simp only[Ca,Fg]at h⊢;split at h
    ·rename_i x t ha hta;revert h;cases T t<;>intro h<;>simp only[]at h⊢<;>(try exact h.elim);exact((Abj _ _).map _) K h
    ·exact Ad
   case append=>
    simp only[Ca,Fg]at h⊢;split at h
    ·rename_i x y t t' ha hta;revert h
     cases T t with
     |none=>intro h;exact h.2.elim
     |some i=>
      simp only[]
      cases i.td.elem with
      |none=>intro h;exact h.2.elim
      |some e=>
       simp only[]
       cases T e with
       |none=>intro h;exact h.2.elim
       |some j=>intro h;exact((cS _ _ _ _ _).and _) K h
    ·exact Ad
   case min=>
    simp only[Ca,Fg]at h⊢;split at h
    ·exact ((cQ _ _ _).map _) K h
    ·exact Ad
   case max=>
    simp only[Ca,Fg]at h⊢;split at h
    ·exact ((cQ _ _ _).map _) K h
    ·exact Ad
theorem Abl (i:TI) (s k n:Nat) (y:AV) (d:Option Nat):Dt (cG i s k n y d σ):=by
 intro K h;unfold cG at h⊢;split at h
 ·exact ⟨_,h.2.2.2.2,fun K'=>⟨fun h'=>h'.2.2.2.2,fun h'=>⟨h.1,h.2.1,h.2.2.1,h.2.2.2.1,h'⟩⟩⟩
 ·exact Ad
theorem cT (t s k n:Nat) (y:AV) (d:Option Nat):Dt (M3 T t s k n y d σ):=by
 unfold M3
 cases T t with
 |none=>exact Dt.none
 |some i=>
  simp only[]
  cases i.td.elem with
  |none=>exact Dt.none
  |some e=>
   simp only[]
   cases T e with
   |none=>exact Dt.none
   |some j=>exact Abl _ _ _ _ _ _
theorem Abm (p:Option (Nat×Option Nat×Option Bool)) (x:AV) (s k j off:Nat) (d:Option Nat):Dt (Pm p x s k j off d σ):=by
 intro K h;unfold Pm at h⊢;split at h
 ·exact AaA
 ·exact Ad
theorem Abn (i:TI) (x:AV) (k j off:Nat) (d:Option Nat):Dt (Qw i x k j off d σ):=by
 intro K h;unfold Qw at h⊢;split at h
 ·exact Ant
 ·exact Ad
theorem Abo (i:TI) (x y:AV) (s k j off:Nat) (d:Option Nat) (ρ:List AV):Dt (Qx i x s k j off y d ρ):=by
 intro K h;unfold Qx at h⊢;split at h
 ·exact ⟨_,h.2.2.2.2.2,fun K'=>⟨fun h'=>h'.2.2.2.2.2,fun h'=>⟨h.1,h.2.1,h.2.2.1,h.2.2.2.1,h.2.2.2.2.1,h'⟩⟩⟩
 ·exact Ad
theorem Xw {o:Oper} (hc:Fu o.op=false):Dt (Ku P T o σ):=by
 have hb:=Abk (P:=P) (T:=T) (σ:=σ) hc;obtain⟨dst,op,type,pos,after,guard⟩:=o;cases op
 case move x=>
  cases x with
  |tmp t=>
   intro K h;simp only[Ku]at h⊢;generalize σ.getD t .any=v at h⊢
   cases dst with
   |none=>cases v<;>exact hb K h
   |some d=>
    cases v<;>first
     |exact hb K h
     |exact⟨_,h.2,fun K'=>⟨fun h'=>h'.2,fun h'=>⟨h.1,h'⟩⟩⟩
  |_=>exact hb
 case indexAddr t x y=>
  cases x with
  |tmp q=>
   intro K h;simp only[Ku]at h⊢;generalize σ.getD q .any=v at h⊢;cases v<;>first|exact hb K h|skip
   case row e k es=>exact cT _ _ _ _ _ _ K h
   case alias s=>
    simp only[]at h⊢;generalize σ.getD s .any=u at h⊢;cases u<;>first|exact hb K h|exact cT _ _ _ _ _ _ K h
  |_=>exact hb
 case fieldAddr t x f=>
  cases x with
  |tmp q=>
   intro K h;simp only[Ku]at h⊢;generalize σ.getD q .any=v at h⊢;cases v<;>first|exact hb K h|skip
   simp only[]at h⊢
   cases hT:T t with
   |none=>rw[hT]at h;exact h.elim
   |some i=>rw[hT]at h;exact Abm _ _ _ _ _ _ _ K h
  |_=>exact hb
 case load t x=>
  cases x with
  |tmp q=>
   intro K h;simp only[Ku]at h⊢;generalize σ.getD q .any=v at h⊢;cases v<;>first|exact hb K h|skip
   simp only[]at h⊢
   cases hT:T t with
   |none=>rw[hT]at h;exact h.elim
   |some i=>rw[hT]at h;exact Abn _ _ _ _ _ _ K h
  |_=>exact hb
 case store t x y=>
  cases x with
  |tmp q=>
   intro K h;simp only[Ku]at h⊢;generalize σ.getD q .any=v at h⊢;cases v<;>first|exact hb K h|skip
   simp only[]at h⊢
   cases hT:T t with
   |none=>rw[hT]at h;exact h.elim
   |some i=>rw[hT]at h;exact Abo _ _ _ _ _ _ _ _ _ K h
  |_=>exact hb
 all_goals exact hb
theorem Dt.mono {α:Type} {F:(α→Prop)→Prop} (h:Dt F) {K K':α→Prop} (hK:F K) (hm:∀x,K x→K' x):F K':=by obtain⟨y,h1,h2⟩:=h K hK;exact(h2 K').2 (hm y h1)
theorem Dt.ex {α:Type} {F:(α→Prop)→Prop} (h:Dt F) {K:α→Prop} (hK:F K):∃x,K x:=by obtain⟨y,h1,h2⟩:=h K hK;exact⟨y,h1⟩
theorem Vv {o:Oper} (hc:Fu o.op=true):∃f xs,∀K,Ku P T o σ K=Dr P σ f xs o.dst K:=by obtain⟨dst,op,type,pos,after,guard⟩:=o;cases op<;>simp [Fu]at hc;rename_i c;obtain⟨callee,args,argTypes⟩:=c;cases callee<;>simp at hc;exact⟨_,_,fun K=>rfl⟩
theorem kG {f:Operand} {xs:List Operand} {d:Option Nat} {K K':List AV→Prop} (h:Dr P σ f xs d K) (hm:∀x,K x→K' x):Dr P σ f xs d K':=by
 unfold Dr at h⊢;split at h
 ·exact ⟨h.1,h.2.mono fun r hr=>hm _ hr⟩
 ·exact h.mono fun r hr=>hm _ hr
 ·exact Ad
theorem Abp {f:Operand} {xs:List Operand} {d:Option Nat} {K:List AV→Prop} (h:Dr P σ f xs d K):∃x,K x:=by
 unfold Dr at h;split at h
 ·obtain ⟨_,_,⟨r,hr⟩,_⟩:=h;exact⟨_,hr⟩
 ·obtain ⟨_,⟨r,hr⟩,_⟩:=h;exact⟨_,hr⟩
 ·exact Ad
theorem Kx {o:Oper} {K K':List AV→Prop} (h:Ku P T o σ K) (hm:∀x,K x→K' x):Ku P T o σ K':=by
 cases hc:Fu o.op with
 |false=>exact(Xw hc).mono h hm
 |true=>obtain⟨f,xs,he⟩:=Vv (P:=P) (T:=T) (σ:=σ) hc;rw[he]at *;exact kG h hm
theorem AoL {o:Oper} {K:List AV→Prop} (h:Ku P T o σ K):∃x,K x:=by
 cases hc:Fu o.op with
 |false=>exact(Xw hc).ex h
 |true=>obtain⟨f,xs,he⟩:=Vv (P:=P) (T:=T) (σ:=σ) hc;rw[he]at h;exact Abp h
end
end
end Go.Proofs.YtmophjggmekoeaaGreatDoor
