/- Operations that touch different slots may change places. -/
import Derived.StillTail
import Derived.Test.YtmophjggmekoeaaGreatDoorC8
set_option linter.all false
namespace Go.Proofs.YtmophjggmekoeaaGreatDoor
section
open Go.RowKit
variable [Env]
structure CO where
 dst:Option Nat
 op:Op
 gd:Option (Nat×Bool)
def uA (c:CO):Oper:={dst:=c.dst,op:=c.op,type:=0,pos:= "",after:= #[],guard:=none}
def AnU:Operand→List Nat
 |.tmp t=>[t]
 |_=>[]
def kH (op:Op):List Nat:=op.operands.toList.flatMap AnU
def rA:Op→List Nat
 |.load _ (.tmp s)=>[s]
 |.store _ (.tmp s) _=>[s]
 |.fieldAddr _ (.tmp s) _=>[s]
 |.indexAddr _ (.tmp s) _=>[s]
 |_=>[]
def Ait (rb:List Nat) (s:Nat):List Nat:=rb.filterMap fun e=>if e / 100000=s then some (e % 100000)else none
def Ky (rb:List Nat):Op→Bool
 |.fieldAddr _ (.tmp s) _=>rb.contains (9999900000+s)
 |_=>false
def Bj (rb:List Nat) (c:CO):List Nat:=
 c.dst.toList++((match c.gd with
  |some (t,_)=>[t]
  |none=>[])++(if Ky rb c.op=true then[]else kH c.op++(rA c.op).flatMap (Ait rb)))
theorem Abq {rb:List Nat} {s s':Nat} (h:rb.contains (s*100000+s')=true) (hl:s'<100000):s'∈Ait rb s:=by unfold Ait;rw[List.mem_filterMap];refine⟨s*100000+s',by simpa using h,?_⟩;have h1:(s*100000+s') / 100000=s:=om;have h2:(s*100000+s') % 100000=s':=om;rw[h1,h2,if_pos rfl]
section
variable {P : Program} {T : Bd} {σ τ : List AV} {K : List AV → Prop} {rb sh bm : List Nat} {c : CO}
theorem G9 {l:List Nat} {t:Nat}:l.contains t=true↔t∈l:=oS
theorem Nt:∀t,c.dst=some t→(Bj rb c).contains t=true:=by intro t h;rw[G9];simp [Bj,h]
theorem rB (hb:Ky rb c.op=false):∀x∈c.op.operands.toList,Ez (Bj rb c) x:=by
 intro x hx
 cases x with
 |tmp t=>simp only[Ez];rw[G9];have:t∈kH c.op:=List.mem_flatMap.2 ⟨_,hx,by simp [AnU]⟩;simp [Bj,this,hb]
 |_=>trivial
theorem AvC {t:Nat} {want:Bool} (h:c.gd=some (t,want)):(Bj rb c).contains t=true:=by rw[G9];simp [Bj,h]
def Abr:AV→Bool
 |.box _ _=>true
 |_=>false
def rC (T:Bd) (c:CO) (σ:List AV) (K:List AV→Prop):Prop:=match c.op,c.dst with
 |.fieldAddr t (.tmp s) f,some d=>(match T t with
  |some i=>(match i.td.flds[f]? with
   |some (off,some n,some _)=>n≠0∧s≠d∧K (σ.set d (.ref s off))
   |_=>False)
  |none=>False)
 |_,_=>False
def Kf (P:Program) (T:Bd) (rb:List Nat) (c:CO) (σ:List AV) (K:List AV→Prop):Prop:=
 if Ky rb c.op=true then rC T c σ K else Xs (Bj rb c) c.op σ∧Ku P T (uA c) σ K
def Ux (P:Program) (T:Bd) (rb:List Nat) (c:CO) (σ:List AV) (K:List AV→Prop):Prop:=
 match c.gd with
 |none=>Kf P T rb c σ K
 |some (t,want)=>
  match σ.getD t .any with
  |.raw (.bool e)=>if e=want then Kf P T rb c σ K else K (aset σ c.dst (.tup []))
  |.tup []=>K (aset σ c.dst (.tup []))
  |_=>False
theorem Aiu {D:List Nat} {op:Op} (hl:σ.length=τ.length) (hx:∀x∈op.operands.toList,Ez D x):Xs D op (Cz D σ τ)↔Xs D op σ:=by
 cases op<;>try exact Iff.rfl
 case load t x=>
  exact AhZ
 case store t x y=>
  exact AhZ
 case indexAddr t x y=>
  exact AhZ
 case fieldAddr t x f=>
  exact AhZ
theorem Aiv (hl:σ.length=τ.length):rC T c (Cz (Bj rb c) σ τ) K↔rC T c σ (fun σ'=>K (Cz (Bj rb c) σ' τ)):=by
 unfold rC;split
 ·rename_i t s f d h1 h2;split
  ·split
   ·rw [Da hl _ (Nt d h2)]
   ·exact Fb
  ·exact Fb
 ·exact Fb
theorem cU {K':List AV→Prop} (h:rC T c σ K) (hm:∀x,K x→K' x):rC T c σ K':=by
 unfold rC at *;split at h
 ·split at h
  ·split at h
   ·exact ⟨h.1,h.2.1,hm _ h.2.2⟩
   ·exact Ad
  ·exact Ad
 ·exact Ad
theorem AoM (h:rC T c σ K):∃x,K x:=by
 unfold rC at h;split at h
 ·split at h
  ·split at h
   ·exact ⟨_,h.2.2⟩
   ·exact Ad
  ·exact Ad
 ·exact Ad
theorem Aiw:Dt (rC T c σ):=by
 intro K h;unfold rC at h⊢;split at h
 ·split at h
  ·split at h
   ·exact AaA
   ·exact Ad
  ·exact Ad
 ·exact Ad
theorem Abs (hl:σ.length=τ.length):Kf P T rb c (Cz (Bj rb c) σ τ) K↔Kf P T rb c σ (fun σ'=>K (Cz (Bj rb c) σ' τ)):=by
 unfold Kf;split
 ·exact Aiv hl
 ·rename_i hb;have hb:Ky rb c.op=false:=by simpa using hb
  rw[Aiu hl (rB hb)];constructor
  ·rintro ⟨h1,h2⟩;exact⟨h1,(Xu (o:=uA c) hl (rB hb) Nt h1).1 h2⟩
  ·rintro ⟨h1,h2⟩;exact⟨h1,(Xu (o:=uA c) hl (rB hb) Nt h1).2 h2⟩
theorem Vw {K':List AV→Prop} (h:Kf P T rb c σ K) (hm:∀x,K x→K' x):Kf P T rb c σ K':=by
 unfold Kf at *;split at h
 ·rename_i hb;rw[if_pos hb];exact cU h hm
 ·rename_i hb;rw[if_neg hb];exact⟨h.1,Kx h.2 hm⟩
theorem rD (h:Kf P T rb c σ K):∃x,K x:=by
 unfold Kf at h;split at h
 ·exact AoM h
 ·exact AoL h.2
theorem Abt (hc:Fu c.op=false):Dt (Kf P T rb c σ):=by
 intro K h;unfold Kf at h⊢;split at h
 ·rename_i hb;obtain⟨y,h1,h2⟩:=Aiw K h;exact⟨y,h1,fun K'=>by rw[if_pos hb];exact h2 K'⟩
 ·rename_i hb;obtain⟨y,h1,h2⟩:=((Xw (o:=uA c) hc).and _) K h;exact⟨y,h1,fun K'=>by rw[if_neg hb];exact h2 K'⟩
theorem Rf (hl:σ.length=τ.length):Ux P T rb c (Cz (Bj rb c) σ τ) K↔Ux P T rb c σ (fun σ'=>K (Cz (Bj rb c) σ' τ)):=by
 have key:=Abs (P:=P) (T:=T) (K:=K) (rb:=rb) (c:=c) hl;unfold Ux
 cases hg:c.gd with
 |none=>exact key
 |some tw=>
  obtain⟨t,want⟩:=tw;simp only[];rw[C4 hl (AvC hg),Bu hl _ Nt];split
  ·split
   ·exact key
   ·exact Fb
  ·exact Fb
  ·exact Fb
theorem Ht {K':List AV→Prop} (h:Ux P T rb c σ K) (hm:∀x,K x→K' x):Ux P T rb c σ K':=by
 unfold Ux at *;revert h
 cases c.gd with
 |none=>exact fun h=>Vw h hm
 |some tw=>
  obtain⟨t,want⟩:=tw;simp only[];generalize σ.getD t .any=v;intro h;split at h
  ·split at h
   ·rename_i hw;simp only[if_pos hw];exact Vw h hm
   ·rename_i hw;simp only[if_neg hw];exact hm _ h
  ·exact hm _ h
  ·exact Ad
theorem Abu (h:Ux P T rb c σ K):∃x,K x:=by
 unfold Ux at h;split at h
 ·exact rD h
 ·split at h
  ·split at h
   ·exact rD h
   ·exact ⟨_,h⟩
  ·exact ⟨_,h⟩
  ·exact Ad
theorem rE (hc:Fu c.op=false):Dt (Ux P T rb c σ):=by
 intro K h;have hb:∀K,Kf P T rb c σ K→∃y,K y∧∀K',Kf P T rb c σ K'↔K' y:=fun K h=>Abt hc K h;unfold Ux at h⊢;revert h
 cases c.gd with
 |none=>intro h;exact hb K h
 |some tw=>
  obtain⟨t,want⟩:=tw;simp only[];generalize σ.getD t .any=v;intro h;split at h
  ·split at h
   ·rename_i hw;obtain⟨y,h1,h2⟩:=hb K h;exact⟨y,h1,fun K'=>by simp only[if_pos hw];exact h2 K'⟩
   ·rename_i hw;exact⟨_,h,fun K'=>by simp only[if_neg hw]⟩
  ·exact ⟨_,h,fun K'=>Iff.rfl⟩
  ·exact Ad
theorem AvD {α β:Type} {F:(α→Prop)→Prop} {G:(β→Prop)→Prop} (hF:∀K K',F K→(∀x,K x→K' x)→F K') (hG:∀K K',G K→(∀x,K x→K' x)→G K') (eF:∀K,F K→∃x,K x)
 (hd:Dt F∨Dt G) {Z:α→β→Prop} (h:F fun x=>G fun y=>Z x y):G fun y=>F fun x=>Z x y:=by
 rcases hd with hd|hd
 ·obtain ⟨x0,h1,h2⟩:=hd _ h;exact hG _ _ h1 fun y hy=>(h2 _).2 hy
 ·obtain ⟨x,hx⟩:=eF _ h;obtain⟨y0,_,h2⟩:=hd _ hx;exact(h2 _).2 (hF _ _ h fun x hx=>by obtain⟨y1,h3,h4⟩:=hd _ hx;exact(h2 (fun y=>Z x y)).1 hx)
def AvE:Op→Bool
 |.store _ _ _=>true
 |_=>false
def bG (sh:List Nat) (op:Op):List Nat:=sh.filterMap fun s=>bif Nat.ble 100000 s then(bif AvE op then none else some (s-100000))else some s
def jC (sh:List Nat) (c:CO):List Nat:=bG sh c.op
def Fx (sh:List Nat) (d:Option Nat) (σ σ':List AV):Prop:=∀s∈sh,d≠some s→σ'.getD s .any=σ.getD s .any
def nrq (d:Nat) (σ:List AV):Bool:=bif decide (100000≤d)then Abr (σ.getD (d-100000) .any)else σ.all (Km d)
def Nr (bm:List Nat) (σ:List AV):Prop:=∀d∈bm,nrq d σ=true
def stp (P:Program) (T:Bd) (sh rb bm:List Nat) (c:CO) (σ:List AV) (K:List AV→Prop):Prop:=
 Ux P T rb c σ fun σ'=>Fx (jC sh c) c.dst σ σ'∧Nr bm σ'∧K σ'
theorem cV {K':List AV→Prop} (h:stp P T sh rb bm c σ K) (hm:∀x,Nr bm x→K x→K' x):stp P T sh rb bm c σ K':=
 Ht h fun x ⟨h1,h2,h3⟩=>⟨h1,h2,hm x h2 h3⟩
theorem AoN {d:Nat} {σ:List AV}:σ.all (Km d)=true↔∀t,t<σ.length→Km d (σ.getD t .any)=true:=by
 rw[Ax7];constructor
 ·intro h t ht;exact h _ (by simp [Axy,ht])
 ·intro h x hx;obtain⟨i,hi,rfl⟩:=List.getElem_of_mem hx;have:=h i hi;simpa[Axy,hi]using this
theorem Nu {d:Nat} {σ:List AV}:nrq d σ=true↔(100000≤d→Abr (σ.getD (d-100000) .any)=true)∧(d<100000→∀t,t<σ.length→Km d (σ.getD t .any)=true):=by
 unfold nrq;by_cases h:100000≤d
 ·rw [decide_eq_true h];exact⟨fun hb=>⟨fun _=>hb,fun hl=>om⟩,fun hb=>hb.1 h⟩
 ·rw [decide_eq_false h];simp only[cond_false];rw[AoN];exact⟨fun hb=>⟨fun hl=>absurd hl h,fun _=>hb⟩,fun hb=>hb.2 om⟩
theorem swap {a i:CO} (hsh:∀t,(Bj rb a).contains t=true→(Bj rb i).contains t=true→(t∈jC sh a∧t∈jC sh i)∧a.dst≠some t∧i.dst≠some t) (hcall:Fu a.op=false∨Fu i.op=false) (hn:Nr bm σ)
 (h:stp P T sh rb bm a σ fun σ1=>stp P T sh rb bm i σ1 K):stp P T sh rb bm i σ fun σ2=>stp P T sh rb bm a σ2 K:=by
 have da:∀t,a.dst=some t→(Bj rb a).contains t=true:=Nt;have di:∀t,i.dst=some t→(Bj rb i).contains t=true:=Nt;generalize hD1:Bj rb a=D1 at *;generalize hD2:Bj rb i=D2 at *;have h1:Ux P T rb a σ fun ρ=>Fx (jC sh a) a.dst σ (Cz D1 ρ σ)∧Nr bm (Cz D1 ρ σ)∧stp P T sh rb bm i (Cz D1 ρ σ) K:=by have:=(Rf (P:=P) (T:=T) (rb:=rb) (c:=a) (σ:=σ) (τ:=σ) (K:=fun σ1=>Fx (jC sh a) a.dst σ σ1∧Nr bm σ1∧stp P T sh rb bm i σ1 K) rfl).1 (by rw[R7];exact h);rw[hD1]at this;exact this
 let Z:List AV→List AV→Prop:=fun ρ ρ'=>Fx (jC sh a) a.dst σ (Cz D1 ρ σ)∧Nr bm (Cz D1 ρ σ)∧Fx (jC sh i) i.dst (Cz D1 ρ σ) (Cz D2 ρ' (Cz D1 ρ σ))∧Nr bm (Cz D2 ρ' (Cz D1 ρ σ))∧K (Cz D2 ρ' (Cz D1 ρ σ))
 have h2:Ux P T rb a σ fun ρ=>Ux P T rb i σ fun ρ'=>Z ρ ρ':=by
  refine Ht h1 fun ρ ⟨g1,g2,g3⟩=> ?_
  have heq:Cz D1 ρ σ=Cz D2 σ (Cz D1 ρ σ):=by
   refine Kv (by simp [Aw]) fun t ht=> ?_;rw[Aw,Aw]at ht;rw[Ch (D:=D2) (by rw[Aw];exact ht)];split
   ·rename_i ht2;by_cases ht1:D1.contains t=true
    ·exact g1 t (hsh t ht1 ht2).1.1 (hsh t ht1 ht2).2.1
    ·rw [Ch ht,if_neg ht1]
   ·rfl
  unfold stp at g3;rw[heq]at g3;have:=(Rf (P:=P) (T:=T) (rb:=rb) (c:=i) (σ:=σ) (τ:=Cz D1 ρ σ) (K:=fun σ'=>Fx (jC sh i) i.dst (Cz D2 σ (Cz D1 ρ σ)) σ'∧Nr bm σ'∧K σ') (by rw[Aw])).1 (by rw[hD2];exact g3);rw[hD2]at this;refine Ht this fun ρ' ⟨k1,k2,k3⟩=>⟨g1,g2,?_,k2,k3⟩;rw[←heq]at k1;exact k1
 have h3:Ux P T rb i σ fun ρ'=>Ux P T rb a σ fun ρ=>Z ρ ρ':=by
  refine AvD (F:=Ux P T rb a σ) (G:=Ux P T rb i σ) (fun _ _=>Ht) (fun _ _=>Ht) (fun _=>Abu) ?_ h2;rcases hcall with h|h
  ·exact .inl (rE h)
  ·exact .inr (rE h)
 have h4:Ux P T rb i (Cz D2 σ σ) fun σ2=>Fx (jC sh i) i.dst σ σ2∧Nr bm σ2∧stp P T sh rb bm a σ2 K:=by
  have key:=(Rf (P:=P) (T:=T) (rb:=rb) (c:=i) (σ:=σ) (τ:=σ) (K:=fun σ2=>Fx (jC sh i) i.dst σ σ2∧Nr bm σ2∧stp P T sh rb bm a σ2 K) rfl).2;rw[hD2]at key;refine key (Ht h3 fun ρ' hz=> ?_);have hg:∀{t},t<σ.length→(Cz D2 ρ' σ).getD t .any=if D2.contains t then ρ'.getD t .any else σ.getD t .any:=fun ht=>Ch ht
  have f1:∀ρ,Z ρ ρ'→∀s,s∈jC sh i→i.dst≠some s→s<σ.length→D2.contains s=true→ρ'.getD s .any=σ.getD s .any:=by
   intro ρ ⟨k1,k2,k3,k4,k5⟩ s hs hid hlt hd
   have e1:(Cz D1 ρ σ).getD s .any=σ.getD s .any:=by
    by_cases h1:D1.contains s=true
    ·exact k1 s (hsh s h1 hd).1.1 (hsh s h1 hd).2.1
    ·rw [Ch hlt,if_neg h1]
   have e2:=k3 s hs hid;rw[Ch (by rw[Aw];exact hlt),if_pos hd]at e2;rw[e2,e1]
  obtain⟨ρ0,hz0⟩:=Abu hz;have e0:=f1 ρ0 hz0
  have hfx:Fx (jC sh i) i.dst σ (Cz D2 ρ' σ):=by
   intro s hs hid;by_cases hlt:s<σ.length
   ·rw [hg hlt];split
    ·rename_i hd;exact e0 s hs hid hlt hd
    ·rfl
   ·exact AaN
  refine⟨hfx,?_,?_⟩
  ·obtain ⟨k1,k2,k3,k4,k5⟩:=hz0;intro d hd;have n1:=Nu.1 (hn d hd);have n2:=Nu.1 (k4 d hd);rw[Nu];refine⟨fun hb=> ?_,fun hb t ht=> ?_⟩
   ·have m1:=n1.1 hb;have m2:=n2.1 hb;by_cases ht:d-100000<σ.length
    ·rw [hg ht];split
     ·rename_i hd2;rw[Ch (by rw[Aw];exact ht),if_pos hd2]at m2;exact m2
     ·exact m1
    ·rw [E3 om]at m1;cases m1
   ·rw [Aw]at ht;rw[hg ht];split
    ·rename_i hd2;have:=n2.2 hb t (by simp only[Aw];exact ht);rw[Ch (by rw[Aw];exact ht),if_pos hd2]at this;exact this
    ·exact n1.2 hb t ht
  ·have heq:Cz D2 ρ' σ=Cz D1 σ (Cz D2 ρ' σ):=by
    refine Kv (by simp [Aw]) fun t ht=> ?_;rw[Aw,Aw]at ht;rw[Ch (D:=D1) (by rw[Aw];exact ht)];split
    ·rename_i ht1
     exact(hfx t |> fun f=>by
      by_cases ht2:D2.contains t=true
      ·exact f (hsh t ht1 ht2).1.2 (hsh t ht1 ht2).2.2
      ·rw [hg ht,if_neg ht2])
    ·rfl
   unfold stp;rw[heq];have key:=(Rf (P:=P) (T:=T) (rb:=rb) (c:=a) (σ:=σ) (τ:=Cz D2 ρ' σ) (K:=fun σ'=>Fx (jC sh a) a.dst (Cz D1 σ (Cz D2 ρ' σ)) σ'∧Nr bm σ'∧K σ') (by rw[Aw])).2;rw[hD1]at key;refine key (Ht hz fun ρ hzz=> ?_);have e1:=f1 ρ hzz;obtain⟨k1,k2,k3,k4,k5⟩:=hzz
   have hsame:Cz D1 ρ (Cz D2 ρ' σ)=Cz D2 ρ' (Cz D1 ρ σ):=by
    refine Kv (by simp [Aw]) fun t ht=> ?_;simp only[Aw]at ht;rw[Ch (D:=D1) (by rw[Aw];exact ht),Ch (D:=D2) (σ:=ρ') (τ:=Cz D1 ρ σ) (by rw[Aw];exact ht),Ch (D:=D1) ht,hg ht];by_cases t1:D1.contains t=true
    ·by_cases t2:D2.contains t=true
     ·rw [if_pos t1,if_pos t2];have hs:=hsh t t1 t2;rw[e1 t hs.1.2 hs.2.2 ht t2];have:=k1 t hs.1.1 hs.2.1;rw[Ch ht,if_pos t1]at this;exact this
     ·rw [if_pos t1,if_neg t2,if_pos t1]
    ·rw [if_neg t1,if_neg t1]
   refine⟨?_,by rw[hsame];exact k4,by rw[hsame];exact k5⟩;intro s hs had;rw[←heq];by_cases hlt:s<σ.length
   ·rw [Ch (D:=D1) (by rw[Aw];exact hlt)];split
    ·rename_i t1;by_cases t2:D2.contains s=true
     ·have hq:=hsh s t1 t2;rw[hg hlt,if_pos t2,e1 s hq.1.2 hq.2.2 hlt t2];have:=k1 s hs had;rw[Ch hlt,if_pos t1]at this;exact this
     ·rw [hg hlt,if_neg t2];have:=k1 s hs had;rw[Ch hlt,if_pos t1]at this;exact this
    ·rfl
   ·rw [E3 (by simp only[Aw];omega),E3 (by simp only[Aw];omega)]
 rw[R7]at h4;exact h4
end
end
section
open Go.RowKit
variable [Env]
variable {dfs : List Deferred}
def Bf (ops:Array Oper):Option (Nat×Bool)→Option (Option (Nat×Bool))
 |none=>some none
 |some (j,want)=>match C9 ops j with
  |some t=>some (some (t,want))
  |none=>none
def B2 (ops:Array Oper):List Oper→Option (List CO)
 |[]=>some []
 |o::l=>match Bf ops o.guard,B2 ops l with
  |some g,some r=>some (⟨o.dst,o.op,g⟩::r)
  |_,_=>none
theorem Nv {ops:Array Oper}:∀{l:List Oper} {r:List CO},B2 ops l=some r→r.length=l.length∧∀(i:Nat) (o:Oper),l[i]? =some o→∃g,Bf ops o.guard=some g∧r[i]? =some ⟨o.dst,o.op,g⟩
 |[],r,h=>by simp [B2]at h;subst h;simp
 |o::l,r,h=>by
  simp only[B2]at h;split at h
  ·rename_i g r' hg hr;injection h with h;subst h;obtain⟨h1,h2⟩:=Nv hr;refine⟨by simp [h1],fun i o' ho'=> ?_⟩
   cases i with
   |zero=>simp at ho';subst ho';exact⟨g,hg,rfl⟩
   |succ i=>simpa using h2 i o' (by simpa using ho')
  ·cases h
def Sd (o:Oper):List Nat:=o.after.toList.filterMap fun e=>if Region.binds .any e then some e.on else none
def cW:List Oper→List (List Nat)→List (List Nat)
 |[],acc=>acc
 |o::l,acc=>cW l (acc++[((Sd o).flatMap fun p=>p::acc.getD p []).eraseDups])
def rF (rb sh:List Nat) (a c:CO):Bool:=(Bj rb a).all (fun t=> !(Bj rb c).contains t||(((jC sh a).contains t&&(jC sh c).contains t)&&(a.dst != some t&&c.dst != some t)))&& !(Fu a.op&&Fu c.op)
def Mr (rb bm:List Nat) (c:CO):Bool:=match c.op with
 |.alloc _|.box _ _=>match c.dst with
  |some d=>bm.contains d&&decide (d<100000)
  |none=>true
 |.fieldAddr _ (.tmp s) _=> !(rb.contains (9999900000+s))||bm.contains (100000+s)
 |_=>true
def uB (ops:List Oper) (cs:List CO) (rb sh bm:List Nat):Bool:=
 (List.range ops.length).all fun i=>match ops[i]?,cs[i]? with
  |some o,some c=>
   (Sd o).all (fun p=>decide (p<i))&&
   ((cW ops []).getD i []).all (fun a=>(Sd o).any fun p=>p==a||((cW ops []).getD p []).contains a)&&
   (List.range i).all (fun a=>((cW ops []).getD i []).contains a||match cs[a]? with
    |some ca=>rF rb sh ca c
    |none=>false)&&
   Mr rb bm c
  |_,_=>false
section
variable {P : Program} {T : Bd} {w0 : World} {S0 c0 : Nat → Nat} {rb sh bm : List Nat}
def dl (P:Program) (T:Bd) (sh rb bm:List Nat) (cs:List CO) (K:List AV→Prop):List Nat→List AV→Prop
 |[],σ=>K σ
 |i::l,σ=>match cs[i]? with
  |some c=>stp P T sh rb bm c σ (dl P T sh rb bm cs K l)
  |none=>False
theorem cX {cs:List CO} {K:List AV→Prop} {i:Nat} {c:CO} (hi:cs[i]? =some c):∀(A B:List Nat) {σ:List AV},Nr bm σ→(∀a∈A,∀ca,cs[a]? =some ca→rF rb sh ca c=true)→
 dl P T sh rb bm cs K (A++i::B) σ→stp P T sh rb bm c σ (dl P T sh rb bm cs K (A++B))
 |[],B,σ,hn,ha,h=>by simp only[Ax8,dl,hi]at h;exact h
 |a::A,B,σ,hn,ha,h=>by
  simp only[Ax4,dl]at h;split at h
  ·rename_i ca hca;have hind:=ha a oS ca hca;simp only[rF,Ax3,Ax7,Ayk,AyR]at hind;have h1:=cV h fun x hx hk=>cX hi A B hx (fun b hb=>ha b (by simp [hb])) hk
   have h2:=swap (fun t t1 t2=>by
    have:=hind.1 t (G9.1 t1);rw[t2]at this;simpa using this) (by
    have:=hind.2
    cases h1:Fu ca.op with
    |false=>exact .inl rfl
    |true=>rw[h1]at this;exact .inr (by simpa using this)) hn h1
   refine cV h2 fun x hx hk=> ?_;simp only[Ax4,dl,hca];exact hk
  ·exact Ad
def rem (n:Nat) (listed:Array Bool):List Nat:=(List.range n).filter fun i=> !listed.getD i true
theorem Abv {l:List Nat} (hl:l.Pairwise (·< ·)) {i:Nat} (hi:i∈l):∃A B,l=A++i::B∧(∀a∈A,a<i)∧(∀b∈B,i<b):=by
 obtain⟨A,B,rfl⟩:=List.append_of_mem hi;refine⟨A,B,rfl,fun a ha=> ?_,fun b hb=> ?_⟩
 ·exact (Ayq.1 hl).2.2 a ha i oS
 ·exact (AxN.1 (Ayq.1 hl).2.1).1 b hb
theorem Se (n:Nat) (listed:Array Bool):(rem n listed).Pairwise (·< ·):=List.Pairwise.filter _ List.pairwise_lt_range
theorem rG {n:Nat} {listed:Array Bool} {i:Nat} {A B:List Nat} (hs:listed.size=n) (h:rem n listed=A++i::B) (hA:∀a∈A,a<i) (hB:∀b∈B,i<b):rem n (listed.setIfInBounds i true)=A++B:=by
 have hi:i∈rem n listed:=by rw[h];simp
 have hin:i<n:=by simp [rem]at hi;exact hi.1
 have e:rem n (listed.setIfInBounds i true)=(rem n listed).filter (·!= i):=by
  unfold rem;rw[List.filter_filter];refine List.filter_congr fun j hj=> ?_;by_cases hji:j=i
  ·subst hji;simp [hs,hin]
  ·rw [getD_set_ne true (Ne.symm hji)];simp [hji]
 rw[e,h,AyP,AyM];simp only[bne_self_eq_false,Ax0,if_false];rw[List.filter_eq_self.2 fun a ha=>by have:=hA a ha;simp;omega,List.filter_eq_self.2 fun b hb=>by have:=hB b hb;simp;omega]
theorem Vx {o:Oper} {p:Nat}:p∈Sd o↔∃e∈o.after,Region.binds .any e=true∧e.on=p:=by
 unfold Sd;rw[List.mem_filterMap];constructor
 ·rintro ⟨e,he,h⟩;split at h
  ·rename_i hb;exact⟨e,by simpa using he,hb,by simpa using h⟩
  ·cases h
 ·rintro ⟨e,he,hb,h⟩;exact⟨e,by simpa using he,by simp [hb,h]⟩
theorem Rh {ops:List Oper} {cs:List CO} (hc:uB ops cs rb sh bm=true) {i:Nat} {o:Oper} (hi:ops[i]? =some o):∃c,cs[i]? =some c∧(∀p∈Sd o,p<i)∧
 (∀a∈(cW ops []).getD i [],∃p∈Sd o,p=a∨a∈(cW ops []).getD p [])∧(∀a,a<i→a∈(cW ops []).getD i []∨∃ca,cs[a]? =some ca∧rF rb sh ca c=true)∧Mr rb bm c=true:=by
 have hlt:=(List.getElem?_eq_some_iff.1 hi).1;have h:=Ax7.1 hc i (Ay6.2 hlt);rw[hi]at h
 cases hci:cs[i]? with
 |none=>rw[hci]at h;cases h
 |some c=>
  rw[hci]at h;simp only[Ax3]at h;obtain⟨⟨⟨h1,h2⟩,h3⟩,h4⟩:=h;refine⟨c,rfl,fun p hp=>by simpa using Ax7.1 h1 p hp,fun a ha=> ?_,fun a ha=> ?_,h4⟩
  ·have:=Ax7.1 h2 a ha;obtain⟨p,hp,hpa⟩:=List.any_eq_true.1 this;refine⟨p,hp,?_⟩;simpa using hpa
  ·have:=Ax7.1 h3 a (Ay6.2 ha);rw[Ayk]at this;rcases this with h|h
   ·exact .inl (G9.1 h)
   ·split at h
    ·rename_i ca hca;exact .inr ⟨ca,hca,h⟩
    ·cases h
theorem kI {ops:Array Oper} {cs:List CO} (hc:uB ops.toList cs rb sh bm=true) {listed:Array Bool}
 (hcl:∀j oj,ops[j]? =some oj→listed.getD j false=true→∀e∈oj.after,Region.binds .any e=true→listed.getD e.on false=true):
 ∀(i:Nat) {o:Oper},ops[i]? =some o→(∀e∈o.after,Region.binds .any e=true→listed.getD e.on false=true)→∀a∈(cW ops.toList []).getD i [],listed.getD a false=true:=by
 intro i
 induction i using Nat.strongRecOn with
 |_ i ih=>
  intro o ho hall a ha;obtain⟨c,_,h1,h2,_,_⟩:=Rh hc (i:=i) (o:=o) (by simpa using ho);obtain⟨p,hp,hpa⟩:=h2 a ha;have hlt:=h1 p hp;obtain⟨e,he,hb,rfl⟩:=Vx.1 hp;have hl:=hall e he hb;rcases hpa with rfl|hpa
  ·exact hl
  ·have hex:∃op,ops[e.on]? =some op:=by
    have:=(Array.getElem?_eq_some_iff.1 ho).1;exact⟨ops[e.on]'om,oS⟩
   obtain⟨op,hop⟩:=hex;exact ih e.on hlt hop (hcl e.on op hop hl) a hpa
theorem cY {c:CO} {σ:List AV} {K:List AV→Prop} (hbm:Mr rb bm c=true) (hn:Nr bm σ) (h:Kf P T rb c σ K):Ku P T (uA c) σ K:=by
 unfold Kf at h;split at h
 ·rename_i hb;obtain⟨dst,op,gd⟩:=c;unfold rC at h;split at h
  ·rename_i t s f d h1 h2;simp only at h1 h2;subst h1;subst h2;simp only[Ky]at hb;simp only[Mr,hb,AxP,Aza]at hbm;have hx:=(Nu.1 (hn _ (G9.1 hbm))).1 (AyA _ _);rw[AyZ]at hx;split at h
   ·rename_i i hi;split at h
    ·rename_i off n ag hf
     cases hv:σ.getD s .any with
     |box U cs=>simp only[Ku,Ca,uA,Fg,hi,Bl,hf,hv];exact h
     |_=>rw[hv]at hx;cases hx
    ·exact Ad
   ·exact Ad
  ·exact Ad
 ·exact h.2
theorem uC (hT:Am P T) {ops:Array Oper} {Q:Exit→Act→World→Prop} {fr:List Nat} {i:Nat} {o:Oper} {g:Option (Nat×Bool)} (ho:ops[i]? =some o) (hg:Bf ops o.guard=some g)
 (hbm:Mr rb bm ⟨o.dst,o.op,g⟩=true) (hfr:∀s∈fr,o.dst≠some s) {σ:List AV} {a:Act} {w:World} {K:List AV→Prop} {next:Act→World→Prop} (hst:A3 dfs w0 S0 c0 σ a w) (hn:Nr bm σ)
 (h:stp P T sh rb bm ⟨o.dst,o.op,g⟩ σ K) (hnx:∀σ' a' w',A3 dfs w0 S0 c0 σ' a' w'→Nr bm σ'→K σ'→(∀s∈fr,a'.tmps[s]? =a.tmps[s]?)→next a' w'):wpOp P ops Q i next a w:=by
 unfold wpOp;simp only[ho]
 have run:∀K',Ku P T (uA ⟨o.dst,o.op,g⟩) σ K'→o.wp P a w (fun a' w'=>(∃σ',K' σ'∧A3 dfs w0 S0 c0 σ' a' w')∧∀s,o.dst≠some s→a'.tmps[s]? =a.tmps[s]?) Q:=by
  intro K' hb;have hb':Ku P T o σ K':=hb;rcases Aip hb' with hb'|hb'
  ·exact Rb (Jb hT hst hb')
  refine Rb (Vr hT hst (jY hb' fun d hd hk=> ?_))
  have hdb:d∈bm∧d<100000:=by
   simp only[Mr,hd]at hbm
   cases hop:o.op<;>simp only[hop]at hk hbm<;>first
    |exact hk.elim
    |(rw[Ax3]at hbm;exact⟨G9.1 hbm.1,by simpa using hbm.2⟩)
  have:=hn d hdb.1;rw[nrq,decide_eq_false (Nat.not_le.2 hdb.2)]at this;exact this
 have fin:∀a' w',(∃σ',(Fx (jC sh ⟨o.dst,o.op,g⟩) o.dst σ σ'∧Nr bm σ'∧K σ')∧A3 dfs w0 S0 c0 σ' a' w')∧(∀s,o.dst≠some s→a'.tmps[s]? =a.tmps[s]?)→next a' w':=by rintro a' w' ⟨⟨σ',⟨_,h2,h3⟩,h4⟩,h5⟩;exact hnx σ' a' w' h4 h2 h3 fun s hs=>h5 s (hfr s hs)
 unfold stp Ux at h;simp only[Bf]at hg
 cases hgd:o.guard with
 |none=>
  rw[hgd]at hg;injection hg with hg;subst hg;have hw:Region.wanted o (yielded ops a.tmps)=true:=by simp [Region.wanted,hgd]
  rw[if_pos hw];exact .inl (A7 fin (run _ (cY hbm hn h)))
 |some jw=>
  obtain⟨j,want⟩:=jw;rw[hgd]at hg;simp only[]at hg;split at hg
  ·rename_i t ht;injection hg with hg;subst hg;simp only[]at h;split at h
   ·rename_i e he;have hst':=hst;obtain⟨_,S,c,hr,_⟩:=hst;obtain⟨v,c1,c2,hv,hy,h2,hc⟩:=hr.take t (A4 hr he oS);have e1:=(Ay hy).1;subst e1;have hyl:yielded ops a.tmps j=some e:=by exact Anc
    have hwant:Region.wanted o (yielded ops a.tmps)=(e==want):=by simp [Region.wanted,hgd,hyl]
    rw[hwant];by_cases hew:e=want
    ·rw [if_pos hew]at h;rw[if_pos (by simpa using hew)];exact .inl (A7 fin (run _ (cY hbm hn h)))
    ·rw [if_neg hew]at h;rw[if_neg (by simpa using hew)];exact AnC
   ·rename_i he;have hst':=hst;obtain⟨_,S,c,hr,_⟩:=hst;obtain⟨v,c1,c2,hv,hy,h2,hc⟩:=hr.take t (A4 hr he oS);have e1:v=.tuple #[]:=by exact qE
    have hyl:yielded ops a.tmps j=none:=by unfold yielded;unfold C9 at ht;rw[ht];exact AaI
    have hwant:Region.wanted o (yielded ops a.tmps)=false:=by simp [Region.wanted,hgd,hyl]
    rw[hwant,if_neg oS];exact AnC
   ·exact Ad
  ·cases hg
theorem kJ (hT:Am P T) {ops:Array Oper} {cs:List CO} (hcs:B2 ops ops.toList=some cs) (hc:uB ops.toList cs rb sh bm=true) {Q:Exit→Act→World→Prop} {fr:List Nat}
 (hfr:∀s∈fr,∀o∈ops.toList,o.dst≠some s) {K:List AV→Prop}:
 ∀(fuel:Nat) (listed:Array Bool) (σ:List AV) (a:Act) (w:World),listed.size=ops.size→(rem ops.size listed).length=fuel→
  (∀j oj,ops[j]? =some oj→listed.getD j false=true→∀e∈oj.after,Region.binds .any e=true→listed.getD e.on false=true)→
  A3 dfs w0 S0 c0 σ a w→Nr bm σ→dl P T sh rb bm cs K (rem ops.size listed) σ→
  (∀σ' a' w',A3 dfs w0 S0 c0 σ' a' w'→K σ'→(∀s∈fr,a'.tmps[s]? =a.tmps[s]?)→Q .normal a' w')→wpAny P .any ops Q fuel listed a w:=by
 have hmem:∀{listed:Array Bool} {i:Nat},i∈Region.ready .any ops listed→i∈rem ops.size listed:=by intro listed i hi;obtain⟨h1,o,ho,_⟩:=mem_ready.1 hi;have:=(Array.getElem?_eq_some_iff.1 ho).1;simp [rem,this];simpa using h1
 intro fuel
 induction fuel with
 |zero=>
  intro listed σ a w hsz hlen hcl hst hn h hQ;have h0:rem ops.size listed=[]:=AxA hlen;refine⟨?_,?_⟩
  ·cases hr:Region.ready .any ops listed with
   |nil=>rfl
   |cons x xs=>have:=hmem (i:=x) (by rw[hr];simp);rw[h0]at this;cases this
  ·rw [h0]at h;exact hQ σ a w hst h (fun _ _=>rfl)
 |succ fuel ih=>
  intro listed σ a w hsz hlen hcl hst hn h hQ;refine⟨fun hr=> ?_,fun i hi=> ?_⟩
  ·
   exfalso
   match hrm:rem ops.size listed with
   |[]=>rw[hrm]at hlen;simp at hlen
   |i::rest=>
    have hi:i∈rem ops.size listed:=by rw[hrm];simp
    have hi':=hi;simp only[rem,Ayj,Ay6]at hi'
    have hready:i∈Region.ready .any ops listed:=by
     refine mem_ready.2 ⟨by simpa using hi'.2,ops[i],by simp [hi'.1],fun e he hb=> ?_⟩;obtain⟨c,_,h1,_⟩:=Rh hc (i:=i) (o:=ops[i]) (by simp [hi'.1]);have hlt:=h1 e.on (Vx.2 ⟨e,he,hb,rfl⟩)
     cases hl:listed.getD e.on false with
     |true=>rfl
     |false=>
      have hin:e.on∈rem ops.size listed:=by simp only[rem,Ayj,Ay6];refine⟨om,?_⟩;have:=getD_in (listed:=listed) (i:=e.on) (by rw[hsz];omega) hl;rw[this];rfl
      rw[hrm]at hin;have hs:=Se ops.size listed;rw[hrm]at hs;rcases Ax2.1 hin with h|h
      ·omega
      ·have:=(AxN.1 hs).1 _ h;omega
    rw[hr]at hready;cases hready
  ·have hir:=hmem hi;obtain⟨hun,o,ho,hall⟩:=mem_ready.1 hi;obtain⟨A,B,hAB,hA,hB⟩:=Abv (Se ops.size listed) hir;have hl:ops.toList[i]? =some o:=by simpa using ho
   obtain⟨g,hg,hci⟩:=(Nv hcs).2 i o hl;obtain⟨c,hci',h1,h2,h3,h4⟩:=Rh hc hl;have hcc:c=⟨o.dst,o.op,g⟩:=Option.some.inj (hci'.symm.trans hci);subst hcc;have hanc:=kI hc hcl i ho hall
   have hfront:=cX (P:=P) (T:=T) (K:=K) hci A B hn (fun b hb cb hcb=>by
    rcases h3 b (hA b hb)with h|⟨cb',hcb',hind⟩
    ·have hb1:=hanc b h;have hbm:b∈rem ops.size listed:=by rw[hAB];simp [hb]
     simp only[rem,Ayj,Ay6]at hbm;have:=getD_both (listed:=listed) (i:=b) (by simpa using hbm.2);rw[this]at hb1;cases hb1
    ·rw [hcb]at hcb';injection hcb' with hcb';subst hcb';exact hind) (by rw[←hAB];exact h)
   rw[←rG hsz hAB hA hB]at hfront;refine uC hT ho hg h4 (fun s hs=>hfr s hs o (Axt hl)) hst hn hfront fun σ' a' w' g1 g2 g3 g4=> ?_;refine ih _ σ' a' w' (by simp [hsz]) ?_ ?_ g1 g2 g3 fun σ'' a'' w'' k1 k2 k3=>hQ σ'' a'' w'' k1 k2 fun s hs=>(k3 s hs).trans (g4 s hs)
   ·rw [rG hsz hAB hA hB];rw[hAB]at hlen;simp at hlen⊢;omega
   ·intro j oj hj hlj e he hb;by_cases hij:i=j
    ·subst hij;have:oj=o:=Option.some.inj (hj.symm.trans ho);subst this;exact getD_set_true (hall e he hb)
    ·rw [getD_set_ne false hij]at hlj;exact getD_set_true (hcl j oj hj hlj e he hb)
end
end
end Go.Proofs.YtmophjggmekoeaaGreatDoor
