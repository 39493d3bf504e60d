/- Drawn regions that load first, then make new blocks, then the rest. -/
import Derived.Test.YtmophjggmekoeaaGreatDoorC16
set_option linter.all false
namespace Go.Proofs.YtmophjggmekoeaaGreatDoor
section
open Go.RowKit
def grow {α:Type} (P:Program):Sem α→Prop
 |.pure _=>True
 |.program k=>grow P (k P)
 |.mark _ k=>grow P k
 |.new _ k=>∀n,grow P (k n)
 |.halt _=>True
 |_=>False
def C3 (w w':World):Prop:=∀b,b<w.heap.size→w'.heap[b]? =w.heap[b]?
theorem C3.refl (w:World):C3 w w:=fun _ _=>rfl
theorem C3.size {w w':World} (h:C3 w w') {b:Nat} (hb:b<w.heap.size):b<w'.heap.size:=by have:=h b hb;rw[Array.getElem?_eq_getElem hb]at this;exact(Array.getElem?_eq_some_iff.1 this).1
theorem C3.trans {w w' w2:World} (h:C3 w w') (k:C3 w' w2):C3 w w2:=fun b hb=>(k b (h.size hb)).trans (h b hb)
section
variable {α β : Type} {P : Program}
theorem Fl:∀{s:Sem α} {f:α→Sem β},grow P s→(∀x,grow P (f x))→grow P (s.bind f)
 |.pure a,f,_,h=>h a
 |.program k,f,hs,h=>Fl (s:=k P) hs h
 |.mark _ k,f,hs,h=>Fl (s:=k) hs h
 |.new _ k,f,hs,h=>fun n=>Fl (hs n) h
 |.halt _,f,_,_=>trivial
 |.choose ..,_,hs,_|.load ..,_,hs,_|.store ..,_,hs,_|.shape ..,_,hs,_|.freeze ..,_,hs,_|.frozen ..,_,hs,_|.getObj ..,_,hs,_|.setObj ..,_,hs,_|.sys ..,_,hs,_=>hs.elim
theorem N3 {w':World} {x:α}:∀{s:Sem α} {w:World},grow P s→s.run P w=.ok x w'→C3 w w'
 |.pure a,w,_,h=>by simp only[Sem.run]at h;injection h with h1 h2;rw[←h2];exact C3.refl w
 |.program k,w,hs,h=>N3 (s:=k P) hs (by simpa only[Sem.run]using h)
 |.mark _ k,w,hs,h=>N3 (s:=k) hs (by simpa only[Sem.run]using h)
 |.new o k,w,hs,h=>by simp only[Sem.run]at h;exact C3.trans (fun b hb=>by simp [Array.getElem?_push,Nat.ne_of_lt hb]) (N3 (hs _) h)
 |.halt _,_,_,h=>by simp [Sem.run]at h
 |.choose ..,_,hs,_|.load ..,_,hs,_|.store ..,_,hs,_|.shape ..,_,hs,_|.freeze ..,_,hs,_|.frozen ..,_,hs,_|.getObj ..,_,hs,_|.setObj ..,_,hs,_|.sys ..,_,hs,_=>hs.elim
theorem nA (t:TypeId):grow P (Instr.alloc t true (.tuple #[])):=by
 have hz:grow P (zeroValue t):=by
  unfold zeroValue typeInfo;refine Fl (Fl (s:=program) trivial fun p=> ?_) fun i=> ?_
  ·split<;>trivial
  ·split<;>trivial
 unfold Instr.alloc;exact Fl hz fun z=>Fl (s:=newVar t z) (fun n=>trivial) fun _=>trivial
end
section
variable [Env] {dfs : List Deferred} {P : Program} {T : Bd} {H : Gy} {w0 w : World} {S0 c0 : Nat → Nat} {γ σ : List AV} {a : Act} {ops : Array Oper} {cl : Nat → Nat} {Q : Exit → Act → World → Prop} {K : List AV → List AV → Prop} {E : Value → List AV → List AV → Prop} {X : List Nat}
def LC3 (T:Bd) (t q:Nat) (a:Act) (w:World):Prop:=∃(i:TI) (b off:Nat) (cv:List Value),T t=some i∧a.eval (.tmp q)=.pointer (some ⟨b,off,none⟩)∧cv.length=lsz i∧∀(j:Nat) (u:Value),cv[j]? =some u→w.cell? ⟨b,off+j,none⟩=some u
theorem Akc (hT:Am P T) {t q:Nat} {d:Option Nat} {L:List AV→List AV→Prop} (hst:Ah dfs w0 S0 c0 γ σ a w) (h:hop P T H d (.load t (.tmp q)) γ σ L E) (hx:Yi (σ.getD q .any)=true):LC3 T t q a w:=by
 unfold hop at h;dsimp only at h;split at h
 ·rename_i b off hp;have he:=hst.raw (Hl hp);unfold hld at h;split at h
  ·rename_i i gi hi hgi;split at h
   ·rename_i b' Te cs hx';obtain⟨g1,g2⟩:=Gp hgi;rw[hx']at g1 g2;injection g2 with g2;subst g2;obtain⟨S,c,c1,gv,hrf,hr,hg,_⟩:=hst;obtain⟨cur,d1,c2,hb,hS,hcs,_⟩:=Ah.takeBox hg g1;have hcl:=hcs.length;simp at hcl;refine⟨i,b',off,(cur.toList.drop off).take (lsz i),hi,he,by simp;omega,fun j u hj=> ?_⟩;rw[cell_of_row w b' (off+j) cur Te (0,0) hb];exact AoH
   ·exact Ad
  ·exact Ad
 ·rename_i hp;obtain⟨S,c,c1,gv,hrf,hr,_⟩:=hst
  have hk:ldk (List.range (σ.length+q+1)) q (σ.getD q .any)=true∨∃s o,σ.getD q .any=.ref s o:=by
   cases hq:σ.getD q .any<;>rw[hq]at hx hp<;>simp only[Yi,Ax0]at hx
   case elt y=>exact .inl rfl
   case ref s o=>exact .inr ⟨s,o,rfl⟩
   case box U cs=>left;simp [ldk];omega
   case raw v=>
    exfalso
    cases v with
    |pointer p=>
     cases p with
     |none=>simp [Yi]at hx
     |some ad=>obtain⟨bb,oo,sp⟩:=ad;cases sp<;>simp [Yi,Hb]at hx hp
    |_=>simp [Yi]at hx
  rcases hk with hk|⟨s,o,hk⟩
  ·obtain ⟨i,b,off,cv,e1,e2,e3,e4,_⟩:=mZ hT hrf hr h hk;exact⟨i,b,off,cv,e1,e2,e3,e4⟩
  ·obtain ⟨i,b,off,cv,e1,e2,e3,e4,_⟩:=mZ (X:=[s]) hT hrf hr h (by rw[hk];simp [ldk]);exact⟨i,b,off,cv,e1,e2,e3,e4⟩
theorem V9 (hT:Am P T) (hH:Cl P H) {l2:List Nat}:∀(l:List (Nat×Nat)) (cs:List (CO×Nat)) (γ σ:List AV) (a:Act),Cm ops l=some cs→(∀p∈l,(∀o,ops[p.1]? =some o→kc T o.op≤1)∧((p.2=0∧cl p.1=0∧∀o,ops[p.1]? =some o→kc T o.op=0)∨(p.2=5∧cl p.1=1∧∀o,ops[p.1]? =some o→kc T o.op=1)))→Ah dfs w0 S0 c0 γ σ a w→Cc P T H X K E cs γ σ→
 (∀γ σ a',Ah dfs w0 S0 c0 γ σ a' w→K γ σ→wpC P ops cl (C3 w) Q l2 a' w)→wpC P ops cl (C3 w) Q (l.map (·.1)++l2) a w
 |[],cs,γ,σ,a,hcs,hl,hst,h,hK=>by simp only[Cm]at hcs;injection hcs with hcs;subst hcs;exact hK γ σ a hst h
 |(i,f)::l,cs,γ,σ,a,hcs,hl,hst,h,hK=>by
  obtain⟨o,r,ho,hr,hw⟩:=Jf hcs hst h;obtain⟨hle0,hc⟩:=hl (i,f) oS;have hle:=hle0 o ho;clear hle0
  have rest:∀(γ σ:List AV) (v:Value),Ah dfs w0 S0 c0 γ σ (a.put o.dst v) w→Cc P T H X K E r γ σ→wpC P ops cl (C3 w) Q (l.map (·.1)++l2) (a.put o.dst v) w:=fun γ σ v hst h=>
   V9 hT hH l r γ σ _ hr (fun p hp=>hl p (Aya _ hp)) hst h hK
  simp only[Axx,Ax4,wpC];refine⟨o,ho,?_⟩;rcases hw with⟨hw,σ1,hst1,hh⟩|⟨hw,σ1,hst1,hh⟩
  ·rcases hc with⟨h0,h1,h2⟩|⟨h0,h1,h2⟩
   ·exact Amv
   ·simp only at h0 h1;subst h0;obtain⟨hld,hh⟩:=hh;obtain⟨v,k1,k2,γ',σ',k3,k4⟩:=Gc hT hH hle (fun hz=>by rw[h2 o ho]at hz;cases hz) hst1 hh;refine .inr (.inl ⟨h1,C3.refl w,v,.inl ⟨hw,fun w' hw'=> ?_⟩,rest γ' σ' v k4 k3⟩);unfold ld3 at hld;split at hld
    ·rename_i t q hopq;rw[hopq]at hh;obtain⟨j,b,off,cv,e1,e2,e3,e4⟩:=Akc hT hst1 hh hld;have hrun:∀w',(∀(j:Nat) (u:Value),cv[j]? =some u→w'.cell? ⟨b,off+j,none⟩=some u)→(execOp a.eval o).run P w'=.ok (.value (if j.td.agg then .agg cv.toArray else cv.headD undef)) w':=fun w' hcw=>by exact Ane
     have hv:v=(if j.td.agg then .agg cv.toArray else cv.headD undef):=by exact AnL
     rw[hv];refine hrun w' fun j u hj=> ?_;have h3:=e4 j u hj
     have hb:b<w.heap.size:=by
      unfold World.cell? at h3
      cases hbb:w.heap[b]? with
      |none=>simp only[hbb]at h3;cases h3
      |some x=>exact(Array.getElem?_eq_some_iff.1 hbb).1
     unfold World.cell? at h3⊢;rw[hw' b hb];exact h3
    ·cases hld
  ·rcases hc with⟨h0,h1,h2⟩|⟨h0,h1,h2⟩
   ·exact .inl ⟨h1,undef,.inr ⟨hw,rfl⟩,rest γ σ1 undef hst1 hh⟩
   ·exact .inr (.inl ⟨h1,C3.refl w,undef,.inr ⟨hw,rfl⟩,rest γ σ1 undef hst1 hh⟩)
def wG:Op→Bool
 |.alloc _=>true
 |_=>false
theorem Akd {ρ:Operand→Value} {o:Oper} (h:wG o.op=true):grow P (execOp ρ o):=by
 unfold wG at h;split at h
 ·rename_i t ho;unfold execOp;rw[ho];exact Fl (nA t) fun _=>trivial
 ·cases h
theorem Ake {o:Oper} {n1:Act→World→Prop} {w1:World} (h:wG o.op=true) (hc:C3 w1 w) (hw:o.wp P a w n1 Q):o.wp P a w (fun a' w'=>C3 w1 w'∧n1 a' w') Q:=by
 unfold Oper.wp at *;have hg:=Akd (P:=P) (ρ:=a.eval) h
 cases hr:(execOp a.eval o).run P w with
 |halt x w'=>rw[hr]at hw;cases x<;>exact hw
 |ok n w'=>
  have h3:=hc.trans (N3 hg hr);rw[hr]at hw;unfold wG at h;split at h
  ·rename_i t ho;have:∃v,n=.value v:=by simp only[execOp,ho]at hr;exact Adm hr
   obtain⟨v,rfl⟩:=this;exact⟨h3,hw⟩
  ·cases h
theorem eH (hT:Am P T) (hH:Cl P H) {w1:World} {l2:List Nat}:∀(l:List (Nat×Nat)) (cs:List (CO×Nat)) (γ σ:List AV) (a:Act) (w:World),Cm ops l=some cs→(∀p∈l,cl p.1=2∧∀o,ops[p.1]? =some o→wG o.op=true)→C3 w1 w→Ah dfs w0 S0 c0 γ σ a w→Cc P T H X K E cs γ σ→
 (∀γ σ a' w',Ah dfs w0 S0 c0 γ σ a' w'→K γ σ→wpC P ops cl (C3 w1) Q l2 a' w')→(∀v γ σ a' w',E v γ σ→Ah dfs w0 S0 c0 γ σ a' w'→Q (.panic [{v:=v,recovered:=false}]) a' w')→wpC P ops cl (C3 w1) Q (l.map (·.1)++l2) a w
 |[],cs,γ,σ,a,w,hcs,hl,hC,hst,h,hK,hE=>by simp only[Cm]at hcs;injection hcs with hcs;subst hcs;exact hK γ σ a w hst h
 |(i,f)::l,cs,γ,σ,a,w,hcs,hl,hC,hst,h,hK,hE=>by
  obtain⟨o,r,ho,hr,hw⟩:=Jf hcs hst h;obtain⟨hc2,hal⟩:=hl (i,f) oS;have hal:=hal o ho;simp only[Axx,Ax4,wpC];refine⟨o,ho,.inr (.inr (.inl ⟨hc2,?_⟩))⟩;unfold wpOp;simp only[ho];have rest:∀(γ σ:List AV) (a:Act) (w:World),C3 w1 w→Ah dfs w0 S0 c0 γ σ a w→Cc P T H X K E r γ σ→wpC P ops cl (C3 w1) Q (l.map (·.1)++l2) a w:=fun γ σ a w hC hst h=>eH hT hH l r γ σ a w hr (fun p hp=>hl p (Aya _ hp)) hC hst h hK hE;rcases hw with⟨hw,σ1,hst1,hh⟩|⟨hw,σ1,hst1,hh⟩
  ·rw [if_pos hw];have hh:hop P T H o.dst o.op γ σ1 (Cc P T H X K E r) E:=by exact An7
   exact .inl (A7 (fun a' w' ⟨g1,γ',σ',g2,g3⟩=>⟨g1,rest γ' σ' a' w' g1 g3 g2⟩) (Ake hal hC (Fj hT hH hst1 hh fun v γ' σ' w' g1 g2=>hE v γ' σ' a w' g1 g2)))
  ·rw [if_neg (by simp [hw])];exact⟨hC,rest γ σ1 _ w hC hst1 hh⟩
def alB (ops:Array Oper) (p:Nat×Nat):Bool:=match ops[p.1]? with
 |some o=>wG o.op&&p.2 != 0
 |none=>false
def Adq (T:Bd) (ops:Array Oper) (l1 l2 l3:List (Nat×Nat)):Bool:=
 drB ops (K3 l1 l2 (l1++(l2++l3))) ((l1++(l2++l3)).map (·.1))&&(l1.all (kcB T ops 5)&&(l2.all (alB ops)&&(l3.all (Ado T ops)&&(l1.all (clB (K3 l1 l2 (l1++(l2++l3))) 1)&&(l2.all (clB (K3 l1 l2 (l1++(l2++l3))) 2)&&l3.all (clB (K3 l1 l2 (l1++(l2++l3))) 3))))))
def dr3 (P:Program) (T:Bd) (H:Gy) (K:List AV→List AV→Prop) (E:Value→List AV→List AV→Prop) (l1 l2 l3:List (CO×Nat)):List AV→List AV→Prop:=Cc P T H [] (Cc P T H [] (Cc P T H [] K E l3) E l2) E l1
theorem wH (hT:Am P T) (hH:Cl P H) {E:Value→List AV→Prop} {l1 l2 l3:List (Nat×Nat)} {c1 c2 c3:List (CO×Nat)} (h1:Cm ops l1=some c1) (h2:Cm ops l2=some c2) (h3:Cm ops l3=some c3) (hok:Adq T ops l1 l2 l3=true) (hst:Ah dfs w0 S0 c0 γ σ a w) (h:dr3 P T H K (fun v γ _=>E v γ) c1 c2 c3 γ σ):
 wpAny P .any ops (QR dfs w0 S0 c0 K E) ops.size (Array.replicate ops.size false) a w:=by
 simp only[Adq,Ax3]at hok;obtain⟨k1,k2,k3,k4,k5,k6,k7⟩:=hok
 have hw:wpC P ops (K3 l1 l2 (l1++(l2++l3))) (C3 w) (QR dfs w0 S0 c0 K E) (l1.map (·.1)++(l2.map (·.1)++l3.map (·.1))) a w:=by
  refine V9 hT hH l1 c1 γ σ a h1 (fun p hp=> ?_) hst h fun γ' σ' a' hst' h'=> ?_
  ·exact Ath
  ·refine eH hT hH l2 c2 γ' σ' a' w h2 (fun p hp=> ?_) (C3.refl w) hst' h' (fun γ2 σ2 a2 w2 hst2 h2'=> ?_) (fun v γ σ a w hE hst=>⟨γ,σ,hE,hst⟩)
   ·have g1:=K4 (Ax7.1 k6 p hp);have g2:=Ax7.1 k3 p hp;unfold alB at g2;split at g2
    ·rename_i o ho;simp only[Ax3,bne_iff_ne,ne_eq]at g2;exact⟨g1.2 g2.2,fun o' ho'=>by rw[ho]at ho';injection ho' with ho';rw[←ho'];exact g2.1⟩
    ·cases g2
   ·have:=Hv (C:=C3 w) (n:=3) (l2:=[]) (F:=[]) hT hH (.inr rfl) (fun h=>om) (.inr rfl) (Q:=QR dfs w0 S0 c0 K E) l3 c3 γ2 σ2 a2 w2 h3 (cl:=K3 l1 l2 (l1++(l2++l3))) (fun p hp=> ?_) hst2 h2' (fun γ σ a w hst hK _=>⟨γ,σ,hK,hst⟩) (fun v γ σ a w hE hst=>⟨γ,σ,hE,hst⟩)
    ·exact G5
    ·exact Ao9
 exact Anl
end
end
section
open Go.RowKit
variable [Env]
variable {dfs : List Deferred}
inductive CH where
 |base (c:CC)
 |hops (l:List CO)
 |ext (c:Code)
 |dr1 (l1 l3:List (CO×Nat))
 |dr2 (X Y:List Nat) (l1 l2 l3:List (CO×Nat))
 |dr3 (l1 l2 l3:List (CO×Nat))
 |tw (ts:List Nat) (c:CH)
 |seq (a b:CH)
 |cut (a b:CH)
 |cond (c:Operand) (x y:CH)
 |block (id:Nat) (c:CH)
 |loop (c:CH)
 |scope (c:CH)
def Ge:Option CC→Option CH
 |some c=>some (.base c)
 |none=>none
abbrev Pr:=List (Nat×List Nat×List Nat×List Nat×List Nat)
def Ko (n:Nat):Nat×Nat:=(n % 1000,n / 1000)
def Ed:Pr→Nat→List Nat×List Nat×List Nat×List Nat
 |[],_=>([],[],[],[])
 |(k,x)::r,id=>if k=id then x else Ed r id
def H7:Option (List (CO×Nat))→Option (List (CO×Nat))→Option CH
 |some x,some y=>some (.dr1 x y)
 |_,_=>none
def xB:List Nat→List Nat
 |[]=>[]
 |x::r=>bif x / 10000==0 then xB r else(x % 10000)::xB r
def xY:List Nat→List Nat
 |[]=>[]
 |x::r=>(x % 10000)::xY r
def H8 (X Y:List Nat):Option (List (CO×Nat))→Option (List (CO×Nat))→Option (List (CO×Nat))→Option CH
 |some x,some y,some z=>some (.dr2 X Y x y z)
 |_,_,_=>none
def H9:Option (List (CO×Nat))→Option (List (CO×Nat))→Option (List (CO×Nat))→Option CH
 |some x,some y,some z=>some (.dr3 x y z)
 |_,_,_=>none
def Hw:List Nat→Bool
 |[x]=>x==100000
 |_=>false
def Hy (ops:Array Oper) (x:List Nat×List Nat×List Nat×List Nat):Option CH:=match x with
 |(X,l1,l2,l3)=>bif Hw X then H9 (Cm ops (l1.map Ko)) (Cm ops (l2.map Ko)) (Cm ops (l3.map Ko))else bif X.isEmpty&&l2.isEmpty then H7 (Cm ops (l1.map Ko)) (Cm ops (l3.map Ko))else H8 (xB X) (xY X) (Cm ops (l1.map Ko)) (Cm ops (l2.map Ko)) (Cm ops (l3.map Ko))
def Ia:List Nat→Option CH→Option CH
 |[],x=>x
 |ts,some c=>some (.tw ts c)
 |_,none=>none
def Hz:Option (List CO)→Option CH
 |some c=>some (.hops c)
 |none=>none
def Hc (f:CH→CH→CH):Option CH→Option CH→Option CH
 |some x,some y=>some (f x y)
 |_,_=>none
def Gz (f:CH→CH):Option CH→Option CH
 |some x=>some (f x)
 |none=>none
def I3:Bool→CH→CH→CH
 |true=>.cut
 |false=>.seq
def Bm (A:L2) (E:List Nat) (O:Pr):Code→Option CH
 |.region id ops dr=>bif Ri E id then some (.ext (.region id ops dr))else bif !(Ce A id).isEmpty||(Cf A id).isSome then Ge (Bh A (.region id ops dr))else Ia (Eb A id) (bif dr then Hy ops (Ed O id)else Hz (B2 ops ops.toList))
 |.seq a b=>Hc (I3 (cutAt A b)) (Bm A E O a) (Bm A E O b)
 |.cond c a b=>Hc (.cond c) (Bm A E O a) (Bm A E O b)
 |.block id c=>Gz (.block id) (Bm A E O c)
 |.loop c=>Gz .loop (Bm A E O c)
 |.scope c=>Gz .scope (Bm A E O c)
 |.skip=>Ge (Bh A .skip)
 |.exit id=>Ge (Bh A (.exit id))
 |.label l=>Ge (Bh A (.label l))
 |.ret=>Ge (Bh A .ret)
 |_=>none
def Aof (T:Bd) (ops:Array Oper) (x:List Nat×List Nat×List Nat×List Nat):Bool:=match x with
 |(X,l1,l2,l3)=>bif Hw X then Adq T ops (l1.map Ko) (l2.map Ko) (l3.map Ko)else bif X.isEmpty&&l2.isEmpty then wD T ops 2 [] [] (l1.map Ko) [] (l3.map Ko)else wD T ops 1 (xB X) (xY X) (l1.map Ko) (l2.map Ko) (l3.map Ko)
def He (T:Bd) (A:L2) (E:List Nat) (O:Pr):Code→Bool
 |.region id ops dr=>Ri E id||(bif !(Ce A id).isEmpty||(Cf A id).isSome then Kn A (.region id ops dr)else bif dr then Aof T ops (Ed O id)else true)
 |.seq a b=>He T A E O a&&He T A E O b
 |.cond _ a b=>He T A E O a&&He T A E O b
 |.block _ c=>He T A E O c
 |.loop c=>He T A E O c
 |.scope c=>He T A E O c
 |_=>true
def Wa (dfs:List Deferred) (w0:World) (S0 c0:Nat→Nat) (Q:Exit→List AV→List AV→Prop):Exit→Act→World→Prop:=fun e a w=>∃γ σ,Q e γ σ∧Ah dfs w0 S0 c0 γ σ a w
def J2 (γ σ γ' σ':List AV):Prop:=∀(dfs:List Deferred) (w0:World) (S0 c0:Nat→Nat) (a:Act) (w:World),Ah dfs w0 S0 c0 γ σ a w→Ah dfs w0 S0 c0 γ' σ' a w
def Gw (γ γ':List AV):Prop:=∀(w:World) (S c:Nat→Nat) (gv:List Value),Aa w S γ gv c→∃gv' c',Aa w S γ' gv' c'∧∀b,c' b≤c b
theorem J2.trans {γ σ γ1 σ1 γ2 σ2:List AV} (h1:J2 γ σ γ1 σ1) (h2:J2 γ1 σ1 γ2 σ2):J2 γ σ γ2 σ2:=fun _ _ _ _ _ _ h=>h2 _ _ _ _ _ _ (h1 _ _ _ _ _ _ h)
theorem J2.wk {γ σ σ':List AV} (h:Wk σ σ'):J2 γ σ γ σ':=fun _ _ _ _ _ _ hs=>hs.wk h
theorem Gw.refl (γ:List AV):Gw γ γ:=fun _ _ c gv h=>⟨gv,c,h,fun _=>Axu _⟩
theorem Gw.trans {γ γ1 γ2:List AV} (h1:Gw γ γ1) (h2:Gw γ1 γ2):Gw γ γ2:=fun w S c gv h=>by obtain⟨g1,c1,k1,l1⟩:=h1 w S c gv h;obtain⟨g2,c2,k2,l2⟩:=h2 w S c1 g1 k1;exact⟨g2,c2,k2,fun b=>Ax1 (l2 b) (l1 b)⟩
theorem Gw.perm {γ γ':List AV} (h:γ.Perm γ'):Gw γ γ':=fun w S c gv hr=>by obtain⟨us,h2⟩:=Aa.perm h hr;exact⟨us,c,h2,fun _=>Axu _⟩
theorem Gw.cons {x y:AV} {γ γ':List AV} (h1:W1 x y) (h:Gw γ γ'):Gw (x::γ) (y::γ'):=fun w S c gv hr=>by obtain⟨v,us,d1,d2,rfl,h2,h3,hd⟩:=hr.uncons;obtain⟨e1,g1,l1⟩:=h1 w S v d1 h2;obtain⟨us',e2,g2,l2⟩:=h w S d2 us h3;exact⟨_,_,Aa.cons g1 g2 (fun b=>rfl),fun b=>by rw[hd];have:=l1 b;have:=l2 b;omega⟩
theorem Gw.drop (x:AV) {γ γ':List AV} (h:Gw γ γ'):Gw (x::γ) γ':=fun w S c gv hr=>by obtain⟨v,us,d1,d2,rfl,h2,h3,hd⟩:=hr.uncons;obtain⟨us',e2,g2,l2⟩:=h w S d2 us h3;exact⟨_,_,g2,fun b=>by rw[hd];have:=l2 b;omega⟩
theorem W1.nbox {b T:Nat} {cs ds:List AV} (h:Wk cs ds):W1 (.nbox b T cs) (.nbox b T ds):=fun w S v c hr=>by
 cases hr with
 |nbox hb hS h1 ho h2 hc=>obtain⟨c',h3,hle⟩:=h.rep h1;exact⟨_,.nbox hb hS h3 ho h2 (fun x=>rfl),fun x=>by rw[hc];have:=hle x;show _+(c' x+_)≤_;omega⟩
theorem J2.gw {γ γ' σ:List AV} (h:Gw γ γ'):J2 γ σ γ' σ:=fun dfs w0 S0 c0 a w ⟨S,c,c1,gv,hrf,hr,hg,h1,hd,hz,hs⟩=>by obtain⟨gv',c',hg',hle⟩:=h w S c1 gv hg;exact⟨S,c,c',gv',hrf,hr,hg',fun b=>by have:=h1 b;have:=hle b;omega,hd,hz,hs.drop fun b=>by have:=hle b;show c b+c' b≤c b+c1 b;omega⟩
def Jg (K:List AV→List AV→Prop) (Q:Exit→List AV→List AV→Prop):Exit→List AV→List AV→Prop
 |.normal,γ,σ=>K γ σ
 |e,γ,σ=>Q e γ σ
def Qi (id:Nat) (Q:Exit→List AV→List AV→Prop):Exit→List AV→List AV→Prop
 |.exit id',γ,σ=>if id'=id then Q .normal γ σ else Q (.exit id') γ σ
 |e,γ,σ=>Q e γ σ
def Auj (Q:Exit→List AV→List AV→Prop):Exit→List AV→List AV→Prop
 |.goto _,γ,σ=>False
 |e,γ,σ=>Q e γ σ
def pnH (Q:Exit→List AV→List AV→Prop) (v:Value) (γ:List AV):Prop:=∀σ,Q (.panic [{v:=v,recovered:=false}]) γ σ
def pnE (Q:Exit→List AV→List AV→Prop) (v:Value) (γ σ:List AV):Prop:=pnH Q v γ
def wI (Q:Exit→List AV→List AV→Prop) (v:Value) (γ σ:List AV):Prop:=Q (.panic [{v:=v,recovered:=false}]) γ σ
def Cd (P:Program) (T:Bd) (H:Gy):CH→(Exit→List AV→List AV→Prop)→List AV→List AV→Prop
 |.base c,Q,γ,σ=>Hj P T c (fun e σ=>Q e γ σ) σ
 |.hops l,Q,γ,σ=>J1 P T H (Q .normal) (wI Q) l γ σ
 |.dr1 l1 l3,Q,γ,σ=>dr1 P T H (Q .normal) (pnE Q) l1 l3 γ σ
 |.dr2 X Y l1 l2 l3,Q,γ,σ=>dr2 P T H (Q .normal) (pnE Q) X Y l1 l2 l3 γ σ
 |.dr3 l1 l2 l3,Q,γ,σ=>dr3 P T H (Q .normal) (pnE Q) l1 l2 l3 γ σ
 |.tw ts c,Q,γ,σ=>kK ts (Cd P T H c Q γ) σ
 |.ext c,Q,γ,σ=>∀(dfs:List Deferred) (w0:World) (S0 c0:Nat→Nat) (a:Act) (w:World),Ah dfs w0 S0 c0 γ σ a w→c.wp P (Wa dfs w0 S0 c0 Q) a w
 |.seq x y,Q,γ,σ=>Cd P T H x (Jg (Cd P T H y Q) Q) γ σ
 |.cut x y,Q,γ,σ=>∃I:List AV→List AV→Prop,(∀γ1 σ1,I γ1 σ1→Cd P T H y Q γ1 σ1)∧Cd P T H x (Jg (fun γ2 σ2=>∃γ3 σ3,J2 γ2 σ2 γ3 σ3∧I γ3 σ3) Q) γ σ
 |.cond c x y,Q,γ,σ=>Ny (aev σ c) (Cd P T H x Q γ σ) (Cd P T H y Q γ σ)
 |.block id c,Q,γ,σ=>Cd P T H c (Qi id Q) γ σ
 |.loop c,Q,γ,σ=>∃I:Nat→List AV→List AV→Prop,(∃n γ1 σ1,J2 γ σ γ1 σ1∧I n γ1 σ1)∧∀n γ1 σ1,I n γ1 σ1→Cd P T H c (Jg (fun γ2 σ2=>∃m γ3 σ3,m<n∧J2 γ2 σ2 γ3 σ3∧I m γ3 σ3) Q) γ1 σ1
 |.scope c,Q,γ,σ=>Cd P T H c (Auj Q) γ σ
section
variable {P : Program} {T : Bd} {H : Gy} {w0 : World} {S0 c0 : Nat → Nat}
theorem Wb {f:CH→CH→CH} {x y:Option CH} {d:CH} (h:Hc f x y=some d):∃x' y',x=some x'∧y=some y'∧d=f x' y':=by
 unfold Hc at h;split at h
 ·injection h with h;exact⟨_,_,rfl,rfl,h.symm⟩
 ·cases h
theorem Ps {f:CH→CH} {x:Option CH} {d:CH} (h:Gz f x=some d):∃x',x=some x'∧d=f x':=by
 unfold Gz at h;split at h
 ·injection h with h;exact⟨_,rfl,h.symm⟩
 ·cases h
theorem H0 (hT:Am P T) (hm:P.follows .mixedOrders=true) {A:L2} (c:Code) (d:CH) (hd:Ge (Bh A c)=some d) (hk:Kn A c=true) (Q:Exit→List AV→List AV→Prop) (γ σ:List AV) (a:Act) (w:World)
 (hst:Ah dfs w0 S0 c0 γ σ a w) (h:Cd P T H d Q γ σ):c.wp P (Wa dfs w0 S0 c0 Q) a w:=by
 unfold Ge at hd;split at hd
 ·rename_i d' hd';injection hd with hd;subst hd;obtain⟨S,cc,h1,h2⟩:=hst.open;exact wp_mono (Du hT hm c d' hd' hk _ σ a w h1 h) fun e a' w' ⟨σ',hq,hs⟩=>⟨γ,σ',hq,h2 _ _ _ hs⟩
 ·cases hd
theorem Br (hT:Am P T) (hH:Cl P H) (hm:P.follows .mixedOrders=true) {A:L2} {E:List Nat} {O:Pr}:∀(c:Code) (d:CH),Bm A E O c=some d→He T A E O c=true→∀(Q:Exit→List AV→List AV→Prop) (γ σ:List AV) (a:Act) (w:World),Ah dfs w0 S0 c0 γ σ a w→Cd P T H d Q γ σ→c.wp P (Wa dfs w0 S0 c0 Q) a w
 |.skip,d,hd,hk,Q,γ,σ,a,w,hst,h=>H0 hT hm .skip d hd rfl Q γ σ a w hst h
 |.exit id,d,hd,hk,Q,γ,σ,a,w,hst,h=>H0 hT hm (.exit id) d hd rfl Q γ σ a w hst h
 |.label l,d,hd,hk,Q,γ,σ,a,w,hst,h=>H0 hT hm (.label l) d hd rfl Q γ σ a w hst h
 |.ret,d,hd,hk,Q,γ,σ,a,w,hst,h=>H0 hT hm .ret d hd rfl Q γ σ a w hst h
 |.region id ops dr,d,hd,hk,Q,γ,σ,a,w,hst,h=>by
  simp only[Bm]at hd;simp only[He]at hk
  cases he:Ri E id with
  |true=>rw[he]at hd;simp only[cond_true]at hd;injection hd with hd;subst hd;exact h dfs w0 S0 c0 a w hst
  |false=>
   rw[he]at hd hk;simp only[cond_false,Aza]at hd hk
   cases hb:(!(Ce A id).isEmpty||(Cf A id).isSome)with
   |true=>rw[hb]at hd hk;exact H0 hT hm _ d hd hk Q γ σ a w hst h
   |false=>
    rw[hb]at hd hk;simp only[cond_false]at hd hk
    have out:∀{e:Exit} {a':Act} {w':World},QR dfs w0 S0 c0 (Q .normal) (pnH Q) e a' w'→Wa dfs w0 S0 c0 Q e a' w':=fun{e a' w'} hq=>by
     match e,hq with
     |.normal,⟨γ,σ,h1,h2⟩=>exact⟨γ,σ,h1,h2⟩
     |.panic [⟨v,false,false⟩],⟨γ,σ,h1,h2⟩=>exact⟨γ,σ,h1 σ,h2⟩
    have core:∀d' γ σ,(bif dr then Hy ops (Ed O id)else Hz (B2 ops ops.toList))=some d'→Ah dfs w0 S0 c0 γ σ a w→Cd P T H d' Q γ σ→(Code.region id ops dr).wp P (Wa dfs w0 S0 c0 Q) a w:=fun d' γ σ hd hst h=>by
     cases dr with
     |false=>
      simp only[cond_false]at hd;unfold Hz at hd;split at hd
      ·rename_i l hl;injection hd with hd;subst hd;refine wp_region (Sw hT hH (List.range ops.size) ops.toList l γ σ a w ?_ hl hst h (fun γ σ a w hs hK=>⟨γ,σ,hK,hs⟩) (fun v γ σ a w hE hs=>⟨γ,σ,hE,hs⟩));exact Aa5
      ·cases hd
     |true=>
      simp only[cond_true]at hd hk;rcases hx:Ed O id with⟨X,l1,l2,l3⟩;rw[hx]at hd hk;simp only[Hy,Aof]at hd hk
      cases h3:Hw X with
      |true=>
       rw[h3]at hd hk;simp only[cond_true]at hd hk;unfold H9 at hd;split at hd
       ·rename_i c1 c2 c3 h1 h2 h3;injection hd with hd;subst hd;exact wp_mono (wp_region_any hm (wH hT hH h1 h2 h3 hk hst.drew h)) fun e a w h=>out h
       ·cases hd
      |false=>
      rw[h3]at hd hk;simp only[cond_false]at hd hk
      cases hX:(X.isEmpty&&l2.isEmpty)with
      |true=>
       rw[hX]at hd hk;simp only[cond_true]at hd hk;unfold H7 at hd;split at hd
       ·rename_i c1 c3 h1 h3;injection hd with hd;subst hd;exact wp_mono (wp_region_any hm (wE hT hH h1 h3 hk hst.drew h)) fun e a w h=>out h
       ·cases hd
      |false=>
       rw[hX]at hd hk;simp only[cond_false]at hd hk;unfold H8 at hd;split at hd
       ·rename_i c1 c2 c3 h1 h2 h3;injection hd with hd;subst hd;exact wp_mono (wp_region_any hm (wF hT hH h1 h2 h3 hk hst.drew h)) fun e a w h=>out h
       ·cases hd
    unfold Ia at hd;split at hd
    ·exact core d γ σ hd hst h
    ·rename_i ts c hc _;injection hd with hd;subst hd;obtain⟨S,cc,h1,h2⟩:=hst.open;obtain⟨σ',h3,h4⟩:=Cp _ h1 h;exact core c γ σ' hc (h2 _ _ _ h4) h3
    ·cases hd
 |.seq x y,d,hd,hk,Q,γ,σ,a,w,hst,h=>by
  simp only[Bm]at hd;simp only[He,Ax3]at hk;obtain⟨x',y',hx,hy,rfl⟩:=Wb hd
  cases hc:cutAt A y with
  |false=>
   rw[hc]at h;refine wp_seq (wp_mono (Br hT hH hm x x' hx hk.1 _ γ σ a w hst h) fun e a w hq=> ?_);obtain⟨γ',σ',hq,hs'⟩:=hq
   cases e with
   |normal=>exact Br hT hH hm y y' hy hk.2 Q γ' σ' a w hs' hq
   |_=>exact⟨γ',σ',hq,hs'⟩
  |true=>
   rw[hc]at h;obtain⟨I,hI,h⟩:=h;refine wp_seq (wp_mono (Br hT hH hm x x' hx hk.1 _ γ σ a w hst h) fun e a w hq=> ?_);obtain⟨γ',σ',hq,hs'⟩:=hq
   cases e with
   |normal=>obtain⟨γ3,σ3,hw3,h3⟩:=hq;exact Br hT hH hm y y' hy hk.2 Q γ3 σ3 a w (hw3 _ _ _ _ _ _ hs') (hI γ3 σ3 h3)
   |_=>exact⟨γ',σ',hq,hs'⟩
 |.cond c x y,d,hd,hk,Q,γ,σ,a,w,hst,h=>by
  simp only[Bm]at hd;simp only[He,Ax3]at hk;obtain⟨x',y',hx,hy,rfl⟩:=Wb hd;simp only[Cd,Ny]at h;split at h
  ·rename_i e he;exact wp_cond_split (hst.rawOp he) (fun ht=>Br hT hH hm x x' hx hk.1 Q γ σ a w hst (h.1 ht)) (fun hf=>Br hT hH hm y y' hy hk.2 Q γ σ a w hst (h.2 hf))
  ·exact Ad
 |.block id c,d,hd,hk,Q,γ,σ,a,w,hst,h=>by
  simp only[Bm]at hd;simp only[He]at hk;obtain⟨x',hx,rfl⟩:=Ps hd;refine wp_block (wp_mono (Br hT hH hm c x' hx hk _ γ σ a w hst h) fun e a w hq=> ?_);obtain⟨γ',σ',hq,hs'⟩:=hq
  cases e with
  |exit id'=>
   simp only[Qi]at hq;simp only[Exit.inBlock];split
   ·rename_i hid;rw[if_pos hid]at hq;exact⟨γ',σ',hq,hs'⟩
   ·rename_i hid;rw[if_neg hid]at hq;exact⟨γ',σ',hq,hs'⟩
  |_=>exact⟨γ',σ',hq,hs'⟩
 |.loop c,d,hd,hk,Q,γ,σ,a,w,hst,h=>by
  simp only[Bm]at hd;simp only[He]at hk;obtain⟨x',hx,rfl⟩:=Ps hd;obtain⟨I,⟨n0,γ1,σ1,hw,hI⟩,hround⟩:=h
  classical
  let J:Act→World→Nat→Prop:=fun a w n=>∃γ σ,I n γ σ∧Ah dfs w0 S0 c0 γ σ a w;refine wp_loop (fun a w=>∃n,J a w n) (fun a w=>if h:∃n,J a w n then Classical.choose (least h)else 0) ⟨n0,γ1,σ1,hI,hw _ _ _ _ _ _ hst⟩ fun a w hJ=> ?_;obtain⟨γ',σ',hI',hst'⟩:=(Classical.choose_spec (least hJ)).1;refine wp_mono (Br hT hH hm c x' hx hk _ γ' σ' a w hst' (hround _ γ' σ' hI')) fun e a' w' hq=> ?_;obtain⟨γ2,σ2,hq,hs2⟩:=hq
  cases e with
  |normal=>obtain⟨m,γ3,σ3,hm,hw3,hI3⟩:=hq;have hJ':J a' w' m:=⟨γ3,σ3,hI3,hw3 _ _ _ _ _ _ hs2⟩;exact AhT
  |_=>exact⟨γ2,σ2,hq,hs2⟩
 |.scope c,d,hd,hk,Q,γ,σ,a,w,hst,h=>by
  simp only[Bm]at hd;simp only[He]at hk;obtain⟨x',hx,rfl⟩:=Ps hd;refine wp_scope_straight (wp_mono (Br hT hH hm c x' hx hk _ γ σ a w hst h) fun e a w hq=> ?_);obtain⟨γ',σ',hq,hs'⟩:=hq
  cases e with
  |goto l=>exact hq.elim
  |_=>exact⟨γ',σ',hq,hs'⟩
 |.rangeFunc ..,d,hd,hk,Q,γ,σ,a,w,hst,h=>by simp [Bm]at hd
 |.goto ..,d,hd,hk,Q,γ,σ,a,w,hst,h=>by simp [Bm]at hd
 |.refuse ..,d,hd,hk,Q,γ,σ,a,w,hst,h=>by simp [Bm]at hd
end
end
section
open Go.RowKit
variable [Env]
def Sy:List AV→AV
 |[v]=>v
 |vs=>.tup vs
def hfin (T:Bd) (rs:List ResultVar) (K:AV→List AV→Prop) (E:Value→List AV→Prop):Exit→List AV→List AV→Prop
 |.normal,γ,σ=>Hu T rs σ fun vs=>K (Sy vs) γ
 |.ret,γ,σ=>Hu T rs σ fun vs=>K (Sy vs) γ
 |.panic [⟨v,false,false⟩],γ,σ=>E v γ
 |_,_,_=>False
section
variable {P : Program} {T : Bd} {H : Gy}
theorem Auk (hT:Am P T) (hH:Cl P H) (hm:P.follows .mixedOrders=true) {A:L2} {E:List Nat} {O:Pr} {f:Nat} {fn:Func} {code:Code} {d:CH} {args γ:List AV} {K:AV→List AV→Prop} {F:Value→List AV→Prop} (hf:P.funcs[f]? =some fn) (hb:fn.body=some code) (hcd:Bm A E O code=some d) (hck:He T A E O code=true) (hn:(fn.name== "runtime.NumGoroutine")=false) (hpa:args.all pb=true) {nt:Nat} (hnt:fn.ntmps=nt) {rs:List ResultVar} (hrs:fn.results.toList=rs)
 (h:Cd P T H d (hfin T rs K F) γ (args++List.replicate (nt-args.length) .any)):HC P f args γ K F:=by
 refine⟨⟨fn,code,hf,hb,hn⟩,fun w S vs gv c c1 hz hr hg hc=> ?_⟩;have hl:=hr.length;refine calls_of_wp hf hb (wp_mono (Br (dfs:=[]) (w0:=w) (S0:=S) (c0:=fun b=>c b+c1 b) hT hH hm code d hcd hck _ γ _ _ w ?_ h) fun e a w' hq=> ?_)
 ·refine ⟨S,c,c1,gv,?_,?_,hg,hc,rfl,hz,Stp.refl w S _⟩
  ·exact qz9
  ·exact AhR
 ·exact qz8
theorem B3 (A:L2) (E:List Nat) (O:Pr) (hT:Am P T) (hH:Cl P H) (hm:P.follows .mixedOrders=true) {f:Nat} {fn:Func} {args γ:List AV} {K:AV→List AV→Prop} {F:Value→List AV→Prop} {d:CH} {nt:Nat} {rs:Array ResultVar} (hf:P.funcs[f]? =some fn) (hn:(fn.name== "runtime.NumGoroutine")=false)
 (hck:(fn.body.map (He T A E O))=some true) (hd:fn.body.bind (Bm A E O)=some d) (hnt:fn.ntmps=nt) (hrs:fn.results=rs) (hpa:args.all pb=true) (h:Cd P T H d (hfin T rs.toList K F) γ (args++List.replicate (nt-args.length) .any)):HC P f args γ K F:=by
 cases hb:fn.body with
 |none=>rw[hb]at hd;cases hd
 |some code=>rw[hb]at hd hck;exact Auk hT hH hm hf hb hd (by simpa using hck) hn hpa hnt (by rw[hrs]) h
theorem HC.weak {g:Nat} {args γ:List AV} {K:AV→List AV→Prop} {F:Value→List AV→Prop} (h:HC P g args γ (fun r γ'=>∃r' γ'',W1 r r'∧pb r'=true∧Gw γ' γ''∧K r' γ'') (fun v γ'=>∃γ'',Gw γ' γ''∧F v γ'')):HC P g args γ K F:=
 ⟨h.1,fun w S vs gv c c1 hz hr hg hc=>(h.2 w S vs gv c c1 hz hr hg hc).mono fun e w' hq=>by
  rcases hq with⟨v,r,γ',S',c',c1',gv',h1,⟨r',γ'',k1,k2,k3,k4⟩,h3,h4,h5,h6,h7,h8⟩|⟨v,γ',S',c1',gv',h1,⟨γ'',k3,k4⟩,h3,h4,h5,h6⟩
  ·obtain ⟨d,g1,l1⟩:=k1 _ _ _ _ h4;obtain⟨us,d1,g2,l2⟩:=k3 _ _ _ _ h5;exact .inl ⟨v,r',γ'',S',d,d1,us,h1,k4,k2,g1,g2,fun b=>by have:=h6 b;have:=l1 b;have:=l2 b;omega,h7,h8.drop fun b=>by have:=l1 b;have:=l2 b;show d b+d1 b≤c' b+c1' b;omega⟩
  ·obtain ⟨us,d1,g2,l2⟩:=k3 _ _ _ _ h3;exact .inr ⟨v,γ'',S',d1,us,h1,k4,g2,fun b=>by have:=h4 b;have:=l2 b;omega,h5,h6.drop l2⟩⟩
theorem HC.gw {g:Nat} {args γ γ':List AV} {K:AV→List AV→Prop} {F:Value→List AV→Prop} (h:HC P g args γ' K F) (hw:Gw γ γ'):HC P g args γ K F:=
 ⟨h.1,fun w S vs gv c c1 hz hr hg hc=>by
  obtain⟨us,d1,g2,l2⟩:=hw _ _ _ _ hg
  have conv:∀{w' S' d},Stp w S (fun b=>c b+d1 b) w' S' d→Stp w S (fun b=>c b+c1 b) w' S' d:=fun h6=>
   ⟨h6.os,h6.tape,h6.output,h6.size,fun b hb h0=>h6.keep b hb (by have:=l2 b;omega),h6.cell,h6.le,fun b hb=>Ax1 (h6.own b hb) (by have:=l2 b;omega)⟩
  refine(h.2 w S vs us c d1 hz hr g2 (fun b=>by have:=hc b;have:=l2 b;omega)).mono fun e w' hq=> ?_;rcases hq with⟨v,r,γ',S',c',c1',gv',h1,h2,h3,h4,h5,h6,h7,h8⟩|⟨v,γ',S',c1',gv',h1,h2,h3,h4,h5,h6⟩
  ·exact .inl ⟨v,r,γ',S',c',c1',gv',h1,h2,h3,h4,h5,h6,h7,conv h8⟩
  ·exact .inr ⟨v,γ',S',c1',gv',h1,h2,h3,h4,h5,conv h6⟩⟩
end
end
end Go.Proofs.YtmophjggmekoeaaGreatDoor
