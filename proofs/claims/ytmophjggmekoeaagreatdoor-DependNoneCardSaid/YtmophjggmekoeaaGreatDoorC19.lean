/- The logic under a fence: in a round of a range over a function, and at large. Iterators: a .. -/
import Derived.RangeFuncLeaves
import Derived.RangeFuncCalls
import Derived.TacticsIn
import Derived.Test.YtmophjggmekoeaaGreatDoorC11
set_option linter.all false
namespace Go.Proofs.YtmophjggmekoeaaGreatDoor
open Go.RowKit
variable [Env]
variable {dfs : List Deferred}
abbrev Fr (ro:Option Nat):Fence:={fn:=fun _=>True,depth:=none,alive:=false,round:=ro}
section
variable {P : Program} {o : Oper} {a : Act} {w : World} {ro : Option Nat} {n : Nat} {next : Act → World → Prop} {Q : Exit → Act → World → Prop}
theorem L5 {f:FuncId} {args:Array Value} {R:Ending→World→Prop}:CallsIn (Fr ro) n P f args w R↔Calls P f args w R:=by have:CallsIn (Fr ro) n P f args w R↔CallsIn Fence.wide n P f args w R:=Iff.rfl;exact this.trans callsIn_wide
theorem Aqj {row:String} {args:Array Value} {R:Value→World→Prop} (h:Rows P row args w R):RowsIn (Fr ro) n P row args w R:=by intro c cs _;obtain⟨v,w',hR,hs⟩:=h c cs;refine⟨v,w',hR,?_⟩;have:StepsIn (Machine.fenced P (Fr ro)) P=StepsIn (Machine.fenced P Fence.wide) P:=rfl;rw[this];exact stepsIn_wide.2 hs
theorem AkO {r:Result Next} (h:o.upon P a next Q r):o.uponIn (Fr ro) n P a next Q r:=by
 cases r with
 |ok x w'=>
  cases x with
  |value v=>exact h
  |skip=>exact h
  |defer d=>exact h
  |enter f args=>rw[Oper.upon_enter]at h;rw[Oper.uponIn_enter];exact⟨fun hd=>by simp at hd,L5.2 h⟩
  |row r args=>rw[Oper.upon_row]at h;rw[Oper.uponIn_row];exact⟨fun hd=>by simp at hd,Aqj h⟩
  |_=>exact h.elim
 |halt h' w'=>cases h'<;>exact h
theorem Au3 (hd:∀c,o.op≠ .defer c) (h:o.wp P a w next Q):o.wpIn (Fr ro) n P a w next Q:=
 ⟨fun _ _=>trivial,by rw[Oper.semAt_eq ro _ _ hd];exact AkO h⟩
theorem Ji {ops:Array Oper} (hd:∀o∈ops.toList,∀c,o.op≠ .defer c) (hQ:∀a w,¬Q .outgrown a w):∀(l:List Nat) (a:Act) (w:World),wpOps P ops Q l a w→wpOpsIn (Fr ro) n P ops Q l a w
 |[],a,w,h=>h
 |i::l,a,w,h=>by
  simp only[wpOps]at h;simp only[wpOpsIn];split at h
  ·rename_i ho;simp only[ho];exact Ji hd hQ l a w h
  ·rename_i o ho;simp only[ho];have hmem:o∈ops.toList:=Axt (by simpa using ho);split at h
   ·rename_i hw;rw[if_pos hw];rcases h with h|⟨_,b,w1,h⟩
    ·exact Au3 (hd o hmem) (A7 (fun a w h=>Ji hd hQ l a w h) h)
    ·exact absurd h (hQ _ _)
   ·rename_i hw;rw[if_neg hw];exact⟨fun _ _=>trivial,Ji hd hQ l _ w h⟩
end
def Aef (op:Op):Bool:=match op with
 |.defer _=>false
 |_=>true
def Ib (fr:List Nat):Code→Bool
 |.region _ ops _=>ops.toList.all (fun o=>Aef o.op)&&Sg fr ops.toList
 |.seq a b=>Ib fr a&&Ib fr b
 |.cond _ a b=>Ib fr a&&Ib fr b
 |.block _ c=>Ib fr c
 |.loop c=>Ib fr c
 |.skip|.exit _|.label _|.ret=>true
 |_=>false
theorem Jj {l:List Oper} (h:(l.all fun o=>Aef o.op)=true):∀o∈l,∀c,o.op≠ .defer c:=by intro o ho c he;have:=Ax7.1 h o ho;rw[he]at this;cases this
section
variable {P : Program} {T : Bd} {w0 : World} {S0 c0 : Nat → Nat}
def Mt (fr:List Nat) (t0:Array Value) (a:Act):Prop:=∀s∈fr,a.tmps[s]? =t0[s]?
def Au4 (fr:List Nat) (t0:Array Value) (dfs:List Deferred) (w0:World) (S0 c0:Nat→Nat) (Q:Exit→List AV→Prop):Exit→Act→World→Prop:=fun e a w=>∃σ,Q e σ∧A3 dfs w0 S0 c0 σ a w∧Mt fr t0 a
theorem Aeg {fr:List Nat} {ops:Array Oper} {run:(List AV→Prop)→List AV→Prop} {l:List Nat} (hr:Vz (XO P ops l) fr run) {vs:List Nat} (hvs:∀s∈vs,s∈fr) (hd:∀o∈ops.toList,∀c,o.op≠ .defer c) {ro:Option Nat} {n:Nat} {t0:Array Value}
 {σ:List AV} {a:Act} {w:World} {K:List AV→Prop} (hst:A3 dfs w0 S0 c0 σ a w) (hk:Mt fr t0 a) (h:rgn run vs K σ):
 wpOpsIn (Fr ro) n P ops (fun e a w=>e=.normal∧∃σ,K σ∧A3 dfs w0 S0 c0 σ a w∧Mt fr t0 a) l a w:=by
 have h1:=L1 hr vs hvs dfs w0 S0 c0 σ a w K (fun a w=>∃σ,K σ∧A3 dfs w0 S0 c0 σ a w∧Mt fr t0 a) hst h (fun σ' a' w' g1 g2 g3=>⟨σ',g2,g1,fun s hs=>(g3 s hs).trans (hk s hs)⟩);have h2:=h1 (fun e a w=>e=.normal∧∃σ,K σ∧A3 dfs w0 S0 c0 σ a w∧Mt fr t0 a) (fun a w h=>⟨rfl,h⟩);exact Ji hd (fun a w h=>by cases h.1) l a w h2
theorem eO {vs fr:List Nat} {l:List Oper} (h1:Sg vs l=true) (h2:Sg fr l=true):Sg (vs++fr) l=true:=by unfold Sg at *;rw[List.all_append,h1,h2];rfl
theorem Cv (hT:Am P T) (hm:P.follows .mixedOrders=true) {A:L2} (fr:List Nat) (t0:Array Value) (ro:Option Nat) (n:Nat):∀(c:Code) (d:CC),Bh A c=some d→Kn A c=true→Ib fr c=true→∀(Q:Exit→List AV→Prop) (σ:List AV) (a:Act) (w:World),A3 dfs w0 S0 c0 σ a w→Mt fr t0 a→Hj P T d Q σ→c.wpIn (Fr ro) n P (Au4 fr t0 dfs w0 S0 c0 Q) a w
 |.skip,d,hd,hk,hn,Q,σ,a,w,hst,hkf,h=>by simp only[Bh]at hd;injection hd with hd;subst hd;exact wpIn_skip ⟨σ,h,hst,hkf⟩
 |.region id ops false,d,hd,hk,hn,Q,σ,a,w,hst,hkf,h=>by
  simp only[Bh]at hd;simp only[Kn]at hk;simp only[Ib,Ax3]at hn;split at hd
  ·rename_i sl hsl;simp only[Ax0,if_false]at hd;obtain⟨o1,o2,t,d',g,rest,c,hl,g1,g2,g3,g4,g5,g6,g7,g8,rfl⟩:=Sj hd;have hXO:=Si hT hl g1 g2 g3 g4 g5 g6 g7 g8 hst h;have hXO2:=hXO (fun e a' w'=>e=.normal∧∃σ',Q .normal σ'∧A3 dfs w0 S0 c0 σ' a' w'∧∀s',o1.dst≠some s'→o2.dst≠some s'→a'.tmps[s']? =a.tmps[s']?) (fun a w h=>⟨rfl,h⟩);refine wpIn_mono (wpIn_region (Ji (Jj hn.1) (fun a w h=>by cases h.1) _ a w hXO2)) fun e a' w' hq=> ?_;obtain⟨rfl,σ',h1,h2,h3⟩:=hq;have hv:=Pn hn.2;rw[hl]at hv;exact⟨σ',h1,h2,fun s hs=>(h3 s (hv s hs o1 oS) (hv s hs o2 oS)).trans (hkf s hs)⟩
  ·split at hd
   ·rename_i l hl;rw[hl]at hk;simp only[Ax0,if_false]at hd hk;injection hd with hd;subst hd;obtain⟨σ1,h,hst⟩:=Cp _ hst h;have hr:=run_text (vs:=Ce A id++fr) hT hl (eO hk hn.2);refine wpIn_mono (wpIn_region (Aeg (P:=P) (fr:=Ce A id++fr) (t0:=a.tmps) hr (fun s hs=>AyH _ hs) (Jj hn.1) hst (fun s _=>rfl) h)) fun e a' w' hq=> ?_;exact AmT
   ·cases hd
 |.region id ops true,d,hd,hk,hn,Q,σ,a,w,hst,hkf,h=>by
  simp only[Bh]at hd;simp only[Kn]at hk;simp only[Ib,Ax3]at hn;split at hd
  ·simp at hd
  ·split at hd
   ·rename_i l hl;rw[hl]at hk;simp only[if_true,mkd,Ax3]at hd hk;injection hd with hd;subst hd;obtain⟨σ1,h,hst⟩:=Cp _ hst h;refine wpIn_mono (wpIn_region_draw (Q:=fun e a' w=>e=.normal∧∃σ,Q .normal σ∧A3 dfs w0 S0 c0 σ a' w∧Mt ((Ce A id++uF (X0 l) l)++fr) a.tmps a') fun t=> ?_) fun e a' w' hq=> ?_
    ·simp only[Region.schedule,hm,Bool.true_or,if_true];have hr:=V1 (vs:=(Ce A id++uF (X0 l) l)++fr) hT hl (eO hk.2 hn.2) hk.1 t;exact Aeg (P:=P) (ro:=ro) (n:=n) (fr:=(Ce A id++uF (X0 l) l)++fr) (t0:=a.tmps) hr (fun s hs=>AyH fr hs) (Jj hn.1) hst.drew (fun s _=>rfl) h
    ·exact AmT
   ·cases hd
 |.seq x y,d,hd,hk,hn,Q,σ,a,w,hst,hkf,h=>by
  simp only[Bh]at hd;simp only[Kn,Ax3]at hk;simp only[Ib,Ax3]at hn;split at hd
  ·rename_i x' y' hx hy;injection hd with hd;subst hd
   cases hc:cutAt A y with
   |false=>
    rw[hc]at h;refine wpIn_seq (wpIn_mono (Cv hT hm fr t0 ro n x x' hx hk.1 hn.1 _ σ a w hst hkf h) fun e a w hq=> ?_);obtain⟨σ',hq,hs',hkf'⟩:=hq
    cases e with
    |normal=>exact Cv hT hm fr t0 ro n y y' hy hk.2 hn.2 Q σ' a w hs' hkf' hq
    |_=>exact⟨σ',hq,hs',hkf'⟩
   |true=>
    rw[hc]at h;obtain⟨I,hI,h⟩:=h;refine wpIn_seq (wpIn_mono (Cv hT hm fr t0 ro n x x' hx hk.1 hn.1 _ σ a w hst hkf h) fun e a w hq=> ?_);obtain⟨σ',hq,hs',hkf'⟩:=hq
    cases e with
    |normal=>obtain⟨σ3,hw3,h3⟩:=hq;exact Cv hT hm fr t0 ro n y y' hy hk.2 hn.2 Q σ3 a w (hw3.stt hs') hkf' (hI σ3 h3)
    |_=>exact⟨σ',hq,hs',hkf'⟩
  ·cases hd
 |.cond c x y,d,hd,hk,hn,Q,σ,a,w,hst,hkf,h=>by
  simp only[Bh]at hd;simp only[Kn,Ax3]at hk;simp only[Ib,Ax3]at hn;split at hd
  ·rename_i x' y' hx hy;injection hd with hd;subst hd;simp only[Hj,Ny]at h;split at h
   ·rename_i e he;have hst':=hst;obtain⟨_,S,cc,hr,_⟩:=hst;obtain⟨cx,hrx⟩:=Ar hr c;rw[he]at hrx;have e1:=(Ay hrx).1;exact wpIn_cond_split e1 (fun ht=>Cv hT hm fr t0 ro n x x' hx hk.1 hn.1 Q σ a w hst' hkf (h.1 ht)) (fun hf=>Cv hT hm fr t0 ro n y y' hy hk.2 hn.2 Q σ a w hst' hkf (h.2 hf))
   ·exact Ad
  ·cases hd
 |.block id c,d,hd,hk,hn,Q,σ,a,w,hst,hkf,h=>by
  simp only[Bh]at hd;simp only[Kn]at hk;simp only[Ib]at hn;split at hd
  ·rename_i x' hx;injection hd with hd;subst hd;refine wpIn_block (wpIn_mono (Cv hT hm fr t0 ro n c x' hx hk hn _ σ a w hst hkf h) fun e a w hq=> ?_);exact Ati
  ·cases hd
 |.loop c,d,hd,hk,hn,Q,σ,a,w,hst,hkf,h=>by
  simp only[Bh]at hd;simp only[Kn]at hk;simp only[Ib]at hn;split at hd
  ·rename_i x' hx;injection hd with hd;subst hd;obtain⟨I,⟨n0,σ1,hw,hI⟩,hround⟩:=h
   classical
   let J:Act→World→Nat→Prop:=fun a w n=>∃σ,I n σ∧A3 dfs w0 S0 c0 σ a w∧Mt fr t0 a;refine wpIn_loop (fun a w=>∃n,J a w n) (fun a w=>if h:∃n,J a w n then Classical.choose (least h)else 0) ⟨n0,σ1,hI,hw.stt hst,hkf⟩ fun a w hJ=> ?_;obtain⟨σ',hI',hst',hkf'⟩:=(Classical.choose_spec (least hJ)).1;refine wpIn_mono (Cv hT hm fr t0 ro n c x' hx hk hn _ σ' a w hst' hkf' (hround _ σ' hI')) fun e a' w' hq=> ?_;obtain⟨σ2,hq,hs2,hkf2⟩:=hq
   cases e with
   |normal=>obtain⟨m,σ3,hm,hw3,hI3⟩:=hq;have hJ':J a' w' m:=⟨σ3,hI3,hw3.stt hs2,hkf2⟩;exact AhT
   |_=>exact⟨σ2,hq,hs2,hkf2⟩
  ·cases hd
 |.exit id,d,hd,hk,hn,Q,σ,a,w,hst,hkf,h=>by simp only[Bh]at hd;injection hd with hd;subst hd;exact wpIn_exit ⟨σ,h,hst,hkf⟩
 |.label l,d,hd,hk,hn,Q,σ,a,w,hst,hkf,h=>by simp only[Bh]at hd;injection hd with hd;subst hd;exact wpIn_label ⟨σ,h,hst,hkf⟩
 |.ret,d,hd,hk,hn,Q,σ,a,w,hst,hkf,h=>by simp only[Bh]at hd;injection hd with hd;subst hd;exact wpIn_ret ⟨σ,h,hst,hkf⟩
 |.rangeFunc ..,d,hd,hk,hn,Q,σ,a,w,hst,hkf,h=>by simp [Bh]at hd
 |.scope c,d,hd,hk,hn,Q,σ,a,w,hst,hkf,h=>by simp [Ib]at hn
 |.goto ..,d,hd,hk,hn,Q,σ,a,w,hst,hkf,h=>by simp [Bh]at hd
 |.refuse ..,d,hd,hk,hn,Q,σ,a,w,hst,hkf,h=>by simp [Bh]at hd
end
end Go.Proofs.YtmophjggmekoeaaGreatDoor
namespace Go.Proofs.YtmophjggmekoeaaGreatDoor
open Go.RowKit
variable [Env]
abbrev Gh:=Option Nat→World→(Nat→Nat)→(Nat→Nat)→Prop
structure eP (G:Gh):Prop where
 lt:∀st w S cg,G st w S cg→∀b,0<cg b→b<w.heap.size
 keep:∀st w S cg w' S' c c',G st w S cg→Stp w S c w' S' c'→(∀b,c b+cg b≤1)→Sz w S→G st w' S' cg
def noG:Gh:=fun _ _ _ cg=>Zc cg
theorem Aeh:eP noG:=⟨fun st w S cg h b hb=>by have:=h b;omega,fun st w S cg w' S' c c' h _ _ _=>h⟩
def mark (D:Nat):Deferred:={target:=.collected D,args:= #[]}
def Mks (ms:List Nat) (w:World) (cm:Nat→Nat):Prop:=ms.Nodup∧(∀D∈ms,0<cm D∧w.heap[D]? =some (.deferred (some [])))∧∀b,0<cm b→b<w.heap.size
def Hf (G:Gh) (w0:World) (S0 c0:Nat→Nat) (st:Option Nat) (σ:List AV) (a:Act) (w:World):Prop:=
 RefOk σ a.tmps.toList∧∃(ms:List Nat) (S c cg cm:Nat→Nat),Aa w S σ a.tmps.toList c∧G st w S cg∧Mks ms w cm∧(∀b,c b+cg b+cm b≤1)∧a.defers=ms.map mark∧Sz w S∧Stp w0 S0 c0 w S (fun b=>c b+cg b+cm b)
theorem Stp.frameG {w w':World} {S S' c c' c1 c2:Nat→Nat} (h:Stp w S c1 w' S' c') (hc:∀b,c b=c1 b+c2 b):Stp w S c w' S' (fun b=>c' b+c2 b):=
 ⟨h.os,h.tape,h.output,h.size,fun b hb h0=>h.keep b hb (by have:=hc b;omega),h.cell,h.le,fun b hb=>by have:=hc b;have:=h.own b hb;show c' b+c2 b≤c b;omega⟩
theorem Mks.keep {ms:List Nat} {w w':World} {S S' c c' cm:Nat→Nat} (h:Mks ms w cm) (k:Stp w S c w' S' c') (h1:∀b,c b+cm b≤1):Mks ms w' cm:=by refine⟨h.1,fun D hD=>⟨(h.2.1 D hD).1,?_⟩,fun b hb=>Aym (h.2.2 b hb) k.size⟩;obtain⟨g1,g2⟩:=h.2.1 D hD;rw[(k.keep D (h.2.2 D g1) (by have:=h1 D;omega)).1,g2]
section
variable {G : Gh} {w0 : World} {S0 c0 : Nat → Nat} {st : Option Nat} {σ : List AV} {a : Act} {w : World}
theorem Hf.open (hG:eP G) (h:Hf G w0 S0 c0 st σ a w):∃S c,A3 a.defers w S c σ a w∧∀(σ':List AV) (a':Act) (w':World),A3 a.defers w S c σ' a' w'→Hf G w0 S0 c0 st σ' a' w':=by
 obtain⟨hrf,ms,S,c,cg,cm,hr,hg,hm,h1,hd,hz,hs⟩:=h;refine⟨S,c,⟨hrf,S,c,hr,fun b=>by have:=h1 b;omega,rfl,hz,Stp.refl w S c⟩,fun σ' a' w' hst=> ?_⟩;obtain⟨hrf',S',c',hr',h1',hd',hz',hs'⟩:=hst;refine⟨hrf',ms,S',c',cg,cm,hr',hG.keep st w S cg w' S' c c' hg hs' (fun b=>by have:=h1 b;omega) hz,hm.keep hs' (fun b=>by have:=h1 b;omega),fun b=> ?_,by rw[hd',hd],hz',?_⟩
 ·rcases Axz b w.heap.size with hb|hb
  ·have:=hs'.own b hb;have:=h1 b;omega
  ·have e1:cg b=0:=by
    exact Anu
   have e2:cm b=0:=by exact AnE
   have:=h1' b;omega
 ·have:=hs.trans (hs'.frameG (c:=fun b=>c b+cg b+cm b) (c2:=fun b=>cg b+cm b) (fun b=>om));exact this.drop fun b=>by omega
theorem Wk.sttG {σ':List AV} (hG:eP G) (h:Wk σ σ') (hst:Hf G w0 S0 c0 st σ a w):Hf G w0 S0 c0 st σ' a w:=by obtain⟨S,c,h1,h2⟩:=hst.open hG;exact h2 _ _ _ (h.stt h1)
theorem Hf.evalc {c:Operand} {v:Value} (hst:Hf G w0 S0 c0 st σ a w) (he:aev σ c=.raw v):a.eval c=v:=by obtain⟨hrf,ms,S,c,cg,cm,hr,_⟩:=hst;obtain⟨cx,hrx⟩:=Ar hr _;rw[he]at hrx;exact(Ay hrx).1
end
inductive CG where
 |base (c:CC)
 |seq (x y:CG)
 |cut (x y:CG)
 |cond (c:Operand) (x y:CG)
 |block (id:Nat) (c:CG)
 |loop (c:CG)
 |scope (c:CG)
 |yreg (l1:List CO) (d:Option Nat) (f:Operand) (args:List Operand) (l2:List CO)
 |range (x:Operand) (ps:List Nat) (asg bdy:CC)
 |yreg2 (l1:List CO) (d:Option Nat) (f:Operand) (args:List Operand) (l2:List CO) (t:Nat) (want:Bool) (d':Option Nat) (f':Operand) (args':List Operand) (l3:List CO)
def YOk (P:Program) (l:Nat) (Y:Nat→List AV→Prop) (G:Gh):Prop:=
 ∀(k:Nat) (args:List AV) (w:World) (S:Nat→Nat) (vs:List Value) (c cg:Nat→Nat),Y k args→Aa w S args vs c→G (some k) w S cg→(∀b,c b+cg b≤1)→Sz w S→
  ∃fn tmps assign body,(Instr.yield l vs.toArray).run P w=.ok (.round l fn tmps assign body) w∧∀m,RoundIn (Fr none) m P l fn tmps assign body w fun e w'=>
   ∃S' cg' st',((e=.returned (.bool true)∧st'=some (k+1))∨(e=.returned (.bool false)∧st'=none))∧G st' w' S' cg'∧(∀b,cg' b≤1)∧Sz w' S'∧Stp w S (fun b=>c b+cg b) w' S' cg'
def Qj (P:Program) (g:Nat) (cs:List AV) (n:Nat) (Y:Nat→List AV→Prop):Prop:=
 Gn P g∧∀(G:Gh),eP G→∀l,YOk P l Y G→∀(w:World) (S:Nat→Nat) (vs:List Value) (c cg:Nat→Nat),Sz w S→Aa w S cs vs c→G (some 0) w S cg→(∀b,c b+cg b≤1)→
  Calls P g (.func (.yield l) #[] #[]::vs).toArray w fun e w'=>∃v st S' cg',e=.returned v∧(st=some n∨st=none)∧G st w' S' cg'∧(∀b,cg' b≤1)∧Sz w' S'∧Stp w S (fun b=>c b+cg b) w' S' cg'
def xst (Q:Exit→Option Nat→List AV→Prop) (st:Option Nat):Exit→List AV→Prop:=fun e σ=>Q e st σ
def Qk (K:Option Nat→List AV→Prop) (Q:Exit→Option Nat→List AV→Prop):Exit→Option Nat→List AV→Prop
 |.normal,st,σ=>K st σ
 |e,st,σ=>Q e st σ
def N4 (id:Nat) (Q:Exit→Option Nat→List AV→Prop):Exit→Option Nat→List AV→Prop
 |.exit id',st,σ=>if id'=id then Q .normal st σ else Q (.exit id') st σ
 |e,st,σ=>Q e st σ
def sB (Q:Exit→Option Nat→List AV→Prop):Exit→Option Nat→List AV→Prop
 |.goto _,_,_=>False
 |e,st,σ=>Q e st σ
def S4 (Y:Nat→List AV→Prop) (l:Nat) (x:AV) (args σ:List AV) (d:Option Nat) (K:Option Nat→List AV→Prop) (st:Option Nat):Prop:=
 x=.raw (.func (.yield l) #[] #[])∧∃k,st=some k∧Y k args∧K (some (k+1)) (aset σ d (.raw (.bool true)))∧K none (aset σ d (.raw (.bool false)))
def Yp:List Nat→List AV→List AV
 |[],σ=>σ
 |s::ss,σ=>Yp ss (σ.set s .any)
def pps:List Nat→List AV→List AV→List AV
 |p::ps,x::xs,σ=>pps ps xs (σ.set p x)
 |_,_,σ=>σ
def Aei (x:AV) (g:Nat) (cs:List AV):Prop:=x=.clo g cs∨(x=.raw (.func (.func g) #[] #[])∧cs=[])
def Aej (asl:List Nat) (L:Nat) (K:List AV→Prop) (Q:Exit→List AV→Prop):Exit→List AV→Prop
 |.normal,σ=>σ.length=L∧K (Yp asl σ)
 |.ret,σ=>σ.length=L∧Q .ret (Yp asl σ)
 |.exit id,σ=>σ.length=L∧Q (.exit id) (Yp asl σ)
 |_,_=>False
def AkQ (K:List AV→Prop):Exit→List AV→Prop
 |.normal,σ=>K σ
 |_,_=>False
def kyG (x:AV) (want:Bool) (A B:List AV→Prop) (σ:List AV):Prop:=match x with
 |.raw (.bool e)=>bif e==want then A σ else B σ
 |_=>False
def kyT (Y:Nat→List AV→Prop) (l:Nat) (P:Program) (T:Bd) (d:Option Nat) (f:Operand) (args:List Operand) (l3:List CO) (Q:Exit→Option Nat→List AV→Prop) (st:Option Nat) (σ:List AV):Prop:=
 S4 Y l (aev σ f) (agrab σ args).1 (agrab σ args).2 d (fun st' σ2=>El P T (Q .normal st') l3 σ2) st
def kyS (P:Program) (T:Bd) (d:Option Nat) (l3:List CO) (Q:Exit→Option Nat→List AV→Prop) (st:Option Nat) (σ:List AV):Prop:=El P T (Q .normal st) l3 (aset σ d (.tup []))
def kyB (Y:Nat→List AV→Prop) (l:Nat) (P:Program) (T:Bd) (t:Nat) (want:Bool) (d:Option Nat) (f:Operand) (args:List Operand) (l3:List CO) (Q:Exit→Option Nat→List AV→Prop) (st:Option Nat) (σ:List AV):Prop:=
 kyG (σ.getD t .any) want (kyT Y l P T d f args l3 Q st) (kyS P T d l3 Q st) σ
def Ew (P:Program) (T:Bd) (Y:Nat→List AV→Prop) (l:Nat) (nt:Nat) (asl:List Nat):CG→(Exit→Option Nat→List AV→Prop)→Option Nat→List AV→Prop
 |.base c,Q,st,σ=>Hj P T c (xst Q st) σ
 |.seq x y,Q,st,σ=>Ew P T Y l nt asl x (Qk (Ew P T Y l nt asl y Q) Q) st σ
 |.cut x y,Q,st,σ=>∃I:Option Nat→List AV→Prop,(∀st1 σ1,I st1 σ1→Ew P T Y l nt asl y Q st1 σ1)∧Ew P T Y l nt asl x (Qk (fun st2 σ2=>∃σ3,Wk σ2 σ3∧I st2 σ3) Q) st σ
 |.cond c x y,Q,st,σ=>Ny (aev σ c) (Ew P T Y l nt asl x Q st σ) (Ew P T Y l nt asl y Q st σ)
 |.block id c,Q,st,σ=>Ew P T Y l nt asl c (N4 id Q) st σ
 |.scope c,Q,st,σ=>Ew P T Y l nt asl c (sB Q) st σ
 |.loop c,Q,st,σ=>∃I:Nat→Option Nat→List AV→Prop,(∃n σ1,Wk σ σ1∧I n st σ1)∧∀n st σ1,I n st σ1→Ew P T Y l nt asl c (Qk (fun st2 σ2=>∃m σ3,m<n∧Wk σ2 σ3∧I m st2 σ3) Q) st σ1
 |.yreg l1 d f args l2,Q,st,σ=>El P T (fun σ1=>S4 Y l (aev σ1 f) (agrab σ1 args).1 (agrab σ1 args).2 d (fun st' σ2=>El P T (Q .normal st') l2 σ2) st) l1 σ
 |.yreg2 l1 d f args l2 t want d' f' args' l3,Q,st,σ=>El P T (fun σ1=>S4 Y l (aev σ1 f) (agrab σ1 args).1 (agrab σ1 args).2 d (fun st' σ2=>El P T (kyB Y l P T t want d' f' args' l3 Q st') l2 σ2) st) l1 σ
 |.range x ps asg bdy,Q,st,σ=>∃g cs n Y',σ.length≤nt∧Aei (aev σ x) g cs∧Qj P g cs n Y'∧∃I:Nat→List AV→Prop,(∃σ1,Wk σ σ1∧I 0 σ1)∧
  (∀k args σ1,Y' k args→I k σ1→args.length=ps.length∧args.all pb=true∧Hj P T asg (AkQ (Hj P T bdy (Aej asl σ.length (fun σ3=>∃σ4,Wk σ3 σ4∧I (k+1) σ4) (xst Q st)))) (pps ps args σ1))∧∀σ1,I n σ1→Q .normal st σ1
def sC:List (Nat×Nat)→Nat→Option Nat
 |[],_=>none
 |(k,p)::r,id=>if k=id then some p else sC r id
def sD (ops:Array Oper) (p:Nat):Option CG:=
 match ops.toList[p]? with
 |some o=>match o.op,o.guard with
  |.call c,none=>match c.callee,B2 ops (ops.toList.take p),B2 ops (ops.toList.drop (p+1))with
   |.value f,some l1,some l2=>some (.yreg l1 o.dst f c.args.toList l2)
   |_,_,_=>none
  |_,_=>none
 |none=>none
def Yq (ops:Array Oper) (p q:Nat):Option CG:=
 match ops.toList[p]?,ops.toList[q]? with
 |some o,some o'=>match o.op,o.guard,o'.op,o'.guard with
  |.call c,none,.call c',some (j,want)=>match c.callee,c'.callee,C9 ops j,B2 ops (ops.toList.take p),B2 ops ((ops.toList.drop (p+1)).take (q-(p+1))),B2 ops (ops.toList.drop (q+1))with
   |.value f,.value f',some t,some l1,some l2,some l3=>if p<q then some (.yreg2 l1 o.dst f c.args.toList l2 t want o'.dst f' c'.args.toList l3)else none
   |_,_,_,_,_,_=>none
  |_,_,_,_=>none
 |_,_=>none
def Aek:Bool→CG→CG→CG
 |true,x,y=>.cut x y
 |false,x,y=>.seq x y
def Dc (A:L2) (yr:List (Nat×Nat)):Code→Option CG
 |.region id ops dr=>match sC yr id with
  |some p=>if dr then none else if p<1000 then sD ops p else Yq ops (p % 1000) (p / 1000)
  |none=>(Bh A (.region id ops dr)).map .base
 |.seq a b=>match Dc A yr a,Dc A yr b with
  |some x,some y=>some (Aek (cutAt A b) x y)
  |_,_=>none
 |.cond c a b=>match Dc A yr a,Dc A yr b with
  |some x,some y=>some (.cond c x y)
  |_,_=>none
 |.block id c=>(Dc A yr c).map (.block id)
 |.loop c=>(Dc A yr c).map .loop
 |.scope c=>(Dc A yr c).map .scope
 |.rangeFunc g ps asg bdy=>match Bh A asg,Bh A bdy with
  |some x,some y=>some (.range g ps.toList x y)
  |_,_=>none
 |.skip=>some (.base .skip)
 |.label _=>some (.base .skip)
 |.exit id=>some (.base (.exit id))
 |.ret=>some (.base .ret)
 |_=>none
def frs (nt:Nat) (asl:List Nat):List Nat:=(List.range nt).filter fun s=> !asl.contains s
def Yr (A:L2) (yr:List (Nat×Nat)) (nt:Nat) (asl:List Nat):Code→Bool
 |.region id ops dr=>match sC yr id with
  |some p=>ops.toList.all fun o=>Aef o.op
  |none=>Kn A (.region id ops dr)&&Ib [] (.region id ops dr)
 |.seq a b=>Yr A yr nt asl a&&Yr A yr nt asl b
 |.cond _ a b=>Yr A yr nt asl a&&Yr A yr nt asl b
 |.block _ c=>Yr A yr nt asl c
 |.loop c=>Yr A yr nt asl c
 |.scope c=>Yr A yr nt asl c
 |.rangeFunc g ps asg bdy=>ps.toList.all (fun p=>asl.contains p)&&(Kn A asg&&Ib (frs nt asl) asg)&&(Kn A bdy&&Ib (frs nt asl) bdy)
 |_=>true
section
variable {P : Program} {n : Nat} {ro : Option Nat}
theorem eQ {o:Oper} {a:Act} {n1 n2:Act→World→Prop} {Q1 Q2:Exit→Act→World→Prop} (hn:∀a w,n1 a w→n2 a w) (hQ:∀e a w,e≠Exit.normal→Q1 e a w→Q2 e a w) {r:Result Next} (h:o.uponIn (Fr ro) n P a n1 Q1 r):o.uponIn (Fr ro) n P a n2 Q2 r:=by
 cases r with
 |ok x w'=>
  cases x with
  |value v=>exact hn _ _ h
  |skip=>exact hn _ _ h
  |defer d=>exact hn _ _ h
  |enter f args=>rw[Oper.uponIn_enter]at h⊢;refine⟨h.1,L5.2 ((L5.1 h.2).mono fun e w'' he=> ?_)⟩;exact Am3
  |row r args=>rw[Oper.uponIn_row]at h⊢;exact⟨h.1,h.2.mono fun v w'' hv=>hn _ _ hv⟩
  |round l f tmps asg bdy=>rw[Oper.uponIn_round]at h⊢;refine⟨h.1,h.2.mono fun e w'' he=> ?_⟩;exact Am3
  |_=>exact h.elim
 |halt h' w'=>
  cases h' with
  |panic v=>exact hQ _ _ _ oS h
  |_=>exact h.elim
theorem Dz {ops:Array Oper} {Q:Exit→Act→World→Prop} (l2:List Nat):∀(l1:List Nat) (a:Act) (w:World),wpOpsIn (Fr ro) n P ops (fun e a w=>e=.normal∧wpOpsIn (Fr ro) n P ops Q l2 a w) l1 a w→wpOpsIn (Fr ro) n P ops Q (l1++l2) a w
 |[],a,w,h=>h.2
 |i::l1,a,w,h=>by
  simp only[wpOpsIn,Ax4]at h⊢
  cases ho:ops[i]? with
  |none=>simp only[ho]at h;exact Dz l2 l1 a w h
  |some o=>
   simp only[ho]at h;simp only[];split
   ·rename_i hw;rw[if_pos hw]at h;exact⟨h.1,eQ (fun a w h=>Dz l2 l1 a w h) (fun e a w hne h=>absurd h.1 hne) h.2⟩
   ·rename_i hw;rw[if_neg hw]at h;exact⟨h.1,Dz l2 l1 _ w h.2⟩
end
end Go.Proofs.YtmophjggmekoeaaGreatDoor
namespace Go.Proofs.YtmophjggmekoeaaGreatDoor
open Go.RowKit
variable [Env]
theorem nM {P:Program} {n:Nat} {c:Code} {Q:Exit→Act→World→Prop} {a:Act} {w:World} (h:c.wpIn (Fr none) n P (Exit.noGoto Q) a w):(Code.scope c).wpIn (Fr none) n P Q a w:=by
 intro b k cs hro hb hr;have hb0:b.roundOf=none:=hro;obtain⟨e,a₁,w₁,hq,harr⟩:=h b (.inScope c::k) cs hro hb hr;have h0:(lone (b.atR a (.code (.scope c)::k)) cs w).fenced P (Fr none):=fenced_calm hb hr rfl;have s0:StepsIn (Machine.fenced P (Fr none)) P (lone (b.atR a (.code (.scope c)::k)) cs w) (lone (b.atR a (.code c:: .inScope c::k)) cs w):=by refine .one h0 ?_;rw[Frame.atR_of_none hb0,Frame.atR_of_none hb0];exact step_scope
 cases e with
 |normal=>refine⟨.normal,a₁,w₁,hq,s0.trans (StepsIn.trans harr ?_)⟩;refine .one (fenced_calm hb hr rfl) ?_;rw[Frame.atR_of_none hb0,Frame.atR_of_none hb0];exact step_inScope
 |exit id=>exact⟨.exit id,a₁,w₁,hq,fun k' hk=>s0.trans (harr.1 k' (by simp [exitTo,hk])),fun hr'=>by rw[hb0]at hr';cases hr'⟩
 |goto l=>exact hq.elim
 |ret=>exact⟨_,a₁,w₁,hq,.of_steps s0 harr⟩
 |panic ch=>exact⟨_,a₁,w₁,hq,.of_steps s0 harr⟩
 |outgrown=>exact⟨_,a₁,w₁,hq,.of_steps s0 harr⟩
section
variable {P : Program} {T : Bd} {w0 : World} {S0 c0 : Nat → Nat} {G : Gh} {Y : Nat → List AV → Prop} {l : Nat} {A : L2} {yr : List (Nat × Nat)} {nt : Nat} {asl : List Nat} {n : Nat} {ro : Option Nat}
def Mu (G:Gh) (w0:World) (S0 c0:Nat→Nat) (Q:Exit→Option Nat→List AV→Prop):Exit→Act→World→Prop:=fun e a w=>∃st σ,Q e st σ∧Hf G w0 S0 c0 st σ a w
theorem nN (hT:Am P T) (hm:P.follows .mixedOrders=true) (hG:eP G) {c:Code} {d:CC} (hd:Bh A c=some d) (hk:Kn A c=true) (hn:Ib [] c=true) {Q:Exit→Option Nat→List AV→Prop} {st:Option Nat} {σ:List AV} {a:Act} {w:World}
 (hst:Hf G w0 S0 c0 st σ a w) (h:Hj P T d (xst Q st) σ):c.wpIn (Fr ro) n P (Mu G w0 S0 c0 Q) a w:=by
 obtain⟨S,cc,h1,h2⟩:=hst.open hG;refine wpIn_mono (Cv (dfs:=a.defers) (w0:=w) (S0:=S) (c0:=cc) hT hm [] a.tmps ro n c d hd hk hn _ σ a w h1 (by simp [Mt]) h) fun e a' w' hq=> ?_;obtain⟨σ',hq,hs,_⟩:=hq;exact⟨st,σ',hq,h2 _ _ _ hs⟩
theorem Jk (hT:Am P T) (hG:eP G) {ops:Array Oper} (hnd:∀o∈ops.toList,∀c,o.op≠ .defer c) {l1:List Nat} {os:List Oper} {cs:List CO} (hl:l1.map (ops[·]?)=os.map some) (hcs:B2 ops os=some cs) {K:List AV→Prop} {st:Option Nat} {σ:List AV} {a:Act} {w:World}
 (hst:Hf G w0 S0 c0 st σ a w) (h:El P T K cs σ) {R:Act→World→Prop} (hR:∀σ' a' w',Hf G w0 S0 c0 st σ' a' w'→K σ'→R a' w'):wpOpsIn (Fr ro) n P ops (fun e a w=>e=.normal∧R a w) l1 a w:=by
 obtain⟨S,cc,h1,h2⟩:=hst.open hG;rw[←Xy K _ _ hcs]at h;refine Ji hnd (fun a w h=>by cases h.1) l1 a w ?_;exact Ga (fr:=[]) hT l1 os σ a w hl oS h1 h fun σ' a' w' g1 g2 g3=>⟨rfl,hR σ' a' w' (h2 _ _ _ g1) g2⟩
theorem Hf.put {st:Option Nat} {σ:List AV} {a:Act} {w:World} (hst:Hf G w0 S0 c0 st σ a w) (d:Option Nat) {v:Value} (hv:v.oneCell'=true):Hf G w0 S0 c0 st (aset σ d (.raw v)) (a.put d v) w:=by
 obtain⟨hrf,ms,S,c,cg,cm,hr,hg,hm,h1,hd,hz,hs⟩:=hst;obtain⟨c',hr',hle⟩:=hr.aset (C2 (w:=w) (S:=S) hv Al) d;refine⟨hrf.aset d v rfl,ms,S,c',cg,cm,hr',hg,hm,fun b=> ?_,by rw[put_defers];exact hd,hz,hs.drop fun b=> ?_⟩
 ·have:=hle b;have:=h1 b;omega
 ·have:=hle b;omega
theorem K5 (hG:eP G) (hY:YOk P l Y G) {o:Oper} {c:Call} {f:Operand} (ho:o.op=.call c) (hc:c.callee=.value f) {st:Option Nat} {σ:List AV} {a:Act} {w:World} {K:Option Nat→List AV→Prop}
 (hst:Hf G w0 S0 c0 st σ a w) (h:S4 Y l (aev σ f) (agrab σ c.args.toList).1 (agrab σ c.args.toList).2 o.dst K st) {next:Act→World→Prop} {Q:Exit→Act→World→Prop}
 (hn:∀st' σ' a' w',K st' σ'→Hf G w0 S0 c0 st' σ' a' w'→next a' w'):o.wpIn (Fr none) n P a w next Q:=by
 obtain⟨hf,k,rfl,hYk,hK1,hK2⟩:=h;have hev:=hst.evalc hf;obtain⟨hrf,ms,S,cc,cg,cm,hr,hg,hm,h1,hd,hz,hs⟩:=hst;obtain⟨c1,c2,hv,hr2,hcc⟩:=Nm c.args.toList hr;obtain⟨fn,tmps,assign,body,hrun,hround⟩:=hY k _ w S _ c1 cg hYk hv hg (fun b=>by have:=h1 b;have:=hcc b;omega) hz;refine⟨fun _ _=>trivial,?_⟩;rw[Oper.semAt_none];have hargs:(c.args.toList.map a.eval).toArray=c.args.map a.eval:=by apply Array.ext';simp
 rw[hargs]at hrun;have hexec:(execOp a.eval o).run P w=.ok (.round l fn tmps assign body) w:=by unfold execOp;simp [ho,resolve,hc,hev,Deferred.ofValue,invoke,hrun]
 rw[hexec,Oper.uponIn_round];refine⟨fun hd=>by simp at hd,(hround _).mono fun e w' he=> ?_⟩;obtain⟨S',cg',st',hcase,hg',hg1,hz',hstp⟩:=he;have hr3:=hr2.step hstp (fun b=>by have:=h1 b;have:=hcc b;show c2 b+(c1 b+cg b)≤1;omega);have hm':Mks ms w' cm:=hm.keep hstp (fun b=>by have:=h1 b;have:=hcc b;show c1 b+cg b+cm b≤1;omega)
 have hst':Hf G w0 S0 c0 st' (agrab σ c.args.toList).2 a w':=by
  refine⟨hrf.agrab _,ms,S',c2,cg',cm,hr3,hg',hm',fun b=> ?_,hd,hz',?_⟩
  ·rcases Axz b w.heap.size with hb|hb
   ·have:=hstp.own b hb;have:=h1 b;have:=hcc b;have:cg' b≤c1 b+cg b:=hstp.own b hb;omega
   ·have e1:c2 b=0:=by
     exact Aa9
    have e2:cm b=0:=by exact AnE
    have:=hg1 b;omega
  ·have:=hs.trans (hstp.frameG (c:=fun b=>cc b+cg b+cm b) (c2:=fun b=>c2 b+cm b) (fun b=>by have:=hcc b;show cc b+cg b+cm b=c1 b+cg b+(c2 b+cm b);omega));exact this.drop fun b=>by show c2 b+cg' b+cm b≤cg' b+(c2 b+cm b);omega
 rcases hcase with⟨rfl,rfl⟩|⟨rfl,rfl⟩
 ·exact hn _ _ _ _ hK1 (hst'.put o.dst rfl)
 ·exact hn _ _ _ _ hK2 (hst'.put o.dst rfl)
theorem N5 {ops:Array Oper} {p:Nat} (hp:p<ops.size):(List.range p).map (ops[·]?)=(ops.toList.take p).map some:=by
 apply Ayw;intro i;rw[List.getElem?_map,List.getElem?_map,List.getElem?_take];by_cases hi:i<p
 ·rw [if_pos hi,List.getElem?_range hi];have:i<ops.size:=om;simp [this]
 ·rw [if_neg hi,List.getElem?_eq_none (by simp;omega)];rfl
theorem N6 {ops:Array Oper} {p:Nat} (hp:p<ops.size):(List.range' (p+1) (ops.size-(p+1))).map (ops[·]?)=(ops.toList.drop (p+1)).map some:=by
 apply Ayw;intro i;rw[List.getElem?_map,List.getElem?_map,List.getElem?_drop];by_cases hi:i<ops.size-(p+1)
 ·rw [List.getElem?_range' hi];have:p+1+i<ops.size:=om;simp [this]
 ·rw [List.getElem?_eq_none (by simp;omega),List.getElem?_eq_none (by simp;omega)];rfl
theorem Wc {m p:Nat} (hp:p<m):List.range m=List.range p++(p::List.range' (p+1) (m-(p+1))):=by
 have h1:List.range m=List.range' 0 p++List.range' (0+p) (m-p):=by rw[List.range_eq_range',List.range'_append_1];congr 1;omega
 rw[h1,←List.range_eq_range'];congr 1;have:m-p=(m-(p+1))+1:=om;rw[this,List.range'_succ,Ayc]
theorem nO (hT:Am P T) (hG:eP G) (hY:YOk P l Y G) {id:Nat} {ops:Array Oper} {p:Nat} {cg:CG} (hcg:sD ops p=some cg) (hnd:(ops.toList.all fun o=>Aef o.op)=true) {Q:Exit→Option Nat→List AV→Prop} {st:Option Nat} {σ:List AV} {a:Act} {w:World}
 (hst:Hf G w0 S0 c0 st σ a w) (h:Ew P T Y l nt asl cg Q st σ):(Code.region id ops false).wpIn (Fr none) n P (Mu G w0 S0 c0 Q) a w:=by
 unfold sD at hcg;split at hcg
 ·rename_i o ho;split at hcg
  ·rename_i c hop hgd;split at hcg
   ·rename_i f l1 l2 hcal h1 h2;injection hcg with hcg;subst hcg;simp only[Ew]at h;have ho':ops[p]? =some o:=by simpa using ho
    have hp:p<ops.size:=(Array.getElem?_eq_some_iff.1 ho').1;have hd:=Jj hnd;refine wpIn_region ?_;rw[Wc hp];refine Dz _ _ _ _ ?_;refine Jk hT hG hd (N5 hp) h1 hst h fun σ1 a1 w1 hs1 hy=> ?_;have hw:Region.wanted o (yielded ops a1.tmps)=true:=by simp [Region.wanted,hgd]
    simp only[wpOpsIn,ho',hw,if_true];refine K5 hG hY hop hcal hs1 hy fun st' σ' a' w' hK hs'=> ?_;have:=Jk (ro:=none) (n:=n) hT hG hd (N6 hp) h2 hs' hK (R:=Mu G w0 S0 c0 Q .normal) fun σ2 a2 w2 hs2 hq=>⟨st',σ2,hq,hs2⟩;have h3:=Dz (ro:=none) (n:=n) (P:=P) (ops:=ops) (Q:=Mu G w0 S0 c0 Q) [] _ a' w' this;rw[AxF]at h3;exact h3
   ·cases hcg
  ·cases hcg
 ·cases hcg
theorem eR {ops:Array Oper} {p q:Nat} (hpq:p<q) (hq:q<ops.size):(List.range' (p+1) (q-(p+1))).map (ops[·]?)=((ops.toList.drop (p+1)).take (q-(p+1))).map some:=by
 apply Ayw;intro i;rw[List.getElem?_map,List.getElem?_map,List.getElem?_take];by_cases hi:i<q-(p+1)
 ·rw [List.getElem?_range' hi,if_pos hi,List.getElem?_drop];have:p+1+i<ops.size:=om;simp [this]
 ·rw [List.getElem?_eq_none (by simp;omega),if_neg hi];rfl
theorem nP {m p q:Nat} (hpq:p<q) (hq:q<m):List.range m=List.range p++(p::(List.range' (p+1) (q-(p+1))++(q::List.range' (q+1) (m-(q+1))))):=by
 rw[Wc (show p<m by omega)];have h1:List.range' (p+1) (m-(p+1))=List.range' (p+1) (q-(p+1))++List.range' (p+1+(q-(p+1))) (m-q):=by rw[List.range'_append_1];congr 1;omega
 have h2:p+1+(q-(p+1))=q:=om;have h3:m-q=(m-(q+1))+1:=om;rw[h1,h2,h3,List.range'_succ]
theorem eS (hT:Am P T) (hG:eP G) (hY:YOk P l Y G) {id:Nat} {ops:Array Oper} {p q:Nat} {cg:CG} (hcg:Yq ops p q=some cg) (hnd:(ops.toList.all fun o=>Aef o.op)=true) {Q:Exit→Option Nat→List AV→Prop} {st:Option Nat} {σ:List AV} {a:Act} {w:World}
 (hst:Hf G w0 S0 c0 st σ a w) (h:Ew P T Y l nt asl cg Q st σ):(Code.region id ops false).wpIn (Fr none) n P (Mu G w0 S0 c0 Q) a w:=by
 unfold Yq at hcg;split at hcg
 ·rename_i o o' ho ho2;split at hcg
  ·rename_i c c' j want hop hgd hop2 hgd2;split at hcg
   ·rename_i f f' t l1 l2 l3 hcal hcal2 hgs h1 h2 h3;by_cases hpq:p<q
    case neg=>rw[if_neg hpq]at hcg;cases hcg
    rw[if_pos hpq]at hcg;injection hcg with hcg;subst hcg;simp only[Ew]at h;have ho':ops[p]? =some o:=by simpa using ho
    have ho2':ops[q]? =some o':=by simpa using ho2
    have hq:q<ops.size:=(Array.getElem?_eq_some_iff.1 ho2').1;have hp:p<ops.size:=om;have hd:=Jj hnd;refine wpIn_region ?_;rw[nP hpq hq];refine Dz _ _ _ _ ?_;refine Jk hT hG hd (N5 hp) h1 hst h fun σ1 a1 w1 hs1 hy=> ?_;have hw:Region.wanted o (yielded ops a1.tmps)=true:=by simp [Region.wanted,hgd]
    simp only[wpOpsIn,ho',hw,if_true];refine K5 hG hY hop hcal hs1 hy fun st' σ' a' w' hK hs'=> ?_;refine Dz _ _ _ _ ?_;refine Jk hT hG hd (eR hpq hq) h2 hs' hK fun σ2 a2 w2 hs2 hB=> ?_;have fin:∀st3 σ3 a3 w3,El P T (Q .normal st3) l3 σ3→Hf G w0 S0 c0 st3 σ3 a3 w3→wpOpsIn (Fr none) n P ops (Mu G w0 S0 c0 Q) (List.range' (q+1) (ops.size-(q+1))) a3 w3:=fun st3 σ3 a3 w3 hc3 hs3=>by have:=Jk (ro:=none) (n:=n) hT hG hd (N6 hq) h3 hs3 hc3 (R:=Mu G w0 S0 c0 Q .normal) fun σ4 a4 w4 hs4 hq4=>⟨st3,σ4,hq4,hs4⟩;have h4:=Dz (ro:=none) (n:=n) (P:=P) (ops:=ops) (Q:=Mu G w0 S0 c0 Q) [] _ a3 w3 this;rw[AxF]at h4;exact h4
    unfold kyB kyG at hB;split at hB
    ·rename_i e he
     have hyl:yielded ops a2.tmps j=some e:=by
      obtain⟨S,cc,hs0,_⟩:=hs2.open hG;obtain⟨_,S,c4,hr,_⟩:=hs0;obtain⟨v,c1,c2,hv,hy,h5,hc⟩:=hr.take t (A4 hr he oS);have e1:v=.bool e:=by cases hy with|raw h1 h=>rfl
      unfold yielded;unfold C9 at hgs;rw[hgs];exact AaI
     have hwant:Region.wanted o' (yielded ops a2.tmps)=(e==want):=by simp [Region.wanted,hgd2,hyl]
     simp only[wpOpsIn,ho2',hwant]
     cases hew:(e==want)with
     |true=>rw[hew]at hB;simp only[cond_true]at hB;simp only[if_true];exact K5 hG hY hop2 hcal2 hs2 hB fun st3 σ3 a3 w3 hK3 hs3=>fin st3 σ3 a3 w3 hK3 hs3
     |false=>rw[hew]at hB;simp only[cond_false]at hB;simp only[Ax0,if_false];refine⟨fun _ _=>trivial,?_⟩;obtain⟨S,cc,hs0,hback⟩:=hs2.open hG;exact fin _ _ _ _ hB (hback _ _ _ (Ja hs0 o'.dst))
    ·exact hB.elim
   ·cases hcg
  ·cases hcg
 ·cases hcg
end
end Go.Proofs.YtmophjggmekoeaaGreatDoor
