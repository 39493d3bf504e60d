/- Code, loops, functions. -/
import Derived.Scope
import Derived.Test.YtmophjggmekoeaaGreatDoorC10
set_option linter.all false
namespace Go.Proofs.YtmophjggmekoeaaGreatDoor
open Go.RowKit
variable [Env]
variable {dfs : List Deferred}
def W1 (x y:AV):Prop:=∀(w:World) (S:Nat→Nat) (v:Value) (c:Nat→Nat),Aa w S [x] [v] c→∃c',Aa w S [y] [v] c'∧∀b,c' b≤c b
inductive Wk:List AV→List AV→Prop
 |nil:Wk [] []
 |same {x xs ys} (h:Wk xs ys):Wk (x::xs) (x::ys)
 |cons {x y xs ys} (h1:W1 x y) (hp:pb y=true) (h:Wk xs ys):Wk (x::xs) (y::ys)
 |box {T cs ds xs ys} (h1:W1 (.box T cs) (.box T ds)) (h:Wk xs ys):Wk (.box T cs::xs) (.box T ds::ys)
theorem W1.refl (x:AV):W1 x x:=fun _ _ _ c h=>⟨c,h,fun _=>Axu _⟩
theorem W1.any (x:AV):W1 x .any:=fun _ _ _ c h=>⟨_,.any (.nil Al),fun _=>AxM _⟩
theorem W1.nilown (e k:Nat):W1 .nil (.own e k []):=fun _ _ _ c h=>by cases h with|nilS h=>exact⟨_,.ownE (.nil Al),fun _=>AxM _⟩
theorem W1.nilmine (e k:Nat):W1 .nil (.mine e k []):=fun _ _ _ c h=>by cases h with|nilS h=>exact⟨_,.mineE (.nil Al),fun _=>AxM _⟩
theorem W1.view (x:AV):W1 x (view x):=fun _ _ _ c h=>⟨_,h.view,fun _=>AxM _⟩
theorem W1.ownsl (e k:Nat) (es:List AV):W1 (.own e k es) (.sl k es):=W1.view _
theorem W1.nilsl (k:Nat):W1 .nil (.sl k []):=fun _ _ _ c h=>by cases h with|nilS h=>exact⟨_,.slE oD (.nil Al),fun _=>AxM _⟩
theorem Wk.refl:∀(xs:List AV),Wk xs xs
 |[]=>.nil
 |x::xs=>.same (Wk.refl xs)
theorem Wk.rep {w:World} {S:Nat→Nat} {xs ys:List AV} (h:Wk xs ys):∀{vs:List Value} {c:Nat→Nat},Aa w S xs vs c→∃c',Aa w S ys vs c'∧∀b,c' b≤c b:=by
 induction h with
 |nil=>intro vs c h;exact⟨c,h,fun _=>Axu _⟩
 |same h ih=>intro vs c hr;obtain⟨v,us,d1,d2,rfl,h2,h3,hd⟩:=hr.uncons;obtain⟨e2,g2,hle2⟩:=ih h3;exact⟨_,Aa.cons h2 g2 (fun b=>rfl),fun b=>by rw[hd];have:=hle2 b;omega⟩
 |cons h1 hp h ih=>intro vs c hr;obtain⟨v,us,d1,d2,rfl,h2,h3,hd⟩:=hr.uncons;obtain⟨e1,g1,hle1⟩:=h1 w S v d1 h2;obtain⟨e2,g2,hle2⟩:=ih h3;exact⟨_,Aa.cons g1 g2 (fun b=>rfl),fun b=>by rw[hd];have:=hle1 b;have:=hle2 b;omega⟩
 |box h1 h ih=>intro vs c hr;obtain⟨v,us,d1,d2,rfl,h2,h3,hd⟩:=hr.uncons;obtain⟨e1,g1,hle1⟩:=h1 w S v d1 h2;obtain⟨e2,g2,hle2⟩:=ih h3;exact⟨_,Aa.cons g1 g2 (fun b=>rfl),fun b=>by rw[hd];have:=hle1 b;have:=hle2 b;omega⟩
def Jd:AV→Bool
 |.box _ _=>true
 |_=>false
theorem Wk.at_box {xs ys:List AV} (h:Wk xs ys):∀(i:Nat) {T:Nat} {cs:List AV},ys[i]? =some (.box T cs)→∃cs',xs[i]? =some (.box T cs'):=by
 induction h with
 |nil=>intro i T cs hy;simp at hy
 |same h ih=>
  intro i T cs hy
  cases i with
  |zero=>exact⟨cs,hy⟩
  |succ i=>exact ih i (by simpa using hy)
 |cons h1 hp h ih=>
  intro i T cs hy
  cases i with
  |zero=>simp at hy;subst hy;simp [pb]at hp
  |succ i=>exact ih i (by simpa using hy)
 |box h1 h ih=>
  intro i T cs hy
  cases i with
  |zero=>simp at hy;obtain⟨rfl,rfl⟩:=hy;exact⟨_,rfl⟩
  |succ i=>exact ih i (by simpa using hy)
theorem Wk.at_ {xs ys:List AV} (h:Wk xs ys):∀(i:Nat) {y:AV},ys[i]? =some y→pb y=false→Jd y=false→xs[i]? =some y:=by
 induction h with
 |nil=>intro i y hy;simp at hy
 |same h ih=>
  intro i y hy hp hb
  cases i with
  |zero=>exact hy
  |succ i=>exact ih i (by simpa using hy) hp hb
 |cons h1 hp h ih=>
  intro i y hy hp' hb
  cases i with
  |zero=>simp at hy;subst hy;rw[hp]at hp';cases hp'
  |succ i=>exact ih i (by simpa using hy) hp' hb
 |box h1 h ih=>
  intro i y hy hp' hb
  cases i with
  |zero=>simp at hy;subst hy;simp [Jd]at hb
  |succ i=>exact ih i (by simpa using hy) hp' hb
theorem Wk.stt {w0 S0 c0 a w} {σ σ':List AV} (h:Wk σ σ') (hst:A3 dfs w0 S0 c0 σ a w):A3 dfs w0 S0 c0 σ' a w:=by obtain⟨hrf,S,c,hr,h1,hd,hz,hs⟩:=hst;obtain⟨c',hr',hle⟩:=h.rep hr;exact⟨⟨fun i s off T cs hi hs=>by obtain⟨cs',hs'⟩:=h.at_box s hs;exact hrf.ref i s off T cs' (h.at_ i hi rfl rfl) hs',fun i s e k es hi hs=>hrf.al i s e k es (h.at_ i hi rfl rfl) (h.at_ s hs rfl rfl),fun i s k j o e k' es hi hs=>hrf.pr i s k j o e k' es (h.at_ i hi rfl rfl) (h.at_ s hs rfl rfl)⟩,S,c',hr',fun b=>Ax1 (hle b) (h1 b),hd,hz,hs.drop hle⟩
theorem least {p:Nat→Prop} (h:∃n,p n):∃n,p n∧∀m,p m→n≤m:=by
 obtain⟨n,hn⟩:=h
 induction n using Nat.strongRecOn with
 |_ n ih=>
  by_cases hm:∃m,m<n∧p m
  ·obtain ⟨m,hm,hp⟩:=hm;exact ih m hm hp
  ·exact ⟨n,hn,fun m hp=>by
    rcases Axz m n with h|h
    ·exact absurd ⟨m,h,hp⟩ hm
    ·exact h⟩
def Xz (K:List AV→Prop) (Q:Exit→List AV→Prop):Exit→List AV→Prop
 |.normal,σ=>K σ
 |e,σ=>Q e σ
def uE (id:Nat) (Q:Exit→List AV→Prop):Exit→List AV→Prop
 |.exit id',σ=>if id'=id then Q .normal σ else Q (.exit id') σ
 |e,σ=>Q e σ
def AvF (Q:Exit→List AV→Prop):Exit→List AV→Prop
 |.goto _,σ=>False
 |e,σ=>Q e σ
inductive CC where
 |skip
 |ops (ts vs:List Nat) (l:List CO)
 |dops (ts vs rb bm:List Nat) (l:List (CO×List Nat))
 |seq (a b:CC)
 |cut (a b:CC)
 |cond (c:Operand) (x y:CC)
 |block (id:Nat) (c:CC)
 |loop (c:CC)
 |exit (id:Nat)
 |ret
 |scope (c:CC)
 |lend (t s d g:Nat) (rest:List Operand) (dst:Option Nat)
abbrev L2:=List (Nat×List Nat×List Nat)
def Ce:L2→Nat→List Nat
 |[],_=>[]
 |(k,_,vs)::r,id=>if k=id then vs else Ce r id
def Eb:L2→Nat→List Nat
 |[],_=>[]
 |(k,ts,_)::r,id=>if k=id then ts else Eb r id
def Aiz (c:CO):List Nat:=kH c.op++(match c.gd with
 |some (t,_)=>[t]
 |none=>[])
def dC (c:CO):List Nat:=match c.op with
 |.store _ (.tmp s) _=>[s]
 |_=>[]
def Ab1 (c:CO):List Nat:=match c.op with
 |.fieldAddr _ (.tmp s) _=>[s]
 |.indexAddr _ (.tmp s) _=>[s]
 |_=>[]
def AoP (c:CO):List Nat:=match c.op with
 |.fieldAddr _ _ _=>c.dst.toList
 |.indexAddr _ _ _=>c.dst.toList
 |_=>[]
def bmk (c:CO):List Nat:=match c.op with
 |.alloc _=>c.dst.toList
 |.box _ _=>c.dst.toList
 |_=>[]
def Ai0 (no:List Nat):List Nat→List Nat→List Nat→List Nat
 |[],_,acc=>acc
 |t::r,seen,acc=>bif seen.contains t then(bif acc.contains t||no.contains t then Ai0 no r seen acc else Ai0 no r seen (t::acc))else Ai0 no r (t::seen) acc
def nin (no:List Nat):List Nat→List Nat
 |[]=>[]
 |t::r=>bif no.contains t then nin no r else t::nin no r
def rJ (l:List Nat):List Nat→Bool
 |[]=>false
 |t::r=>l.contains t||rJ l r
def omk (c:CO):List Nat:=match c.op with
 |.alloc _=>[]
 |.box _ _=>[]
 |_=>c.dst.toList
def AoQ (mv:Bool) (c:CO):List Nat:=match c.op with
 |.move (.tmp s)=>bif mv then[s]else[]
 |_=>Ab1 c
def At0 (mv:Bool) (c:CO):List Nat:=match c.op with
 |.move _=>bif mv then c.dst.toList else[]
 |_=>AoP c
def L3 (mv:Bool) (no:List Nat):List CO→List (Nat×Nat)→List (Nat×Nat)
 |[],acc=>acc
 |c::l,acc=>match AoQ mv c,At0 mv c with
  |[s],[d]=>(match acc.lookup s with
   |some r=>L3 mv no l ((d,r)::acc)
   |none=>bif no.contains s then L3 mv no l acc else L3 mv no l ((d,s)::acc))
  |_,_=>L3 mv no l acc
def Ab2:List CO→List Nat→List Nat
 |[],acc=>acc
 |c::l,acc=>match c.op,c.dst with
  |.indexAddr _ _ _,some d=>Ab2 l (d::acc)
  |.fieldAddr _ (.tmp s) _,some d=>bif acc.contains s then Ab2 l (d::acc)else Ab2 l acc
  |_,_=>Ab2 l acc
def At1 (l:List CO):Bool:=rJ (Ab2 l []) (l.flatMap dC)
def AvG (l:List CO):List Nat:=bif At1 l then(l.flatMap dC).filterMap (fun s=>(L3 true (l.flatMap omk) l []).lookup s)else[]
def X0 (l:List CO):List Nat:=
 (Ai0 (l.flatMap dC++bif rJ (l.flatMap AoP) (l.flatMap dC)then l.flatMap Ab1 else[]) (l.flatMap Aiz++l.flatMap Ab1) [] []).map fun t=>bif (AvG l).contains t then 100000+t else t
def AvH (c:CO):List Nat:=match c.op with
 |.fieldAddr _ (.tmp s) _=>[s]
 |_=>[]
def At2 (l:List CO):List Nat:=bif rJ (l.flatMap AoP) (l.flatMap dC)then nin (l.flatMap fun c=>c.dst.toList) (l.flatMap AvH)else[]
def Ab3 (l:List CO):List Nat:=(L3 (At1 l) (l.flatMap omk) l []).map (fun p=>p.1*100000+p.2)++(At2 l).map (9999900000+ ·)
def AoR (l:List CO):List Nat:=l.flatMap bmk++(At2 l).map (100000+ ·)
def uF (sh:List Nat) (l:List CO):List Nat:=nin (l.flatMap fun c=>c.dst.toList) (sh.map fun t=>bif Nat.ble 100000 t then t-100000 else t)
def mkd (ts vs sh:List Nat) (l:List CO):CC:=.dops ts (vs++uF sh l) (Ab3 l) (AoR l) (ann sh (Ab3 l) l)
def A8:Code→Option Nat
 |.region id _ _=>some id
 |.seq a b=>match A8 a with
  |some id=>some id
  |none=>A8 b
 |.cond _ a _=>A8 a
 |.block _ c=>A8 c
 |.loop c=>A8 c
 |.scope c=>A8 c
 |_=>none
def Em:L2→Nat→Bool
 |[],_=>false
 |(k,_,_)::r,id=>if k=id+1000000 then true else Em r id
def cutAt (A:L2) (c:Code):Bool:=match A8 c with
 |some id=>Em A id
 |none=>false
theorem Bg (c:Code):cutAt [] c=false:=by unfold cutAt;split<;>rfl
def Ab4:Bool→CC→CC→CC
 |true,x,y=>.cut x y
 |false,x,y=>.seq x y
def C5:List Nat→Option Nat
 |[]=>none
 |n::_=>if 200000≤n then some (n-200000)else none
def Cf:L2→Nat→Option Nat
 |[],_=>none
 |(k,ts,_)::r,id=>if k=id then C5 ts else Cf r id
def rK (s d t:Nat) (dst:Option Nat):Callee→List Operand→Option CC
 |.value (.func g),.tmp d'::rest=>if d'=d∧d≠s then some (.lend t s d g rest dst)else none
 |_,_=>none
def rL (s:Nat):Op→Option Nat→Option (Nat×Bool)→Op→Option Nat→Option (Nat×Bool)→Option CC
 |.load t (.tmp s'),some d,none,.call c,dst,none=>if s'=s then rK s d t dst c.callee c.args.toList else none
 |_,_,_,_,_,_=>none
def dD (s:Nat):List Oper→Option CC
 |[a,b]=>rL s a.op a.dst a.guard b.op b.dst b.guard
 |_=>none
def Bh (A:L2):Code→Option CC
 |.skip=>some .skip
 |.region id ops dr=>match Cf A id with
  |some s=>if dr then none else dD s ops.toList
  |none=>match B2 ops ops.toList with
   |some l=>some (if dr then mkd (Eb A id) (Ce A id) (X0 l) l else .ops (Eb A id) (Ce A id) l)
   |none=>none
 |.seq a b=>match Bh A a,Bh A b with
  |some x,some y=>some (Ab4 (cutAt A b) x y)
  |_,_=>none
 |.cond c a b=>match Bh A a,Bh A b with
  |some x,some y=>some (.cond c x y)
  |_,_=>none
 |.block id c=>match Bh A c with
  |some x=>some (.block id x)
  |none=>none
 |.loop c=>match Bh A c with
  |some x=>some (.loop x)
  |none=>none
 |.exit id=>some (.exit id)
 |.label _=>some .skip
 |.ret=>some .ret
 |.scope c=>match Bh A c with
  |some x=>some (.scope x)
  |none=>none
 |_=>none
def Kn (A:L2):Code→Bool
 |.region id ops dr=>match B2 ops ops.toList with
  |some l=>if dr then uB ops.toList l (Ab3 l) (X0 l) (AoR l)&&Sg (Ce A id++uF (X0 l) l) ops.toList else Sg (Ce A id) ops.toList
  |none=>false
 |.seq a b=>Kn A a&&Kn A b
 |.cond _ a b=>Kn A a&&Kn A b
 |.block _ c=>Kn A c
 |.loop c=>Kn A c
 |.scope c=>Kn A c
 |_=>true
def Ny (x:AV) (A B:Prop):Prop:=match x with
 |.raw (.bool e)=>C1 e A B
 |_=>False
def Hj (P:Program) (T:Bd):CC→(Exit→List AV→Prop)→List AV→Prop
 |.skip,Q,σ=>Q .normal σ
 |.ops ts vs l,Q,σ=>kK ts (rgn (fun K σ=>El P T K l σ) vs (Q .normal)) σ
 |.dops ts vs rb bm l,Q,σ=>kK ts (rgn (fun K σ=>rH σ (I0 P T rb bm K l σ) bm) vs (Q .normal)) σ
 |.seq x y,Q,σ=>Hj P T x (Xz (Hj P T y Q) Q) σ
 |.cut x y,Q,σ=>∃I:List AV→Prop,(∀σ1,I σ1→Hj P T y Q σ1)∧Hj P T x (Xz (fun σ2=>∃σ3,Wk σ2 σ3∧I σ3) Q) σ
 |.cond c x y,Q,σ=>Ny (aev σ c) (Hj P T x Q σ) (Hj P T y Q σ)
 |.block id c,Q,σ=>Hj P T c (uE id Q) σ
 |.loop c,Q,σ=>∃I:Nat→List AV→Prop,(∃n σ1,Wk σ σ1∧I n σ1)∧∀n σ1,I n σ1→Hj P T c (Xz (fun σ2=>∃m σ3,m<n∧Wk σ2 σ3∧I m σ3) Q) σ1
 |.exit id,Q,σ=>Q (.exit id) σ
 |.ret,Q,σ=>Q .ret σ
 |.scope c,Q,σ=>Hj P T c (AvF Q) σ
 |.lend t s d g rest dst,Q,σ=>dA P T t s d g rest dst (Q .normal) σ
theorem Sj {s:Nat} {l:List Oper} {d:CC} (h:dD s l=some d):∃o1 o2 t d' g rest c,l=[o1,o2]∧o1.op=.load t (.tmp s)∧o1.dst=some d'∧o1.guard=none∧o2.op=.call c∧o2.guard=none∧c.callee=.value (.func g)∧c.args.toList=.tmp d'::rest∧d'≠s∧d=.lend t s d' g rest o2.dst:=by
 unfold dD at h;split at h
 ·rename_i o1 o2;unfold rL at h;split at h
  ·rename_i t s' d' c h1 h2 h3 h4 h6;split at h
   ·rename_i hs;subst hs;unfold rK at h;split at h
    ·rename_i g d2 rest h7 h8;split at h
     ·rename_i hd;obtain⟨rfl,hd⟩:=hd;injection h with h;exact⟨o1,o2,t,_,g,rest,c,rfl,h1,h2,h3,h4,h6,h7,h8,hd,h.symm⟩
     ·cases h
    ·cases h
   ·cases h
  ·cases h
 ·cases h
section
variable {P : Program} {T : Bd} {w0 : World} {S0 c0 : Nat → Nat}
def lift (dfs:List Deferred) (w0:World) (S0 c0:Nat→Nat) (Q:Exit→List AV→Prop):Exit→Act→World→Prop:=fun e a w=>∃σ,Q e σ∧A3 dfs w0 S0 c0 σ a w
theorem Du (hT:Am P T) (hm:P.follows .mixedOrders=true) {A:L2}:∀(c:Code) (d:CC),Bh A c=some d→Kn A c=true→∀(Q:Exit→List AV→Prop) (σ:List AV) (a:Act) (w:World),A3 dfs w0 S0 c0 σ a w→Hj P T d Q σ→c.wp P (lift dfs w0 S0 c0 Q) a w
 |.skip,d,hd,hk,Q,σ,a,w,hst,h=>by simp only[Bh]at hd;injection hd with hd;subst hd;exact wp_skip ⟨σ,h,hst⟩
 |.region id ops false,d,hd,hk,Q,σ,a,w,hst,h=>by
  simp only[Bh]at hd;simp only[Kn]at hk;split at hd
  ·rename_i s hs;simp only[Ax0,if_false]at hd;obtain⟨o1,o2,t,d',g,rest,c,hl,g1,g2,g3,g4,g5,g6,g7,g8,rfl⟩:=Sj hd;exact wp_region (Si hT hl g1 g2 g3 g4 g5 g6 g7 g8 hst h (lift dfs w0 S0 c0 Q) fun a w ⟨σ',k1,k2,_⟩=>⟨σ',k1,k2⟩)
  ·split at hd
   ·rename_i l hl;rw[hl]at hk;simp only[Ax0,if_false]at hd hk;injection hd with hd;subst hd;have hr:=L1 (run_text hT hl hk) (Ce A id) (fun s hs=>hs);obtain⟨σ1,h,hst⟩:=Cp _ hst h;exact wp_region (hr dfs w0 S0 c0 σ1 a w _ (lift dfs w0 S0 c0 Q .normal) hst h (fun σ' a' w' h1 h2 _=>⟨σ',h2,h1⟩) _ fun a w h=>h)
   ·cases hd
 |.region id ops true,d,hd,hk,Q,σ,a,w,hst,h=>by
  simp only[Bh]at hd;simp only[Kn]at hk;split at hd
  ·simp at hd
  ·split at hd
   ·rename_i l hl;rw[hl]at hk;simp only[if_true,mkd,Ax3]at hd hk;injection hd with hd;subst hd;obtain⟨σ1,h,hst⟩:=Cp _ hst h;refine wp_region_draw fun t=> ?_;simp only[Region.schedule,hm,Bool.true_or,if_true];have hr:=L1 (V1 hT hl hk.2 hk.1 t) _ (fun s hs=>hs);exact hr dfs w0 S0 c0 σ1 a w.drew _ (lift dfs w0 S0 c0 Q .normal) hst.drew h (fun σ' a' w' h1 h2 _=>⟨σ',h2,h1⟩) _ fun a w h=>h
   ·cases hd
 |.seq x y,d,hd,hk,Q,σ,a,w,hst,h=>by
  simp only[Bh]at hd;simp only[Kn,Ax3]at hk;split at hd
  ·rename_i x' y' hx hy;injection hd with hd;subst hd
   cases hc:cutAt A y with
   |false=>
    rw[hc]at h;refine wp_seq (wp_mono (Du hT hm x x' hx hk.1 _ σ a w hst h) fun e a w hq=> ?_);obtain⟨σ',hq,hs'⟩:=hq
    cases e with
    |normal=>exact Du hT hm y y' hy hk.2 Q σ' a w hs' hq
    |_=>exact⟨σ',hq,hs'⟩
   |true=>
    rw[hc]at h;obtain⟨I,hI,h⟩:=h;refine wp_seq (wp_mono (Du hT hm x x' hx hk.1 _ σ a w hst h) fun e a w hq=> ?_);obtain⟨σ',hq,hs'⟩:=hq
    cases e with
    |normal=>obtain⟨σ3,hw3,h3⟩:=hq;exact Du hT hm y y' hy hk.2 Q σ3 a w (hw3.stt hs') (hI σ3 h3)
    |_=>exact⟨σ',hq,hs'⟩
  ·cases hd
 |.cond c x y,d,hd,hk,Q,σ,a,w,hst,h=>by
  simp only[Bh]at hd;simp only[Kn,Ax3]at hk;split at hd
  ·rename_i x' y' hx hy;injection hd with hd;subst hd;simp only[Hj,Ny]at h;split at h
   ·rename_i e he;have hst':=hst;obtain⟨_,S,cc,hr,_⟩:=hst;obtain⟨cx,hrx⟩:=Ar hr c;rw[he]at hrx;have e1:=(Ay hrx).1;exact wp_cond_split e1 (fun ht=>Du hT hm x x' hx hk.1 Q σ a w hst' (h.1 ht)) (fun hf=>Du hT hm y y' hy hk.2 Q σ a w hst' (h.2 hf))
   ·exact Ad
  ·cases hd
 |.block id c,d,hd,hk,Q,σ,a,w,hst,h=>by
  simp only[Bh]at hd;simp only[Kn]at hk;split at hd
  ·rename_i x' hx;injection hd with hd;subst hd;refine wp_block (wp_mono (Du hT hm c x' hx hk _ σ a w hst h) fun e a w hq=> ?_);exact Ati
  ·cases hd
 |.loop c,d,hd,hk,Q,σ,a,w,hst,h=>by
  simp only[Bh]at hd;simp only[Kn]at hk;split at hd
  ·rename_i x' hx;injection hd with hd;subst hd;obtain⟨I,⟨n0,σ1,hw,hI⟩,hround⟩:=h
   classical
   let J:Act→World→Nat→Prop:=fun a w n=>∃σ,I n σ∧A3 dfs w0 S0 c0 σ a w;refine wp_loop (fun a w=>∃n,J a w n) (fun a w=>if h:∃n,J a w n then Classical.choose (least h)else 0) ⟨n0,σ1,hI,hw.stt hst⟩ fun a w hJ=> ?_;obtain⟨σ',hI',hst'⟩:=(Classical.choose_spec (least hJ)).1;refine wp_mono (Du hT hm c x' hx hk _ σ' a w hst' (hround _ σ' hI')) fun e a' w' hq=> ?_;obtain⟨σ2,hq,hs2⟩:=hq
   cases e with
   |normal=>obtain⟨m,σ3,hm,hw3,hI3⟩:=hq;have hJ':J a' w' m:=⟨σ3,hI3,hw3.stt hs2⟩;exact AhT
   |_=>exact⟨σ2,hq,hs2⟩
  ·cases hd
 |.exit id,d,hd,hk,Q,σ,a,w,hst,h=>by simp only[Bh]at hd;injection hd with hd;subst hd;exact wp_exit ⟨σ,h,hst⟩
 |.label l,d,hd,hk,Q,σ,a,w,hst,h=>by simp only[Bh]at hd;injection hd with hd;subst hd;exact wp_label ⟨σ,h,hst⟩
 |.ret,d,hd,hk,Q,σ,a,w,hst,h=>by simp only[Bh]at hd;injection hd with hd;subst hd;exact wp_ret ⟨σ,h,hst⟩
 |.rangeFunc ..,d,hd,hk,Q,σ,a,w,hst,h=>by simp [Bh]at hd
 |.scope c,d,hd,hk,Q,σ,a,w,hst,h=>by
  simp only[Bh]at hd;simp only[Kn]at hk;split at hd
  ·rename_i x' hx;injection hd with hd;subst hd;refine wp_scope_straight (wp_mono (Du hT hm c x' hx hk _ σ a w hst h) fun e a w hq=> ?_);obtain⟨σ',hq,hs'⟩:=hq
   cases e with
   |goto l=>exact hq.elim
   |_=>exact⟨σ',hq,hs'⟩
  ·cases hd
 |.goto ..,d,hd,hk,Q,σ,a,w,hst,h=>by simp [Bh]at hd
 |.refuse ..,d,hd,hk,Q,σ,a,w,hst,h=>by simp [Bh]at hd
def Hu (T:Bd):List ResultVar→List AV→(List AV→Prop)→Prop
 |[],σ,K=>K []
 |.tmp t::rs,σ,K=>Hu T rs (amv σ (.tmp t)) fun vs=>K (aev σ (.tmp t)::vs)
 |.cell s t::rs,σ,K=>
  match T t with
  |some i=>
   match σ.getD s .any with
   |.box Te cs=>lsz i≤cs.length∧
    Hu T rs (σ.set s (.box Te (pleft cs 0 (lsz i) ((pcells cs 0 (lsz i)).map v1)))) fun vs=>K (pl (pval i.td.agg (pcells cs 0 (lsz i)))::vs)
   |_=>False
  |none=>False
def kL (T:Bd) (rs:List ResultVar) (R:AV→Prop):Exit→List AV→Prop
 |.normal,σ|.ret,σ=>Hu T rs σ fun vs=>R (match vs with
  |[v]=>v
  |vs=>.tup vs)
 |_,_=>False
def I1 (tmps:Array Value):ResultVar→Sem Value
 |.tmp t=>pure (tmps.getD t undef)
 |.cell a t=>do loadVar t (←asAddr (tmps.getD a undef))
theorem Jv (fn:Func) (tmps:Array Value):results fn tmps=(do
 let vs←fn.results.mapM (I1 tmps)
 pure (if h:vs.size=1 then vs[0]else .tuple vs)):=by
 have:∀f g:ResultVar→Sem Value,(∀x,f x=g x)→Array.mapM f fn.results=Array.mapM g fn.results:=fun f g h=>by rw[funext h]
 unfold results;rw[this _ (I1 tmps) (fun x=>by cases x<;>rfl)]
theorem Gb (hT:Am P T) {w:World} {S:Nat→Nat} {a:Act}:∀(rs:List ResultVar) (σ:List AV) (c:Nat→Nat) (K:List AV→Prop),Aa w S σ a.tmps.toList c→Hu T rs σ K→
 ∃vs us cv,(rs.mapM (I1 a.tmps)).run P w=.ok us w∧K vs∧Aa w S vs us cv∧(∀b,cv b≤c b)∧us.length=rs.length∧∀x∈vs,pb x=true
 |[],σ,c,K,hr,h=>⟨[],[],fun _=>0,oS,h,.nil Al,fun _=>AxM _,rfl,oS⟩
 |.tmp t::rs,σ,c,K,hr,h=>by obtain⟨c1,c2,hx,hr2,hc⟩:=I6 hr (.tmp t);obtain⟨vs,us,cv,hrun,hK,hv,hle,hl,hpb⟩:=Gb hT rs _ c2 _ hr2 h;refine⟨_,a.eval (.tmp t)::us,_,?_,hK,Aa.cons hx hv (fun b=>rfl),fun b=>by rw[hc];have:=hle b;omega,by simp [hl],fun x hx=>by rcases Ax2.1 hx with rfl|hx;exact AaU _ _;exact hpb x hx⟩;have hone:(I1 a.tmps (.tmp t)).run P w=.ok (a.eval (.tmp t)) w:=rfl;simp only[List.mapM_cons,Sem.run_bind,hone,Sem.run_pure,Result.andThen_ok,hrun]
 |.cell s t::rs,σ,c,K,hr,h=>by
  simp only[Hu]at h;split at h
  ·rename_i i hi;split at h
   ·rename_i Te cs hx;obtain⟨hlen,h⟩:=h;obtain⟨b,cur,d1,c2,hev,hb,hS,hcs,hone,hr2,hc,hv⟩:=Hq hr hx;have hcl:=hcs.length;obtain⟨e1,e2,hp,hput,hce⟩:=hcs.part 0 (lsz i);obtain⟨c',hp2,hc'⟩:=hput _ _ _ (Aa.map_v Aa.v1 hp);rw[M1]at hp2;have hr3:=Xj (c:=fun x=>(if x=b then 1 else 0)+c' x+c2 x) hr2 (getD_lt hx oS) hv hb hS hp2 hone (fun x=>rfl)
    have hval:=Fq hp (fun u hu=>hone u (AxL (AxK hu))) i.td.agg (fun ha=>by
     have hl1:lsz i=1:=by unfold lsz;rw[ha];rfl
     rw[hl1]at hlen⊢;simp [pcells];omega)
    obtain⟨e3,hval,hle3⟩:=hval.pl;have hrun1:=Ff (P:=P) (t:=t) (off:=0) (hT t i hi) hb rfl (by simp at hcl;omega);obtain⟨vs,us,cv,hrun,hK,hvv,hle,hl,hpb⟩:=Gb hT rs _ _ _ hr3 h;refine⟨_,_::us,_,?_,hK,Aa.cons hval hvv (fun b=>rfl),fun x=> ?_,by simp [hl],fun x hx=>by rcases Ax2.1 hx with rfl|hx;exact Kp _;exact hpb x hx⟩
    ·simp only[Act.eval]at hev;simp only[Instr.loadAt,Instr.sureAddr,Sem.run_bind,Sem.run_pure,Result.andThen_ok]at hrun1;have hone1:(I1 a.tmps (.cell s t)).run P w=.ok (if i.td.agg then .agg ((cur.toList.drop 0).take (lsz i)).toArray else((cur.toList.drop 0).take (lsz i)).headD undef) w:=by simp only[I1,hev,asAddr,Sem.run_bind,Sem.run_pure,Result.andThen_ok,hrun1]
     simp only[List.mapM_cons,Sem.run_bind,hone1,Sem.run_pure,Result.andThen_ok,hrun]
    ·have:=hle x;have:=hc x;have:=hce x;have:=hc' x;have:=hle3 x;show e3 x+cv x≤c x;omega
   ·exact Ad
  ·exact Ad
theorem uG (hT:Am P T) (hm:P.follows .mixedOrders=true) {A:L2} {f:Nat} {fn:Func} {code:Code} {d:CC} {args:List AV} {R:AV→Prop} (hf:P.funcs[f]? =some fn) (hb:fn.body=some code) (hcd:Bh A code=some d) (hck:Kn A code=true) (hn:(fn.name== "runtime.NumGoroutine")=false) (hR:∃r,R r) (hpa:args.all pb=true) {nt:Nat} (hnt:fn.ntmps=nt) {rs:List ResultVar} (hrs:fn.results.toList=rs)
 (h:Hj P T d (kL T rs R) (args++List.replicate (nt-args.length) .any)):Ab P f args R:=by
 refine⟨⟨fn,code,hf,hb,hn⟩,hR,fun w S vs c hz hr hc=> ?_⟩;have hl:=hr.length;refine calls_of_wp hf hb (wp_mono (Du (dfs:=[]) (w0:=w) (S0:=S) (c0:=c) hT hm code d hcd hck _ _ _ w ?_ h) fun e a w' hq=> ?_)
 ·refine ⟨?_,S,c,?_,hc,rfl,hz,Stp.refl w S c⟩
  ·exact qz9
  exact AhR
 ·obtain ⟨σ,hq,hst⟩:=hq
  have fin:Hu T rs σ (fun vs=>R (match vs with
   |[v]=>v
   |vs=>.tup vs))→a.defers=[]∧∃v,(results fn a.tmps).run P w'=.ok v w'∧
   ∃v' r S' c',Ending.returned v=.returned v'∧R r∧pb r=true∧Aa w' S' [r] [v'] c'∧(∀b,c' b≤1)∧Sz w' S'∧Stp w S c w' S' c':=by
   intro hq;obtain⟨_,S',c',hr',h1,hd,hz',hs⟩:=hst;obtain⟨rvs,us,cv,hrun,hK,hv,hle,hul,hpb⟩:=Gb hT rs σ c' _ hr' hq;have hm:(fn.results.mapM (I1 a.tmps)).run P w'=.ok us.toArray w':=by exact Anj
   refine⟨hd,(if h:us.toArray.size=1 then us.toArray[0]else .tuple us.toArray),?_,_,_,S',cv,rfl,hK,?_,?_,fun b=>Ax1 (hle b) (h1 b),hz',hs.drop hle⟩
   ·exact AnN
   ·match rvs,hpb with
    |[],_=>rfl
    |[v],hpb=>exact hpb v oS
    |v::v'::rvs,_=>rfl
   ·exact Ao8
  exact AaC
theorem A9 (A:L2) (hT:Am P T) (hm:P.follows .mixedOrders=true) {f:Nat} {fn:Func} {args:List AV} {R:AV→Prop} {d:CC} {nt:Nat} {rs:Array ResultVar} (hf:P.funcs[f]? =some fn) (hn:(fn.name== "runtime.NumGoroutine")=false)
 (hck:(fn.body.map (Kn A))=some true) (hd:fn.body.bind (Bh A)=some d) (hnt:fn.ntmps=nt) (hrs:fn.results=rs) (hR:∃r,R r) (hpa:args.all pb=true) (h:Hj P T d (kL T rs.toList R) (args++List.replicate (nt-args.length) .any)):Ab P f args R:=by
 cases hb:fn.body with
 |none=>rw[hb]at hd;cases hd
 |some code=>rw[hb]at hd hck;exact uG hT hm hf hb hd (by simpa using hck) hn hR hpa hnt (by rw[hrs]) h
end
end Go.Proofs.YtmophjggmekoeaaGreatDoor
