/- One operation that looks at no world, or only looks: what it yields. -/
import Derived.Test.YtmophjggmekoeaaGreatDoorC15
set_option linter.all false
namespace Go.Proofs.YtmophjggmekoeaaGreatDoor
section
open Go.RowKit
def fok:Option TI→Nat→Bool
 |some i,f=>(match i.td.flds[f]? with
  |some (_,some n,_)=>n != 0
  |_=>false)
 |none,_=>false
def lok:Option TI→Bool
 |some i=>i.td.str||i.td.elem.isSome||i.td.arr.isSome
 |none=>false
def kcc (T:Bd) (c:Call):Nat:=match c.callee,c.args.toList,c.argTypes.toList with
 |.builtin .len,[_],[ty]=>bif lok (T ty)then 0 else 3
 |.builtin .min,_,_=>0
 |.builtin .max,_,_=>0
 |_,_,_=>3
def kc (T:Bd):Op→Nat
 |.move _|.assign _|.pick .. |.field .. |.extract .. |.indexAddr .. |.index .. |.slice .. |.unOp .. |.makeInterface .. |.nilCheck _|.binOp .. =>0
 |.fieldAddr t _ f=>bif fok (T t) f then 0 else 3
 |.load .. =>1
 |.call c=>kcc T c
 |_=>3
def isC:Operand→Bool
 |.const _=>true
 |_=>false
def qk (y:Operand):Nat→Prop
 |0=>False
 |4=>isC y=true
 |_=>True
def qbb (y:Operand):AV→AV→Prop
 |.raw a,.raw b=>qk y (bkn a b)
 |_,_=>False
def isI:AV→Bool
 |.raw (.int _ _)=>true
 |_=>false
def qb (op:Op) (σ:List AV):Prop:=match op with
 |.binOp _ _ x y _=>qbb y (aev σ x) (aev σ y)
 |.call c=>(match c.callee with
  |.builtin .len=>True
  |_=>(c.args.toList.map (aev σ)).all isI=true)
 |_=>True
section
variable [Env] {dfs : List Deferred} {P : Program} {T : Bd} {H : Gy} {w0 w : World} {S0 c0 : Nat → Nat} {γ σ : List AV} {a : Act} {o : Oper}
theorem Akb (hT:Am P T) {ty:Nat} (h:lok (T ty)=true):∃d,P.underlying ty=some d∧(∀k e,d≠ .map k e)∧(∀x y,d≠ .chan x y)∧∀e,d≠ .pointer e:=by
 unfold lok at h;split at h
 ·rename_i i hi;obtain⟨inf,z,d,_,_,_,_,_,h6,h7⟩:=(hT ty i hi).get;refine⟨d,h6,?_⟩;rw[←h7]at h;cases d<;>simp [Fe]at h<;>exact⟨fun _ _=>oS,fun _ _=>oS,fun _=>oS⟩
 ·cases h
theorem ints {xs:List Operand} (hst:Ah dfs w0 S0 c0 γ σ a w) (hq:(xs.map (aev σ)).all isI=true):∀v∈xs.map a.eval,∃k n,v=.int k n:=by
 intro v hv;obtain⟨x,hx,rfl⟩:=AxB.1 hv;have:=Ax7.1 hq _ (AxB.2 ⟨x,hx,rfl⟩);unfold isI at this;split at this
 ·rename_i k n he;exact⟨k,n,hst.rawOp he⟩
 ·cases this
theorem rZ (hT:Am P T) (hk:kc T o.op=0) (hq:qb o.op σ) (hst:Ah dfs w0 S0 c0 γ σ a w):Cg P (execOp a.eval o):=by
 unfold execOp;dsimp only;cases ho:o.op<;>rw[ho]at hk hq<;>simp only[kc,reduceCtorEq]at hk<;>try (first|exact trivial|cases hk;done)
 case pick c x y=>exact Cb (by unfold asBool;split<;>trivial) fun _=>trivial
 case fieldAddr t x f=>
  cases hfk:fok (T t) f with
  |false=>rw[hfk]at hk;cases hk
  |true=>
   unfold fok at hfk;split at hfk
   ·rename_i i hi;split at hfk
    ·rename_i fo n ag hf;obtain⟨fs,fd,hu,hfd,hoff,hsz,hag⟩:=Ly (hT t i hi) hf;refine Jy ?_;simp only[Instr.fieldAt,underlying,program,Bind.bind,Sem.bind,Cg,hu,Pure.pure,hfd];exact Fh (Jw _) fun ad=>Fh (AjM hsz (by simpa using hfk) ad) fun _=>trivial
    ·cases hfk
   ·cases hfk
 case field t x f=>exact Jy (mI _ _ _)
 case extract x n=>exact Jy (Yb _ _)
 case index t x y=>exact Jy (mJ _ _ _)
 case indexAddr t x y=>exact Jy (Yc _ _ _)
 case slice t x l h m=>exact Jy (Yd _ _ _ _ _)
 case unOp u t x=>exact Jy (AjK _ _)
 case makeInterface t x=>exact Jy (AjL _ _)
 case nilCheck x=>
  dsimp only;split
  ·exact A0 (Dp _)
  ·exact A0 (Dp _)
  ·exact A0 (Dp _)
  ·split
   ·exact A0 (Dp _)
   ·refine Cb trivial fun p=>Cb (rX _ _ _ _) fun b=> ?_;split<;>trivial
   ·trivial
  ·trivial
 case binOp b t x y t'=>
  dsimp only;simp only[qb]at hq;unfold qbb at hq;split at hq
  ·rename_i u v hu hv;rw[hst.rawOp hu,hst.rawOp hv];have hne:bkn u v≠0:=fun h=>by rw[h]at hq;exact hq
   refine Jy (Cb (AjO _ _ _ _ ?_ ?_) fun _=>Adb _ _ hne)
   ·by_cases h4:bkn u v=4
    ·rw [h4]at hq;simp only[qk]at hq;cases y<;>simp only[isC,Ax0]at hq;exact .inr ⟨_,rfl⟩
    ·left;rintro rfl;cases v<;>simp [bkn]at hne h4
   ·rintro cs rfl;cases v<;>simp [bkn]at hne
  ·exact hq.elim
 case call c=>
  obtain⟨callee,args,tys⟩:=c;unfold kcc at hk;simp only at hk;split at hk
  ·rename_i _ x ty hca hty
   cases hl:lok (T ty)with
   |false=>rw[hl]at hk;cases hk
   |true=>obtain⟨d,h1,h2,h3,h4⟩:=Akb hT hl;have e1:=M9 hca;have e2:=M9 hty;subst e1;subst e2;simp only[resolve,Bind.bind,Pure.pure,Sem.bind,invoke,builtin,AyS,Axx,Axv];exact Fh (Ada h1 h2 h3 h4 _ _) fun _=>trivial
  ·have hi:∀v∈args.toList.map a.eval,∃k n,v=.int k n:=ints hst (show(args.toList.map (aev σ)).all isI=true from hq);simp only[resolve,Bind.bind,Pure.pure,Sem.bind,invoke,builtin,Builtin.min_,AyU];refine Fh ?_ fun _=>trivial
   cases hl:args.toList.map a.eval with
   |nil=>trivial
   |cons x r=>rw[hl]at hi;exact(Ye r x hi).1
  ·have hi:∀v∈args.toList.map a.eval,∃k n,v=.int k n:=ints hst (show(args.toList.map (aev σ)).all isI=true from hq);simp only[resolve,Bind.bind,Pure.pure,Sem.bind,invoke,builtin,Builtin.max_,AyU];refine Fh ?_ fun _=>trivial
   cases hl:args.toList.map a.eval with
   |nil=>trivial
   |cons x r=>rw[hl]at hi;exact(Ye r x hi).2
  ·cases hk
theorem Yh (T:Bd) (c:Call):kcc T c=0∨kcc T c=3:=by
 unfold kcc;split
 ·cases lok _<;>simp
 ·exact Ho
 ·exact Ho
 ·exact .inr rfl
theorem Adl (hT:Am P T) (hk:kc T o.op≤1) (hq:kc T o.op=0→qb o.op σ) (hst:Ah dfs w0 S0 c0 γ σ a w):still P (execOp a.eval o):=by
 by_cases h0:kc T o.op=0
 ·exact Eg (rZ hT h0 (hq h0) hst)
 ·unfold execOp;dsimp only;cases ho:o.op<;>rw[ho]at hk h0<;>simp only[kc,reduceCtorEq]at hk h0<;>try (first|exact absurd trivial h0|omega)
  case fieldAddr t x f=>cases hfk:fok (T t) f<;>rw[hfk]at hk h0<;>simp at hk h0
  case load t x=>exact AjN (mL _ _)
  case call c=>
   rcases Yh T c with h|h<;>rw[h]at hk h0
   ·exact absurd rfl h0
   ·omega
theorem Adm {s:Sem Value} {n:Next} {w w':World} (h:(do pure (.value (←s)):Sem Next).run P w=.ok n w'):∃v,n=.value v:=by
 rw[Sem.run_bind]at h
 cases hs:s.run P w with
 |ok x w1=>rw[hs]at h;simp only[Result.andThen_ok,Sem.run_pure]at h;injection h with h _;exact⟨x,h.symm⟩
 |halt x w1=>rw[hs]at h;cases h
theorem Adn {ρ:Operand→Value} {n:Next} {w':World} (hk:kc T o.op≤1) (h:(execOp ρ o).run P w=.ok n w'):∃v,n=.value v:=by
 unfold execOp at h;dsimp only at h;cases ho:o.op<;>rw[ho]at hk h<;>simp only[kc,reduceCtorEq]at hk<;>try (first|exact Adm h|omega)
 case move x=>simp only[Sem.run_pure]at h;injection h with h _;exact⟨_,h.symm⟩
 case assign x=>simp only[Sem.run_pure]at h;injection h with h _;exact⟨_,h.symm⟩
 case pick c x y=>
  rw[Sem.run_bind]at h
  cases hs:(asBool (ρ c)).run P w with
  |ok b w1=>rw[hs]at h;simp only[Result.andThen_ok,Sem.run_pure]at h;injection h with h _;exact⟨_,h.symm⟩
  |halt x w1=>rw[hs]at h;cases h
 case nilCheck x=>
  dsimp only at h;have key:∀{u:Value},(pure (.value u):Sem Next).run P w=.ok n w'→∃v,n=.value v:=fun h=>by simp only[Sem.run_pure]at h;injection h with h _;exact⟨_,h.symm⟩
  split at h
  ·exact qP
  ·exact qP
  ·exact qP
  ·split at h
   ·exact qP
   ·rw [Sem.run_bind]at h
    cases hs:(program).run P w with
    |halt x w1=>rw[hs]at h;cases h
    |ok p w1=>
     rw[hs]at h;simp only[Result.andThen_ok]at h;rw[Sem.run_bind]at h
     cases hs2:(nilAhead (p.types.size+Made.depth) _ _ _).run P w1 with
     |halt x w1=>rw[hs2]at h;cases h
     |ok b w2=>
      rw[hs2]at h;simp only[Result.andThen_ok]at h;split at h
      ·exact absurd h (Eo (show dead P (Sem.bind (unsupported _) _)from trivial))
      ·simp only[Sem.run_pure]at h;injection h with h _;exact⟨_,h.symm⟩
   ·exact key h
  ·exact key h
 case call c=>
  rcases Yh T c with hc|hc
  ·obtain ⟨callee,args,tys⟩:=c;unfold kcc at hc;simp only at hc;split at hc
   ·exact Aa4
   ·exact Aa4
   ·exact Aa4
   ·cases hc
  ·rw [hc]at hk;omega
theorem AvL {K:List AV→List AV→Prop} {E E':Value→List AV→List AV→Prop} {d:Option Nat} {op:Op} (hk:kc T op≤1) (h:hop P T H d op γ σ K E):hop P T H d op γ σ K E':=by
 cases op<;>simp only[kc]at hk<;>try (first|exact h|omega)
 case call c=>
  rcases Yh T c with hc|hc
  ·obtain ⟨callee,args,tys⟩:=c;unfold kcc at hc;simp only at hc;split at hc<;>first|exact h|cases hc
  ·rw [hc]at hk;omega
 case load t x=>cases x<;>exact h
 case binOp b t x y t'=>cases y<;>exact h
 case fieldAddr t x f=>cases x<;>exact h
theorem Gc (hT:Am P T) (hH:Cl P H) {K:List AV→List AV→Prop} {E:Value→List AV→List AV→Prop} (hk:kc T o.op≤1) (hq:kc T o.op=0→qb o.op σ) (hst:Ah dfs w0 S0 c0 γ σ a w) (h:hop P T H o.dst o.op γ σ K E):
 ∃v,(execOp a.eval o).run P w=.ok (.value v) w∧(kc T o.op=0→∀w2,(execOp a.eval o).run P w2=.ok (.value v) w2)∧∃γ' σ',K γ' σ'∧Ah dfs w0 S0 c0 γ' σ' (a.put o.dst v) w:=by
 have hwp:=Fj (Q:=fun _ _ _=>False) hT hH hst (AvL (E':=fun _ _ _=>False) hk h) fun _ _ _ _ hE _=>hE;unfold Oper.wp at hwp
 cases hr:(execOp a.eval o).run P w with
 |halt x w1=>rw[hr]at hwp;cases x<;>exact hwp.elim
 |ok n w1=>obtain⟨v,rfl⟩:=Adn hk hr;have hw:=Fi (Adl hT hk hq hst) hr;subst hw;rw[hr]at hwp;exact⟨v,rfl,fun h0=>Sq (rZ hT h0 (hq h0) hst) hr,hwp⟩
end
end
section
open Go.RowKit
variable [Env]
variable {dfs : List Deferred}
def ldk (X:List Nat) (q:Nat):AV→Bool
 |.elt _=>true
 |.ref s _=>X.contains s
 |.box _ _=>X.contains q
 |_=>false
def ldq (X:List Nat) (op:Op) (σ:List AV):Bool:=match op with
 |.load _ (.tmp q)=>ldk X q (σ.getD q .any)
 |_=>false
def Yi:AV→Bool
 |.elt _=>true
 |.ref _ _=>true
 |.box _ _=>true
 |.raw (.pointer (some ⟨_,_,none⟩))=>true
 |_=>false
def ld3 (op:Op) (σ:List AV):Bool:=match op with
 |.load _ (.tmp q)=>Yi (σ.getD q .any)
 |_=>false
def nq (X:List Nat) (f:Nat) (op:Op) (σ:List AV) (A:Prop):Prop:=match f with
 |0=>qb op σ∧A
 |1=>ldq X op σ=true∧A
 |5=>ld3 op σ=true∧A
 |_=>A
def Cc (P:Program) (T:Bd) (H:Gy) (X:List Nat) (K:List AV→List AV→Prop) (E:Value→List AV→List AV→Prop):List (CO×Nat)→List AV→List AV→Prop
 |[],γ,σ=>K γ σ
 |(⟨d,op,none⟩,f)::l,γ,σ=>nq X f op σ (hop P T H d op γ σ (Cc P T H X K E l) E)
 |(⟨d,op,some (t,want)⟩,f)::l,γ,σ=>
  match σ.getD t .any with
  |.raw (.bool e)=>
   C1 e
    (if want then nq X f op (σ.set t (.raw (.bool true))) (hop P T H d op γ (σ.set t (.raw (.bool true))) (Cc P T H X K E l) E)else Cc P T H X K E l γ (aset (σ.set t (.raw (.bool true))) d (.tup [])))
    (if want then Cc P T H X K E l γ (aset (σ.set t (.raw (.bool false))) d (.tup []))else nq X f op (σ.set t (.raw (.bool false))) (hop P T H d op γ (σ.set t (.raw (.bool false))) (Cc P T H X K E l) E))
  |.tup []=>Cc P T H X K E l γ (aset σ d (.tup []))
  |_=>False
def Cm (ops:Array Oper):List (Nat×Nat)→Option (List (CO×Nat))
 |[]=>some []
 |(i,f)::l=>match ops[i]? with
  |some o=>(match Bf ops o.guard,Cm ops l with
   |some g,some r=>some ((⟨o.dst,o.op,g⟩,f)::r)
   |_,_=>none)
  |none=>none
section
variable {P : Program} {T : Bd} {H : Gy} {w0 w : World} {S0 c0 : Nat → Nat} {γ σ : List AV} {a : Act} {ops : Array Oper} {cl : Nat → Nat} {C : World → Prop} {Q : Exit → Act → World → Prop} {K : List AV → List AV → Prop} {E : Value → List AV → List AV → Prop} {X : List Nat}
theorem Jf {i f:Nat} {l:List (Nat×Nat)} {cs:List (CO×Nat)} (hcs:Cm ops ((i,f)::l)=some cs) (hst:Ah dfs w0 S0 c0 γ σ a w) (h:Cc P T H X K E cs γ σ):
 ∃o r,ops[i]? =some o∧Cm ops l=some r∧((Region.wanted o (yielded ops a.tmps)=true∧∃σ1,Ah dfs w0 S0 c0 γ σ1 a w∧nq X f o.op σ1 (hop P T H o.dst o.op γ σ1 (Cc P T H X K E r) E))∨
  (Region.wanted o (yielded ops a.tmps)=false∧∃σ1,Ah dfs w0 S0 c0 γ σ1 (a.put o.dst undef) w∧Cc P T H X K E r γ σ1)):=by
 simp only[Cm]at hcs;split at hcs
 ·rename_i o ho;split at hcs
  ·rename_i g r hg hr;injection hcs with hcs;subst hcs;refine⟨o,r,ho,hr,?_⟩
   cases hgd:o.guard with
   |none=>rw[hgd]at hg;simp only[Bf]at hg;injection hg with hg;subst hg;exact .inl ⟨by simp [Region.wanted,hgd],σ,hst,h⟩
   |some jw=>
    obtain⟨j,want⟩:=jw;rw[hgd]at hg;simp only[Bf]at hg;split at hg
    ·rename_i t ht;injection hg with hg;subst hg;simp only[Cc]at h
     have val:∀{x:AV},σ.getD t .any=x→x≠ .any→∃v S c,yielded ops a.tmps j=(match v with
      |.bool b=>some b
      |_=>none)∧Aa w S [x] [v] c:=fun{x} hx hne=>by
      exact Atl
     split at h
     ·rename_i e he;obtain⟨v,S,c,hyl,hy⟩:=val he oS;have e1:=(Ay hy).1;subst e1;have hts:=getD_lt he oS;have hset:∀b,e=b→Ah dfs w0 S0 c0 γ (σ.set t (.raw (.bool b))) a w:=by intro b hb;subst hb;rw[set_self hts he];exact hst
      have hwant:Region.wanted o (yielded ops a.tmps)=(e==want):=by simp [Region.wanted,hgd,hyl]
      rw[hwant]
      cases e with
      |true=>
       have h:=h.1 rfl
       cases want with
       |true=>exact .inl ⟨rfl,_,hset true rfl,h⟩
       |false=>exact .inr ⟨rfl,_,(hset true rfl).skip _,h⟩
      |false=>
       have h:=h.2 rfl
       cases want with
       |true=>exact .inr ⟨rfl,_,(hset false rfl).skip _,h⟩
       |false=>exact .inl ⟨rfl,_,hset false rfl,h⟩
     ·rename_i he;obtain⟨v,S,c,hyl,hy⟩:=val he oS;have e1:v=.tuple #[]:=by exact qE
      subst e1;exact .inr ⟨by simp [Region.wanted,hgd,hyl],_,hst.skip _,h⟩
     ·exact Ad
    ·cases hg
  ·cases hcs
 ·cases hcs
theorem Ah.base (h:Ah dfs w0 S0 c0 γ σ a w):∃S c,(∀b,S0 b≤S b)∧Ah dfs w S c γ σ a w∧∀γ' σ' a' w',Ah dfs w S c γ' σ' a' w'→Ah dfs w0 S0 c0 γ' σ' a' w':=by obtain⟨S,c,c1,gv,hrf,hr,hg,h1,hd,hz,hs⟩:=h;refine⟨S,fun b=>c b+c1 b,hs.le,⟨S,c,c1,gv,hrf,hr,hg,h1,hd,hz,Stp.refl w S _⟩,fun γ' σ' a' w' ⟨S',c',c1',gv',k1,k2,k3,k4,k5,k6,k7⟩=>⟨S',c',c1',gv',k1,k2,k3,k4,k5,k6,hs.trans k7⟩⟩
def CF (F:List (Nat×Nat×Value)) (w:World):Prop:=∀p∈F,w.cell? ⟨p.1,p.2.1,none⟩=some p.2.2
def Sf (F:List (Nat×Nat×Value)) (w:World) (S c:Nat→Nat):Prop:=∀p∈F,p.2.1<S p.1∨(c p.1=0∧p.1<w.heap.size)
theorem CF.keep {F:List (Nat×Nat×Value)} {w':World} {S S' c c':Nat→Nat} (h:CF F w) (hs:Sf F w S c) (k:Stp w S c w' S' c'):CF F w':=fun p hp=>by
 rcases hs p hp with h1|⟨h1,h2⟩
 ·rw [k.cell _ _ h1];exact h p hp
 ·have:=(k.keep _ h2 h1).1;have h3:=h p hp;unfold World.cell? at h3⊢;rw[this];exact h3
theorem Hv (hT:Am P T) (hH:Cl P H) {F:List (Nat×Nat×Value)} {S1 c1:Nat→Nat} {w1:World} {n:Nat} (hn:n=2∨n=3) (hF:n=2→CF F w1∧Sf F w1 S1 c1) (hC:C=CF F∨n=3) {l2:List Nat}:
 ∀(l:List (Nat×Nat)) (cs:List (CO×Nat)) (γ σ:List AV) (a:Act) (w:World),Cm ops l=some cs→(∀p∈l,(p.2=0∧cl p.1=0∧∀o,ops[p.1]? =some o→kc T o.op=0)∨(p.2≠0∧cl p.1=n))→Ah dfs w1 S1 c1 γ σ a w→Cc P T H X K E cs γ σ→
  (∀γ σ a' w',Ah dfs w1 S1 c1 γ σ a' w'→K γ σ→(∀s,(∀p∈l,∀o,ops[p.1]? =some o→o.dst≠some s)→a'.tmps[s]? =a.tmps[s]?)→wpC P ops cl C Q l2 a' w')→(∀v γ σ a' w',E v γ σ→Ah dfs w1 S1 c1 γ σ a' w'→Q (.panic [{v:=v,recovered:=false}]) a' w')→wpC P ops cl C Q (l.map (·.1)++l2) a w
 |[],cs,γ,σ,a,w,hcs,hl,hst,h,hK,hE=>by simp only[Cm]at hcs;injection hcs with hcs;subst hcs;exact hK γ σ a w hst h fun s _=>rfl
 |(i,f)::l,cs,γ,σ,a,w,hcs,hl,hst,h,hK,hE=>by
  obtain⟨o,r,ho,hr,hw⟩:=Jf hcs hst h
  have hCw:∀{γ σ:List AV} {a':Act} {w':World},Ah dfs w1 S1 c1 γ σ a' w'→n=2→C w':=fun{γ σ a' w'} hst h2=>by
   rcases hC with hC|hC
   ·obtain ⟨S,c,c1,gv,_,_,_,_,_,_,hs⟩:=hst;rw[hC];exact(hF h2).1.keep (hF h2).2 hs
   ·omega
  have rest:∀(γ σ:List AV) (a1:Act) (w:World),(∀s,o.dst≠some s→a1.tmps[s]? =a.tmps[s]?)→Ah dfs w1 S1 c1 γ σ a1 w→Cc P T H X K E r γ σ→wpC P ops cl C Q (l.map (·.1)++l2) a1 w:=fun γ σ a1 w ht hst h=>
   Hv hT hH hn hF hC l r γ σ a1 w hr (fun p hp=>hl p (Aya _ hp)) hst h (fun γ' σ' a' w' k1 k2 k3=>hK γ' σ' a' w' k1 k2 fun s hs=>(k3 s fun p hp=>hs p (Aya _ hp)).trans (ht s (hs (i,f) oS o ho))) hE
  simp only[Axx,Ax4,wpC];refine⟨o,ho,?_⟩;rcases hl (i,f) oS with⟨h0,h1,h2⟩|⟨h0,h1⟩
  ·simp only at h0 h1;subst h0;refine .inl ⟨h1,?_⟩;rcases hw with⟨hw,σ1,hst1,hq,hh⟩|⟨hw,σ1,hst1,hh⟩
   ·obtain ⟨v,k1,k2,γ',σ',k3,k4⟩:=Gc hT hH (by rw[h2 o ho];omega) (fun _=>hq) hst1 hh;exact⟨v,.inl ⟨hw,k2 (h2 o ho)⟩,rest γ' σ' _ w (fun s hs=>Cu _ _ _ s hs) k4 k3⟩
   ·exact ⟨undef,.inr ⟨hw,rfl⟩,rest γ σ1 _ w (fun s hs=>Cu _ _ _ s hs) hst1 hh⟩
  ·simp only at h0 h1
   have one:wpOp P ops Q i (fun a w=>(n=2→C w)∧wpC P ops cl C Q (l.map (·.1)++l2) a w) a w:=by
    unfold wpOp;simp only[ho];rcases hw with⟨hw,σ1,hst1,hh⟩|⟨hw,σ1,hst1,hh⟩
    ·rw [if_pos hw];have hh:hop P T H o.dst o.op γ σ1 (Cc P T H X K E r) E:=by exact An7
     left;refine A7 (fun a' w' ⟨⟨γ',σ',k1,k2⟩,k3⟩=>⟨fun h2=>hCw k2 h2,rest γ' σ' a' w' k3 k2 k1⟩) (Rb (Fj hT hH hst1 hh fun v γ' σ' w' g1 g2=>hE v γ' σ' a w' g1 g2))
    ·rw [if_neg (by simp [hw])];exact⟨fun h2=>hCw hst1 h2,rest γ σ1 _ w (fun s hs=>Cu _ _ _ s hs) hst1 hh⟩
   rcases hn with hn|hn
   ·exact .inr (.inr (.inl ⟨om,wpOp_mono (fun a w ⟨g1,g2⟩=>⟨g1 hn,g2⟩) one⟩))
   ·exact .inr (.inr (.inr ⟨om,wpOp_mono (fun a w g=>g.2) one⟩))
def LC (T:Bd) (X:List Nat) (t q:Nat) (S:Nat→Nat) (a:Act) (w:World):Prop:=∃(i:TI) (b off:Nat) (cv:List Value),T t=some i∧a.eval (.tmp q)=.pointer (some ⟨b,off,none⟩)∧cv.length=lsz i∧
 (∀(j:Nat) (u:Value),cv[j]? =some u→w.cell? ⟨b,off+j,none⟩=some u)∧(off+cv.length≤S b∨∃s∈X,a.tmps.toList[s]? =some (.pointer (some ⟨b,0,none⟩)))
theorem mZ (hT:Am P T) {X:List Nat} {t q:Nat} {d:Option Nat} {L:List AV→Prop} {S c:Nat→Nat} (hrf:RefOk σ a.tmps.toList) (hr:Aa w S σ a.tmps.toList c) (h:Ct P T d (.load t (.tmp q)) σ L) (hx:ldk X q (σ.getD q .any)=true):
 LC T X t q S a w:=by
 unfold Ct Rc at h;dsimp only at h
 have box:∀{s off Te:Nat} {cs:List AV} {i:TI},T t=some i→σ.getD s .any=.box Te cs→s∈X→off+lsz i≤cs.length→(∀b,a.tmps.toList[s]? =some (.pointer (some ⟨b,0,none⟩))→a.eval (.tmp q)=.pointer (some ⟨b,off,none⟩))→
  LC T X t q S a w:=fun{s off Te cs i} hi hb hs hl he=>by
  obtain⟨b,cur,d1,c2,hev,hbb,hS,hcs,hone,hr2,hc,hv⟩:=Hq hr hb;have hcl:=hcs.length;simp at hcl;refine⟨i,b,off,(cur.toList.drop off).take (lsz i),hi,he b hv,by simp;omega,fun j u hj=> ?_,.inr ⟨s,hs,hv⟩⟩;rw[cell_of_row w b (off+j) cur Te (0,0) hbb];exact AoH
 cases hq:σ.getD q .any<;>rw[hq]at hx<;>simp only[ldk,Ax0]at hx
 case box Te cs=>
  rw[hq]at h;unfold Fg at h;dsimp only at h;split at h
  ·rename_i i hi;unfold G6 at h;simp only[hq]at h;exact box hi hq (by simpa using hx) om fun b hb=>Ck hb
  ·exact Ad
 case ref s off=>
  rw[hq]at h;unfold Fg at h;dsimp only at h;split at h
  ·rename_i i hi;unfold G6 at h;simp only[hq]at h;split at h
   ·rename_i Te cs hb;refine box hi hb (by simpa using hx) h.1 fun b hb'=> ?_;obtain⟨b2,g1,g2⟩:=hrf.ref q s off Te cs (A4 hr hq oS) (A4 hr hb oS);rw[hb']at g1;cases g1;exact Ck g2
   ·exact Ad
  ·exact Ad
 case elt y=>
  rw[hq]at h;unfold Fg at h;dsimp only at h;split at h
  ·rename_i i hi;unfold G6 at h;simp only[hq]at h;obtain⟨v,c1,c2,hv,hy,h2,hc⟩:=hr.take q (A4 hr hq oS)
   cases hy with
   |elt hsp hcv h0 hcell hst hnil=>rename_i ad cv ce;obtain⟨bb,oo,sp⟩:=ad;simp at hsp;subst hsp;exact⟨i,bb,oo,cv,hi,Ck hv,by rw[hcv.length];exact h.2.1,fun j u hj=>(hcell j u hj).1,.inl hst⟩
  ·exact Ad
theorem ApG {t b off:Nat} {i:TI} {cv:List Value} (hi:Cx P t i) (hl:cv.length=lsz i) (hc:∀j u,cv[j]? =some u→w.cell? ⟨b,off+j,none⟩=some u):(Instr.loadAt t (.pointer (some ⟨b,off,none⟩))).run P w=.ok (if i.td.agg then .agg cv.toArray else cv.headD undef) w:=by
 obtain⟨inf,z,d,g1,_,_,g4,_,g6,g7⟩:=hi.get;have htd:=M0 (P:=P) (d:=d);unfold lsz at hl
 cases ha:i.td.agg with
 |true=>
  simp only[if_true];refine run_loadAt_mid w b off t cv d hc g6 ?_ ?_
  ·rw [g7,ha]at htd;cases d<;>simp_all [O9]
  ·rw [g1];rw[ha]at hl;simp at hl⊢;omega
 |false=>
  have hagg:(isAgg t).run P w=.ok false w:=by rw[g7,ha]at htd;exact Aie
  rw[ha]at hl;simp at hl
  match cv,hl with
  |[u],_=>have:=hc 0 u rfl;exact An4
theorem V5 (hT:Am P T) (hH:Cl P H) {l2:List Nat}:∀(l:List (Nat×Nat)) (cs:List (CO×Nat)) (γ σ:List AV) (a:Act),Cm ops l=some cs→(∀p∈l,(∀o,ops[p.1]? =some o→kc T o.op≤1)∧((p.2=0∧cl p.1=0∧∀o,ops[p.1]? =some o→kc T o.op=0)∨(p.2=2∧cl p.1=1∧∀o,ops[p.1]? =some o→kc T o.op=1)))→Ah dfs w0 S0 c0 γ σ a w→Cc P T H X K E cs γ σ→
 (∀γ σ a',Ah dfs w0 S0 c0 γ σ a' w→K γ σ→(∀s,(∀p∈l,∀o,ops[p.1]? =some o→o.dst≠some s)→a'.tmps[s]? =a.tmps[s]?)→wpC P ops cl (·=w) Q l2 a' w)→wpC P ops cl (·=w) Q (l.map (·.1)++l2) a w
 |[],cs,γ,σ,a,hcs,hl,hst,h,hK=>by simp only[Cm]at hcs;injection hcs with hcs;subst hcs;exact hK γ σ a hst h fun s _=>rfl
 |(i,f)::l,cs,γ,σ,a,hcs,hl,hst,h,hK=>by
  obtain⟨o,r,ho,hr,hw⟩:=Jf hcs hst h;obtain⟨hle0,hc⟩:=hl (i,f) oS;have hle:=hle0 o ho;clear hle0
  have rest:∀(γ σ:List AV) (v:Value),Ah dfs w0 S0 c0 γ σ (a.put o.dst v) w→Cc P T H X K E r γ σ→wpC P ops cl (·=w) Q (l.map (·.1)++l2) (a.put o.dst v) w:=fun γ σ v hst h=>
   V5 hT hH l r γ σ _ hr (fun p hp=>hl p (Aya _ hp)) hst h fun γ' σ' a' k1 k2 k3=>hK γ' σ' a' k1 k2 fun s hs=>(k3 s fun p hp=>hs p (Aya _ hp)).trans (Cu _ _ _ s (hs (i,f) oS o ho))
  simp only[Axx,Ax4,wpC];refine⟨o,ho,?_⟩;rcases hw with⟨hw,σ1,hst1,hh⟩|⟨hw,σ1,hst1,hh⟩
  ·rcases hc with⟨h0,h1,h2⟩|⟨h0,h1,h2⟩
   ·exact Amv
   ·simp only at h0 h1;subst h0;obtain⟨v,k1,k2,γ',σ',k3,k4⟩:=Gc hT hH hle (fun hz=>by rw[h2 o ho]at hz;cases hz) hst1 hh;exact .inr (.inl ⟨h1,trivial,v,.inl ⟨hw,fun w' hw'=>by rw[hw'];exact k1⟩,rest γ' σ' v k4 k3⟩)
  ·rcases hc with⟨h0,h1,h2⟩|⟨h0,h1,h2⟩
   ·exact .inl ⟨h1,undef,.inr ⟨hw,rfl⟩,rest γ σ1 undef hst1 hh⟩
   ·exact .inr (.inl ⟨h1,trivial,undef,.inr ⟨hw,rfl⟩,rest γ σ1 undef hst1 hh⟩)
theorem V6 (hT:Am P T) (hH:Cl P H):∀(l:List (Nat×Nat)) (cs:List (CO×Nat)) (γ σ:List AV) (a:Act) (S c:Nat→Nat),Cm ops l=some cs→(∀p∈l,(p.2=0∧cl p.1=0∧∀o,ops[p.1]? =some o→kc T o.op=0)∨(p.2=1∧cl p.1=1∧∀o,ops[p.1]? =some o→kc T o.op=1))→
 (∀p∈l,∀o,ops[p.1]? =some o→∀s∈X,o.dst≠some s)→Ah dfs w S c γ σ a w→Cc P T H X K E cs γ σ→
 ∃F a' γ' σ' S' c',(∀b,S b≤S' b)∧CF F w∧(∀p∈F,p.2.1<S' p.1∨∃s∈X,a'.tmps.toList[s]? =some (.pointer (some ⟨p.1,0,none⟩)))∧Ah dfs w S' c' γ' σ' a' w∧(∀γ σ a w',Ah dfs w S' c' γ σ a w'→Ah dfs w S c γ σ a w')∧K γ' σ'∧
  (∀s,(∀p∈l,∀o,ops[p.1]? =some o→o.dst≠some s)→a'.tmps[s]? =a.tmps[s]?)∧∀F',(∀p∈F,p∈F')→CF F' w→∀l2,wpC P ops cl (CF F') Q l2 a' w→wpC P ops cl (CF F') Q (l.map (·.1)++l2) a w
 |[],cs,γ,σ,a,S,c,hcs,hl,hX,hst,h=>by simp only[Cm]at hcs;injection hcs with hcs;subst hcs;exact⟨[],a,γ,σ,S,c,fun _=>Axu _,by simp [CF],oS,hst,fun _ _ _ _ h=>h,h,fun _ _=>rfl,fun F' _ _ l2 h=>h⟩
 |(i,f)::l,cs,γ,σ,a,S,c,hcs,hl,hX,hst,h=>by
  obtain⟨o,r,ho,hr,hw⟩:=Jf hcs hst h;have hc:=hl (i,f) oS;have hXo:=hX (i,f) oS o ho
  have rest:∀(γ1 σ1:List AV) (v:Value) (S1 c1:Nat→Nat) (F1:List (Nat×Nat×Value)),(∀b,S b≤S1 b)→CF F1 w→(∀p∈F1,p.2.1<S1 p.1∨∃s∈X,(a.put o.dst v).tmps.toList[s]? =some (.pointer (some ⟨p.1,0,none⟩)))→Ah dfs w S1 c1 γ1 σ1 (a.put o.dst v) w→(∀γ σ a w',Ah dfs w S1 c1 γ σ a w'→Ah dfs w S c γ σ a w')→Cc P T H X K E r γ1 σ1→
   ((cl i=0∧Yields P ops o v a)∨(cl i=1∧∀F',(∀p∈F1,p∈F')→YieldsIf P ops (CF F') o v a))→
   ∃F a' γ' σ' S' c',(∀b,S b≤S' b)∧CF F w∧(∀p∈F,p.2.1<S' p.1∨∃s∈X,a'.tmps.toList[s]? =some (.pointer (some ⟨p.1,0,none⟩)))∧Ah dfs w S' c' γ' σ' a' w∧(∀γ σ a w',Ah dfs w S' c' γ σ a w'→Ah dfs w S c γ σ a w')∧K γ' σ'∧
    (∀s,(∀p∈(i,f)::l,∀o,ops[p.1]? =some o→o.dst≠some s)→a'.tmps[s]? =a.tmps[s]?)∧∀F',(∀p∈F,p∈F')→CF F' w→∀l2,wpC P ops cl (CF F') Q l2 a' w→wpC P ops cl (CF F') Q (((i,f)::l).map (·.1)++l2) a w:=by
   intro γ1 σ1 v S1 c1 F1 hS hF hP hst1 hback hh hy;obtain⟨F,a',γ',σ',S',c',k1,k2,k3,k4,k5,k6,k7,k8⟩:=V6 hT hH l r γ1 σ1 _ S1 c1 hr (fun p hp=>hl p (Aya _ hp)) (fun p hp=>hX p (Aya _ hp)) hst1 hh;refine⟨F1++F,a',γ',σ',S',c',fun b=>Ax1 (hS b) (k1 b),fun p hp=> ?_,fun p hp=> ?_,k4,fun γ σ a w' h=>hback _ _ _ _ (k5 _ _ _ _ h),k6,fun s hs=>(k7 s fun p hp=>hs p (Aya _ hp)).trans (Cu _ _ _ s (hs (i,f) oS o ho)),fun F' hF' hCF l2 h=> ?_⟩
   ·rcases Ax5.1 hp with hp|hp
    ·exact hF p hp
    ·exact k2 p hp
   ·rcases Ax5.1 hp with hp|hp
    ·rcases hP p hp with h|⟨s,hs,h⟩
     ·exact .inl (Aym h (k1 _))
     ·refine .inr ⟨s,hs,?_⟩;rw[Array.getElem?_toList]at h⊢;rw[k7 s fun p hp o' ho'=>hX p (Aya _ hp) o' ho' s hs];exact h
    ·exact k3 p hp
   ·simp only[Axx,Ax4,wpC];refine⟨o,ho,?_⟩;have hrest:=k8 F' (fun p hp=>hF' p (List.mem_append_right _ hp)) hCF l2 h;rcases hy with⟨h0,hy⟩|⟨h1,hy⟩
    ·exact .inl ⟨h0,v,hy,hrest⟩
    ·exact .inr (.inl ⟨h1,hCF,v,hy F' fun p hp=>hF' p (AyH _ hp),hrest⟩)
  rcases hw with⟨hw,σ1,hst1,hh⟩|⟨hw,σ1,hst1,hh⟩
  ·rcases hc with⟨h0,h1,h2⟩|⟨h0,h1,h2⟩
   ·simp only at h0 h1;subst h0;obtain⟨v,k1,k2,γ',σ',k3,k4⟩:=Gc hT hH (by rw[h2 o ho];omega) (fun _=>hh.1) hst1 hh.2;exact rest γ' σ' v S c [] (fun _=>Axu _) (by simp [CF]) oS k4 (fun _ _ _ _ h=>h) k3 (.inl ⟨h1,.inl ⟨hw,k2 (h2 o ho)⟩⟩)
   ·simp only at h0 h1;subst h0;obtain⟨hld,hh⟩:=hh;obtain⟨S2,c2,c3,gv,hrf,hrr,hg,g1,hd,hz,hs⟩:=hst1;have hst2:Ah dfs w S2 (fun b=>c2 b+c3 b) γ σ1 a w:=⟨S2,c2,c3,gv,hrf,hrr,hg,g1,hd,hz,Stp.refl w S2 _⟩;have hback:∀γ σ a w',Ah dfs w S2 (fun b=>c2 b+c3 b) γ σ a w'→Ah dfs w S c γ σ a w':=fun γ σ a w' ⟨S',c',c1',gv',q1,q2,q3,q4,q5,q6,q7⟩=>⟨S',c',c1',gv',q1,q2,q3,q4,q5,q6,hs.trans q7⟩;obtain⟨v,k1,k2,γ',σ',k3,k4⟩:=Gc hT hH (by rw[h2 o ho];omega) (fun hz=>by rw[h2 o ho]at hz;cases hz) hst2 hh;unfold ldq at hld;split at hld
    ·rename_i t q hopq
     have hcop:Ct P T o.dst (.load t (.tmp q)) σ1 (Cc P T H X K E r γ):=by
      rw[hopq]at hh;unfold hop at hh;dsimp only at hh;split at hh
      ·rename_i b off hp;rw[Hl hp]at hld;cases hld
      ·exact hh
     obtain⟨j,b,off,cv,e1,e2,e3,e4,e5⟩:=mZ hT hrf hrr hcop hld;have hrun:∀w',(∀(j:Nat) (u:Value),cv[j]? =some u→w'.cell? ⟨b,off+j,none⟩=some u)→(execOp a.eval o).run P w'=.ok (.value (if j.td.agg then .agg cv.toArray else cv.headD undef)) w':=fun w' hcw=>by exact Ane
     have hv:v=(if j.td.agg then .agg cv.toArray else cv.headD undef):=by exact AnL
     have hmem:∀p∈(cv.zipIdx.map fun(u,j)=>(b,off+j,u)),∃j,cv[j]? =some p.2.2∧p.1=b∧p.2.1=off+j:=fun p hp=>by obtain⟨⟨u,j⟩,hm,rfl⟩:=AxB.1 hp;exact⟨j,by simpa using Ay7.1 hm,rfl,rfl⟩
     refine rest γ' σ' v S2 _ (cv.zipIdx.map fun(u,j)=>(b,off+j,u)) hs.le (fun p hp=> ?_) (fun p hp=> ?_) k4 hback k3 (.inr ⟨h1,fun F' hF'=>.inl ⟨hw,fun w' hw'=> ?_⟩⟩)
     ·obtain ⟨j,g1,g2,g3⟩:=hmem p hp;rw[g2,g3];exact e4 j _ g1
     ·obtain ⟨j,g1,g2,g3⟩:=hmem p hp;have hj:=(List.getElem?_eq_some_iff.1 g1).1;rcases e5 with e5|⟨s,hs,e5⟩
      ·left;rw[g2,g3];omega
      ·right;refine⟨s,hs,?_⟩;rw[g2];rw[Array.getElem?_toList]at e5⊢;rw[Cu _ _ _ s (hXo s hs)];exact e5
     ·rw [hv];refine hrun w' fun j u hj=>hw' (b,off+j,u) (hF' _ (AxB.2 ⟨(u,j),Ay7.2 (by simpa using hj),rfl⟩))
    ·cases hld
  ·refine rest γ σ1 undef S c [] (fun _=>Axu _) (by simp [CF]) oS hst1 (fun _ _ _ _ h=>h) hh ?_;rcases hc with⟨h0,h1,h2⟩|⟨h0,h1,h2⟩
   ·exact .inl ⟨h1,.inr ⟨hw,rfl⟩⟩
   ·exact .inr ⟨h1,fun F' _=>.inr ⟨hw,rfl⟩⟩
end
end
section
open Go.RowKit
variable [Env]
variable {dfs : List Deferred}
def rst (s:Nat) (x:AV) (K:List AV→Prop) (σ:List AV):Prop:=match x with
 |.box T cs=>σ.all (Km s)=true∧K (σ.set s (.box T cs))
 |.ref t off=>Jd (σ.getD t .any)=true∧t≠s∧K (σ.set s (.ref t off))
 |.row _ _ _|.alias _|.pref _ _ _ _=>False
 |x=>K (σ.set s x)
def hcd (X:List Nat) (x:AV) (σ:List AV):Prop:=match x with
 |.ref t _=>X.contains t=true∧Jd (σ.getD t .any)=true
 |.nbox _ _ _|.nmap _ _ _=>False
 |_=>True
def rs2 (s:Nat) (x:AV) (K:List AV→List AV→Prop) (γ σ:List AV):Prop:=rst s x (K γ) σ
def eB (run:(List AV→List AV→Prop)→List AV→List AV→Prop):List Nat→(List AV→List AV→Prop)→List AV→List AV→Prop
 |[],K,γ,σ=>run K γ σ
 |s::X,K,γ,σ=>hcd X (σ.getD s .any) σ∧eB run X (rs2 s (σ.getD s .any) K) γ (σ.set s .any)
section
variable {P : Program} {T : Bd} {H : Gy} {w0 w : World} {S0 c0 : Nat → Nat} {γ σ : List AV} {a : Act} {ops : Array Oper} {cl : Nat → Nat} {C : World → Prop} {Q : Exit → Act → World → Prop} {K : List AV → List AV → Prop} {E : Value → List AV → List AV → Prop} {X : List Nat}
theorem Ah.forget (h:Ah dfs w0 S0 c0 γ σ a w) (s:Nat):Ah dfs w0 S0 c0 γ (σ.set s .any) a w:=by
 by_cases hs:s<σ.length
 ·obtain ⟨S,c,c1,gv,hrf,hr,hg,h1,hd,hz,hst⟩:=h;have hs':s<a.tmps.toList.length:=by rw[hr.length];exact hs
  obtain⟨c',hr',hle⟩:=hr.put (.any (v:=a.tmps.toList[s]) (.nil Al)) s hs;rw[Ak (List.getElem?_eq_getElem hs')]at hr';exact⟨S,c',c1,gv,hrf.less s rfl,hr',hg,fun b=>by have:=h1 b;have:=hle b;omega,hd,hz,hst.drop fun b=>by have:=hle b;show c' b+c1 b≤c b+c1 b;omega⟩
 ·rw [Ayu om];exact h
theorem Stp.more {w':World} {S S' c d c':Nat→Nat} (h:Stp w S c w' S' c') (hd:∀b,c b≤d b):Stp w S d w' S' c':=
 ⟨h.os,h.tape,h.output,h.size,fun b hb h0=>h.keep b hb (by have:=hd b;omega),h.cell,h.le,fun b hb=>Ax1 (h.own b hb) (hd b)⟩
def Auh (Q:Exit→Act→World→Prop) (F:List (Nat×Nat×Value)) (fr:List Nat) (go:(Act→World→Prop)→Act→World→Prop) (run:(List AV→List AV→Prop)→List AV→List AV→Prop) (E:Value→List AV→Prop):Prop:=
 ∀(dfs:List Deferred) (w:World) (S c:Nat→Nat) (γ σ:List AV) (a:Act) (K:List AV→List AV→Prop) (post:Act→World→Prop),Ah dfs w S c γ σ a w→CF F w→Sf F w S c→run K γ σ→
  (∀γ' σ' a' w',Ah dfs w S c γ' σ' a' w'→K γ' σ'→(∀s∈fr,a'.tmps[s]? =a.tmps[s]?)→post a' w')→(∀v γ' σ' a' w',E v γ'→Ah dfs w S c γ' σ' a' w'→Q (.panic [{v:=v,recovered:=false}]) a' w')→go post a w
theorem V7 {F:List (Nat×Nat×Value)} {fr:List Nat} {go:(Act→World→Prop)→Act→World→Prop} {run:(List AV→List AV→Prop)→List AV→List AV→Prop} {E:Value→List AV→Prop} (hrun:Auh Q F fr go run E):
 ∀(X:List Nat),(∀s∈X,s∈fr)→∀(dfs:List Deferred) (w:World) (S c:Nat→Nat) (γ σ:List AV) (a:Act) (K:List AV→List AV→Prop) (post:Act→World→Prop),Ah dfs w S c γ σ a w→CF F w→
  (∀p∈F,p.2.1<S p.1∨(c p.1=0∧p.1<w.heap.size)∨∃s∈X,Jd (σ.getD s .any)=true∧a.tmps.toList[s]? =some (.pointer (some ⟨p.1,0,none⟩)))→eB run X K γ σ→
  (∀γ' σ' a' w',Ah dfs w S c γ' σ' a' w'→K γ' σ'→(∀s∈fr,a'.tmps[s]? =a.tmps[s]?)→post a' w')→(∀v γ' σ' a' w',E v γ'→Ah dfs w S c γ' σ' a' w'→Q (.panic [{v:=v,recovered:=false}]) a' w')→go post a w
 |[],_,dfs,w,S,c,γ,σ,a,K,post,hst,hC,hS,h,hp,hE=>hrun dfs w S c γ σ a K post hst hC (fun p hp=>by
  rcases hS p hp with h|h|⟨s,hs,_⟩
  ·exact .inl h
  ·exact .inr h
  ·cases hs) h hp hE
 |s::X,hX,dfs,w,S,c,γ,σ,a,K,post,hst,hC,hS,h,hp,hE=>by
  have ih:=V7 hrun X fun t ht=>hX t (by simp [ht]);have hsf:=hX s oS;simp only[eB]at h;obtain⟨hcd,h⟩:=h;by_cases hs:s<σ.length
  case neg=>
   have e1:σ.set s .any=σ:=Ayu om;have e2:σ.getD s .any=.any:=E3 om;rw[e1,e2]at h;refine ih dfs w S c γ σ a _ post hst hC (fun p hp=> ?_) h (fun γ' σ' a' w' g1 g2 g3=>hp γ' _ a' w' (g1.forget s) g2 g3) hE;rcases hS p hp with h|h|⟨t,ht,hb,hv⟩
   ·exact .inl h
   ·exact .inr (.inl h)
   ·rcases Ax2.1 ht with rfl|ht
    ·rw [e2]at hb;cases hb
    ·exact .inr (.inr ⟨t,ht,hb,hv⟩)
  case pos=>
   obtain⟨S1,cs,cg,gv,hrf,hr,hg,h1,hd,hz,hstp⟩:=hst;obtain⟨x,hx'⟩:∃x,σ[s]? =some x:=⟨_,List.getElem?_eq_getElem hs⟩;have hx:σ.getD s .any=x:=by rw[Axy,hx'];rfl
   obtain⟨v,c1,c2,hv,hxr,hr2,hc⟩:=hr.take s hx';have hst2:Ah dfs w S1 (fun b=>c2 b+cg b) γ (σ.set s .any) a w:=⟨S1,c2,cg,gv,hrf.less s rfl,hr2,hg,fun b=>by have:=h1 b;have:=hc b;omega,hd,hz,Stp.refl w S1 _⟩;have up:∀{w':World} {S' d:Nat→Nat},Stp w S1 (fun b=>c2 b+cg b) w' S' d→Stp w S1 (fun b=>cs b+cg b) w' S' d:=fun k=>k.more fun b=>by have:=hc b;omega
   rw[hx]at h;refine ih dfs w S1 (fun b=>c2 b+cg b) γ _ a _ post hst2 hC (fun p hp=> ?_) h (fun γ' σ' a' w' g1 g2 g3=> ?_) fun v γ' σ' a' w' g1 ⟨S',c',c1',gv',q1,q2,q3,q4,q5,q6,q7⟩=>hE v γ' σ' a' w' g1 ⟨S',c',c1',gv',q1,q2,q3,q4,q5,q6,hstp.trans (up q7)⟩
   ·rcases hS p hp with h|⟨h,hlt⟩|⟨t,ht,hb,htv⟩
    ·exact .inl (Aym h (hstp.le _))
    ·refine .inr (.inl ⟨?_,hlt⟩);have:=hstp.own _ hlt;have:=hc p.1;show c2 p.1+cg p.1=0;omega
    ·by_cases hts:t=s
     ·subst hts;rw[hx]at hb;rw[hv]at htv;injection htv with htv;subst htv
      have hlt:0<c1 p.1:=by
       cases x<;>simp only[Jd,Ax0]at hb
       cases hxr with
       |box hb' hS' h3 ho h4 hcc=>rw[hcc];simp;omega
      refine .inr (.inl ⟨?_,hxr.lt _ hlt⟩);have:=h1 p.1;have:=hc p.1;show c2 p.1+cg p.1=0;omega
     ·have ht:=(Ax2.1 ht).resolve_left hts;refine .inr (.inr ⟨t,ht,?_,htv⟩);rw[Axy,List.getElem?_set_ne (fun h=>hts h.symm),←Axy];exact hb
   ·obtain ⟨S',c',c1',gv',krf,kr,kg,k1,kd,kz,kst⟩:=g1;have hv':a'.tmps.toList[s]? =some v:=by exact Anq
    have hxr':Aa w' S' [x] [v] c1:=hxr.step kst fun b=>by have:=h1 b;have:=hc b;show c1 b+(c2 b+cg b)≤1;omega
    have hlen:s<σ'.length:=by have:=kr.length;have:=(List.getElem?_eq_some_iff.1 hv').1;omega
    obtain⟨c'',kr2,kle⟩:=kr.put hxr' s hlen;rw[Ak hv']at kr2
    have fin:RefOk (σ'.set s x) a'.tmps.toList→K γ' (σ'.set s x)→post a' w':=fun hrf' hK=>by
     refine hp γ' _ a' w' ⟨S',c'',c1',gv',hrf',kr2,kg,fun b=> ?_,kd,kz,hstp.trans ?_⟩ hK g3
     ·have:=kle b;by_cases hb:b<w.heap.size
      ·have e1:c' b+c1' b≤c2 b+cg b:=kst.own b hb;have:=h1 b;have:=hc b;omega
      ·exact AmN
     ·refine ⟨kst.os,kst.tape,kst.output,kst.size,fun b hb hcb=>kst.keep b hb (by have:=hc b;have h0:cs b+cg b=0:=hcb;show c2 b+cg b=0;omega),kst.cell,kst.le,fun b hb=> ?_⟩;have e1:c' b+c1' b≤c2 b+cg b:=kst.own b hb;have:=kle b;have:=hc b;show c'' b+c1' b≤cs b+cg b;omega
    cases x with
    |box T cs=>exact fin (by
     have:=krf.newbox (d:=s) T cs v g2.1;rwa [Ak hv']at this) g2.2
    |ref t off=>
     obtain⟨q1,q2,q3⟩:=g2;refine fin ?_ q3;rw[hx]at hcd;obtain⟨p1,p2⟩:=hcd;obtain⟨T0,cs0,hb0⟩:∃T cs,σ.getD t .any=.box T cs:=by cases hq:σ.getD t .any<;>rw[hq]at p2<;>simp [Jd]at p2;exact⟨_,_,rfl⟩
     obtain⟨T1,cs1,hb1⟩:∃T cs,σ'.getD t .any=.box T cs:=by cases hq:σ'.getD t .any<;>rw[hq]at q1<;>simp [Jd]at q1;exact⟨_,_,rfl⟩
     obtain⟨b,r1,r2⟩:=hrf.ref s t off T0 cs0 hx' (A4 hr hb0 oS);have htf:=g3 t (hX t (Aya _ (by simpa using p1)));rw[hv]at r2;injection r2 with r2;have:=krf.newref (d:=s) (off:=off) (b:=b) (A4 kr hb1 oS) q2 (by rw[Array.getElem?_toList,htf,←Array.getElem?_toList];exact r1) kr.length;rw[←r2,Ak hv']at this;exact this
    |row e k es=>exact g2.elim
    |alias t=>exact g2.elim
    |pref t k j o=>exact g2.elim
    |nbox b T cs=>rw[hx]at hcd;exact hcd.elim
    |nmap b ks vs=>rw[hx]at hcd;exact hcd.elim
    |_=>exact fin (krf.less s rfl) g2
def K3 (l1 l2:List (Nat×Nat)) (l:List (Nat×Nat)) (i:Nat):Nat:=match l.lookup i with
 |some 0=>0
 |some _=>bif (l1.lookup i).isSome then 1 else bif (l2.lookup i).isSome then 2 else 3
 |none=>3
def dr1 (P:Program) (T:Bd) (H:Gy) (K:List AV→List AV→Prop) (E:Value→List AV→List AV→Prop) (l1 l3:List (CO×Nat)):List AV→List AV→Prop:=Cc P T H [] (Cc P T H [] K E l3) E l1
def Aui (X:List Nat) (σ:List AV):Bool:=X.all fun s=>match σ.getD s .any with
 |.box _ _=>true
 |.ref t _=>X.contains t&&Jd (σ.getD t .any)
 |_=>false
def rn2 (P:Program) (T:Bd) (H:Gy) (E:Value→List AV→List AV→Prop) (l2:List (CO×Nat)) (K:List AV→List AV→Prop):List AV→List AV→Prop:=Cc P T H [] K E l2
def hd2 (P:Program) (T:Bd) (H:Gy) (K:List AV→List AV→Prop) (E:Value→List AV→List AV→Prop) (X:List Nat) (l2 l3:List (CO×Nat)) (γ σ:List AV):Prop:=Aui X σ=true∧eB (rn2 P T H E l2) X (Cc P T H [] K E l3) γ σ
def dr2 (P:Program) (T:Bd) (H:Gy) (K:List AV→List AV→Prop) (E:Value→List AV→List AV→Prop) (X Y:List Nat) (l1 l2 l3:List (CO×Nat)):List AV→List AV→Prop:=Cc P T H X (hd2 P T H K E Y l2 l3) E l1
def kcB (T:Bd) (ops:Array Oper) (n:Nat) (p:Nat×Nat):Bool:=match ops[p.1]? with
 |some o=>(p.2==0&&kc T o.op==0)||(p.2==n&&kc T o.op==1)
 |none=>false
def Ado (T:Bd) (ops:Array Oper) (p:Nat×Nat):Bool:=match ops[p.1]? with
 |some o=>p.2 != 0||kc T o.op==0
 |none=>false
def clB (cl:Nat→Nat) (n:Nat) (p:Nat×Nat):Bool:=cl p.1==bif p.2==0 then 0 else n
def awB (ops:Array Oper) (X:List Nat) (p:Nat×Nat):Bool:=match ops[p.1]? with
 |some o=>X.all fun s=>o.dst != some s
 |none=>false
def wD (T:Bd) (ops:Array Oper) (n:Nat) (X Y:List Nat) (l1 l2 l3:List (Nat×Nat)):Bool:=
 drB ops (K3 l1 l2 (l1++(l2++l3))) ((l1++(l2++l3)).map (·.1))&&(l1.all (kcB T ops n)&&(l2.all (Ado T ops)&&(l3.all (Ado T ops)&&(l1.all (clB (K3 l1 l2 (l1++(l2++l3))) 1)&&(l2.all (clB (K3 l1 l2 (l1++(l2++l3))) 2)&&(l3.all (clB (K3 l1 l2 (l1++(l2++l3))) 3)&&((l1.all (awB ops X)&&(l2.all (awB ops Y)&&X.all (fun s=>Y.contains s))))))))))
theorem eC {n:Nat} {p:Nat×Nat} (h:kcB T ops n p=true):(p.2=0∧∀o,ops[p.1]? =some o→kc T o.op=0)∨(p.2=n∧∀o,ops[p.1]? =some o→kc T o.op=1):=by
 unfold kcB at h;split at h
 ·rename_i o ho;simp only[Ayk,Ax3,beq_iff_eq]at h;rcases h with⟨h1,h2⟩|⟨h1,h2⟩
  ·exact .inl ⟨h1,fun o' ho'=>by rw[ho]at ho';injection ho' with ho';rw[←ho'];exact h2⟩
  ·exact .inr ⟨h1,fun o' ho'=>by rw[ho]at ho';injection ho' with ho';rw[←ho'];exact h2⟩
 ·cases h
theorem V8 {p:Nat×Nat} (h:Ado T ops p=true) (h0:p.2=0):∀o,ops[p.1]? =some o→kc T o.op=0:=by unfold Ado at h;intro o ho;rw[ho]at h;simpa[h0]using h
theorem K4 {n:Nat} {p:Nat×Nat} (h:clB cl n p=true):(p.2=0→cl p.1=0)∧(p.2≠0→cl p.1=n):=by
 unfold clB at h;refine⟨fun h0=>by simpa[h0]using h,fun h0=> ?_⟩;have:(p.2==0)=false:=by simpa using h0
 simpa[this]using h
theorem eG {p:Nat×Nat} (h:awB ops X p=true):∀o,ops[p.1]? =some o→∀s∈X,o.dst≠some s:=by unfold awB at h;intro o ho s hs;rw[ho]at h;simpa using Ax7.1 h s hs
def QR (dfs:List Deferred) (w0:World) (S0 c0:Nat→Nat) (K:List AV→List AV→Prop) (E:Value→List AV→Prop):Exit→Act→World→Prop
 |.normal,a,w=>∃γ σ,K γ σ∧Ah dfs w0 S0 c0 γ σ a w
 |.panic [⟨v,false,false⟩],a,w=>∃γ σ,E v γ∧Ah dfs w0 S0 c0 γ σ a w
 |_,_,_=>False
theorem Ah.blank {d:Option Tmp} {v:Value} (h:Ah dfs w0 S0 c0 γ σ (a.put d v) w):∃σ',Ah dfs w0 S0 c0 γ σ' a w:=by
 obtain⟨S,c,c1,gv,hrf,hr,hg,h1,hd,hz,hs⟩:=h
 have hun:∀(us:List Value),Aa w S (List.replicate us.length .any) us (fun _=>0):=fun us=>by
  induction us with
  |nil=>exact .nil Al
  |cons u us ih=>exact .any ih
 have hd':a.defers=dfs:=by rw[←hd,put_defers]
 refine⟨_,S,_,c1,gv,?_,hun a.tmps.toList,hg,fun b=>by have:=h1 b;omega,hd',hz,hs.drop fun b=>Nat.add_le_add_right (AxM _) _⟩;have hno:∀{i:Nat} {x:AV},(List.replicate a.tmps.toList.length AV.any)[i]? =some x→x=.any:=fun hi=>AyF (Axt hi);exact⟨fun i s off T cs hi _=>absurd (hno hi) oS,fun i s e k es hi _=>absurd (hno hi) oS,fun i s k j o e k' es hi _=>absurd (hno hi) oS⟩
theorem Adp {E:Value→List AV→Prop} {c:List PanicEntry} {d:Option Tmp} {v:Value} (h:QR dfs w0 S0 c0 K E (.panic c) (a.put d v) w):QR dfs w0 S0 c0 K E (.panic c) a w:=by
 match c,h with
 |[⟨v',false,false⟩],⟨γ,σ,hE,h⟩=>obtain⟨σ',h⟩:=h.blank;exact⟨γ,σ',hE,h⟩
theorem wE (hT:Am P T) (hH:Cl P H) {E:Value→List AV→Prop} {l1 l3:List (Nat×Nat)} {c1 c3:List (CO×Nat)} (h1:Cm ops l1=some c1) (h3:Cm ops l3=some c3) (hok:wD T ops 2 [] [] l1 [] l3=true) (hst:Ah dfs w0 S0 c0 γ σ a w) (h:dr1 P T H K (fun v γ _=>E v γ) c1 c3 γ σ):
 wpAny P .any ops (QR dfs w0 S0 c0 K E) ops.size (Array.replicate ops.size false) a w:=by
 simp only[wD,Ax3,Ax8,List.all_nil]at hok;obtain⟨k1,k2,_,k4,k5,_,k7,_⟩:=hok
 have hw:wpC P ops (K3 l1 [] (l1++l3)) (·=w) (QR dfs w0 S0 c0 K E) (l1.map (·.1)++l3.map (·.1)) a w:=by
  refine V5 hT hH l1 c1 γ σ a h1 (fun p hp=> ?_) hst h fun γ' σ' a' hst' h' _=> ?_
  ·exact Ath
  ·have:=Hv (C:=(·=w)) (n:=3) (l2:=[]) (F:=[]) hT hH (.inr rfl) (fun h=>om) (.inr rfl) (Q:=QR dfs w0 S0 c0 K E) l3 c3 γ' σ' a' w h3 (cl:=K3 l1 [] (l1++l3)) (fun p hp=> ?_) hst' h' (fun γ σ a w hst hK _=>⟨γ,σ,hK,hst⟩) (fun v γ σ a w hE hst=>⟨γ,σ,hE,hst⟩)
   ·exact G5
   ·exact Ao9
 rw[←AxJ]at hw;exact V4 k1 (fun c a d v w h=>Adp h) hw
theorem wF {Y:List Nat} (hT:Am P T) (hH:Cl P H) {E:Value→List AV→Prop} {l1 l2 l3:List (Nat×Nat)} {c1 c2 c3:List (CO×Nat)} (h1:Cm ops l1=some c1) (h2:Cm ops l2=some c2) (h3:Cm ops l3=some c3) (hok:wD T ops 1 X Y l1 l2 l3=true) (hst:Ah dfs w0 S0 c0 γ σ a w) (h:dr2 P T H K (fun v γ _=>E v γ) X Y c1 c2 c3 γ σ):
 wpAny P .any ops (QR dfs w0 S0 c0 K E) ops.size (Array.replicate ops.size false) a w:=by
 simp only[wD,Ax3]at hok;obtain⟨k1,k2,k3,k4,k5,k6,k7,k8,k9,k10⟩:=hok;obtain⟨S,c,_,hst1,hback⟩:=hst.base
 obtain⟨F,a',γ',σ',S',c',q1,q2,q3,q4,q5,q6,q7,q8⟩:=V6 (Q:=QR dfs w0 S0 c0 K E) (cl:=K3 l1 l2 (l1++(l2++l3))) hT hH l1 c1 γ σ a S c h1 (fun p hp=>by
  have g1:=K4 (Ax7.1 k5 p hp);rcases eC (Ax7.1 k2 p hp)with⟨g2,g3⟩|⟨g2,g3⟩
  ·exact .inl ⟨g2,g1.1 g2,g3⟩
  ·exact .inr ⟨g2,g1.2 om,g3⟩) (fun p hp=>eG (Ax7.1 k8 p hp)) hst1 h
 have hXY:∀s∈X,s∈Y:=fun s hs=>by simpa using Ax7.1 k10 s hs
 have hfr:∀s∈Y,∀p∈l2,∀o,ops[p.1]? =some o→o.dst≠some s:=fun s hs p hp o ho=>eG (Ax7.1 k9 p hp) o ho s hs
 have hrun:Auh (QR dfs w0 S0 c0 K E) F Y (fun post a w=>∀L,(∀a w,post a w→wpC P ops (K3 l1 l2 (l1++(l2++l3))) (CF F) (QR dfs w0 S0 c0 K E) L a w)→wpC P ops (K3 l1 l2 (l1++(l2++l3))) (CF F) (QR dfs w0 S0 c0 K E) (l2.map (·.1)++L) a w) (rn2 P T H (fun v γ _=>E v γ) c2) E:=by
  intro dfs' w' S2 c2' γ2 σ2 a2 K2 post hst2 hC hS hh hp hE L hL
  exact Hv (C:=CF F) (n:=2) hT hH (.inl rfl) (fun _=>⟨hC,hS⟩) (.inl rfl) l2 c2 γ2 σ2 a2 w' h2 (fun p hp=>by
   have g1:=K4 (Ax7.1 k6 p hp);by_cases hp0:p.2=0
   ·exact .inl ⟨hp0,g1.1 hp0,V8 (Ax7.1 k3 p hp) hp0⟩
   ·exact .inr ⟨hp0,g1.2 hp0⟩) hst2 hh (fun γ σ a w g1 g2 g3=>hL a w (hp γ σ a w g1 g2 fun s hs=>g3 s fun p hp o ho=>hfr s hs p hp o ho)) (fun v γ σ a w g1 g2=>hE v γ σ a w g1 g2)
 obtain⟨q6a,q6⟩:=q6;have hmid:=V7 hrun Y (fun s hs=>hs) dfs w S' c' γ' σ' a' _ (fun a w=>wpC P ops (K3 l1 l2 (l1++(l2++l3))) (CF F) (QR dfs w0 S0 c0 K E) (l3.map (·.1)) a w) q4 q2 (fun p hp=> ?_) q6 (fun γ3 σ3 a3 w3 g1 g2 _=> ?_) (fun v γ σ a w g1 g2=>⟨γ,σ,g1,hback _ _ _ _ (q5 _ _ _ _ g2)⟩) (l3.map (·.1)) (fun a w h=>h)
 ·have hw:=q8 F (fun p hp=>hp) q2 _ hmid;exact Anl
 ·rcases q3 p hp with h|⟨s,hs,h⟩
  ·exact .inl h
  ·right;right;have hs:=hXY s hs;have hs':=Ax7.1 q6a s hs;split at hs'
   ·rename_i Te cs hb;exact⟨s,hs,by rw[hb];rfl,h⟩
   ·rename_i t off hb;simp only[Ax3]at hs';obtain⟨Sx,cx,cgx,gvx,hrf,hr,_⟩:=q4;obtain⟨T0,cs0,hb0⟩:∃T cs,σ'.getD t .any=.box T cs:=by have p2:=hs'.2;cases hq:σ'.getD t .any<;>rw[hq]at p2<;>simp [Jd]at p2;exact⟨_,_,rfl⟩
    obtain⟨b,r1,r2⟩:=hrf.ref s t off T0 cs0 (A4 hr hb oS) (A4 hr hb0 oS);rw[h]at r2;injection r2 with r2;injection r2 with r2;injection r2 with r2;injection r2 with r2 _ _;exact⟨t,by simpa using hs'.1,hs'.2,by rw[r2];exact r1⟩
   ·cases hs'
 ·have:=Hv (C:=CF F) (n:=3) (l2:=[]) (F:=[]) hT hH (.inr rfl) (fun h=>om) (.inr rfl) (Q:=QR dfs w0 S0 c0 K E) l3 c3 γ3 σ3 a3 w3 h3 (cl:=K3 l1 l2 (l1++(l2++l3))) (fun p hp=> ?_) g1 g2 (fun γ σ a w hst hK _=>⟨γ,σ,hK,hback _ _ _ _ (q5 _ _ _ _ hst)⟩) (fun v γ σ a w hE hst=>⟨γ,σ,hE,hback _ _ _ _ (q5 _ _ _ _ hst)⟩)
  ·exact G5
  ·exact Ao9
end
end
end Go.Proofs.YtmophjggmekoeaaGreatDoor
