/- The walk of a list of nodes. -/
import Derived.Recover
import Derived.Defers
import Derived.Test.YtmophjggmekoeaaGreatDoorC24
set_option linter.all false
set_option maxRecDepth 100000
set_option maxHeartbeats 4000000
namespace Go.Proofs.YtmophjggmekoeaaGreatDoor
section
open Go.RowKit Go.Proofs
theorem W1.tup {xs ys:List AV} (h:Wk xs ys):W1 (.tup xs) (.tup ys):=fun w S v c hr=>by exact Amr
theorem J3:∀l:List Nd,(Mw l).length=l.length
 |[]=>rfl
 |x::l=>by simp only[Mw,Axr,J3 l]
theorem Ali {av:Ac→Int} {ts:List Tk} (X:Alc av ts) (b:Nat) (sz:Nat) (hl:ts.length≤1000000):∀(f d:Nat) (ws:List Ac) (n:Nat),n≤ts.length→ws.length≤1000000→d≤8→ts.length<n+f→
 RH 91 [pt b,num d,.sl 1 (ws.map str)] b ts sz n (B6 av ts sz f d ws n []) (fun x r=>r=.tup [.sl 8 (Mw x.1),str x.2]):=by
 intro f
 induction f using Nat.strongRecOn with
 |ind f ih=>
  intro d ws n hn hwl hd hf;unfold RH;refine HC.weak ?_;refine B3 [] [] [(2,[],[0,1,2,4,5,6,2003,2007,8,9],[],[]),(14,[],[0,1,3,2002,4],[],[])] Bo Dv Cq Tryz.func91 oD oK (by simp only[Tryz.f91,go_sem,reduceIte];rfl) Tryz.ntmps91 Tryz.results91 rfl ?_;simp only[LS,Nat.reduceAdd,Nat.reduceSub];simp only[rd,num,str,pt,Ai];repeat' first|refine Aj.on (fun _=>?_) (fun _=>?_)|with_reducible refine gd ?_|simp only[go_sem]
  refine Ax [false,false,false,false,false,false,false,false,false,true,true,true,true,true,true,true,true,true,true,true,true,true,true,true,true,true,true,true,true,true,true,true,true,true,true,true,true,true,true,true,true,true,true,true,true,true,true,true,true,true,true,true,true,true,true,true,true,true,true,true,true,true,true,true,true,true,true,true,true,true,true,true,true,true,true,true,true,true,true,true,true,true,true,true,true,true,true,true,true,true,true,true,true,true,true,false,false,false,false,false,false,false,false,false] [8] (fun m xs γ=>∃l k,k≤ts.length∧l.length≤k∧m≤f∧xs=[.own 234 8 (Mw l)]∧γ=rd b ts k sz∧B6 av ts sz f d ws n []=B6 av ts sz m d ws k l∧ts.length<k+m) ⟨f,_,_,⟨[],n,hn,AxM _,Axu _,rfl,rfl,rfl,hf⟩,hent (Gw.refl _) ?_⟩ ?_
  ·simp only[PU,str,Mw];exact Rt
  ·rintro m xs γ ⟨l,k,hk,hlk,hmf,rfl,rfl,hp,hm⟩;obtain⟨m,rfl⟩:∃j,m=j+1:=⟨m-1,om⟩;rw[hp];simp only[PU,str,rd];by_cases hlt:k<ts.length;rotate_left
   ·have e1:=eq_false (show¬(k:Int)<(ts.length:Int) by omega)
    cases ws with
    |nil=>
     have e2:=eq_false (show¬(0:Int)<((0:Nat):Int) by omega);repeat' first|refine Aj.on (fun _=>?_) (fun _=>?_)|with_reducible refine gd ?_|simp only[go_sem,e1,e2,Axp,Axq]
     refine⟨_,_,W1.tup (ys:=[AV.sl 8 (Mw l),str []]) ?_,rfl,Gw.refl _,(l,[]),k,by simp [B6,hlt],rfl,rfl⟩;simp only[str];exact Rt
    |cons w ws=>
     have e2:=eq_true (show(0:Int)<((ws.length+1:Nat):Int) by omega);repeat' first|refine Aj.on (fun _=>?_) (fun _=>?_)|with_reducible refine gd ?_|simp only[go_sem,e1,e2,Axp,Axr]
     exact⟨_,Gw.refl _,_,k,by simp [B6,hlt],rfl,rfl⟩
   have e1:=eq_true (show(k:Int)<(ts.length:Int) by omega);repeat' first|refine Aj.on (fun _=>?_) (fun _=>?_)|with_reducible refine gd ?_|simp only[go_sem,e1,Axp]
   refine(Rl b ts k sz 1 hl).mono ?_ (fun _ _ h=>h.elim);rintro r γ ⟨rfl,rfl⟩;simp only[Ai,rd];cases hmo:Gq ts k 1;rotate_left
   ·repeat' first|refine Aj.on (fun _=>?_) (fun _=>?_)|with_reducible refine gd ?_|simp only[go_sem,hmo]
    refine RH.gb (Dq b ts k sz 1 hl) (fun q n' ho=>by simp only[go_sem];exact⟨_,Gw.refl _,q,n',by simp [B6,hlt,hmo,ho],rfl,rfl⟩) (fun t1 n1 r h1 hr=> ?_);subst hr;have hk1:=Bb h1;simp only[Rk,num,str];repeat' first|refine Aj.on (fun _=>?_) (fun _=>?_)|with_reducible refine gd ?_|simp only[go_sem,J3,Tb,N9]
    refine Au m _ _ om ⟨l++[.mk 1 t1.text [] [] 0 [] [] []],n1,om,by simp;omega,om,rfl,rfl,by simp [B6,hlt,hmo,h1],om⟩ (hent (Gw.refl _) ?_);simp only[PU,str,Oa,Mw,nd1,nd5,fM,Axv];exact Rt
   repeat' first|refine Aj.on (fun _=>?_) (fun _=>?_)|with_reducible refine gd ?_|simp only[go_sem,hmo]
   refine RH.gb (Dq b ts k sz 6 hl) (fun q n' ho=>by simp only[go_sem];exact⟨_,Gw.refl _,q,n',by simp [B6,hlt,hmo,ho],rfl,rfl⟩) (fun t1 n1 r h1 hr=> ?_);subst hr;have hk1:=Bb h1;simp only[Rk,num,str];repeat' first|refine Aj.on (fun _=>?_) (fun _=>?_)|with_reducible refine gd ?_|simp only[go_sem]
   refine RH.gb (Dq b ts n1 sz 2 hl) (fun q n' ho=>by simp only[go_sem];exact⟨_,Gw.refl _,q,n',by simp [B6,hlt,hmo,h1,ho],rfl,rfl⟩) (fun t2 n2 r h2 hr=> ?_);subst hr;have hk2:=Bb h2;simp only[Rk,num,str];cases hE:t2.text==[101,108,115,101];rotate_left
   ·have hw:t2.text=Ei∨t2.text=G1:=.inl (by simpa[Ei]using hE);repeat' first|refine Aj.on (fun _=>?_) (fun _=>?_)|with_reducible refine gd ?_|simp only[go_sem,hE]
    refine HC.old (X.cont ws t2.text hwl) ?_;rintro r rfl;simp only[Ai];cases hc:ws.contains t2.text
    ·exact Ato
    repeat' first|refine Aj.on (fun _=>?_) (fun _=>?_)|with_reducible refine gd ?_|simp only[go_sem,hc]
    have hc:t2.text∈ws:=by simpa using hc
    refine RH.gb (Dq b ts n2 sz 7 hl) (fun q n' ho=>by simp only[go_sem];exact⟨_,Gw.refl _,q,n',by simp [B6,hlt,hmo,h1,h2,hw,hc,ho],rfl,rfl⟩) (fun t3 n3 r h3 hr=> ?_);subst hr;have hk3:=Bb h3;simp only[Rk,num,str];repeat' first|refine Aj.on (fun _=>?_) (fun _=>?_)|with_reducible refine gd ?_|simp only[go_sem]
    refine⟨_,_,W1.tup (ys:=[AV.sl 8 (Mw l),str t2.text]) ?_,rfl,Gw.refl _,(l,t2.text),n3,by simp [B6,hlt,hmo,h1,h2,hw,hc,h3],rfl,rfl⟩;simp only[str];exact Rt
   cases hN:t2.text==[101,110,100];rotate_left
   ·have hw:t2.text=Ei∨t2.text=G1:=.inr (by simpa[G1]using hN);repeat' first|refine Aj.on (fun _=>?_) (fun _=>?_)|with_reducible refine gd ?_|simp only[go_sem,hE,hN]
    refine HC.old (X.cont ws t2.text hwl) ?_;rintro r rfl;simp only[Ai];cases hc:ws.contains t2.text
    ·exact Ato
    repeat' first|refine Aj.on (fun _=>?_) (fun _=>?_)|with_reducible refine gd ?_|simp only[go_sem,hc]
    have hc:t2.text∈ws:=by simpa using hc
    refine RH.gb (Dq b ts n2 sz 7 hl) (fun q n' ho=>by simp only[go_sem];exact⟨_,Gw.refl _,q,n',by simp [B6,hlt,hmo,h1,h2,hw,hc,ho],rfl,rfl⟩) (fun t3 n3 r h3 hr=> ?_);subst hr;have hk3:=Bb h3;simp only[Rk,num,str];repeat' first|refine Aj.on (fun _=>?_) (fun _=>?_)|with_reducible refine gd ?_|simp only[go_sem]
    refine⟨_,_,W1.tup (ys:=[AV.sl 8 (Mw l),str t2.text]) ?_,rfl,Gw.refl _,(l,t2.text),n3,by simp [B6,hlt,hmo,h1,h2,hw,hc,h3],rfl,rfl⟩;simp only[str];exact Rt
   have hE':¬t2.text=Ei:=by simpa[Ei]using hE
   have hN':¬t2.text=G1:=by simpa[G1]using hN
   cases hF:t2.text==[102,111,114];rotate_left
   ·have hF':t2.text=Kh:=by simpa[Kh]using hF
    have hw:¬(t2.text=Ei∨t2.text=G1):=fun h=>h.elim hE' hN';by_cases h8:d=8
    ·have e8:=eq_true (show(d:Int)=8 by omega);repeat' first|refine Aj.on (fun _=>?_) (fun _=>?_)|with_reducible refine gd ?_|simp only[go_sem,hE,hN,hF,e8]
     exact⟨_,Gw.refl _,_,n2,by simp [B6,hlt,hmo,h1,h2,hE',hN',hF',show¬Kh=Ei by decide,show¬Kh=G1 by decide,h8],rfl,rfl⟩
    have e8:=eq_false (show¬(d:Int)=8 by omega);have hd1:IntKind.i64.wrap ((d:Int)+1)=((d+1:Nat):Int):=Eu om;repeat' first|refine Aj.on (fun _=>?_) (fun _=>?_)|with_reducible refine gd ?_|simp only[go_sem,hE,hN,hF,e8,hd1]
    refine RH.gb (Ale X b n2 sz (d+1) (fun ws n=>B6 av ts sz m (d+1) ws n []) hl hk2.2 (fun ws n hw _ h=>ih m om (d+1) ws n h hw om om)) (fun q n' ho=>by simp only[go_sem];exact⟨_,Gw.refl _,q,n',by simp [B6,hlt,hmo,h1,h2,hE',hN',hF',show¬Kh=Ei by decide,show¬Kh=G1 by decide,h8,ho],rfl,rfl⟩) (fun x3 n3 r h3 hr=> ?_);subst hr;have hk3:=fQ (fun ws n x n' _ hn h=>Fz hn h) h3;simp only[num,str,fM];repeat' first|refine Aj.on (fun _=>?_) (fun _=>?_)|with_reducible refine gd ?_|simp only[go_sem,J3,Tb,N9]
    refine Au m _ _ om ⟨l++[x3],n3,om,by simp;omega,om,rfl,rfl,by simp [B6,hlt,hmo,h1,h2,hE',hN',hF',show¬Kh=Ei by decide,show¬Kh=G1 by decide,h8,h3],om⟩ (hent (Gw.refl _) ?_);simp only[PU,str,Oa,Mw,nd1,nd5,fM,Axv];exact Rt
   have hF':¬t2.text=Kh:=by simpa[Kh]using hF
   cases hI:t2.text==[105,102];rotate_left
   ·have hI':t2.text=fN:=by simpa[fN]using hI
    by_cases h8:d=8
    ·have e8:=eq_true (show(d:Int)=8 by omega);repeat' first|refine Aj.on (fun _=>?_) (fun _=>?_)|with_reducible refine gd ?_|simp only[go_sem,hE,hN,hF,hI,e8]
     exact⟨_,Gw.refl _,_,n2,by simp [B6,hlt,hmo,h1,h2,hE',hN',hF',hI',show¬fN=Ei by decide,show¬fN=G1 by decide,show¬fN=Kh by decide,h8],rfl,rfl⟩
    have e8:=eq_false (show¬(d:Int)=8 by omega);have hd1:IntKind.i64.wrap ((d:Int)+1)=((d+1:Nat):Int):=Eu om;repeat' first|refine Aj.on (fun _=>?_) (fun _=>?_)|with_reducible refine gd ?_|simp only[go_sem,hE,hN,hF,hI,e8,hd1]
    refine RH.gb (Alf b ts n2 sz (d+1) (fun ws n=>B6 av ts sz m (d+1) ws n []) hl hk2.2 (fun ws n hw _ h=>ih m om (d+1) ws n h hw om om) (fun ws n x n' _ hn h=>Fz hn h)) (fun q n' ho=>by simp only[go_sem];exact⟨_,Gw.refl _,q,n',by simp [B6,hlt,hmo,h1,h2,hE',hN',hF',hI',show¬fN=Ei by decide,show¬fN=G1 by decide,show¬fN=Kh by decide,h8,ho],rfl,rfl⟩) (fun x3 n3 r h3 hr=> ?_);subst hr;have hk3:=fR (fun ws n x n' _ hn h=>Fz hn h) h3;simp only[num,str,fM];repeat' first|refine Aj.on (fun _=>?_) (fun _=>?_)|with_reducible refine gd ?_|simp only[go_sem,J3,Tb,N9]
    refine Au m _ _ om ⟨l++[x3],n3,om,by simp;omega,om,rfl,rfl,by simp [B6,hlt,hmo,h1,h2,hE',hN',hF',hI',show¬fN=Ei by decide,show¬fN=G1 by decide,show¬fN=Kh by decide,h8,h3],om⟩ (hent (Gw.refl _) ?_);simp only[PU,str,Oa,Mw,nd1,nd5,fM,Axv];exact Rt
   have hI':¬t2.text=fN:=by simpa[fN]using hI
   cases hU:t2.text==[105,110,99,108,117,100,101];rotate_left
   ·have hU':t2.text=Lc:=by simpa[Lc]using hU
    repeat' first|refine Aj.on (fun _=>?_) (fun _=>?_)|with_reducible refine gd ?_|simp only[go_sem,hE,hN,hF,hI,hU]
    refine RH.gb (Dq b ts n2 sz 2 hl) (fun q n' ho=>by simp only[go_sem];exact⟨_,Gw.refl _,q,n',by simp [B6,hlt,hmo,h1,h2,hE',hN',hF',hI',hU',show¬Lc=Ei by decide,show¬Lc=G1 by decide,show¬Lc=Kh by decide,show¬Lc=fN by decide,ho],rfl,rfl⟩) (fun t3 n3 r h3 hr=> ?_);subst hr;have hk3:=Bb h3;simp only[Rk,num,str];repeat' first|refine Aj.on (fun _=>?_) (fun _=>?_)|with_reducible refine gd ?_|simp only[go_sem,J3,Tb,N9]
    refine RH.gb (Dq b ts n3 sz 7 hl) (fun q n' ho=>by simp only[go_sem];exact⟨_,Gw.refl _,q,n',by simp [B6,hlt,hmo,h1,h2,hE',hN',hF',hI',hU',show¬Lc=Ei by decide,show¬Lc=G1 by decide,show¬Lc=Kh by decide,show¬Lc=fN by decide,h3,ho],rfl,rfl⟩) (fun t4 n4 r h4 hr=> ?_);subst hr;have hk4:=Bb h4;simp only[Rk,num,str];repeat' first|refine Aj.on (fun _=>?_) (fun _=>?_)|with_reducible refine gd ?_|simp only[go_sem]
    refine Au m _ _ om ⟨l++[.mk 5 [] t3.text [] 0 [] [] []],n4,om,by simp;omega,om,rfl,rfl,by simp [B6,hlt,hmo,h1,h2,hE',hN',hF',hI',hU',show¬Lc=Ei by decide,show¬Lc=G1 by decide,show¬Lc=Kh by decide,show¬Lc=fN by decide,h3,h4],om⟩ (hent (Gw.refl _) ?_);simp only[PU,str,Oa,Mw,nd1,nd5,fM,Axv];exact Rt
   have hU':¬t2.text=Lc:=by simpa[Lc]using hU
   repeat' first|refine Aj.on (fun _=>?_) (fun _=>?_)|with_reducible refine gd ?_|simp only[go_sem,hE,hN,hF,hI,hU]
   refine RH.gb (Agi b ts n2 sz t2.text hl hk2.2) (fun q n' ho=>by simp only[go_sem];exact⟨_,Gw.refl _,q,n',by simp [B6,hlt,hmo,h1,h2,hE',hN',hF',hI',hU',ho],rfl,rfl⟩) (fun x3 n3 r h3 hr=> ?_);subst hr;have hk3:=Wg hk2.2 h3;simp only[num,str,fM];repeat' first|refine Aj.on (fun _=>?_) (fun _=>?_)|with_reducible refine gd ?_|simp only[go_sem,J3,Tb,N9]
   refine Au m _ _ om ⟨l++[x3],n3,om,by simp;omega,om,rfl,rfl,by simp [B6,hlt,hmo,h1,h2,hE',hN',hF',hI',hU',h3],om⟩ (hent (Gw.refl _) ?_);simp only[PU,str,Oa,Mw,nd1,nd5,fM,Axv];exact Rt
end
section
open Go.RowKit
variable [Env]
variable {dfs : List Deferred}
def oE:FrameMode→Option (Value×FrameMode)
 |.returning=>some (.nilIface,.returning)
 |.panicking [⟨.iface t v,false,false⟩]=>some (.iface t v,.panicking [⟨.iface t v,true,false⟩])
 |_=>none
def fS (K:FrameMode→List AV→List AV→Prop) (d:Option Nat) (γ σ:List AV):Option (Value×FrameMode)→Prop
 |some (v,u)=>K u γ (aset σ d (.raw v))
 |none=>False
def Tf:Op→Bool
 |.call ⟨.builtin .recover,_,_⟩=>true
 |_=>false
def Od (P:Program) (T:Bd) (H:Gy) (K:FrameMode→List AV→List AV→Prop) (E:Value→List AV→List AV→Prop):List CO→FrameMode→List AV→List AV→Prop
 |[],u,γ,σ=>K u γ σ
 |⟨d,op,none⟩::l,u,γ,σ=>bif Tf op then fS (fun u γ σ=>Od P T H K E l u γ σ) d γ σ (oE u)else hop P T H d op γ σ (fun γ σ=>Od P T H K E l u γ σ) E
 |_::_,_,_,_=>False
section
variable {P : Program} {T : Bd} {H : Gy} {w0 w : World} {S0 c0 : Nat → Nat} {γ σ : List AV} {a : Act}
theorem yM {u u':FrameMode} {v:Value} (h:oE u=some (v,u')) (c:Frame) (cs:List Frame) (hc:c.mode=u):
 v.oneCell'=true∧((u=.returning∧u'=.returning∧v=.nilIface∧recoverD (c::cs)=none)∨recoverD (c::cs)=some (v,{c with mode:=u'}::cs)):=by
 unfold oE at h;split at h
 ·injection h with h;injection h with h1 h2;subst h1;subst h2;exact⟨rfl,.inl ⟨rfl,rfl,rfl,by simp [recoverD,hc]⟩⟩
 ·injection h with h;injection h with h1 h2;subst h1;subst h2;exact⟨rfl,.inr (by simp [recoverD,hc])⟩
 ·cases h
theorem oF {op:Op} (h:Tf op=true):∃xs ts,op=.call ⟨.builtin .recover,xs,ts⟩:=by
 unfold Tf at h;split at h
 ·exact ⟨_,_,rfl⟩
 ·cases h
theorem Qm (hT:Am P T) (hH:Cl P H) {ops:Array Oper} {K:FrameMode→List AV→List AV→Prop} {E:Value→List AV→List AV→Prop} {Q:Exit→Act→List Frame→World→Prop} (cb:Frame) (cr:List Frame):
 ∀(l:List Nat) (os:List Oper) (cs:List CO) (u:FrameMode) (γ σ:List AV) (a:Act) (w:World),l.map (ops[·]?)=os.map some→B2 ops os=some cs→Ah dfs w0 S0 c0 γ σ a w→Od P T H K E cs u γ σ→
  (∀u γ σ a' w',Ah dfs w0 S0 c0 γ σ a' w'→K u γ σ→Q .normal a' ({cb with mode:=u}::cr) w')→(∀u v γ σ a' w',E v γ σ→Ah dfs w0 S0 c0 γ σ a' w'→Q (.panic [{v:=v,recovered:=false}]) a' ({cb with mode:=u}::cr) w')→wpOpsS P ops Q l a ({cb with mode:=u}::cr) w
 |[],os,cs,u,γ,σ,a,w,hl,hcs,hst,h,hQ,hE=>by
  cases os with
  |nil=>simp [B2]at hcs;subst hcs;exact hQ u γ σ a w hst h
  |cons o os=>simp at hl
 |i::l,[],cs,u,γ,σ,a,w,hl,hcs,hst,h,hQ,hE=>by simp at hl
 |i::l,o::os,cs,u,γ,σ,a,w,hl,hcs,hst,h,hQ,hE=>by
  simp only[Axx,List.cons.injEq]at hl;obtain⟨ho,hl⟩:=hl;simp only[B2]at hcs;split at hcs
  ·rename_i g r hg hr;injection hcs with hcs;subst hcs;have rest:∀u γ σ a w,Ah dfs w0 S0 c0 γ σ a w→Od P T H K E r u γ σ→wpOpsS P ops Q l a ({cb with mode:=u}::cr) w:=fun u γ σ a w hst h=>Qm hT hH cb cr l os r u γ σ a w hl hr hst h hQ hE
   cases hgd:o.guard with
   |some jw=>
    obtain⟨j,want⟩:=jw;rw[hgd]at hg;simp only[Bf]at hg;split at hg
    ·injection hg with hg;subst hg;exact Ad
    ·cases hg
   |none=>
    rw[hgd]at hg;simp only[Bf]at hg;injection hg with hg;subst hg;have hw:Region.wanted o (yielded ops a.tmps)=true:=by simp [Region.wanted,hgd]
    simp only[Od]at h;simp only[wpOpsS,ho];rw[if_pos hw]
    cases hrec:Tf o.op with
    |true=>
     rw[hrec]at h;simp only[cond_true]at h;obtain⟨xs,ts,hop⟩:=oF hrec;have hrun:(execOp a.eval o).run P w=.ok .recover w:=by unfold execOp;simp [hop,resolve,invoke,builtin]
     rw[hrun]
     cases hu:oE u with
     |none=>rw[hu]at h;exact h.elim
     |some q=>
      obtain⟨v,u'⟩:=q;rw[hu]at h;simp only[fS]at h;obtain⟨hone,hsp⟩:=yM hu {cb with mode:=u} cr rfl;have hput:Ah dfs w0 S0 c0 γ (aset σ o.dst (.raw v)) (a.put o.dst v) w:=by obtain⟨S,c,c1,gv,hrf,hrr,hgg,h1,hd,hz,hs⟩:=hst;obtain⟨c4,h2,h3⟩:=hrr.aset (.raw (v:=v) hone (.nil Al)) o.dst;exact⟨S,c4,c1,gv,hrf.aset _ _ rfl,h2,hgg,fun b=>by have:=h1 b;have:=h3 b;omega,by rw[put_defers];exact hd,hz,hs.drop fun b=>by have:=h3 b;show c4 b+c1 b≤c b+c1 b;omega⟩
      rcases hsp with⟨rfl,rfl,rfl,hr2⟩|hr2
      ·rw [hr2];exact rest _ _ _ _ _ hput h
      ·rw [hr2];exact rest _ _ _ _ _ hput h
    |false=>
     rw[hrec]at h;simp only[cond_false]at h;have hwp:=Fj (Q:=fun e a' w'=>Q e a' ({cb with mode:=u}::cr) w') hT hH hst h fun v γ' σ' w' h1 h2=>hE u v γ' σ' a w' h1 h2;have hwp2:=A7 (fun a' w' ⟨γ',σ',h1,h2⟩=>rest u γ' σ' a' w' h2 h1) hwp;unfold Oper.wp at hwp2;split
     ·rename_i w' hr2;rw[hr2]at hwp2;exact hwp2.elim
     ·exact hwp2
  ·cases hcs
def HD (P:Program) (g:Nat) (args γ:List AV) (u:FrameMode) (K:FrameMode→List AV→Prop):Prop:=
 Gn P g∧∀w S vs gv c c1,Sz w S→Aa w S args vs c→Aa w S γ gv c1→(∀b,c b+c1 b≤1)→CallsD P g vs.toArray u w fun e u' w'=>
  ∃v γ' S' c1' gv',e=.returned v∧K u' γ'∧Aa w' S' γ' gv' c1'∧(∀b,c1' b≤1)∧Sz w' S'∧Stp w S (fun b=>c b+c1 b) w' S' c1'
theorem Aol (hT:Am P T) (hH:Cl P H) (hm:P.follows .mixedOrders=true) {A:L2} {EE:List Nat} {O:Pr} {f:Nat} {fn:Func} {id:Nat} {ops:Array Oper} {code:Code} {l:List CO} {d:CH} {args γ:List AV} {u:FrameMode} {K:FrameMode→List AV→Prop} (hf:P.funcs[f]? =some fn) (hb:fn.body=some (.seq (.region id ops false) code)) (hl:B2 ops ops.toList=some l) (hcd:Bm A EE O code=some d) (hck:He T A EE O code=true) (hn:(fn.name== "runtime.NumGoroutine")=false) (hpa:args.all pb=true) {nt:Nat} (hnt:fn.ntmps=nt) (hrs:fn.results= #[])
 (h:Od P T H (fun u γ σ=>Cd P T H d (fun e γ σ=>(e=.normal∨e=.ret)∧K u γ) γ σ) (fun _ _ _=>False) l u γ (args++List.replicate (nt-args.length) .any)):HD P f args γ u K:=by
 refine⟨⟨fn,_,hf,hb,hn⟩,fun w S vs gv c c1 hz hr hg hc=> ?_⟩;have hlen:=hr.length;refine callsD_of_wpS hf hb fun cb cr hcb=>wpS_seq (wpS_region ?_);have hcb':cb={cb with mode:=u}:=by rw[←hcb]
 rw[hcb'];refine Qm (dfs:=[]) (w0:=w) (S0:=S) (c0:=fun b=>c b+c1 b) hT hH cb cr (List.range ops.size) ops.toList l u γ _ _ w ?_ hl ?_ h (fun u' γ' σ' a' w' hst hK=> ?_) (fun _ _ _ _ _ _ hE _=>hE.elim)
 ·exact Aa5
 ·refine ⟨S,c,c1,gv,?_,?_,hg,hc,rfl,hz,Stp.refl w S _⟩
  ·exact qz9
  ·have hun:∀n,Aa w S (List.replicate n .any) (List.replicate n undef) (fun _=>0):=by
    intro n
    induction n with
    |zero=>exact .nil Al
    |succ n ih=>exact .any ih
   have:=Aa.app hr (hun (nt-args.length)) (c:=c) (fun b=>oS);simpa[hnt,hlen]using this
 ·refine wpS_of_wp (wp_mono (Br hT hH hm code d hcd hck _ γ' σ' a' w' hst hK) fun e a2 w2 hq=> ?_);obtain⟨γ2,σ2,⟨he,hK2⟩,S',c',c1',gv',hrf',hr',hg',h1,hd,hz',hs⟩:=hq
  have fin:a2.defers=[]∧∃u2,{cb with mode:=u'}::cr={{cb with mode:=u}with mode:=u2}::cr∧∃v,(results fn a2.tmps).run P w2=.ok v w2∧∃v' γ' S' c1' gv',Ending.returned v=.returned v'∧K u2 γ'∧Aa w2 S' γ' gv' c1'∧(∀b,c1' b≤1)∧Sz w2 S'∧Stp w S (fun b=>c b+c1 b) w2 S' c1':=
   ⟨hd,u',rfl,.tuple #[],by rw[Jv];simp [hrs],_,γ2,S',c1',gv',rfl,hK2,hg',fun b=>by have:=h1 b;omega,hz',hs.drop fun b=>by show c1' b≤c' b+c1' b;omega⟩
  rcases he with rfl|rfl
  ·exact fin
  ·exact fin
end
end
section
open Go.RowKit
variable [Env]
def oG:AV→AV
 |.raw v=>.raw v
 |_=>.any
abbrev ptr (b:Nat):Value:=.pointer (some ⟨b,0,none⟩)
def pb0:AV→Option Nat
 |.raw (.pointer (some ⟨b,0,none⟩))=>some b
 |_=>none
theorem Agj {x:AV} {b:Nat} (h:pb0 x=some b):x=.raw (ptr b):=by
 unfold pb0 at h;split at h
 ·injection h with h;subst h;rfl
 ·cases h
def nb0:AV→Option (Nat×Nat×List AV)
 |.nbox b T cs=>some (b,T,cs)
 |_=>none
theorem Agk {x:AV} {b T:Nat} {cs:List AV} (h:nb0 x=some (b,T,cs)):x=.nbox b T cs:=by
 unfold nb0 at h;split at h
 ·injection h with h;injection h with h1 h2;injection h2 with h2 h3;subst h1;subst h2;subst h3;rfl
 ·cases h
def Kb:List Nat→(List Nat→List AV→List AV→Prop)→List AV→List AV→Prop
 |[],K,γ,σ=>K [] γ σ
 |s::ss,K,γ,σ=>match σ.getD s .any with
  |.box T cs=>∀b,(∀x∈γ,M8 x≠some b)→Kb ss (fun bs=>K (b::bs)) (.nbox b T cs::γ) (σ.set s (.raw (ptr b)))
  |_=>False
def rbK:List (Nat×Nat)→(List AV→List AV→Prop)→List AV→List AV→Prop
 |[],K,σ,γ=>K σ γ
 |(s,i)::l,K,σ,γ=>match pb0 (σ.getD s .any),nb0 (γ.getD i .any)with
  |some b,some (b',T,cs)=>b'=b∧rbK l K (σ.set s (.box T cs)) (γ.set i .any)
  |_,_=>False
theorem getD_some {σ:List AV} {s:Nat} {x:AV} (h:σ.getD s .any=x) (hx:x≠ .any):σ[s]? =some x:=by
 rw[Axy]at h
 cases hs:σ[s]? with
 |none=>rw[hs]at h;exact absurd h.symm hx
 |some y=>rw[hs]at h;exact congrArg some h
section
variable {P : Program} {T : Bd} {H : Gy} {dfs : List Deferred} {w0 w : World} {S S0 c0 : Nat → Nat} {γ σ : List AV} {a : Act}
theorem Wh {w':World} {S':Nat→Nat}:∀{σ:List AV} {vs:List Value} {c:Nat→Nat},Aa w S σ vs c→Aa w' S' (σ.map oG) vs (fun _=>0)
 |[],vs,c,h=>by cases h with|nil hz=>exact .nil Al
 |x::σ,vs,c,h=>by
  obtain⟨v,us,c1,c2,rfl,h1,h2,_⟩:=h.uncons;have ih:=Wh (w':=w') (S':=S') h2
  cases x<;>first
   |(obtain⟨rfl,ho,_⟩:=Ay h1;exact .raw ho ih)
   |exact .any ih
theorem yN {vs gv:List Value} {c c1:Nat→Nat} {s i b T:Nat} {cs:List AV} (hr:Aa w S σ vs c) (hg:Aa w S γ gv c1) (hs:σ[s]? =some (.raw (ptr b))) (hi:γ[i]? =some (.nbox b T cs)):
 ∃c' gv' c1',Aa w S (σ.set s (.box T cs)) vs c'∧Aa w S (γ.set i .any) gv' c1'∧∀x,c' x+c1' x=c x+c1 x:=by
 obtain⟨u,f1,f2,hv,hu,h2,hc⟩:=hg.take i hi
 cases hu with
 |nbox hb hS hcs hoc h hcc=>
  rename_i cur d1 d2;cases h with|nil hz=>
  obtain⟨v,e1,e2,hv',hy,h3,hc'⟩:=hr.take s hs;obtain⟨rfl,_,hz1⟩:=Ay hy;have hf:=h3.fill (Aa.box hb hS hcs hoc (.nil Al) (c:=fun x=>(if x=b then 1 else 0)+(d1 x+0)) (fun x=>rfl)) s (by rw[List.getElem?_set_self (List.getElem?_eq_some_iff.1 hs).1]);rw[Ayn,Ak hv']at hf;exact⟨_,_,_,hf,h2,fun x=>by have:=hc x;have:=hc' x;have:=hcc x;have:=hz x;have:=hz1 x;omega⟩
theorem Wj:∀{l:List (Nat×Nat)} {K:List AV→List AV→Prop} {σ γ:List AV} {vs gv:List Value} {c c1:Nat→Nat},Aa w S σ vs c→Aa w S γ gv c1→rbK l K σ γ→
 ∃σ' γ' gv' c' c1',K σ' γ'∧Aa w S σ' vs c'∧Aa w S γ' gv' c1'∧∀x,c' x+c1' x=c x+c1 x
 |[],K,σ,γ,vs,gv,c,c1,hr,hg,h=>⟨σ,γ,gv,c,c1,h,hr,hg,fun _=>rfl⟩
 |(s,i)::l,K,σ,γ,vs,gv,c,c1,hr,hg,h=>by
  unfold rbK at h;split at h
  ·rename_i b b' T cs hp hq;obtain⟨rfl,h⟩:=h;obtain⟨c',gv',c1',h1,h2,h3⟩:=yN hr hg (getD_some (Agj hp) (by intro h;cases h)) (getD_some (Agk hq) (by intro h;cases h));obtain⟨σ',γ',gv2,c2,c3,g1,g2,g3,g4⟩:=Wj h1 h2 h;exact⟨σ',γ',gv2,c2,c3,g1,g2,g3,fun x=>by rw[g4,h3]⟩
  ·exact Ad
theorem Iv:∀{ss:List Nat} {K:List Nat→List AV→List AV→Prop} {γ σ:List AV},Ah dfs w0 S0 c0 γ σ a w→Kb ss K γ σ→
 ∃bs γ' σ',K bs γ' σ'∧Ah dfs w0 S0 c0 γ' σ' a w∧ss.map (fun s=>a.eval (.tmp s))=bs.map ptr
 |[],K,γ,σ,hst,h=>⟨[],γ,σ,h,hst,rfl⟩
 |s::ss,K,γ,σ,hst,h=>by
  unfold Kb at h;split at h
  ·rename_i T cs hx;have hx':=getD_some hx (by intro h;cases h);obtain⟨b,hb,hst'⟩:=hst.name hx';obtain⟨bs,γ',σ',h1,h2,h3⟩:=Iv hst' (h b hb);have he:a.eval (.tmp s)=ptr b:=hst'.raw (t:=s) (by rw[Axy,List.getElem?_set_self (List.getElem?_eq_some_iff.1 hx').1];rfl);exact⟨b::bs,γ',σ',h1,h2,by simp only[Axx,he,h3]⟩
  ·exact Ad
theorem sI (hT:Am P T) (hH:Cl P H) (hm:P.follows .mixedOrders=true) (A:L2) (E:List Nat) (O:Pr) (ss:List Nat) {c:Code} {d:CH} {Q:Exit→List AV→List AV→Prop} (hd:Bm A E O c=some d) (hk:He T A E O c=true) (h:Kb ss (fun _ γ σ=>Cd P T H d Q γ σ) γ σ):Cd P T H (.ext c) Q γ σ:=fun dfs w0 S0 c0 a w hst=>
 let ⟨_,γ',σ',h1,h2,_⟩:=Iv hst h
 Br hT hH hm c d hd hk Q γ' σ' a w h2 h1
def yO (P:Program) (T:Bd) (H:Gy) (Q:Exit→List AV→List AV→Prop) (K:List AV→List AV→Prop):List CH→List AV→List AV→Prop
 |[],γ,σ=>K γ σ
 |d::ds,γ,σ=>Cd P T H d (Jg (yO P T H Q K ds) Q) γ σ
theorem Tg (hT:Am P T) (hH:Cl P H) (hm:P.follows .mixedOrders=true) {A:L2} {E:List Nat} {O:Pr} {Q:Exit→List AV→List AV→Prop} {K:List AV→List AV→Prop} {R:Exit→Act→World→Prop} {B:Code}
 (hQ:∀e γ σ a w,e≠ .normal→Q e γ σ→Ah dfs w0 S0 c0 γ σ a w→R e a w) (hK:∀γ σ a w,K γ σ→Ah dfs w0 S0 c0 γ σ a w→B.wp P R a w):
 ∀{As:List Code} {ds:List CH} {γ σ:List AV} {a:Act} {w:World},As.map (Bm A E O)=ds.map some→As.all (He T A E O)=true→Ah dfs w0 S0 c0 γ σ a w→yO P T H Q K ds γ σ→(As.foldr .seq B).wp P R a w
 |[],ds,γ,σ,a,w,hA,hk,hst,h=>by
  cases ds with
  |nil=>exact hK γ σ a w h hst
  |cons d ds=>cases hA
 |x::As,ds,γ,σ,a,w,hA,hk,hst,h=>by
  cases ds with
  |nil=>cases hA
  |cons d ds=>
   simp only[Axx,List.cons.injEq]at hA;simp only[Azb,Ax3]at hk;refine wp_seq (wp_mono (Br hT hH hm x d hA.1 hk.1 _ γ σ a w hst h) fun e a2 w2 hq=> ?_);obtain⟨γ2,σ2,hq,hst2⟩:=hq
   cases e with
   |normal=>exact Tg hT hH hm hQ hK hA.2 hk.2 hst2 hq
   |_=>exact hQ _ _ _ _ _ (by intro h;cases h) hq hst2
def AuI (P:Program) (T:Bd) (g:Nat) (rs:List ResultVar) (l:List (Nat×Nat)) (K:AV→List AV→Prop) (bs:List Nat):Exit→List AV→List AV→Prop
 |.normal,γ,σ|.ret,γ,σ=>HD P g (bs.map fun b=>.raw (ptr b)) γ .returning fun u γ'=>settle u=.returning∧rbK l (fun σ γ=>Hu T rs σ fun vs=>K (Sy vs) γ) (σ.map oG) γ'
 |.panic [⟨v,false,false⟩],γ,σ=>HD P g (bs.map fun b=>.raw (ptr b)) γ (.panicking [⟨v,false,false⟩]) fun u γ'=>settle u=.returning∧rbK l (fun σ γ=>Hu T rs σ fun vs=>K (Sy vs) γ) (σ.map oG) γ'
 |_,_,_=>False
theorem fT (w:World) (S:Nat→Nat):∀bs:List Nat,Aa w S (bs.map fun b=>.raw (ptr b)) (bs.map ptr) (fun _=>0)
 |[]=>.nil Al
 |b::bs=>.raw rfl (fT w S bs)
theorem oH (hT:Am P T) {id d g t1 t2:Nat} {ss:List Nat} {p1 p2:String} {a1 a2:Array Edge} {ty:Array Nat} {bs:List Nat} {Q:Exit→Act→World→Prop}
 (hst:Ah [] w0 S0 c0 γ σ a w) (hb:ss.map (fun s=>a.eval (.tmp s))=bs.map ptr) (hd:d<σ.length)
 (h:∀a',Ah [⟨.fn (.func g) (bs.map ptr).toArray,#[]⟩] w0 S0 c0 γ (σ.set d .any) a' w→Q .normal a' w):
 (Code.region id #[{dst:=some d,op:=.makeFunc (.func g) #[] (ss.map Operand.tmp).toArray,type:=t1,pos:=p1,after:=a1,guard:=none},{dst:=none,op:=.defer {callee:=.value (.tmp d),args:= #[],argTypes:=ty},type:=t2,pos:=p2,after:=a2,guard:=none}] false).wp P Q a w:=by
 refine wp_region ?_;have hcap:((ss.map Operand.tmp).toArray.map a.eval)=(bs.map ptr).toArray:=by rw[←hb];simp [Function.comp_def]
 obtain⟨S,c,c1,gv,hrf,hr,hg,h1,hdf,hz,hs⟩:=hst;have hlen:d<a.tmps.size:=by have:=hr.length;rw[Ay1]at this;omega
 have h0:a.eval (.tmp d)=a.eval (.tmp d):=rfl;show wpOps P _ _ [0,1] a w;simp only[wpOps,List.getElem?_toArray,List.getElem?_cons_zero,List.getElem?_cons_succ];rw[if_pos (by simp [Region.wanted])];refine .inl ?_;unfold Oper.wp;rw[show(execOp a.eval {dst:=some d,op:=.makeFunc (.func g) #[] (ss.map Operand.tmp).toArray,type:=t1,pos:=p1,after:=a1,guard:=none}).run P w=.ok (.value (.func (.func g) #[] (bs.map ptr).toArray)) w from by unfold execOp;simp only[Instr.makeFunc,hcap];simp];rw[Oper.upon_value];rw[if_pos (by simp [Region.wanted])];refine .inl ?_;dsimp only;have hev:(a.put (some d) (.func (.func g) #[] (bs.map ptr).toArray)).eval (.tmp d)=.func (.func g) #[] (bs.map ptr).toArray:=by simp [Act.eval,Act.put,hlen]
 rw[show(execOp (a.put (some d) (.func (.func g) #[] (bs.map ptr).toArray)).eval {dst:=none,op:=.defer {callee:=.value (.tmp d),args:= #[],argTypes:=ty},type:=t2,pos:=p2,after:=a2,guard:=none}).run P w=.ok (.defer ⟨.fn (.func g) (bs.map ptr).toArray,#[]⟩) w from by unfold execOp;simp only[resolve,hev,Deferred.ofValue];simp];rw[Oper.upon_defer];refine h _ ?_;obtain⟨c4,h2,h3⟩:=hr.aset (.any (v:=.func (.func g) #[] (bs.map ptr).toArray) (.nil Al)) (some d);have hrf2:=hrf.aset (y:=.any) (some d) (.func (.func g) #[] (bs.map ptr).toArray) rfl;refine⟨S,c4,c1,gv,hrf2,h2,hg,fun b=>by have:=h1 b;have:=h3 b;omega,?_,hz,hs.drop fun b=>by have:=h3 b;show c4 b+c1 b≤c b+c1 b;omega⟩;show _::(a.put (some d) _).defers=_;rw[put_defers,hdf]
theorem Agl (hT:Am P T) {fn:Func} {rs:List ResultVar} (hrs:fn.results.toList=rs) {w':World} {S' c c' c1':Nat→Nat} {gv':List Value} {K:AV→List AV→Prop} (hr':Aa w' S' σ a.tmps.toList c') (hg':Aa w' S' γ gv' c1') (h1:∀b,c' b+c1' b≤1) (hz':Sz w' S') (hs:Stp w0 S0 c w' S' (fun b=>c' b+c1' b)) (hq:Hu T rs σ fun vs=>K (Sy vs) γ):
 ∃v,(results fn a.tmps).run P w'=.ok v w'∧∃v' r γ' S' c' c1' gv',Ending.returned v=.returned v'∧K r γ'∧pb r=true∧Aa w' S' [r] [v'] c'∧Aa w' S' γ' gv' c1'∧(∀b,c' b+c1' b≤1)∧Sz w' S'∧Stp w0 S0 c w' S' (fun b=>c' b+c1' b):=by
 obtain⟨rvs,us,cv,hrun,hK,hv,hle,hul,hpb⟩:=Gb hT rs σ c' _ hr' hq;have hm:(fn.results.mapM (I1 a.tmps)).run P w'=.ok us.toArray w':=by exact Anj
 refine⟨(if h:us.toArray.size=1 then us.toArray[0]else .tuple us.toArray),?_,_,_,γ,S',cv,c1',gv',rfl,hK,?_,?_,hg',fun b=>by have:=h1 b;have:=hle b;omega,hz',hs.drop fun b=>by have:=hle b;show cv b+c1' b≤c' b+c1' b;omega⟩
 ·exact AnN
 ·match rvs,hpb with
  |[],_=>rfl
  |[v],hpb=>exact hpb v oS
  |v::v'::rvs,_=>rfl
 ·exact Ao8
theorem Ti (hT:Am P T) (hH:Cl P H) (hm:P.follows .mixedOrders=true) (A:L2) (E:List Nat) (O:Pr) {f:Nat} {fn:Func} {code B:Code} {As:List Code} {ds:List CH} {dB:CH} {id d g t1 t2:Nat} {ss:List Nat} {p1 p2:String} {a1 a2:Array Edge} {ty:Array Nat} {args γ:List AV} {K:AV→List AV→Prop} {F:Value→List AV→Prop} (l:List (Nat×Nat))
 (hf:P.funcs[f]? =some fn) (hb:fn.body=some code) (hn:(fn.name== "runtime.NumGoroutine")=false) (hpa:args.all pb=true) {nt:Nat} (hnt:fn.ntmps=nt) {rs:List ResultVar} (hrs:fn.results.toList=rs)
 (hsp:code=As.foldr .seq (.seq (.region id #[{dst:=some d,op:=.makeFunc (.func g) #[] (ss.map Operand.tmp).toArray,type:=t1,pos:=p1,after:=a1,guard:=none},{dst:=none,op:=.defer {callee:=.value (.tmp d),args:= #[],argTypes:=ty},type:=t2,pos:=p2,after:=a2,guard:=none}] false) B))
 (hA:As.map (Bm A E O)=ds.map some) (hAk:As.all (He T A E O)=true) (hB:Bm A E O B=some dB) (hBk:He T A E O B=true)
 (h:yO P T H (hfin T rs K F) (fun γ σ=>Kb ss (fun bs γ σ=>d<σ.length∧Cd P T H dB (AuI P T g rs l K bs) γ (σ.set d .any)) γ σ) ds γ (args++List.replicate (nt-args.length) .any)):HC P f args γ K F:=by
 refine⟨⟨fn,code,hf,hb,hn⟩,fun w S vs gv c c1 hz hr hg hc=> ?_⟩;have hl:=hr.length;subst hsp;refine calls_of_wp_defers hf hb (Tg (w0:=w) (S0:=S) (c0:=fun b=>c b+c1 b) (dfs:=[]) hT hH hm (fun e γ' σ a w' hne hq hst=> ?_) (fun γ2 σ2 a w2 hnm hst=> ?_) hA hAk ?_ h)
 ·obtain ⟨S',c',c1',gv',hrf',hr',hg',h1,hd,hz',hs⟩:=hst
  cases e with
  |normal=>exact absurd rfl hne
  |ret=>show Leaves P fn a.tmps _ a.defers .returning w';rw[hd];obtain⟨v,hv,hR⟩:=Agl hT hrs hr' hg' h1 hz' hs hq;exact⟨v,hv,.inl hR⟩
  |panic chain=>
   show Leaves P fn a.tmps _ a.defers (.panicking chain) w';rw[hd];unfold hfin at hq;split at hq
   ·rename_i h;cases h
   ·rename_i h;cases h
   ·rename_i v h;injection h with h;subst h;exact .inr ⟨v,_,S',c1',gv',rfl,hq,hg',fun b=>by have:=h1 b;omega,hz',hs.drop fun b=>by show c1' b≤c' b+c1' b;omega⟩
   ·exact hq.elim
  |_=>exact hq.elim
 ·obtain ⟨bs,γ3,σ3,⟨hdl,hB2⟩,hst3,hbs⟩:=Iv hst hnm;refine wp_seq (oH hT hst3 hbs hdl fun a3 hst4=> ?_);refine wp_mono (Br hT hH hm B dB hB hBk _ γ3 _ a3 w2 hst4 hB2) fun e a4 w4 hq=> ?_;obtain⟨γ5,σ5,hq,S',c',c1',gv',hrf',hr',hg',h1,hd,hz',hs⟩:=hq
  have fin:∀(R:Ending→World→Prop),(∀w' v,(∃v' r γ' S' c' c1' gv',Ending.returned v=.returned v'∧K r γ'∧pb r=true∧Aa w' S' [r] [v'] c'∧Aa w' S' γ' gv' c1'∧(∀b,c' b+c1' b≤1)∧Sz w' S'∧Stp w S (fun b=>c b+c1 b) w' S' (fun b=>c' b+c1' b))→R (.returned v) w')→∀u,u≠ .run→(HD P g (bs.map fun b=>.raw (ptr b)) γ5 u fun u γ'=>settle u=.returning∧rbK l (fun σ γ=>Hu T rs σ fun vs=>K (Sy vs) γ) (σ5.map oG) γ')→Leaves P fn a4.tmps R a4.defers u w4:=by
   intro R hRR u hu ⟨⟨fg,cg,hfg,hbg,hng⟩,hcall⟩;rw[hd];refine⟨hu,_,_,g,(bs.map ptr).toArray,rfl,by have:=Es hfg hng hbg (bs.map ptr).toArray w4;simpa[invoke]using this,?_⟩;refine(hcall w4 S' _ _ (fun _=>0) c1' hz' (fT w4 S' bs) hg' (fun b=>by have:=h1 b;omega)).mono fun e u' w' ⟨v,γ',S6,c6,gv6,he,⟨hset,hrb⟩,hg6,h6,hz6,hs6⟩=> ?_;subst he;show Leaves P fn a4.tmps R [] (settle u') w';rw[hset];obtain⟨σ7,γ7,gv7,c7,c8,hq7,hr7,hg7,hc7⟩:=Wj (Wh (w':=w') (S':=S6) hr') hg6 hrb
   have hst6:Stp w4 S' c1' w' S6 c6:=by
    have:(fun b=>(fun _:Nat=>0) b+c1' b)=c1':=by funext b;simp
    rw[this]at hs6;exact hs6
   have hs8:Stp w S (fun b=>c b+c1 b) w' S6 (fun b=>c7 b+c8 b):=by
    have:(fun b=>c7 b+c8 b)=c6:=by funext b;rw[hc7];simp
    rw[this];exact(hs.drop (c'':=c1') fun b=>by show c1' b≤c' b+c1' b;omega).trans hst6
   obtain⟨v2,hv2,hR⟩:=Agl hT hrs hr7 hg7 (fun b=>by rw[hc7];have:=h6 b;omega) hz6 hs8 hq7;exact⟨v2,hv2,hRR _ _ hR⟩
  cases e with
  |normal=>exact fin _ (fun _ _ h=>.inl h) _ (by intro h;cases h) hq
  |ret=>exact fin _ (fun _ _ h=>.inl h) _ (by intro h;cases h) hq
  |panic chain=>
   unfold AuI at hq;split at hq
   ·rename_i h;cases h
   ·rename_i h;cases h
   ·rename_i v h;injection h with h;subst h;exact fin _ (fun _ _ h=>.inl h) _ (by intro h;cases h) hq
   ·exact hq.elim
  |_=>exact hq.elim
 ·refine ⟨S,c,c1,gv,?_,?_,hg,hc,rfl,hz,Stp.refl w S _⟩
  ·exact qz9
  ·exact AhR
theorem HD.mono {g:Nat} {args γ:List AV} {u:FrameMode} {K K':FrameMode→List AV→Prop} (h:HD P g args γ u K) (hk:∀u γ,K u γ→K' u γ):HD P g args γ u K':=
 ⟨h.1,fun w S vs gv c c1 hz hr hg hc=>(h.2 w S vs gv c c1 hz hr hg hc).mono fun e u' w' ⟨v,γ',S',c1',gv',h1,h2,h3⟩=>⟨v,γ',S',c1',gv',h1,hk _ _ h2,h3⟩⟩
theorem Agm (b:Nat):pb0 (.raw (.pointer (some ⟨b,0,none⟩)))=some b:=rfl
theorem Agn (b T:Nat) (cs:List AV):nb0 (.nbox b T cs)=some (b,T,cs):=rfl
theorem Gw.none (γ:List AV):Gw γ []:=fun w S c gv h=>⟨[],fun _=>0,.nil Al,fun _=>AxM _⟩
end
end
section
open Go.RowKit Go.Proofs
theorem Ago (m b b2 b3 b4 U:Nat) (cs:List AV) (e a x:AV) (h1:(b=b2)=False) (h2:(b=b3)=False) (h3:(b=b4)=False) (h4:(b4=b2)=False) (h5:(b4=b3)=False) (h6:(b3=b2)=False) (u u':FrameMode) (γ':List AV)
 (hu:(u=.returning∧u'=.returning∧γ'=[.nbox b U cs,.nbox b4 40 [e],.nbox b3 3 [a],.nbox b2 123 [x]])∨(u=.panicking [⟨mis m,false,false⟩]∧u'=.panicking [⟨mis m,true,false⟩]∧γ'=[.nbox b U cs,.nbox b4 40 [num 100],.nbox b3 3 [num m],.nbox b2 123 [.nil]])):
 HD Tryz.prog 90 [pt b2,pt b3,pt b4] [.nbox b U cs,.nbox b4 40 [e],.nbox b3 3 [a],.nbox b2 123 [x]] u (fun v γ=>v=u'∧γ=γ'):=by
 refine Aol Bo Dv Cq (A:=[]) (EE:=[]) (O:=[]) Tryz.func90 (by simp only[Tryz.f90];rfl) (by simp only[Bm,Ri,Ce,Eb,Ed,Cf,C5,AxV,AxO,AxP,Ayi,AxU,Ayb,AxW,Ayg,AxH,cond_false,cond_true,Ia,Hy,H7,H8,H9,Hw,xB,xY,Nat.reduceBEq,Nat.reduceBNe,Hz,Ge,Gz,Hc,I3,Bh,B2,Cm,Ko,Axx,Axv,Nat.reduceMod,Nat.reduceDiv,Bf,C9,AxD,List.getElem?_toArray,List.getElem?_cons_succ,List.getElem?_cons_zero,Bg,cutAt,A8,Em,Nat.reduceAdd,Nat.reduceEqDiff,Nat.reduceLeDiff,Nat.reduceSub,ne_eq,not_false_eq_true,and_self,reduceIte];rfl) (by simp only[Bm,Ri,Ce,Eb,Ed,Cf,C5,AxV,AxO,AxP,Ayi,AxU,Ayb,AxW,Ayg,AxH,cond_false,cond_true,Ia,Hy,H7,H8,H9,Hw,xB,xY,Nat.reduceBEq,Nat.reduceBNe,Hz,Ge,Gz,Hc,I3,Bh,B2,Cm,Ko,Axx,Axv,Nat.reduceMod,Nat.reduceDiv,Bf,C9,AxD,List.getElem?_toArray,List.getElem?_cons_succ,List.getElem?_cons_zero,Bg,cutAt,A8,Em,Nat.reduceAdd,Nat.reduceEqDiff,Nat.reduceLeDiff,Nat.reduceSub,ne_eq,not_false_eq_true,and_self,reduceIte];rfl) oK oD rfl Tryz.ntmps90 Tryz.results90 ?_;simp only[Axr,Axq,Nat.reduceAdd,Nat.reduceSub,AxT,AxZ,Ax4,Ax8,num,str,Ai,pt];rcases hu with⟨rfl,rfl,rfl⟩|⟨rfl,rfl,rfl⟩
 ·simp only[Od,Tf,oE,fS,cond_true,cond_false];refine Zu ?_;exact .inl trivial
 ·have k1:HH.cn 156=true:=rfl;have k2:HH.zr 156=some (.int .i64 0):=rfl;simp only[Od,Tf,oE,fS,cond_true,cond_false,mis];refine Zu ?_;exact⟨.inl trivial,rfl⟩
def Px (av:Ac→Int) (ts:List Tk) (sz:Nat):List Nd×Nat×Nat:=match B6 av ts sz (ts.length+1) 0 [] 0 []with
 |.ok x _=>(x.1,0,0)
 |.bad m=>([],m,100)
def oI (r:List Nd×Nat×Nat):AV:=.tup [.sl 8 (Mw r.1),num r.2.1,num r.2.2]
theorem Alj {av:Ac→Int} {ts:List Tk} (X:Alc av ts) (s:Ac) (at0:Nat) (hl:ts.length≤1000000) (hs:s.length≤1000000) (ht:Ab Tryz.prog 89 [str s] (fun r=>r=.tup [.sl 3 (ts.map Rk),num at0,num 0])):
 Ab Tryz.prog 59 [str s] (fun r=>r=oI (Px av ts s.length)):=by
 refine HC.plain (HC.weak ?_) ⟨_,rfl⟩;refine Ti Bo Dv Cq [] [3,6] [(3,[10003,10004],[1000,1001],[2002,2003],[3004])] (As:=[_,_,_]) (ds:=[_,_,_]) (ss:=[2,3,4]) [(2,3),(3,2),(4,1)] Tryz.func59 rfl oD rfl Tryz.ntmps59 (congrArg Array.toList Tryz.results59) rfl (by simp only[Axx,Axv,Bm,Ri,Ce,Eb,Ed,Cf,C5,AxV,AxO,AxP,Ayi,AxU,Ayb,AxW,Ayg,AxH,cond_false,cond_true,Ia,Hy,H7,H8,H9,Hw,xB,xY,Nat.reduceBEq,Nat.reduceBNe,Hz,Ge,Gz,Hc,I3,Bh,B2,Cm,Ko,Axx,Axv,Nat.reduceMod,Nat.reduceDiv,Bf,C9,AxD,List.getElem?_toArray,List.getElem?_cons_succ,List.getElem?_cons_zero,Bg,cutAt,A8,Em,Nat.reduceAdd,Nat.reduceEqDiff,Nat.reduceLeDiff,Nat.reduceSub,ne_eq,not_false_eq_true,and_self,reduceIte];rfl) oK (by simp only[Bm,Ri,Ce,Eb,Ed,Cf,C5,AxV,AxO,AxP,Ayi,AxU,Ayb,AxW,Ayg,AxH,cond_false,cond_true,Ia,Hy,H7,H8,H9,Hw,xB,xY,Nat.reduceBEq,Nat.reduceBNe,Hz,Ge,Gz,Hc,I3,Bh,B2,Cm,Ko,Axx,Axv,Nat.reduceMod,Nat.reduceDiv,Bf,C9,AxD,List.getElem?_toArray,List.getElem?_cons_succ,List.getElem?_cons_zero,Bg,cutAt,A8,Em,Nat.reduceAdd,Nat.reduceEqDiff,Nat.reduceLeDiff,Nat.reduceSub,ne_eq,not_false_eq_true,and_self,reduceIte];rfl) oK ?_;simp only[yO,Axr,Axq,Nat.reduceAdd,Nat.reduceSub,AxT,AxZ,Ax4,Ax8,num,str,Ai,pt];refine Zu ?_;refine Zh ht ?_;simp only[Kb];refine Zu ?_;intro b2 _ b3 hb3 b4 hb4;refine sI Bo Dv Cq [] [] [] [6] (by simp only[Bm,Ri,Ce,Eb,Ed,Cf,C5,AxV,AxO,AxP,Ayi,AxU,Ayb,AxW,Ayg,AxH,cond_false,cond_true,Ia,Hy,H7,H8,H9,Hw,xB,xY,Nat.reduceBEq,Nat.reduceBNe,Hz,Ge,Gz,Hc,I3,Bh,B2,Cm,Ko,Axx,Axv,Nat.reduceMod,Nat.reduceDiv,Bf,C9,AxD,List.getElem?_toArray,List.getElem?_cons_succ,List.getElem?_cons_zero,Bg,cutAt,A8,Em,Nat.reduceAdd,Nat.reduceEqDiff,Nat.reduceLeDiff,Nat.reduceSub,ne_eq,not_false_eq_true,and_self,reduceIte];rfl) oK ?_;simp only[Kb];refine Zu ?_;intro b hb;have h6:(b3=b2)=False:=eq_false fun h=>hb3 _ (.head _) (congrArg some h.symm);have h5:(b4=b3)=False:=eq_false fun h=>hb4 _ (.head _) (congrArg some h.symm);have h4:(b4=b2)=False:=eq_false fun h=>hb4 _ (.tail _ (.head _)) (congrArg some h.symm);have h3:(b=b4)=False:=eq_false fun h=>hb _ (.head _) (congrArg some h.symm);have h2:(b=b3)=False:=eq_false fun h=>hb _ (.tail _ (.head _)) (congrArg some h.symm);have h1:(b=b2)=False:=eq_false fun h=>hb _ (.tail _ (.tail _ (.head _))) (congrArg some h.symm);refine Zu ?_;refine HC.wk (args:=[pt b,num 0,.sl 1 (([]:List Ac).map str)]) (HC.frame (γ1:=rd b ts 0 s.length) (γ2:=[_,_,_]) (RH.go (Ali X b s.length hl (ts.length+1) 0 [] 0 (AxM _) (AxM _) om om) (fun x n' r ho hr=> ?_) (fun q n' ho=> ?_))) (by simp only[Axv,num,pt];repeat first|exact Wk.nil|exact Wk.refl _|refine K1 ?_ ?_|refine Ep ?_ ?_|refine Ba ?_|refine A6 ?_|refine A1 ?_|refine Wk.same ?_|refine B7 ?_)
 ·subst hr;simp only[rd,num,str,Ax4,Ax8];refine Zu ?_;refine HD.mono (Ago 0 b b2 b3 b4 _ _ _ _ _ h1 h2 h3 h4 h5 h6 _ .returning _ (.inl ⟨rfl,rfl,rfl⟩)) ?_;rintro u γ ⟨rfl,rfl⟩;refine⟨rfl,?_⟩;simp only[Axx,Axv,oG,rbK];repeat' first|refine Aj.on (fun _=>?_) (fun _=>?_)|with_reducible refine gd ?_|simp only[go_sem,Agm,Agn,rbK,true_and]
  refine⟨oI (Px av ts s.length),[],?_,rfl,Gw.none _,rfl,rfl⟩;simp only[Px,ho,oI,Sy,num];exact W1.refl _
 ·simp only[rd,num,str,Ax4,Ax8];refine Zu ?_;unfold wI;refine HD.mono (Ago q b b2 b3 b4 _ _ _ _ _ h1 h2 h3 h4 h5 h6 _ _ _ (.inr ⟨rfl,rfl,rfl⟩)) ?_;rintro u γ ⟨rfl,rfl⟩;refine⟨rfl,?_⟩;simp only[Axx,Axv,oG,rbK];repeat' first|refine Aj.on (fun _=>?_) (fun _=>?_)|with_reducible refine gd ?_|simp only[go_sem,Agm,Agn,rbK,true_and]
  refine⟨oI (Px av ts s.length),[],?_,rfl,Gw.none _,rfl,rfl⟩;simp only[Px,ho,oI,Sy,num,Mw];refine W1.tup ?_;exact Zw
end
section
open Go.RowKit Go.Proofs
variable [Env]
structure A2 where
 id:Int
 au:List UInt8
 tp:List (List UInt8)
 ed:List AV
 pu:Int
 co:List AV
 re:Bool
 tk:Bool
def Q4 (s:A2):List AV:=[num s.id,str s.au,.sl 1 (s.tp.map str),.sl 5 s.ed,num s.pu,.sl 5 s.co,Ai s.re,Ai s.tk]
def Dx (s:A2):AV:=.agg (Q4 s)
def qst (s:A2) (a:Int):AV:=.agg [num s.id,str s.au,.sl 1 (s.tp.map str),.sl 5 s.ed,num s.pu,.sl 5 s.co,Ai s.re,Ai s.tk,num a]
def D8 (s:A2):Bool:= !s.re&& !s.tk&&decide (0<s.ed.length)
theorem tru_f {b:Bool} (h:b=false):AV.raw (.bool false)=Ai b:=by rw[h];rfl
theorem tru_t {b:Bool} (h:b=true):AV.raw (.bool true)=Ai b:=by rw[h];rfl
theorem tru_e {a b:Bool} (h:a=b):AV.raw (.bool a)=Ai b:=by rw[h];rfl
theorem Oe {x:Int} {n:Nat} (h:0≤x):x.tmod (n:Int)=((x.toNat % n:Nat):Int):=by obtain⟨m,rfl⟩:=Ayy h;rw[AyI];exact Int.ofNat_tmod m n
theorem Tj (s:A2) (hs:s.ed.length≤9223372036854775807):Ab Tryz.prog 52 [Dx s] (fun r=>r=Ai (D8 s)):=by simp only[Dx,Q4,qst];refine Ir [] Tryz.func52 ⟨_,rfl⟩ ?_;exact Ata
theorem Agp (s:A2) (a:Int) (hs:s.ed.length≤9223372036854775807):Ab Tryz.prog 197 [qst s a] (fun r=>r=Ai (D8 s)):=by simp only[Dx,Q4,qst];refine Ir [] Tryz.func197 ⟨_,rfl⟩ ?_;exact Ata
def Ld (x y:Int):Int:=if x<y then -1 else if y<x then 1 else 0
theorem sJ (x:Int):Ab Tryz.prog 48 [num x] (fun r=>r=Ai false):=by refine Ir [] Tryz.func48 ⟨_,rfl⟩ ?_;exact Ze
theorem Ma (x y:Int):Ab Tryz.prog 22 [num x,num y] (fun r=>r=num (Ld x y)):=by
 refine Zs [] Tryz.func22 ⟨_,rfl⟩ ?_;refine Za (sJ x) ?_;refine(sJ y).mono ?_;rintro r rfl;simp only[Ai];by_cases h1:x<y
 ·have e1:=eq_true h1;refine Zu ?_;simp only[Ld,e1,if_true]
 ·have e1:=eq_false h1;by_cases h2:y<x
  ·have e2:=eq_true h2;refine Zu ?_;simp only[Ld,e1,e2,if_true,if_false]
  ·have e2:=eq_false h2;refine Zu ?_;simp only[Ld,e1,e2,if_true,if_false]
end
end Go.Proofs.YtmophjggmekoeaaGreatDoor
