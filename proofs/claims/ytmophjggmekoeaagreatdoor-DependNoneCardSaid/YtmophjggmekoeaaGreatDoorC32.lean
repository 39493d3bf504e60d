/- The evaluation of nodes that show a text, the topics, the authors, or a list that is empty. -/
import Derived.Test.YtmophjggmekoeaaGreatDoorC30
set_option linter.all false
set_option maxRecDepth 100000
set_option maxHeartbeats 4000000
namespace Go.Proofs.YtmophjggmekoeaaGreatDoor
section
open Go.RowKit Go.Proofs
structure EvS where
 out:Ac
 steps:Nat
 ks:List Ac
def O3 (c:Int):Ac:=[108,97,116,101,115,116,47,47]++Lib.itoa c
def nOk:Nd→Bool
 |.mk 1 t _ _ _ _ _ _=>decide (t.length≤1000)
 |.mk 2 _ n _ _ fs _ _=>fs.isEmpty&&(n==[116,111,112,105,99,115]||n==[97,117,116,104,111,114,115])
 |.mk 3 _ n a c _ _ _=>n==[108,97,116,101,115,116]&&a.isEmpty&&(c==5||c==64)
 |_=>false
def O4 (s:EvS):Nd→EvS
 |.mk 1 t _ _ _ _ _ _=>⟨s.out++t,s.steps+1,s.ks⟩
 |.mk 2 _ n _ _ _ _ _=>⟨s.out,s.steps+1,F4 s.ks n⟩
 |.mk 3 _ _ _ c _ _ _=>⟨s.out,s.steps+1,F4 s.ks (O3 c)⟩
 |_=>s
def Ig (l:List Nd) (s:EvS):EvS:=l.foldl O4 s
def F5 (ad:Addr) (m:Nat) (rv:List AV) (val:Ac→Ac) (ks:List Ac):List AV:=[.nelt ad (.agg rv),.nmap m (ks.map Ic) (ks.map fun k=>str (val k))]
def aL:List Value:=[.int .i64 1,.int .i64 2,.int .i64 3,.int .i64 4,.int .i64 5]
def pH:List AV:=[.raw (.func (.func 171) #[] #[]),.raw (.func (.func 172) #[] #[]),.raw (.func (.func 173) #[] #[]),.raw (.func (.func 174) #[] #[]),.raw (.func (.func 175) #[] #[])]
def pI (ad:Addr) (b mk:Nat) (s:EvS):AV:=.nbox b 174 [.own 5 1 (A5 s.out),.raw (.iface 79 (.pointer (some ad))),.raw (.map (some mk)),num s.steps,num 0]
def bI (ad:Addr) (m b mk:Nat) (rv:List AV) (val:Ac→Ac) (s:EvS):List AV:=F5 ad m rv val s.ks++[pI ad b mk s,.nmap mk aL pH]
def EH (ad:Addr) (m b mk:Nat) (rv:List AV) (val:Ac→Ac) (f:Nat) (args:List AV) (s s':EvS):Prop:=
 HC Tryz.prog f args (bI ad m b mk rv val s) (fun r γ=>r=.tup []∧γ=bI ad m b mk rv val s') (fun _ _=>False)
structure iG (ad:Addr) (m:Nat) (rv:List AV) (val:Ac→Ac):Prop where
 fld:∀(n:Ac) (ks:List Ac),(n=[116,111,112,105,99,115]∨n=[97,117,116,104,111,114,115])→HC Tryz.prog 372 [.raw (.pointer (some ad)),num 0,str n] (F5 ad m rv val ks) (fun r γ=>r=.tup [str [],Ai true]∧γ=F5 ad m rv val (F4 ks n)) (fun _ _=>False)
 lst:∀(c:Int) (ks:List Ac),(c=5∨c=64)→HC Tryz.prog 374 [.raw (.pointer (some ad)),num 0,str [108,97,116,101,115,116],str [],num c] (F5 ad m rv val ks) (fun r γ=>r=.sl 1 []∧γ=F5 ad m rv val (F4 ks (O3 c))) (fun _ _=>False)
theorem Awf:HH.me 79 "List" =some 374:=rfl
theorem Asd:HH.mp 168=some (3,240):=rfl
theorem Ase:HH.zr 240=some .nilFunc:=rfl
theorem Ub (x:Int):N2 (HH.kd 3) (.int .i64 x) aL=True:=eq_true ⟨by trivial,by intro y hy;simp [aL]at hy;rcases hy with rfl|rfl|rfl|rfl|rfl<;>trivial⟩
theorem Awg:U4 true .nilFunc pH (B5 (.int .i64 1) aL)=.tup [.raw (.func (.func 171) #[] #[]),.raw (.bool true)]:=rfl
theorem Awh:U4 true .nilFunc pH (B5 (.int .i64 2) aL)=.tup [.raw (.func (.func 172) #[] #[]),.raw (.bool true)]:=rfl
theorem Awi:U4 true .nilFunc pH (B5 (.int .i64 3) aL)=.tup [.raw (.func (.func 173) #[] #[]),.raw (.bool true)]:=rfl
theorem sW:∀(l:List Nd) (i:Nat) (h:i<l.length),(Mw l).getD i .any=.agg (jE l[i])
 |x::l,0,h=>by simp [Mw]
 |x::l,i+1,h=>by simpa[Mw]using sW l i (by simpa using h)
theorem iH {l:List Nd} (hl:∀x∈l,nOk x=true) (s:EvS):∀i≤l.length,(Ig (l.take i) s).out.length≤s.out.length+1000*i∧(Ig (l.take i) s).steps=s.steps+i
 |0,_=>by simp [Ig]
 |i+1,h=>by
  have h1:=iH hl s i om;have h2:=hl l[i] (Ayz _);have h3:Ig (l.take (i+1)) s=O4 (Ig (l.take i) s) l[i]:=by rw[Ayv om,Ig,Ayx];rfl
  rw[h3];obtain⟨s1,hs1⟩:∃s1,Ig (l.take i) s=s1:=⟨_,rfl⟩;obtain⟨x,hx⟩:∃x,l[i]=x:=⟨_,rfl⟩;rw[hs1]at h1⊢;rw[hx]at h2⊢;unfold nOk at h2;split at h2
  ·simp only[decide_eq_true_eq]at h2;exact⟨by simp only[O4,Axs];omega,by simp only[O4];omega⟩
  ·exact ⟨by simp only[O4];omega,by simp only[O4];omega⟩
  ·exact ⟨by simp only[O4];omega,by simp only[O4];omega⟩
  ·cases h2
section
variable {ad : Addr} {m b mk : Nat} {rv : List AV} {val : Ac → Ac}
theorem Mi {s:EvS} (h:AkV (bI ad m b mk rv val s)):(m=b)=False∧(m=mk)=False∧(b=mk)=False:=by
 unfold AkV bI F5 at h;simp only[Ax4,Ax8,AxN,Ax2,AyB,or_false,pI,forall_eq_or_imp,forall_eq,M8]at h;refine⟨eq_false fun e=> ?_,eq_false fun e=> ?_,eq_false fun e=> ?_⟩
 ·exact h.2.1.1 m rfl (by rw[e])
 ·exact h.2.1.2 m rfl (by rw[e])
 ·exact h.2.2.1 b rfl (by rw[e])
theorem Ahf (x:Ac) (s:EvS) (h:s.out.length+x.length≤8192):EH ad m b mk rv val 233 [.raw (.pointer (some ⟨b,0,none⟩)),str x] s ⟨s.out++x,s.steps,s.ks⟩:=by
 unfold EH;refine HC.dis ⟨_,_,Tryz.func233,rfl,oD⟩ fun hd=> ?_;obtain⟨n1,n2,n3⟩:=Mi hd;refine N7 [] [0] [] Tryz.func233 ?_;simp only[bI,F5,pI,Ax4,Ax8,num,str];refine Z0 ?_;refine P7 Bo Dv [9] (by simp only[go_sem,reduceIte];rfl) ?_;have hbl:(A5 s.out).length=s.out.length:=by simp [A5]
 have hw:IntKind.i64.wrap (8192-(s.out.length:Int))=8192-(s.out.length:Int):=Cj om om;have e1:=eq_false (show¬(8192:Int)-(s.out.length:Int)<(x.length:Int) by omega);refine Z6 n1 n2 n3 hbl hw e1 ?_;refine⟨_,_,W1.refl _,rfl,Gw.refl _,rfl,?_⟩;simp [bI,F5,pI,A5,num]
theorem pJ (t n a:Ac) (c:Int) (fs:List Ac) (kids els:List Nd) (s:EvS) (hx:s.out.length+t.length≤8192):EH ad m b mk rv val 171 [.raw (.pointer (some ⟨b,0,none⟩)),.agg (jE (.mk 1 t n a c fs kids els)),num 0] s ⟨s.out++t,s.steps,s.ks⟩:=by unfold EH;refine HC.dis ⟨_,_,Tryz.func171,rfl,oD⟩ fun hd=> ?_;obtain⟨n1,n2,n3⟩:=Mi hd;rw[nd1];refine Zt [] [] [(1,[],[0,1,2,3,2004],[],[3005])] Tryz.func171 ?_;refine Zk (Ahf t s hx) ?_;exact Zx
theorem Ahg (X:iG ad m rv val) (t n a:Ac) (c:Int) (kids els:List Nd) (s:EvS) (ho:s.out.length≤8192) (hn:n=[116,111,112,105,99,115]∨n=[97,117,116,104,111,114,115]):
 EH ad m b mk rv val 172 [.raw (.pointer (some ⟨b,0,none⟩)),.agg (jE (.mk 2 t n a c [] kids els)),num 0] s ⟨s.out,s.steps,F4 s.ks n⟩:=by
 unfold EH;refine HC.dis ⟨_,_,Tryz.func172,rfl,oD⟩ fun hd=> ?_;obtain⟨n1,n2,n3⟩:=Mi hd;rw[nd2];refine N7 [] [] [(1,[],[0,1,2,4,5,2003,2006],[],[3007,8,9,10,11,12])] Tryz.func172 ?_;simp only[bI,F5,pI,Ax4,Ax8,num,str];refine Zu ?_;refine HC.frame (γ1:=F5 ad m rv val s.ks) (γ2:=[pI ad b mk s,.nmap mk aL pH]) (HC.mono (X.fld n s.ks hn) ?_ (fun _ _ h=>h.elim));rintro r γ ⟨rfl,rfl⟩;simp only[F5,pI,Ax4,Ax8,num,str,Ai];refine Z3 n1 n2 n3 ?_;refine Ax (rl [9,1,18,13]) [6,7,27] (fun k xs γ=>γ=bI ad m b mk rv val ⟨s.out,s.steps,F4 s.ks n⟩∧xs=[str [],Ai true,num 0]) ⟨0,_,_,⟨rfl,rfl⟩,hent (Gw.refl _) ?_⟩ ?_
 ·exact Zv
 rintro k xs γ ⟨rfl,rfl⟩;simp only[PU,str,Ai];simp only[bI,F5,pI,Ax4,Ax8,num,str];have ej:=eq_false (show¬(0:Int)<0 by omega);refine Z4 ej n1 n2 n3 ?_;refine Zk (Ahf [] ⟨s.out,s.steps,F4 s.ks n⟩ ho) ?_;exact Zx
theorem AuT (s:EvS):EH ad m b mk rv val 94 [.raw (.pointer (some ⟨b,0,none⟩)),.sl 8 [],num 0] s s:=by
 unfold EH;refine HC.dis ⟨_,_,Tryz.func94,rfl,oD⟩ fun hd=> ?_;obtain⟨n1,n2,n3⟩:=Mi hd;refine Zt [] [] [(6,[],[0,1,2,4,2003,2005],[],[3006,7,8,9,10,11])] Tryz.func94 ?_;refine Ax (rl [7,3,3,35]) [12] (fun k xs γ=>γ=bI ad m b mk rv val s∧xs=[num 0]) ⟨0,_,_,⟨rfl,rfl⟩,hent (Gw.refl _) ?_⟩ ?_
 ·exact Zw
 rintro k xs γ ⟨rfl,rfl⟩;simp only[PU];have ej:=eq_false (show¬(0:Int)<0 by omega);refine Z4 ej n1 n2 n3 ?_;exact Zx
theorem AlL (X:iG ad m rv val) (t:Ac) (c:Int) (fs:List Ac) (kids els:List Nd) (s:EvS) (hc:c=5∨c=64):
 EH ad m b mk rv val 173 [.raw (.pointer (some ⟨b,0,none⟩)),.agg (jE (.mk 3 t [108,97,116,101,115,116] [] c fs kids els)),num 0] s ⟨s.out,s.steps,F4 s.ks (O3 c)⟩:=by
 unfold EH;refine HC.dis ⟨_,_,Tryz.func173,rfl,oD⟩ fun hd=> ?_;obtain⟨n1,n2,n3⟩:=Mi hd;rw[nd3];refine N7 [] [] [(1,[],[0,1,2,4,5,7,9,2003,2006,2008,2010],[],[3011,12])] Tryz.func173 ?_;simp only[bI,F5,pI,Ax4,Ax8,num,str];refine Z4 n1 n2 n3 Awf ?_;refine HC.frame (γ1:=F5 ad m rv val s.ks) (γ2:=[pI ad b mk s,.nmap mk aL pH]) (HC.mono (X.lst c s.ks hc) ?_ (fun _ _ h=>h.elim));rintro r γ ⟨rfl,rfl⟩;simp only[F5,pI,Ax4,Ax8,num,str,Ai];refine Z3 n1 n2 n3 ?_;refine HC.wk (HC.mono (AuT ⟨s.out,s.steps,F4 s.ks (O3 c)⟩) ?_ (fun _ _ h=>h.elim)) Zv;rintro r γ ⟨rfl,rfl⟩;refine Z0 ?_;exact Zx
theorem AlM (X:iG ad m rv val) (l:List Nd) (s:EvS) (hl:l.length≤8) (ho:∀x∈l,nOk x=true) (h1:s.out.length≤10) (h2:s.steps≤10):EH ad m b mk rv val 94 [.raw (.pointer (some ⟨b,0,none⟩)),.sl 8 (Mw l),num 0] s (Ig l s):=by
 unfold EH;refine HC.dis ⟨_,_,Tryz.func94,rfl,oD⟩ fun hd=> ?_;obtain⟨n1,n2,n3⟩:=Mi hd;refine N7 [] [] [(6,[],[0,1,2,4,2003,2005],[],[3006,7,8,9,10,11])] Tryz.func94 ?_;have hll:=J3 l;refine Z1 hll ?_;refine Ax (rl [7,3,3,35]) [12] (fun k xs γ=>∃i,i+k=l.length∧γ=bI ad m b mk rv val (Ig (l.take i) s)∧xs=[num i]) ⟨l.length,_,_,⟨0,om,rfl,rfl⟩,hent (Gw.refl _) ?_⟩ ?_
 ·exact Zw
 rintro k xs γ ⟨i,hi,rfl,rfl⟩;simp only[PU];obtain⟨q1,q2⟩:=iH ho s i om;by_cases hlt:i<l.length;rotate_left
 ·have ej:=eU i l.length;rw[Axw om];refine Z2 ej hll ?_;exact Zx
 have hst:Ig (l.take (i+1)) s=O4 (Ig (l.take i) s) l[i]:=by rw[Ayv hlt,Ig,Ayx];rfl
 obtain⟨s1,hs1⟩:∃s1,Ig (l.take i) s=s1:=⟨_,rfl⟩;rw[hs1]at hst q1 q2⊢
 replace q2:s1.steps≤100:=om
 simp only[bI,F5,pI,Ax4,Ax8,num,str];have ej:=eT i l.length;have hg:=sW l i hlt;have hx:=ho l[i] (Ayz _);have hwi:=wS i;have e1:=eq_false (show¬(2000:Int)≤(s1.steps:Int) by omega);have hw:=wS s1.steps;obtain⟨x,hxe⟩:∃x,l[i]=x:=⟨_,rfl⟩;rw[hxe]at hst hg hx;unfold nOk at hx;split at hx
 ·rename_i t n a c fs kids els;rw[nd1]at hg;simp only[num,str]at hg;simp only[decide_eq_true_eq]at hx;refine Z8 ej hll hg (And.intro n1 (And.intro n2 n3)) e1 hw (And.intro Asd Ase) (And.intro Ub Awg) ?_;refine Zk (pJ t n a c fs kids els ⟨s1.out,s1.steps+1,s1.ks⟩ (by show s1.out.length+t.length≤8192;omega)) ?_;exact AaO
 ·rename_i t n a c fs kids els;simp only[Ax3,Ayk,List.isEmpty_iff,beq_iff_eq]at hx;obtain⟨rfl,hx⟩:=hx;rw[nd2]at hg;simp only[num,str]at hg;refine Z8 ej hll hg (And.intro n1 (And.intro n2 n3)) e1 hw (And.intro Asd Ase) (And.intro Ub Awh) ?_;refine Zk (Ahg X t n a c kids els ⟨s1.out,s1.steps+1,s1.ks⟩ (by show s1.out.length≤8192;omega) hx) ?_;exact AaO
 ·rename_i t n a c fs kids els;simp only[Ax3,Ayk,List.isEmpty_iff,beq_iff_eq]at hx;obtain⟨⟨rfl,rfl⟩,hx⟩:=hx;rw[nd3]at hg;simp only[num,str]at hg;refine Z8 ej hll hg (And.intro n1 (And.intro n2 n3)) e1 hw (And.intro Asd Ase) (And.intro Ub Awi) ?_;refine Zk (AlL X t c fs kids els ⟨s1.out,s1.steps+1,s1.ks⟩ hx) ?_;exact AaO
 ·cases hx
end
end
section
open Go.RowKit Go.Proofs
def fresh (b:Nat) (γ:List AV):Prop:=∀x∈γ,M8 x≠some b
theorem Awj:B5 (.int .i64 1) []=none:=rfl
theorem Awk:N2 (HH.kd 3) (.int .i64 1) []=True:=eq_true ⟨trivial,by simp [Ec]⟩
theorem Awl:B5 (.int .i64 2) [.int .i64 1]=none:=rfl
theorem Awm:N2 (HH.kd 3) (.int .i64 2) [.int .i64 1]=True:=eq_true ⟨trivial,by simp [Ec]⟩
theorem Awn:B5 (.int .i64 3) [.int .i64 1,.int .i64 2]=none:=rfl
theorem Awo:N2 (HH.kd 3) (.int .i64 3) [.int .i64 1,.int .i64 2]=True:=eq_true ⟨trivial,by simp [Ec]⟩
theorem Awp:B5 (.int .i64 4) [.int .i64 1,.int .i64 2,.int .i64 3]=none:=rfl
theorem Awq:N2 (HH.kd 3) (.int .i64 4) [.int .i64 1,.int .i64 2,.int .i64 3]=True:=eq_true ⟨trivial,by simp [Ec]⟩
theorem Awr:B5 (.int .i64 5) [.int .i64 1,.int .i64 2,.int .i64 3,.int .i64 4]=none:=rfl
theorem Aws:N2 (HH.kd 3) (.int .i64 5) [.int .i64 1,.int .i64 2,.int .i64 3,.int .i64 4]=True:=eq_true ⟨trivial,by simp [Ec]⟩
theorem Ahh (γ:List AV):HC Tryz.prog 93 [] γ (fun r γ'=>∃mk,fresh mk γ∧r=.raw (.map (some mk))∧γ'=.nmap mk aL pH::γ) (fun _ _=>False):=by
 refine N7 [] [] [] Tryz.func93 ?_;have k1:HH.mp 168=some (3,240):=rfl;repeat' first|refine Aj.on (fun _=>?_) (fun _=>?_)|with_reducible refine gd ?_|simp only[go_sem,k1]
 intro mk hmk;have k0:(mk=mk)=True:=eq_true rfl;repeat' first|refine Aj.on (fun _=>?_) (fun _=>?_)|with_reducible refine gd ?_|simp only[go_sem,k1,k0,Awj,Awl,Awn,Awp,Awr,Awk,Awm,Awo,Awq,Aws]
 exact⟨_,_,W1.refl _,rfl,Gw.refl _,mk,hmk,rfl,rfl⟩
theorem sX:∀(γ1 γ2:List AV),Gw (γ1++γ2) γ1
 |[],γ2=>fun w S c gv h=>⟨[],fun _=>0,.nil Al,fun _=>AxM _⟩
 |x::γ1,γ2=>Gw.cons (W1.refl x) (sX γ1 γ2)
section
variable {ad : Addr} {m b mk b6 b7 : Nat} {rv : List AV} {val : Ac → Ac}
def Ahi (ad:Addr) (m b mk b6 b7:Nat) (rv:List AV) (val:Ac→Ac) (s:EvS) (x e:AV):List AV:=bI ad m b mk rv val s++[.nbox b7 40 [e],.nbox b6 9 [x]]
theorem Asf (h1:(m=b6)=False) (h2:(b=b6)=False) (h3:(mk=b6)=False) (h4:(b7=b6)=False) (h5:(m=b7)=False) (h6:(b=b7)=False) (h7:(mk=b7)=False) (s:EvS) (x e:AV):
 HD Tryz.prog 92 [pt b6,pt b7] (Ahi ad m b mk b6 b7 rv val s x e) .returning (fun v γ=>v=.returning∧γ=Ahi ad m b mk b6 b7 rv val s x e):=by
 refine Aol Bo Dv Cq (A:=[]) (EE:=[]) (O:=[]) Tryz.func92 (by simp only[Tryz.f92];rfl) (by simp only[go_sem,Axx,Axv,reduceIte];rfl) (by simp only[go_sem,Axx,Axv,reduceIte];rfl) oK oD rfl Tryz.ntmps92 Tryz.results92 ?_;simp only[Axr,Axq,Nat.reduceAdd,Nat.reduceSub,AxT,AxZ,Ax4,Ax8,num,str,Ai,pt];simp only[Od,Tf,oE,fS,cond_true,cond_false,Ahi,bI,F5,pI,Ax4,Ax8,num,str];refine Zu ?_;exact .inl trivial
theorem AuU (X:iG ad m rv val) (l:List Nd) (ks:List Ac) (hl:l.length≤8) (ho:∀x∈l,nOk x=true):
 HC Tryz.prog 60 [.sl 8 (Mw l),.raw (.iface 79 (.pointer (some ad))),num 0] (F5 ad m rv val ks) (fun r γ=>r=.tup [str (Ig l ⟨[],0,ks⟩).out,num 0]∧γ=F5 ad m rv val (Ig l ⟨[],0,ks⟩).ks) (fun _ _=>False):=by
 refine HC.weak ?_;refine Ti Bo Dv Cq [] [4,6] [] (As:=[_,_]) (ds:=[_,_]) (ss:=[6,7]) [(6,5),(7,4)] Tryz.func60 rfl oD rfl Tryz.ntmps60 (congrArg Array.toList Tryz.results60) rfl (by simp only[go_sem,Axx,Axv,reduceIte];rfl) oK (by simp only[go_sem,Axx,Axv,reduceIte];rfl) oK ?_;simp only[yO,Axr,Axq,Nat.reduceAdd,Nat.reduceSub,AxT,AxZ,Ax4,Ax8,num,str,Ai,pt,F5];have k3:HH.ek 163=some 0:=rfl;refine Zu ?_;simp only[Kb];refine Zu ?_;intro b6 hb6 b7 hb7;have h1:(m=b6)=False:=eq_false fun h=>hb6 _ (.tail _ (.head _)) (congrArg some h);have h4:(b7=b6)=False:=eq_false fun h=>hb7 _ (.head _) (congrArg some h.symm);have h5:(m=b7)=False:=eq_false fun h=>hb7 _ (.tail _ (.tail _ (.head _))) (congrArg some h);refine Zu ?_;refine P7 Bo Dv [15] (by simp only[go_sem,Axx,Axv,reduceIte];rfl) ?_;refine Zu ?_;refine(Ahh _).mono ?_ (fun _ _ h=>h.elim);rintro r γ ⟨mk,hmk,rfl,rfl⟩;have h3:(mk=b6)=False:=eq_false fun h=>hmk _ (.tail _ (.head _)) (congrArg some h.symm);have h7:(mk=b7)=False:=eq_false fun h=>hmk _ (.head _) (congrArg some h.symm);refine Zu ?_;simp only[Kb];refine Zu ?_;intro b hb;have h2:(b=b6)=False:=eq_false fun h=>hb _ (.tail _ (.tail _ (.head _))) (congrArg some h.symm);have h8:(m=b)=False:=eq_false fun h=>hb _ (.tail _ (.tail _ (.tail _ (.tail _ (.head _))))) (congrArg some h);have h6:(b=b7)=False:=eq_false fun h=>hb _ (.tail _ (.head _)) (congrArg some h.symm);refine Zu ?_;refine HC.gw (γ':=bI ad m b mk rv val ⟨[],0,ks⟩++[.nbox b7 40 [num 0],.nbox b6 9 [str []]]) (HC.frame (HC.mono (AlM X l ⟨[],0,ks⟩ hl ho (AxM _) (AxM _)) ?_ (fun _ _ h=>h.elim))) ?_;rotate_left
 ·refine Gw.trans (Gw.cons (W1.nbox (A6 ?_)) (Gw.refl _)) (Gw.perm (List.perm_append_comm (l₁:=[_,_,_,_]) (l₂:=[_,_])));exact Wk.refl _
 ·rintro r γ ⟨rfl,rfl⟩;generalize Ig l ⟨[],0,ks⟩=s';simp only[Ahi,bI,F5,pI,Ax4,Ax8,num,str];refine Zu ?_;refine P7 Bo Dv [24] (by simp only[go_sem,Axx,Axv,reduceIte];rfl) ?_;refine Zu ?_;refine⟨rfl,rfl,_,rfl,?_⟩;refine Zu ?_;refine HD.mono (Asf h1 h2 h3 h4 h5 h6 h7 s' (str s'.out) (num 0)) ?_;rintro u γ ⟨rfl,rfl⟩;refine⟨rfl,?_⟩;simp only[Axx,Axv,oG,rbK,Ahi,bI,F5,pI,Ax4,Ax8,num,str];repeat' first|refine Aj.on (fun _=>?_) (fun _=>?_)|with_reducible refine gd ?_|simp only[go_sem,Agm,Agn,rbK,true_and]
  refine⟨_,F5 ad m rv val s'.ks,W1.refl _,rfl,?_,?_,rfl⟩
  ·refine Gw.trans (Gw.perm (γ':=F5 ad m rv val s'.ks++_) (List.Perm.refl _)) ?_;exact sX _ _
  ·simp only[Sy,num,str];try rfl
end
end
section
open Go.RowKit Go.Proofs
section
variable {L : List A2} {T : List (Ac × Ac)} {val : Ac → Ac} {a : E5} {url word : Ac} {m : Nat}
theorem iI (A:Lm a url word):Ab Tryz.prog 391 [.elt (.agg (H6 L T a url word m))] (fun r=>r=str []):=by have h3:=A.k3;have h5:=A.k5;refine HC.plain (N7 [] [] [] Tryz.func391 ?_) ⟨_,rfl⟩;simp only[H6,num,str];exact Ze
def zX (s:Ac):AV:=.clo 382 [.elt (.agg [str s])]
def aM (L:List A2) (T:List (Ac×Ac)) (a:E5) (url word:Ac) (m:Nat) (s:Ac):AV:=.clo 384 [.elt (.agg [.elt (.agg (H6 L T a url word m))]),.elt (.agg [str s])]
theorem Uc (s:Ac):Ab Tryz.prog 381 [str s] (fun r=>r=zX s):=by refine Ir [(1,[1],[])] Tryz.func381 ⟨_,rfl⟩ ?_;unfold zX;exact Ze
theorem pK (s:Ac):Ab Tryz.prog 383 [str s,.elt (.agg [.elt (.agg (H6 L T a url word m))])] (fun r=>r=aM L T a url word m s):=by refine Ir [(1,[2],[])] Tryz.func383 ⟨_,rfl⟩ ?_;unfold aM;simp only[H6,num,str];exact Ze
theorem Asg (V:Jo L T val) (s:Ac) (hs:s∈K8) (ks:List Ac):HC Tryz.prog 384 [.elt (.agg [.elt (.agg (H6 L T a url word m))]),.elt (.agg [str s])] (Ur m val ks) (fun r γ=>r=str (val s)∧γ=Ur m val (F4 ks s)) (fun _ _=>False):=by refine N7 [] [] [] Tryz.func384 ?_;simp only[H6,num,str];refine Zu ?_;refine Zk (aF V s hs ks) ?_;exact Zx
theorem Zf {C Q G:Prop} (c:C) (q:Q) (e:C→Hd Q→G:=by
 intro c q;refine(c.wk ?_).mono ?_
 ·try simp only[zX,aM,H6,num,str]
  exact Zw
 rintro r rfl;try simp only[zX,aM,H6,num,str,Ai]
 refine Zu ?_;exact q.1):G:=e c ⟨q⟩
theorem J7 (A:Lm a url word) (g:Nat) (cs:List AV):Ab Tryz.prog 385 [.clo g cs,.elt (.agg [.elt (.agg (H6 L T a url word m))]),.elt (.agg [.raw (.func (.func 381) #[] #[])])] (fun r=>r=zX []):=by have h3:=A.k3;refine Ir [] Tryz.func385 ⟨_,rfl⟩ ?_;simp only[H6,num,str];refine Zu ?_;refine((Uc []).wk Zv).mono ?_;rintro r rfl;simp only[zX,str];exact Ze
def Ud (L:List A2) (T:List (Ac×Ac)) (a:E5) (url word:Ac) (m:Nat):List AV:=[.agg [str [107,105,110,100],zX word],.agg [str [117,114,108],zX url],.agg [str [110,97,109,101],zX a.name],
 .agg [str [110,117,109,98,101,114],zX []],.agg [str [112,114,101,118,105,111,117,115],zX []],.agg [str [112,97,103,101,115],zX []],.agg [str [110,101,120,116],zX []],
 .agg [str [99,111,117,110,116],aM L T a url word m [99,111,117,110,116,47]],.agg [str [116,111,112,105,99,115],aM L T a url word m [116,111,112,105,99,115]],.agg [str [97,117,116,104,111,114,115],aM L T a url word m [97,117,116,104,111,114,115]]]
theorem zY (A:Lm a url word):Ab Tryz.prog 376 [.elt (.agg (H6 L T a url word m))] (fun r=>r=.own 408 2 (Ud L T a url word m)):=by refine Ir [(2,[1],[]),(3,[3],[])] Tryz.func376 ⟨_,rfl⟩ ?_;simp (decide:=true) only[En [4,5,1,3] [] [] [[3],[1],[10],[10],[],[],[],[3],[1],[17],[17],[],[],[],[3],[1],[24],[25,24],[25],[],[],[],[5],[3],[1],[33],[34,33],[34],[],[],[],[],[],[5],[1],[],[],[5],[1],[],[],[5],[1],[],[],[4],[1],[],[],[],[],[4],[],[],[4],[],[],[],[]],AxE,AxX,AxY];simp only[H6,num,str];refine Z0 ?_;refine Zf (Uc word) ?_;refine Zf (Uc url) ?_;refine Zf (Uc a.name) ?_;refine Zf (Lb a.n A.n) ?_;refine Zf (Uc (Lib.itoa a.n)) ?_;refine Zf (J7 (L:=L) (T:=T) (m:=m) A 382 [.elt (.agg [str (Lib.itoa a.n)])]) ?_;refine Zf (J7 (L:=L) (T:=T) (m:=m) A 386 [.elt (.agg [.elt (.agg (H6 L T a url word m))])]) ?_;refine Zf (J7 (L:=L) (T:=T) (m:=m) A 388 [.elt (.agg [.elt (.agg (H6 L T a url word m))])]) ?_;refine Zf (J7 (L:=L) (T:=T) (m:=m) A 390 [.elt (.agg [.elt (.agg (H6 L T a url word m))])]) ?_;refine Zf (iI (L:=L) (T:=T) (m:=m) A) ?_;refine Zf (pK (L:=L) (T:=T) (a:=a) (url:=url) (word:=word) (m:=m) [99,111,117,110,116,47]) ?_;refine Zf (pK (L:=L) (T:=T) (a:=a) (url:=url) (word:=word) (m:=m) [116,111,112,105,99,115]) ?_;refine Zf (pK (L:=L) (T:=T) (a:=a) (url:=url) (word:=word) (m:=m) [97,117,116,104,111,114,115]) ?_;rfl
theorem pL (A:Lm a url word):Ab Tryz.prog 376 [.elt (.agg (H6 L T a url word m))] (fun r=>r=.sl 2 (Ud L T a url word m)):=by refine(zY A).wkr ?_;exact AaP
def nmF (n:Ac) (j:Nat):Prop:=n=[116,111,112,105,99,115]∧j=8∨n=[97,117,116,104,111,114,115]∧j=9
theorem Ash {n:Ac} {j:Nat} (h:nmF n j):(Ud L T a url word m).getD j .any=.agg [str n,aM L T a url word m n]∧∀i<j,∃w g cs,(Ud L T a url word m).getD i .any=.agg [str w,.clo g cs]∧(w==n)=false:=by
 rcases h with⟨rfl,rfl⟩|⟨rfl,rfl⟩
 ·refine ⟨rfl,fun i hi=> ?_⟩;rcases(show i=0∨i=1∨i=2∨i=3∨i=4∨i=5∨i=6∨i=7 by omega)with rfl|rfl|rfl|rfl|rfl|rfl|rfl|rfl<;>exact⟨_,_,_,rfl,oD⟩
 ·refine ⟨rfl,fun i hi=> ?_⟩;rcases(show i=0∨i=1∨i=2∨i=3∨i=4∨i=5∨i=6∨i=7∨i=8 by omega)with rfl|rfl|rfl|rfl|rfl|rfl|rfl|rfl|rfl<;>exact⟨_,_,_,rfl,oD⟩
theorem Asi {n:Ac} {j:Nat} (h:nmF n j):n∈K8∧j≤9:=by rcases h with⟨rfl,rfl⟩|⟨rfl,rfl⟩<;>decide
theorem Ahj (V:Jo L T val) (A:Lm a url word) (n:Ac) (j:Nat) (hn:nmF n j) (ks:List Ac):HC Tryz.prog 372 [.elt (.agg (H6 L T a url word m)),num 0,str n] (Ur m val ks) (fun r γ=>r=.tup [str (val n),Ai true]∧γ=Ur m val (F4 ks n)) (fun _ _=>False):=by
 obtain⟨f1,f2⟩:=Ash (L:=L) (T:=T) (a:=a) (url:=url) (word:=word) (m:=m) hn;obtain⟨n1,n2⟩:=Asi hn;refine N7 [] [] [] Tryz.func372 ?_;simp only[H6,num,str];have hfl:(Ud L T a url word m).length=10:=rfl;refine Z1 hfl ?_;refine HC.old (pL A) ?_;rintro r rfl;refine Z1 hfl ?_;refine Ax (rl [9,1,12,12]) [22] (fun m' xs γ=>γ=Ur m val ks∧∃i,i+m'=10∧i≤j∧xs=[num i]) ⟨10,_,_,⟨rfl,0,om,om,rfl⟩,hent (Gw.refl _) ?_⟩ ?_
 ·exact Zw
 rintro m' xs γ ⟨rfl,i,hi,hij,rfl⟩;simp only[PU];have ej:=eq_true (show(i:Int)<10 by omega);rcases Nat.lt_or_eq_of_le hij with hlt|rfl
 ·obtain ⟨w,g,cs,hgj,e0⟩:=f2 i hlt;have hw:=wS i;simp only[str]at hgj;refine Z5 ej hgj hfl e0 hw ?_;exact Zm (m'-1) ⟨rfl,i+1,om,om,rfl⟩
 ·have e0:(n==n)=true:=oS;simp only[str,aM,H6,num]at f1;refine Z4 ej f1 hfl e0 ?_;refine HC.mono (Asg (a:=a) (url:=url) (word:=word) V n n1 ks) ?_ (fun _ _ h=>h.elim);rintro r γ ⟨rfl,rfl⟩;simp only[num,str,Ai];refine Z0 ?_;exact Zx
theorem pM (A:Lm a url word) (c:Int) (hc:c=5∨c=64):Ab Tryz.prog 379 [.elt (.agg (H6 L T a url word m)),num 0,str [108,97,116,101,115,116],str [],num c] (fun r=>r=str (O3 c)):=by
 have hto:=iI (L:=L) (T:=T) (m:=m) A;refine HC.plain (N7 [] [] [] Tryz.func379 ?_) ⟨_,rfl⟩;simp only[H6,num,str]at hto⊢;have hcl:=AgQ c ⟨om,om⟩;have en:(c=0)=False:=eq_false om;refine Z1 en ?_;refine HC.old (Lb c ⟨om,om⟩) ?_;rintro r rfl;simp only[str];have e0:(([108,97,116,101,115,116]:Ac)==[108,97,116,101,115,116])=true:=oD;have e1:(([]:Ac)==[])=true:=oD;refine Z2 e0 e1 ?_;refine HC.old hto ?_;rintro r rfl;try simp only[str]
 refine Z3 e0 e1 hcl ?_;simp only[O3,AxS,Ax4,Ax8,str];exact Zx
theorem AlN (V:Jo L T val) (A:Lm a url word) (c:Int) (hc:c=5∨c=64) (hk:O3 c∈K8) (hv:val (O3 c)=[]) (ks:List Ac):HC Tryz.prog 374 [.elt (.agg (H6 L T a url word m)),num 0,str [108,97,116,101,115,116],str [],num c] (Ur m val ks) (fun r γ=>r=.sl 1 []∧γ=Ur m val (F4 ks (O3 c))) (fun _ _=>False):=by
 refine N7 [] [] [] Tryz.func374 ?_;simp only[H6,num,str];refine Z0 ?_;refine HC.old (pM (L:=L) (T:=T) (m:=m) A c hc) ?_;rintro r rfl;have ek:(O3 c==[])=false:=by simp [O3]
 have ee:(([]:Ac)==[])=true:=oD;generalize O3 c=key at *;simp only[num,str];refine Z1 ek ?_;refine HC.mono (aF V key hk ks) ?_ (fun _ _ h=>h.elim);rintro r γ ⟨rfl,rfl⟩;rw[hv];simp only[num,str];refine Z1 ek ?_;refine HC.old (ArJ [] [32,111,102,32] oS) ?_;rintro r rfl;rw[show(Lib.cut [] [32,111,102,32]).1=([]:Ac)from rfl];simp only[num,str,Ai];refine Z1 ee ?_;exact⟨_,_,W1.nilsl _,rfl,Gw.refl _,rfl,rfl⟩
theorem Mj (ad:Addr) (m:Nat) (rv:List AV) (val:Ac→Ac) (ks:List Ac):(F5 ad m rv val ks).Perm (Ur m val ks++[.nelt ad (.agg rv)]):=by show([AV.nelt ad (.agg rv)]++Ur m val ks).Perm _;exact List.perm_append_comm
theorem src_ok (V:Jo L T val) (A:Lm a url word) (h0:∀k∈K8.drop 2,val k=[]) (ad:Addr):iG ad m (H6 L T a url word m) val where
 fld:=fun n ks hn=>by
  obtain⟨j,hj⟩:∃j,nmF n j:=by
   rcases hn with rfl|rfl
   ·exact ⟨8,.inl ⟨rfl,rfl⟩⟩
   ·exact ⟨9,.inr ⟨rfl,rfl⟩⟩
  have hv:val n=[]:=h0 n (by rcases hn with rfl|rfl<;>decide);have h:=Ahj (m:=m) V A n j hj ks;rw[hv]at h;refine HC.weak (HC.elt0 0 rfl (HC.perm (γ':=Ur m val ks++[.nelt ad (.agg (H6 L T a url word m))]) (HC.frame (HC.mono h (fun r γ hr=> ?_) (fun _ _ h=>h.elim))) (Mj _ _ _ _ _)));obtain⟨rfl,rfl⟩:=hr;exact⟨_,F5 ad m (H6 L T a url word m) val (F4 ks n),W1.refl _,rfl,Gw.perm (Mj _ _ _ _ _).symm,rfl,rfl⟩
 lst:=fun c ks hc=>by
  have hk:O3 c∈K8.drop 2:=by rcases hc with rfl|rfl<;>decide+kernel
  have h:=AlN (m:=m) V A c hc (AxL hk) (h0 _ hk) ks;refine HC.weak (HC.elt0 0 rfl (HC.perm (γ':=Ur m val ks++[.nelt ad (.agg (H6 L T a url word m))]) (HC.frame (HC.mono h (fun r γ hr=> ?_) (fun _ _ h=>h.elim))) (Mj _ _ _ _ _)));obtain⟨rfl,rfl⟩:=hr;exact⟨_,F5 ad m (H6 L T a url word m) val (F4 ks (O3 c)),W1.refl _,rfl,Gw.perm (Mj _ _ _ _ _).symm,rfl,rfl⟩
end
end
end Go.Proofs.YtmophjggmekoeaaGreatDoor
namespace Go.Proofs.YtmophjggmekoeaaGreatDoor.Lx
open Go.RowKit Go.Proofs
def u8 (x:Int):AV:=.raw (.int .u8 x)
def aN (x:Int):Bool:=decide (97≤x)&&decide (x≤122)
def Lo (x:Int):Bool:=decide (48≤x)&&decide (x≤57)
def zZ (x:Int):Bool:=decide (32≤x)&&decide (x≤126)
def nmI (x:Int):Bool:=aN x||Lo x||decide (x=45)
def stI (x:Int):Bool:=zZ x&& !decide (x=34)
theorem tru_f {b:Bool} (h:b=false):AV.raw (.bool false)=Ai b:=by rw[h];rfl
theorem tru_t {b:Bool} (h:b=true):AV.raw (.bool true)=Ai b:=by rw[h];rfl
theorem tru_e {a b:Bool} (h:a=b):AV.raw (.bool a)=Ai b:=by rw[h];rfl
theorem Qr (x:Int):Ab Tryz.prog 271 [u8 x] (fun r=>r=Ai (zZ x)):=by
 refine Ir [] Tryz.func271 ⟨_,rfl⟩ ?_;simp only[go_sem,u8];repeat' first|refine Aj.on (fun _=>?_) (fun _=>?_)|with_reducible refine gd ?_|simp only[go_sem]
 all_goals (refine tru_e ?_;simp [zZ, *])
theorem iJ (x:Int):Ab Tryz.prog 272 [u8 x] (fun r=>r=Ai (aN x)):=by
 refine Ir [] Tryz.func272 ⟨_,rfl⟩ ?_;simp only[go_sem,u8];repeat' first|refine Aj.on (fun _=>?_) (fun _=>?_)|with_reducible refine gd ?_|simp only[go_sem]
 all_goals (refine tru_e ?_;simp [aN, *])
theorem aO (x:Int):Ab Tryz.prog 275 [u8 x] (fun r=>r=Ai (Lo x)):=by
 refine Ir [] Tryz.func275 ⟨_,rfl⟩ ?_;simp only[go_sem,u8];repeat' first|refine Aj.on (fun _=>?_) (fun _=>?_)|with_reducible refine gd ?_|simp only[go_sem]
 all_goals (refine tru_e ?_;simp [Lo, *])
theorem AlO (x:Int):Ab Tryz.prog 274 [u8 x] (fun r=>r=Ai (nmI x)):=by
 refine Ir [] Tryz.func274 ⟨_,rfl⟩ ?_;simp only[go_sem,u8];repeat' first|refine Aj.on (fun _=>?_) (fun _=>?_)|with_reducible refine gd ?_|simp only[go_sem]
 refine(iJ x).mono ?_;rintro r rfl;simp only[Ai];cases h1:aN x
 ·repeat' first|refine Aj.on (fun _=>?_) (fun _=>?_)|with_reducible refine gd ?_|simp only[go_sem]
  refine(aO x).mono ?_;rintro r rfl;simp only[Ai];cases h2:Lo x
  ·exact AmG
  ·exact AmG
 ·repeat' first|refine Aj.on (fun _=>?_) (fun _=>?_)|with_reducible refine gd ?_|simp only[go_sem]
  refine tru_e ?_;simp [nmI,h1]
theorem AlP (x:Int):Ab Tryz.prog 276 [u8 x] (fun r=>r=Ai (stI x)):=by
 refine Ir [] Tryz.func276 ⟨_,rfl⟩ ?_;simp only[go_sem,u8];repeat' first|refine Aj.on (fun _=>?_) (fun _=>?_)|with_reducible refine gd ?_|simp only[go_sem]
 refine(Qr x).mono ?_;rintro r rfl;simp only[Ai];cases h1:zZ x
 ·exact AmK
 ·exact AmK
def Hg (p:Int→Bool):List UInt8→Nat
 |[]=>0
 |c::r=>if p (c.toNat:Int)then Hg p r+1 else 0
theorem Ahk (s:List UInt8) (i g:Nat) (p:Int→Bool) (hg:∀x,Ab Tryz.prog g [u8 x] (fun r=>r=Ai (p x))) (hi:i≤s.length) (hs:s.length≤1000000):Ab Tryz.prog 273 [str s,num i,.raw (.func (.func g) #[] #[])] (fun r=>r=num ((i+Hg p (s.drop i):Nat):Int)):=by
 refine Ir [] Tryz.func273 ⟨_,rfl⟩ ?_;simp only[go_sem,str,num];refine Ap (rl [1,1,5,14]) [1] (fun n xs=>∃j:Nat,i≤j∧j≤s.length∧j+n=s.length∧xs=[num j]∧i+Hg p (s.drop i)=j+Hg p (s.drop j)) ⟨s.length-i,_,⟨i,om,hi,om,rfl,rfl⟩,?_⟩ ?_
 ·exact Zw
 ·rintro n xs ⟨j,hij,hjl,hn,rfl,he⟩;simp only[PU];simp only[go_sem];repeat' first|refine Aj.on (fun _=>?_) (fun _=>?_)|with_reducible refine gd ?_|simp only[go_sem]
  ·rename_i hlt;have hlt':j<s.length:=om;have hw:=wS j;have hd:s.drop j=s.getD j 0::s.drop (j+1):=by rw[Ayd hlt'];simp [hlt']
   refine(hg _).mono ?_;rintro r rfl;simp only[Ai];cases hp:p ((s.getD j 0).toNat:Int)
   ·repeat' first|refine Aj.on (fun _=>?_) (fun _=>?_)|with_reducible refine gd ?_|simp only[go_sem]
    have:Hg p (s.drop j)=0:=by rw[hd,Hg,hp];rfl
    rw[he,this];rfl
   ·refine Z1 hw ?_;refine Az (n-1) [num ((j+1:Nat):Int)] om ⟨j+1,om,om,om,rfl,?_⟩ ?_
    ·rw [he,hd,Hg,hp];simp only[if_true];omega
    ·exact Zw
  ·rename_i hge;have:s.drop j=[]:=by simp;omega
   rw[he,this];rfl
end Go.Proofs.YtmophjggmekoeaaGreatDoor.Lx
namespace Go.Proofs.YtmophjggmekoeaaGreatDoor.Lx
open Go.RowKit Go.Proofs
theorem iK (s p:List UInt8) (hs:s.length≤1000000) (hp:p.length≤1000000):Ab Tryz.prog 100 [str s,str p] (fun r=>r=Ai (decide (p.length≤s.length)&&(s.take p.length==p))):=by
 refine Ir [] Tryz.func100 ⟨_,rfl⟩ ?_;simp only[go_sem,str];repeat' first|refine Aj.on (fun _=>?_) (fun _=>?_)|with_reducible refine gd ?_|simp only[go_sem]
 ·refine tru_e ?_;rename_i h;have:p.length≤s.length:=om;simp [this]
 ·refine tru_e ?_;rename_i h;have:¬p.length≤s.length:=om;simp [this]
theorem iL (s p:List UInt8) (hs:s.length≤1000000) (hp:p.length≤1000000):Ab Tryz.prog 68 [str s,str p] (fun r=>r=Ai (decide (p.length≤s.length)&&(s.take p.length==p))):=by
 refine A9 [] Bo Cq Tryz.func68 oD oK (by simp only[Tryz.f68,go_sem,reduceIte];rfl) Tryz.ntmps68 Tryz.results68 ⟨_,rfl⟩ rfl ?_;simp only[LS,Nat.reduceAdd,Nat.reduceSub];simp only[go_sem,str];repeat' first|refine Aj.on (fun _=>?_) (fun _=>?_)|with_reducible refine gd ?_|simp only[go_sem]
 refine(iK s p hs hp).mono ?_;rintro r rfl;simp only[Ai];exact Aia
def lb (c:UInt8):Bool:=decide (((c.toNat:Nat):Int)=123)
theorem pN {c:UInt8}:lb c=true↔c=123:=by
 simp only[lb,decide_eq_true_eq];constructor
 ·intro h;have:c.toNat=123:=om;exact UInt8.toNat_inj.1 this
 ·rintro rfl;rfl
def Q7:List UInt8→Bool
 |[]=>false
 |[c]=>lb c
 |c::d::_=>lb c&& !lb d
theorem Gk {s:List UInt8} {i:Nat} (hi:i<s.length):∃c,s.getD i 0=c∧s.drop i=c::s.drop (i+1):=⟨_,rfl,by rw[Ayd hi];simp [hi]⟩
theorem Asj (c:UInt8) (r:List UInt8) (h:lb c=true):(!(decide (2≤(c::r).length)&&((c::r).take 2==[123,123])))=Q7 (c::r):=by
 have hc:=pN.1 h;subst hc
 cases r with
 |nil=>simp [Q7,h]
 |cons d r=>
  simp only[Q7,h,Bool.true_and]
  cases hd2:lb d with
  |true=>rw[pN.1 hd2];simp
  |false=>
   have:d≠123:=fun e=>by rw[pN.2 e]at hd2;cases hd2
   simp [this]
theorem AuV {c:UInt8} {r:List UInt8} (h:lb c=false):Q7 (c::r)=false:=by cases r<;>simp [Q7,h]
theorem sY (s:List UInt8) (i:Nat) (hi:i<s.length) (hs:s.length≤1000000):Ab Tryz.prog 229 [str s,num i] (fun r=>r=Ai (Q7 (s.drop i))):=by
 refine A9 [] Bo Cq Tryz.func229 oD oK (by simp only[Tryz.f229,go_sem,reduceIte];rfl) Tryz.ntmps229 Tryz.results229 ⟨_,rfl⟩ rfl ?_;simp only[LS,Nat.reduceAdd,Nat.reduceSub];simp only[go_sem,str,num];have e1:(s.drop i).take (s.length-i)=s.drop i:=Axw oS;obtain⟨c,hc0,hd⟩:=Gk hi;repeat' first|refine Aj.on (fun _=>?_) (fun _=>?_)|with_reducible refine gd ?_|simp only[go_sem,e1,hc0]
 ·rename_i h;have hc:lb c=true:=by simp only[lb,decide_eq_true_eq];first|exact h|(rw[←hc0];exact h)
  refine(iL (s.drop i) [123,123] (by simp;omega) oD).mono ?_;rintro r rfl;have key:=Asj c (s.drop (i+1)) hc;rw[←hd]at key;simp only[Ai,Axr,Axq,Ayc,Nat.reduceAdd];repeat' first|refine Aj.on (fun _=>?_) (fun _=>?_)|with_reducible refine gd ?_|simp only[go_sem,key]
 ·rename_i h;have hc:lb c=false:=by simp only[lb,decide_eq_false_iff_not];first|exact h|(rw[←hc0];exact h)
  refine tru_f ?_;rw[hd];exact AuV hc
end Go.Proofs.YtmophjggmekoeaaGreatDoor.Lx
namespace Go.Proofs.YtmophjggmekoeaaGreatDoor.Lx
open Go.RowKit Go.Proofs
def tokA (k:Int) (t:List UInt8) (a:Int):AV:=.agg [num k,str t,num a]
section
variable {T : Bd} {K : AV → Prop}
def uel (o:Option Nat) (T:Bd):Prop:=match o with
 |some e=>(match T e with
  |some j=>j.td.ik=some .u8
  |none=>False)
 |none=>False
def uel2 (o:Option TI):Prop:=match o with
 |some j=>j.td.ik=some .u8
 |none=>False
theorem uel_some (e:Nat):uel (some e) T=uel2 (T e):=(rfl)
theorem uel2_some (j:TI):uel2 (some j)=(j.td.ik=some .u8):=(rfl)
theorem aconv2_bytes (s d:TI) (e:Nat) (l:List UInt8):Iz T s d (.own e 1 (A5 l)) K=(d.td.str=true∧uel s.td.elem T∧K (.raw (.string ⟨l.toArray⟩))):=by
 refine propext ⟨?_,?_⟩
 ·rintro ⟨h1,h2,l',h3,h4⟩;rw[M5 h3];exact⟨h1,h2,h4⟩
 ·rintro ⟨h1,h2,h3⟩;exact⟨h1,h2,l,rfl,h3⟩
end
theorem pP (l:List UInt8):(A5 l).length=l.length:=by simp [A5]
attribute [go_sem] uel_some uel2_some aconv2_bytes Kt pP
def P9 (c:UInt8):Bool:= !decide (((c.toNat:Nat):Int)=10)&& !zZ (c.toNat:Int)
def litL:List UInt8→List UInt8×Nat×Bool
 |[]=>([],0,false)
 |[c]=>if lb c then([],0,false)else if P9 c then([],0,true)else([c],1,false)
 |c::d::r=>
  if lb c&& !lb d then([],0,false)else if P9 c then([],0,true)
  else if lb c then(c::(litL r).1,(litL r).2.1+2,(litL r).2.2)
  else(c::(litL (d::r)).1,(litL (d::r)).2.1+1,(litL (d::r)).2.2)
theorem iM {u:List UInt8} (h:Q7 u=true):litL u=([],0,false):=by
 match u with
 |[]=>rfl
 |[c]=>simp only[Q7]at h;simp [litL,h]
 |c::d::r=>simp only[Q7]at h;simp only[litL,h,if_true]
theorem Ue {c:UInt8} {r:List UInt8} (h:Q7 (c::r)=false) (hb:P9 c=true):litL (c::r)=([],0,true):=by
 match r with
 |[]=>simp only[Q7]at h;simp [litL,h,hb]
 |d::r=>simp only[Q7]at h;simp only[litL,h,hb,Ax0,if_false,if_true]
theorem Lp {c:UInt8} {r:List UInt8} (h:Q7 (c::r)=false) (hb:P9 c=false) (hl:lb c=false):litL (c::r)=(c::(litL r).1,(litL r).2.1+1,(litL r).2.2):=by
 match r with
 |[]=>simp only[Q7]at h;simp [litL,h,hb]
 |d::r=>simp only[Q7]at h;simp only[litL,hl,Bool.false_and,hb,Ax0,if_false]
theorem Uf {c d:UInt8} {r:List UInt8} (h:Q7 (c::d::r)=false) (hb:P9 c=false) (hl:lb c=true):litL (c::d::r)=(c::(litL r).1,(litL r).2.1+2,(litL r).2.2):=by simp only[Q7,hl,Bool.true_and]at h;simp only[litL,hl,Bool.true_and,h,hb,Ax0,if_false,if_true]
def Aaa (i:Nat) (x:List UInt8×Nat×Bool):AV:=if x.2.2 then .tup [tokA 0 [] (i+x.2.1:Nat),num 0]else .tup [tokA 1 x.1 i,num (i+x.2.1:Nat)]
theorem Aab (s:List UInt8) (i:Nat) (hi:i≤s.length) (hs:s.length≤1000000):Ab Tryz.prog 230 [str s,num i] (fun r=>r=Aaa i (litL (s.drop i))):=by
 refine Ir [] Tryz.func230 ⟨_,rfl⟩ ?_;simp only[go_sem,str,num];refine Ap (rl [6,36]) [6,7] (fun n xs=>∃(j:Nat) (t:List UInt8),i≤j∧j≤s.length∧j+n=s.length∧t.length≤j∧xs=[.own 5 1 (A5 t),num j]∧litL (s.drop i)=(t++(litL (s.drop j)).1,(j-i)+(litL (s.drop j)).2.1,(litL (s.drop j)).2.2)) ⟨s.length-i,_,⟨i,[],om,hi,om,oS,rfl,oS⟩,?_⟩ ?_
 ·simp only[PU];simp only[jP];exact Zw
 ·rintro n xs ⟨j,t,hij,hjl,hn,htl,rfl,he⟩;simp only[PU];simp only[go_sem];repeat' first|refine Aj.on (fun _=>?_) (fun _=>?_)|with_reducible refine gd ?_|simp only[go_sem]
  ·rename_i hlt;have hlt':j<s.length:=om;obtain⟨c,hc0,hd⟩:=Gk hlt';have hw:=wS j;have hw2:IntKind.i64.wrap (((j+1:Nat):Int)+1)=((j+2:Nat):Int):=by rw[Cj om om];omega
   refine(sY s j hlt' hs).mono ?_;rintro r rfl;simp only[Ai];cases ho:Q7 (s.drop j)
   ·rw [hd]at ho;have hsn:=Kt t c;repeat' first|refine Aj.on (fun _=>?_) (fun _=>?_)|with_reducible refine gd ?_|simp only[go_sem,hc0,hw,hsn]
    ·rename_i h10;refine(Qr _).mono ?_;rintro r rfl;simp only[Ai];cases hp:zZ (c.toNat:Int)
     ·repeat' first|refine Aj.on (fun _=>?_) (fun _=>?_)|with_reducible refine gd ?_|simp only[go_sem]
      have hb:P9 c=true:=by simp [P9,hp,h10]
      rw[hd,Ue ho hb]at he;rw[he];simp only[Aaa,if_true,tokA,str,num];have:i+(j-i+0)=j:=om;rw[this]
     ·have hb:P9 c=false:=by simp [P9,hp]
      repeat' first|refine Aj.on (fun _=>?_) (fun _=>?_)|with_reducible refine gd ?_|simp only[go_sem,hw,hsn]
      ·rename_i h123;have hl:lb c=true:=by simp only[lb,decide_eq_true_eq];exact h123
       obtain⟨d,r,hr⟩:∃d r,s.drop (j+1)=d::r:=by
        cases hr:s.drop (j+1)with
        |nil=>rw[hr]at ho;simp only[Q7]at ho;rw[hl]at ho;cases ho
        |cons d r=>exact⟨d,r,rfl⟩
       have hr2:s.drop (j+2)=r:=by have:=congrArg (List.drop 1) hr;simpa[Ay2,AyV,Nat.add_left_comm]using this
       have hj2:j+2≤s.length:=by have:=congrArg List.length hr;simp at this;omega
       refine Z1 hw2 ?_;refine Az (n-2) [.own 5 1 (A5 (t++[c])),num ((j+2:Nat):Int)] om ⟨j+2,t++[c],om,om,om,by simp;omega,rfl,?_⟩ ?_
       ·rw [he,hd,hr,Uf (by rw[←hr];exact ho) hb hl,hr2];simp only[AxS,Ax4,Ax8];congr 2;omega
       ·exact Zw
      ·rename_i h123;have hl:lb c=false:=by simp only[lb,decide_eq_false_iff_not];exact h123
       refine Az (n-1) [.own 5 1 (A5 (t++[c])),num ((j+1:Nat):Int)] om ⟨j+1,t++[c],om,om,om,by simp;omega,rfl,?_⟩ ?_
       ·rw [he,hd,Lp ho hb hl];simp only[AxS,Ax4,Ax8];congr 2;omega
       ·exact Zw
    ·exfalso;rename_i h10 h123;omega
    ·rename_i h10 h123;have hb:P9 c=false:=by simp only[P9,h10,decide_true,AxP,Bool.false_and]
     have hl:lb c=false:=by simp only[lb,decide_eq_false_iff_not];exact h123
     refine Az (n-1) [.own 5 1 (A5 (t++[c])),num ((j+1:Nat):Int)] om ⟨j+1,t++[c],om,om,om,by simp;omega,rfl,?_⟩ ?_
     ·rw [he,hd,Lp ho hb hl];simp only[AxS,Ax4,Ax8];congr 2;omega
     ·exact Zw
   ·repeat' first|refine Aj.on (fun _=>?_) (fun _=>?_)|with_reducible refine gd ?_|simp only[go_sem]
    rw[iM ho]at he;rw[he];simp only[Aaa,Ax0,if_false,tokA,str,num,AxF];have:i+(j-i+0)=j:=om;rw[this]
  ·rename_i hge;have hj:j=s.length:=om;have:s.drop j=[]:=by simp;omega
   rw[this]at he;rw[he];simp only[Aaa,litL,Ax0,if_false,tokA,str,num,AxF];have:i+(j-i+0)=j:=om;rw[this]
end Go.Proofs.YtmophjggmekoeaaGreatDoor.Lx
namespace Go.Proofs.YtmophjggmekoeaaGreatDoor.Lx
open Go.RowKit Go.Proofs
theorem Mk (p:Int→Bool):∀l:List UInt8,Hg p l≤l.length
 |[]=>Axu _
 |c::r=>by have:=Mk p r;simp only[Hg,Axr];split<;>omega
def partL:List UInt8→Option (Int×List UInt8×Nat)
 |[]=>none
 |c::r=>
  if aN (c.toNat:Int)then(if 20<Hg nmI (c::r)then none else some (2,(c::r).take (Hg nmI (c::r)),Hg nmI (c::r)))
  else if Lo (c.toNat:Int)then(if 6<Hg Lo (c::r)∨(1<Hg Lo (c::r)∧((c.toNat:Nat):Int)=48)then none else some (3,(c::r).take (Hg Lo (c::r)),Hg Lo (c::r)))
  else if((c.toNat:Nat):Int)=34 then(match r.drop (Hg stI r)with
   |d::_=>if((d.toNat:Nat):Int)=34 then some (4,r.take (Hg stI r),Hg stI r+2)else none
   |[]=>none)
  else if((c.toNat:Nat):Int)=124 then some (5,[124],1)
  else if((c.toNat:Nat):Int)=125 then some (7,[125],1)
  else none
theorem k1:aN 34=false:=oD
theorem k2:Lo 34=false:=oD
theorem k3:aN 124=false:=oD
theorem k4:Lo 124=false:=oD
theorem k5:aN 125=false:=oD
theorem k6:Lo 125=false:=oD
theorem k7:((124:Int)=34)=False:=oD
theorem k8:((125:Int)=34)=False:=oD
theorem k9:((125:Int)=124)=False:=oD
def Lq (i:Nat) (o:Option (Int×List UInt8×Nat)):AV:=match o with
 |some (k,t,n)=>.tup [tokA k t i,num (i+n:Nat)]
 |none=>.tup [tokA 0 [] i,num 0]
theorem Asl (s:List UInt8) (i:Nat) (hi:i<s.length) (hs:s.length≤1000000):Ab Tryz.prog 231 [str s,num i] (fun r=>r=Lq i (partL (s.drop i))):=by
 refine Ir [] Tryz.func231 ⟨_,rfl⟩ ?_;simp only[go_sem,str,num];obtain⟨c,hc0,hd⟩:=Gk hi;have hr:=Ay2 (i:=1) (j:=i) (l:=s);refine Z1 hc0 ?_;refine(iJ _).mono ?_;rintro r rfl;simp only[Ai];cases h1:aN (c.toNat:Int)
 ·repeat' first|refine Aj.on (fun _=>?_) (fun _=>?_)|with_reducible refine gd ?_|simp only[go_sem]
  refine(aO _).mono ?_;rintro r rfl;simp only[Ai];cases h2:Lo (c.toNat:Int)
  ·repeat' first|refine Aj.on (fun _=>?_) (fun _=>?_)|with_reducible refine gd ?_|simp only[go_sem]
   ·rename_i h34;have hwi:=wS i;rw[hwi];refine(Ahk s (i+1) 276 stI AlP om hs).mono ?_;rintro r rfl;obtain⟨n,hn⟩:∃n,Hg stI (s.drop (i+1))=n:=⟨_,rfl⟩;have hnl:n≤s.length-(i+1):=by have:=Mk stI (s.drop (i+1));simp at this;omega
    have e1:i+1+n-(i+1)=n:=om;have hdd:(s.drop (i+1)).drop n=s.drop (i+1+n):=by rw[Ay2]
    have hwe:IntKind.i64.wrap (((i+1+n:Nat):Int)+1)=((i+1+n+1:Nat):Int):=Eu om;simp only[hn,num];repeat' first|refine Aj.on (fun _=>?_) (fun _=>?_)|with_reducible refine gd ?_|simp only[go_sem,e1,hwi,hwe]
    ·rename_i hend;have:s.drop (i+1+n)=[]:=by simp;omega
     rw[hd];simp only[k1,k2,k3,k4,k5,k6,k7,k8,k9,partL,h1,h2,h34,hn,hdd,this,if_true,Ax0,if_false,Lq,tokA,str,num]
    all_goals (
     rename_i hend h34b;obtain⟨e,he0,hde⟩:=Gk (s:=s) (i:=i+1+n) om;rw[he0]at h34b;rw[hd];simp only[k1,k2,k3,k4,k5,k6,k7,k8,k9,partL,h1,h2,h34,hn,hdd,hde,h34b,if_true,Ax0,if_false,Lq,tokA,str,num]
     try (have:i+1+n+1=i+(n+2):=om
          rw[this]))
   ·rename_i h34 h124;have hwi:=wS i;rw[hd];simp only[k1,k2,k3,k4,k5,k6,k7,k8,k9,partL,h1,h2,h34,h124,if_true,Ax0,if_false,Lq,tokA,str,num,hwi]
   ·rename_i h34 h124 h125;have hwi:=wS i;rw[hd];simp only[k1,k2,k3,k4,k5,k6,k7,k8,k9,partL,h1,h2,h34,h124,h125,if_true,Ax0,if_false,Lq,tokA,str,num,hwi]
   ·rename_i h34 h124 h125;rw[hd];simp only[k1,k2,k3,k4,k5,k6,k7,k8,k9,partL,h1,h2,h34,h124,h125,Ax0,if_false,Lq,tokA,str,num]
  ·repeat' first|refine Aj.on (fun _=>?_) (fun _=>?_)|with_reducible refine gd ?_|simp only[go_sem]
   refine(Ahk s i 275 Lo aO om hs).mono ?_;rintro r rfl;obtain⟨n,hn⟩:∃n,Hg Lo (s.drop i)=n:=⟨_,rfl⟩;have hnl:n≤s.length-i:=by have:=Mk Lo (s.drop i);simp at this;omega
   have hw:IntKind.i64.wrap (((i+n:Nat):Int)-(i:Int))=(n:Int):=by rw[Cj om om];omega
   have e1:i+n-i=n:=om;simp only[hn,num];repeat' first|refine Aj.on (fun _=>?_) (fun _=>?_)|with_reducible refine gd ?_|simp only[go_sem,hw,e1]
   ·rename_i h6;have hc:6<n∨(1<n∧((c.toNat:Nat):Int)=48):=om;exact AhY
   ·rename_i h6 h11 h48;have hc:6<n∨(1<n∧((c.toNat:Nat):Int)=48):=om;exact AhY
   ·rename_i h6 h11 h48;have hc:¬(6<n∨(1<n∧((c.toNat:Nat):Int)=48)):=om;exact AhY
   ·rename_i h6 h11;have hc:¬(6<n∨(1<n∧((c.toNat:Nat):Int)=48)):=om;exact AhY
 ·repeat' first|refine Aj.on (fun _=>?_) (fun _=>?_)|with_reducible refine gd ?_|simp only[go_sem]
  refine(Ahk s i 274 nmI AlO om hs).mono ?_;rintro r rfl;obtain⟨n,hn⟩:∃n,Hg nmI (s.drop i)=n:=⟨_,rfl⟩;have hnl:n≤s.length-i:=by have:=Mk nmI (s.drop i);simp at this;omega
  have hw:IntKind.i64.wrap (((i+n:Nat):Int)-(i:Int))=(n:Int):=by rw[Cj om om];omega
  have e1:i+n-i=n:=om;simp only[hn,num];repeat' first|refine Aj.on (fun _=>?_) (fun _=>?_)|with_reducible refine gd ?_|simp only[go_sem,hw,e1]
  ·rename_i h20;rw[hd]at hn⊢;have:20<n:=om;simp only[partL,h1,hn,this,if_true,Lq,tokA,str,num]
  ·rename_i h20;have:¬20<n:=om;rw[hd]at hn⊢;simp only[partL,h1,hn,this,if_true,if_false,Lq,tokA,str,num]
end Go.Proofs.YtmophjggmekoeaaGreatDoor.Lx
