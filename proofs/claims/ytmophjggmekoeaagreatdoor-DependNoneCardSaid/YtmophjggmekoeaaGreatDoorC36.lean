/- A revision made of ints. -/
import Derived.Test.YtmophjggmekoeaaGreatDoorC35
set_option linter.all false
set_option maxRecDepth 100000
set_option maxHeartbeats 4000000
namespace Go.Proofs.YtmophjggmekoeaaGreatDoor
section
open Go.RowKit Go.Proofs
theorem Asx {l:List (List Ac)} {j:Nat} {x:List Ac} (h:l[j]? =some x):(l.map fun y=>AV.sl 1 (y.map str)).getD j .any=.sl 1 (x.map str):=by simp [h]
theorem qC (i:Nat) (hi:i≤100) (a b c d e:Int) (ha:Kg a) (hb:Kg b) (hc:Kg c) (hd:Kg d) (he:Kg e):Ab Tryz.prog 65 [num i,.agg [num a,num b,num c,num d,num e]] (fun r=>∃f:Fc,r=Mm f∧Kl f∧f.st=0):=by
 have hwi:=wS i;refine HC.plain (HC.weak ?_) ⟨_,⟨0,0,0,0,[],0,0,[],[],[],[],0,[],0,0,0,0,0,[],[],0,0,0⟩,rfl,⟨oS,oS,oS,oS,oS,oS,oS,oS⟩,rfl⟩;refine B3 [(2,[],[0]),(1000008,[],[]),(1000012,[],[])] [1] [(2,[15,22,27,31,37,10003],[1,6,7,8,10,11,13,17,22,23,1002,1009,1014,1018,1024],[2000,2003,4,2005,2012,2015,2016,2019,20,2021,2025,26,2027,2028,2029],[3030]),(7,[],[0,2,3,2001,4],[],[3005]),(9,[69,75,10003],[0,1,2,4,8,1003,5,1009],[2006,7],[3010,11,3012,3013])] Bo Dv Cq Tryz.func65 oD oK (by simp only[Tryz.f65,go_sem,reduceIte];rfl) Tryz.ntmps65 Tryz.results65 rfl ?_;simp only[Axr,Axq,Nat.reduceAdd,Nat.reduceSub,AxT,AxZ,Ax4,Ax8,num,str,Ai];simp (decide:=true) only[En [0,3] [3700003,3100003,2700003,2200003,1500003] [6] [[14],[3],[3],[],[14],[],[0],[],[3],[3],[0],[],[],[3],[3],[],[30],[3],[3],[],[30],[],[36],[3],[3],[],[36],[],[],[],[]],AxE,AxX,AxY];refine Z0 ?_;refine H5 (cs1:= ?c1) (cs2:= ?c2) Bo Dv 4 ?e1 ?e2 ?h1
 case e1=>rfl
 case e2=>rfl
 simp only[Ayp,Ayr,Ays];simp only[go_sem];refine Z0 ?_;apply Ml
 ·exact qH
 refine Z1 hwi ?_;refine(E1 c hc 3 om om).mono ?_;rintro r rfl;simp only[num];have hk1:=Ee c (n:=3) om;generalize pickF c 3=k1 at hk1⊢;obtain⟨x1,hx1,_⟩:=drop_at (show k1<([[101,110],[101,110],[100,101]]:List Ac).length from hk1);have hg1:([.raw (.string ⟨#[101,110]⟩),.raw (.string ⟨#[101,110]⟩),.raw (.string ⟨#[100,101]⟩)]:List AV).getD k1 .any=.raw (.string ⟨x1.toArray⟩):=B8 hx1;have hl1:x1.length≤100:=(by decide:∀y∈([[101,110],[101,110],[100,101]]:List Ac),y.length≤100) _ (Axt hx1);refine Z2 hwi hg1 ?_;refine(E1 d hd (i+1) om om).mono ?_;rintro r rfl;simp only[num];have hk2:=Ee d (n:=i+1) om;generalize pickF d (i+1)=k2 at hk2⊢;refine Z1 hwi ?_;refine(pV d hd).mono ?_;rintro r ⟨ti,hti,rfl⟩;simp only[str];repeat' first|refine Aj.on (fun _=>?_) (fun _=>?_)|with_reducible refine gd ?_|simp only[go_sem,hwi]
 refine(E1 d hd 2 om om).mono ?_;rintro r rfl;simp only[num];have hk3:=Ee d (n:=2) om;generalize pickF d 2=k3 at hk3⊢;obtain⟨x3,hx3,_⟩:=drop_at (show k3<([[97,110,110],[98,111,98]]:List Ac).length from hk3);have hg3:([.raw (.string ⟨#[97,110,110]⟩),.raw (.string ⟨#[98,111,98]⟩)]:List AV).getD k3 .any=.raw (.string ⟨x3.toArray⟩):=B8 hx3;have hl3:x3.length≤100:=(by decide:∀y∈([[97,110,110],[98,111,98]]:List Ac),y.length≤100) _ (Axt hx3);repeat' first|refine Aj.on (fun _=>?_) (fun _=>?_)|with_reducible refine gd ?_|simp only[go_sem,hwi,hg3]
 refine(E1 e he 4 om om).mono ?_;rintro r rfl;simp only[num];have hk4:=Ee e (n:=4) om;generalize pickF e 4=k4 at hk4⊢;obtain⟨tp,hx4,_⟩:=drop_at (show k4<([[[99,105,116,121]],[[114,97,105,110]],[[99,105,116,121],[114,97,105,110]],[]]:List (List Ac)).length from hk4);have hg4:([.sl 1 [.raw (.string ⟨#[99,105,116,121]⟩)],.sl 1 [.raw (.string ⟨#[114,97,105,110]⟩)],.sl 1 [.raw (.string ⟨#[99,105,116,121]⟩),.raw (.string ⟨#[114,97,105,110]⟩)],.sl 1 []]:List AV).getD k4 .any=.sl 1 (tp.map str):=Asx hx4;have ht4:tp.length≤10∧∀t∈tp,t.length≤100:=(by decide:∀y∈([[[99,105,116,121]],[[114,97,105,110]],[[99,105,116,121],[114,97,105,110]],[]]:List (List Ac)),y.length≤10∧∀t∈y,t.length≤100) _ (Axt hx4);repeat' first|refine Aj.on (fun _=>?_) (fun _=>?_)|with_reducible refine gd ?_|simp only[go_sem,hwi,hg4]
 refine Ax [false,true,true,false,false,true,false,false,true,true,true,true,true,true,true,true,true,true,true,true,true,true,true,true,true,true,true,true,true,true,true,true,true,true,true,true,true,true,true,true,true,true,true,true,true,true,true,true,true,true,true,true,true,true,true,true,true,true,true,true,true,true,true,true,true,true,true,true,true,true,true,true,true,true,true,true,true,true,true,true,true,true,true,true,true,true,true,true,true,true,true,true] [6,7] (fun m xs γ=>γ=[]∧∃(j:Nat) (bl:List Bk),j+m=4∧bl.length≤j∧(∀b∈bl,b.tx.length≤9∧b.af.length≤9)∧xs=[.box 89 [num 0,num 0,num 1,num 0,str x1,num ((i+1:Nat):Int),num k2,str ti,str x3,.sl 1 (tp.map str),.own 179 9 (bl.map Dl),num 0,.sl 1 [],num 0,num 0,num 0,num 0,num 0,str [],str [],num 0,num 0,num 0],num j]) ⟨4,_,_,⟨rfl,0,[],om,oS,oS,rfl⟩,hent (Gw.refl _) ?_⟩ ?_
 ·simp only[Axv];exact O8
 rintro m xs γ ⟨rfl,j,bl,hm,hbl,hbk,rfl⟩;simp only[Io,Ip,Eh,Ci,Db,Aye,Ayf,num];simp only[str];have hj4:(j:Int)≤4:=om;refine Z1 hwi ?_;refine HC.old (E1 (IntKind.i64.wrap (e.tdiv 4)) (W7 _) 4 om om) ?_;rintro r rfl;simp only[num];have hkp:=Ee (IntKind.i64.wrap (e.tdiv 4)) (n:=4) om;generalize pickF (IntKind.i64.wrap (e.tdiv 4)) 4=kp at hkp⊢;rcases Axz j kp with hlt|hge;rotate_left
 ·have ej:=eU j kp;refine Z1 ej ?_;refine⟨Mm ⟨0,0,1,0,x1,((i+1:Nat):Int),k2,ti,x3,tp,bl,0,[],0,0,0,0,0,[],[],0,0,0⟩,_,W1.agg ?_,rfl,Gw.refl _,rfl,_,rfl,⟨?_,?_,?_,?_,?_,?_,?_,?_⟩,rfl⟩
  ·simp only[num,str,nums,Axv];exact Df
  ·show bl.length≤100;omega
  ·exact fun b hb=>by have:=hbk b hb;omega
  ·exact ht4.1
  ·exact fun t ht=>by have:=ht4.2 t ht;omega
  ·exact hl1
  ·show ti.length≤1000;omega
  ·show x3.length≤1000;omega
  ·exact AxM _
 have ej:=eT j kp;have hwj:=wS j;repeat' first|refine Aj.on (fun _=>?_) (fun _=>?_)|with_reducible refine gd ?_|simp only[go_sem,ej,hwj]
 refine HC.old (pV (IntKind.i64.wrap (e+j)) (W7 _)) ?_;rintro r ⟨w,hw,rfl⟩;simp only[str];repeat' first|refine Aj.on (fun _=>?_) (fun _=>?_)|with_reducible refine gd ?_|simp only[go_sem,ej,hwj]
 refine Jh [false,true,true,false,false,true,false,false,false,true,true,true,true,true,true,true,true,true,true,true,true,true,true,true,true,true,true,true,true,true,true,true,true,true,true,true,true,true,true,true,true,true,true,true,true,true,true,true,true,true,true,true,true,true,true,true,true,true,true,true,true,true,true,true,true,true,true,true,true,true,true,true,true,true,true,true,true,true,true,true,true,true,true,true,true,true,true,true,true,true,true,true] [8] (fun xs γ=>γ=[]∧∃b:Bk,b.tx.length≤9∧b.af.length≤9∧xs=[.box 179 [num b.id,num b.kd,str b.tx,num b.so,num b.rf,num b.un,.sl 1 (nums b.af),num b.ap,num b.de]]) ?_ ?_;rotate_left
 ·rintro xs γ ⟨rfl,bk,hb1,hb2,rfl⟩;simp only[Io,Ip,Eh,Ci,Db,Aye,Ayf,num];refine Z1 hwj ?_;have hmp:(bl++[bk]).map Dl=bl.map Dl++[.agg [.raw (.int .i64 bk.id),.raw (.int .i64 bk.kd),.raw (.string ⟨bk.tx.toArray⟩),.raw (.int .i64 bk.so),.raw (.int .i64 bk.rf),.raw (.int .i64 bk.un),.sl 1 (nums bk.af),.raw (.int .i64 bk.ap),.raw (.int .i64 bk.de)]]:=by simp [Dl,num,str]
  refine Au (m-1) _ _ om ⟨rfl,j+1,bl++[bk],om,by simp;omega,fun y hy=>by
   rcases Ax5.1 hy with h|h
   ·exact hbk y h
   ·rw [Ax6]at h;subst h;exact⟨hb1,hb2⟩,rfl⟩ (hent (Gw.refl _) ?_)
  rw[hmp];exact O8
 repeat' first|refine Aj.on (fun _=>?_) (fun _=>?_)|with_reducible refine gd ?_|simp only[go_sem,ej,hwj]
 refine Jh [false,true,true,false,false,true,false,false,false,true,true,true,true,true,true,true,true,true,true,true,true,true,true,true,true,true,true,true,true,true,true,true,true,true,true,true,true,true,true,true,true,true,true,true,true,true,true,true,true,true,true,true,true,true,true,true,true,true,true,true,true,true,true,true,false,true,true,true,true,true,true,true,true,true,true,true,true,true,true,true,true,true,true,true,true,true,true,true,true,true,true,true] [64] (fun xs γ=>γ=[]∧∃q:Nat,xs=[num q]) ?_ ?_
 ·repeat' first|refine Aj.on (fun _=>?_) (fun _=>?_)|with_reducible refine gd ?_|simp only[go_sem,ej,hwj]
  refine⟨(by decide+kernel:∀j:Nat,j<3→¬Aj2 IntKind.i64 16 (j:Int)=0) j om,?_⟩;refine HC.old (E1 (IntKind.i64.wrap (e.tdiv (Aj2 IntKind.i64 16 ↑j))) (W7 _) 4 om om) ?_;rintro r rfl;simp only[num];generalize pickF (IntKind.i64.wrap (e.tdiv (Aj2 IntKind.i64 16 ↑j))) 4=q0;repeat' first|refine Aj.on (fun _=>?_) (fun _=>?_)|with_reducible refine gd ?_|simp only[go_sem,ej,hwj]
  refine Ev _ [] ⟨rfl,q0,rfl⟩ (hent (Gw.refl _) ?_);exact O8
 rintro xs γ ⟨rfl,q,rfl⟩;simp only[Io,Ip,Eh,Ci,Db,Aye,Ayf,num];try simp only[str]
 by_cases h0:q=0
 ·have e0:=eq_true (show(q:Int)=0 by omega);repeat' first|refine Aj.on (fun _=>?_) (fun _=>?_)|with_reducible refine gd ?_|simp only[go_sem,e0,hwj]
  refine HC.old (E1 (IntKind.i64.wrap (d+j)) (W7 _) 3 om om) ?_;rintro r rfl;simp only[num];generalize pickF (IntKind.i64.wrap (d+j)) 3=q1;obtain⟨s1,hs1⟩:∃s,IntKind.i64.wrap (1+(q1:Int))=s:=⟨_,rfl⟩;refine Zu ?_;refine HC.old (E1 c hc 3 om om) ?_;rintro r rfl;simp only[num];generalize pickF c 3=q2;obtain⟨s2,hs2⟩:∃s,IntKind.i64.wrap (1+(q2:Int))=s:=⟨_,rfl⟩;refine Zu ?_;refine Ev _ [] ⟨rfl,⟨((j+1:Nat):Int),3,[],s1,s2,0,[],0,0⟩,oS,oS,rfl⟩ (hent (Gw.refl _) ?_);simp only[nums,Axv];exact O8
 have e0:=eq_false (show¬(q:Int)=0 by omega);by_cases h1:q=1
 ·have e1:=eq_true (show(q:Int)=1 by omega);refine Zu ?_;refine Ev _ [] ⟨rfl,⟨((j+1:Nat):Int),5,[99,105,116,121],0,0,0,[],0,0⟩,oS,oS,rfl⟩ (hent (Gw.refl _) ?_);simp only[nums,Axv];exact O8
 have e1:=eq_false (show¬(q:Int)=1 by omega);refine Zu ?_;refine Ev _ [] ⟨rfl,⟨((j+1:Nat):Int),2,w,0,0,0,[],0,0⟩,by show w.length≤9;omega,oS,rfl⟩ (hent (Gw.refl _) ?_);simp only[nums,Axv];exact O8
end
section
open Go.RowKit Go.Proofs
theorem Asy (i:Nat) (hi:i≤100) (a b c d e:Int) (ha:Kg a) (hb:Kg b) (hc:Kg c) (hd:Kg d) (he:Kg e):Ab Tryz.prog 36 [num i,.agg [num a,num b,num c,num d,num e]] (fun r=>∃f:Fc,r=Mm f∧Kl f∧Kg f.st):=by
 have hwi:=wS i;refine HC.plain (HC.weak ?_) ⟨_,⟨0,0,0,0,[],0,0,[],[],[],[],0,[],0,0,0,0,0,[],[],0,0,0⟩,rfl,⟨oS,oS,oS,oS,oS,oS,oS,oS⟩,⟨oS,oS⟩⟩;refine B3 [(16,[],[0]),(1000006,[],[]),(1000017,[],[])] [] [(10,[23,27,10003],[0,4,1001,1005],[2002,3],[3006,3007,3008]),(16,[42,48,10003],[0,1,2,3,8,9,1004,1010],[2005,6,2007],[3011,12,3013,3014,3015])] Bo Dv Cq Tryz.func36 oD oK (by simp only[Tryz.f36,go_sem,reduceIte];rfl) Tryz.ntmps36 Tryz.results36 rfl ?_;simp only[Axr,Axq,Nat.reduceAdd,Nat.reduceSub,AxT,AxZ,Ax4,Ax8,num,str,Ai];simp (decide:=true) only[En [3] [4800003,4200003] [] [[],[],[41],[3],[3],[],[41],[],[47],[3],[3],[],[47],[],[],[]],AxE,AxX,AxY];repeat' first|refine Aj.on (fun _=>?_) (fun _=>?_)|with_reducible refine gd ?_|simp only[go_sem,hwi]
 refine Jh [false,false,true,false,false,true,true,false,true,true,true,true,true,true,true,true,true,true,true,true,true,true,true,true,true,true,true,true,true,true,true,true,true,true,true,true,true,true,true,true,true,true,true,true,true,true,true,true,true,true,true,true,true,true,true,true,true,true,true,true,true,true,true] [7] (fun xs γ=>γ=[]∧∃f:Fc,Kl f∧xs=[.box 89 [num f.n,num f.tm,num f.kd,num f.st,str f.lg,num f.rv,num f.bs,str f.ti,str f.au,.sl 1 (f.tp.map str),.sl 9 (f.bl.map Dl),num f.un,.sl 1 (nums f.af),num f.ap,num f.de,num f.ed,num f.bk,num f.se,str f.tx,str f.nm,num f.pa,num f.cl,num f.ul]]) ?_ ?_;rotate_left
 ·rintro xs γ ⟨rfl,f,hf,rfl⟩;simp only[Io,Ip,Eh,Ci,Db,Aye,Ayf,num];try simp only[str]
  repeat' first|refine Aj.on (fun _=>?_) (fun _=>?_)|with_reducible refine gd ?_|simp only[go_sem,hwi]
  refine HC.old (E1 b hb 3 om om) ?_;rintro r rfl;simp only[num];obtain⟨s1,hs1⟩:∃s,IntKind.i64.wrap (1+(pickF b 3:Int))=s:=⟨_,rfl⟩;have hs:Kg s1:=by rw[←hs1];exact W7 _
  refine Z2 hwi hs1 ?_;refine⟨_,_,W1.refl _,rfl,Gw.refl _,rfl,{f with n:=((i+1:Nat):Int),st:=s1},rfl,⟨hf.bl,hf.bk,hf.tp,hf.tn,hf.lg,hf.ti,hf.au,hf.tx⟩,hs⟩
 repeat' first|refine Aj.on (fun _=>?_) (fun _=>?_)|with_reducible refine gd ?_|simp only[go_sem,hwi]
 refine Jh [false,false,true,false,false,false,false,false,true,true,true,true,true,false,true,true,true,true,true,true,true,true,true,true,true,true,true,true,true,true,true,true,true,true,true,true,true,true,true,true,true,true,true,true,true,true,true,true,true,true,true,true,true,true,true,true,true,true,true,true,true,true,true] [13] (fun xs γ=>γ=[]∧∃q:Nat,q<10∧xs=[num q]) ?_ ?_
 ·repeat' first|refine Aj.on (fun _=>?_) (fun _=>?_)|with_reducible refine gd ?_|simp only[go_sem,hwi]
  refine HC.old (E1 a ha 10 om om) ?_;rintro r rfl;simp only[num];have hkq0:=Ee a (n:=10) om;generalize pickF a 10=q0 at hkq0⊢;repeat' first|refine Aj.on (fun _=>?_) (fun _=>?_)|with_reducible refine gd ?_|simp only[go_sem,hwi]
  refine Ev _ [] ⟨rfl,q0,hkq0,rfl⟩ (hent (Gw.refl _) ?_);exact O8
 rintro xs γ ⟨rfl,q,hq,rfl⟩;simp only[Io,Ip,Eh,Ci,Db,Aye,Ayf,num];try simp only[str]
 rcases(by omega:q=0∨q=1∨q=6∨q=7∨q=8∨q=9∨(q≠0∧q≠1∧q≠6∧q≠7∧q≠8∧q≠9))with h|h|h|h|h|h|h
 ·have e0:=eq_true (show(q:Int)=0 by omega);repeat' first|refine Aj.on (fun _=>?_) (fun _=>?_)|with_reducible refine gd ?_|simp only[go_sem,e0,hwi]
  refine Ev _ [] ⟨rfl,⟨0,0,3,0,[],0,0,[],[],[],[],0,[],0,0,0,0,0,[],[],0,0,0⟩,⟨oS,oS,oS,oS,oS,oS,oS,oS⟩,rfl⟩ (hent (Gw.refl _) ?_);simp only[nums,Axv];exact O8
 ·have e0:=eq_false (show¬(q:Int)=0 by omega);have e1:=eq_true (show(q:Int)=1 by omega);refine Zu ?_;refine Ev _ [] ⟨rfl,⟨0,0,3,0,[],0,0,[],[],[],[],0,[],0,0,0,0,0,[],[],0,0,0⟩,⟨oS,oS,oS,oS,oS,oS,oS,oS⟩,rfl⟩ (hent (Gw.refl _) ?_);simp only[nums,Axv];exact O8
 ·have e0:=eq_false (show¬(q:Int)=0 by omega);have e1:=eq_false (show¬(q:Int)=1 by omega);have e6:=eq_true (show(q:Int)=6 by omega);refine Zu ?_;refine HC.old (E1 d hd 3 om om) ?_;rintro r rfl;simp only[num];have hkq1:=Ee d (n:=3) om;generalize pickF d 3=q1 at hkq1⊢;obtain⟨s1,hs1⟩:∃s,IntKind.i64.wrap (1+(q1:Int))=s:=⟨_,rfl⟩;refine Zu ?_;refine HC.old (pV e he) ?_;rintro r ⟨w,hw,rfl⟩;refine Zn ?_;refine Ev _ [] ⟨rfl,⟨0,0,4,0,[101,110],0,0,[],[],[],[],0,[],0,0,0,s1,0,w,[],0,0,0⟩,⟨oS,oS,oS,oS,oS,oS,oS,by show w.length≤1000;omega⟩,rfl⟩ (hent (Gw.refl _) ?_);simp only[nums,Axv];exact O8
 ·have e0:=eq_false (show¬(q:Int)=0 by omega);have e1:=eq_false (show¬(q:Int)=1 by omega);have e6:=eq_false (show¬(q:Int)=6 by omega);have e7:=eq_true (show(q:Int)=7 by omega);refine Zu ?_;refine Ev _ [] ⟨rfl,⟨0,0,5,0,[],0,0,[],[],[],[],0,[],0,0,0,0,0,[87,114,111,110,103,46],[],0,0,0⟩,⟨oS,oS,oS,oS,oS,oS,oS,oS⟩,rfl⟩ (hent (Gw.refl _) ?_);simp only[nums,Axv];exact O8
 ·have e0:=eq_false (show¬(q:Int)=0 by omega);have e1:=eq_false (show¬(q:Int)=1 by omega);have e6:=eq_false (show¬(q:Int)=6 by omega);have e7:=eq_false (show¬(q:Int)=7 by omega);have e8:=eq_true (show(q:Int)=8 by omega);refine Zu ?_;refine Ev _ [] ⟨rfl,⟨0,0,6,0,[],0,0,[],[],[],[],0,[],0,0,0,0,0,[],[],0,0,0⟩,⟨oS,oS,oS,oS,oS,oS,oS,oS⟩,rfl⟩ (hent (Gw.refl _) ?_);simp only[nums,Axv];exact O8
 ·have e0:=eq_false (show¬(q:Int)=0 by omega);have e1:=eq_false (show¬(q:Int)=1 by omega);have e6:=eq_false (show¬(q:Int)=6 by omega);have e7:=eq_false (show¬(q:Int)=7 by omega);have e8:=eq_false (show¬(q:Int)=8 by omega);have e9:=eq_true (show(q:Int)=9 by omega);refine Z7 e0 e1 e6 e7 e8 e9 hwi ?_;refine(E1 d hd 7 om om).mono ?_;rintro r rfl;simp only[num];have hkq1:=Ee d (n:=7) om;generalize pickF d 7=q1 at hkq1⊢;obtain⟨nm,hnm,_⟩:=drop_at (show q1<([[102,114,111,110,116],[115,116,111,114,121],[116,111,112,105,99],[97,117,116,104,111,114],[102,101,101,100],[109,97,112],[102,111,111,116]]:List Ac).length from hkq1);have hgnm:([.raw (.string ⟨#[102,114,111,110,116]⟩),.raw (.string ⟨#[115,116,111,114,121]⟩),.raw (.string ⟨#[116,111,112,105,99]⟩),.raw (.string ⟨#[97,117,116,104,111,114]⟩),.raw (.string ⟨#[102,101,101,100]⟩),.raw (.string ⟨#[109,97,112]⟩),.raw (.string ⟨#[102,111,111,116]⟩)]:List AV).getD q1 .any=.raw (.string ⟨nm.toArray⟩):=B8 hnm;have hlnm:nm.length≤100:=(by decide:∀y∈([[102,114,111,110,116],[115,116,111,114,121],[116,111,112,105,99],[97,117,116,104,111,114],[102,101,101,100],[109,97,112],[102,111,111,116]]:List Ac),y.length≤100) _ (Axt hnm);refine Zu ?_;refine(E1 e he 7 om om).mono ?_;rintro r rfl;simp only[num];have hkq2:=Ee e (n:=7) om;generalize pickF e 7=q2 at hkq2⊢;obtain⟨sc,hsc,_⟩:=drop_at (show q2<([[123,116,105,116,108,101,125,58,32,123,116,101,120,116,125],[123,102,111,114,32,108,97,116,101,115,116,32,34,114,97,105,110,34,32,51,125,123,116,105,116,108,101,125,123,101,110,100,125],[123,102,111,114,32,108,97,116,101,115,116,32,50,125,123,116,105,116,108,101,125,44,123,101,110,100,125,123,105,110,99,108,117,100,101,32,102,111,111,116,125],[123,105,102,32,114,101,116,114,97,99,116,101,100,125,120,123,101,108,115,101,125,123,97,117,116,104,111,114,125,123,101,110,100,125],[101,110,100],[123,102,111,114,32,114,101,108,97,116,101,100,32,50,125,123,116,105,116,108,101,124,117,112,112,101,114,125,123,101,110,100,125],[123,111,111,112,115]]:List Ac).length from hkq2);have hgsc:([.raw (.string ⟨#[123,116,105,116,108,101,125,58,32,123,116,101,120,116,125]⟩),.raw (.string ⟨#[123,102,111,114,32,108,97,116,101,115,116,32,34,114,97,105,110,34,32,51,125,123,116,105,116,108,101,125,123,101,110,100,125]⟩),.raw (.string ⟨#[123,102,111,114,32,108,97,116,101,115,116,32,50,125,123,116,105,116,108,101,125,44,123,101,110,100,125,123,105,110,99,108,117,100,101,32,102,111,111,116,125]⟩),.raw (.string ⟨#[123,105,102,32,114,101,116,114,97,99,116,101,100,125,120,123,101,108,115,101,125,123,97,117,116,104,111,114,125,123,101,110,100,125]⟩),.raw (.string ⟨#[101,110,100]⟩),.raw (.string ⟨#[123,102,111,114,32,114,101,108,97,116,101,100,32,50,125,123,116,105,116,108,101,124,117,112,112,101,114,125,123,101,110,100,125]⟩),.raw (.string ⟨#[123,111,111,112,115]⟩)]:List AV).getD q2 .any=.raw (.string ⟨sc.toArray⟩):=B8 hsc
  have hlsc:sc.length≤100:=(by decide:∀y∈([[123,116,105,116,108,101,125,58,32,123,116,101,120,116,125],[123,102,111,114,32,108,97,116,101,115,116,32,34,114,97,105,110,34,32,51,125,123,116,105,116,108,101,125,123,101,110,100,125],[123,102,111,114,32,108,97,116,101,115,116,32,50,125,123,116,105,116,108,101,125,44,123,101,110,100,125,123,105,110,99,108,117,100,101,32,102,111,111,116,125],[123,105,102,32,114,101,116,114,97,99,116,101,100,125,120,123,101,108,115,101,125,123,97,117,116,104,111,114,125,123,101,110,100,125],[101,110,100],[123,102,111,114,32,114,101,108,97,116,101,100,32,50,125,123,116,105,116,108,101,124,117,112,112,101,114,125,123,101,110,100,125],[123,111,111,112,115]]:List Ac),y.length≤100) _ (Axt hsc);refine Zu ?_;refine⟨Mm ⟨((i+1:Nat):Int),0,7,0,[],0,0,[],[],[],[],0,[],0,0,0,0,0,sc,nm,0,0,0⟩,_,W1.agg ?_,rfl,Gw.refl _,rfl,_,rfl,⟨oS,oS,oS,oS,oS,oS,oS,by show sc.length≤1000;omega⟩,⟨oS,oS⟩⟩;simp only[num,str,nums,Axv];exact Df
 ·have e0:=eq_false (show¬(q:Int)=0 by omega);have e1:=eq_false (show¬(q:Int)=1 by omega);have e6:=eq_false (show¬(q:Int)=6 by omega);have e7:=eq_false (show¬(q:Int)=7 by omega);have e8:=eq_false (show¬(q:Int)=8 by omega);have e9:=eq_false (show¬(q:Int)=9 by omega);refine Z7 e0 e1 e6 e7 e8 e9 hwi ?_;refine HC.old (qC i hi a b c d e ha hb hc hd he) ?_;rintro r ⟨f,rfl,hf,hf0⟩;simp only[Mm,num,str];refine Z7 e0 e1 e6 e7 e8 e9 hwi ?_;refine Ev _ [] ⟨rfl,f,hf,rfl⟩ (hent (Gw.refl _) ?_);simp only[nums,Axv];exact O8
end
section
open Go.RowKit Go.Proofs
theorem tH {l:List A2} {j:Nat} {x:A2} (h:l[j]? =some x):(l.map Dx).getD j .any=.agg [.raw (.int .i64 x.id),.raw (.string ⟨x.au.toArray⟩),.sl 1 (x.tp.map str),.sl 5 x.ed,.raw (.int .i64 x.pu),.sl 5 x.co,.raw (.bool x.re),.raw (.bool x.tk)]:=by simp [h,Dx,Q4,num,str,Ai]
theorem Asz {l:List (Ac×Ac)} {j:Nat} {x:Ac×Ac} (h:l[j]? =some x):(l.map Be).getD j .any=.agg [.raw (.string ⟨x.1.toArray⟩),.raw (.string ⟨x.2.toArray⟩)]:=by simp [h,Be,str]
theorem Aal {T O:List (Ac×Ac)} {t x:Ac×Ac} {j:Nat} (hx:T[j]? =some x) (hO:∀y∈O,y∈T∨y=t):∀y,y∈O∨y=t∨y=x→y∈T∨y=t:=fun y hy=>by
 rcases hy with h|h|h
 ·exact hO y h
 ·exact .inr h
 ·rw [h];exact .inl (Axt hx)
theorem As0 (T:List (Ac×Ac)) (t:Ac×Ac) (hl:T.length≤100000):Ab Tryz.prog 39 [.sl 2 (T.map Be),Be t] (fun r=>∃T':List (Ac×Ac),r=.own 97 2 (T'.map Be)∧T'.length≤T.length+1∧∀x∈T',x∈T∨x=t):=by
 obtain⟨tn,tt⟩:=t;simp only[Be];refine HC.plain (N7 [] [] [(6,[],[0,1,2,3,4,5,6,8,2007,2009,10,11],[],[]),(9,[],[0,1,2,3,5,2004,2006,7],[],[])] Tryz.func39 ?_) ⟨_,[],rfl,oS,oS⟩;simp only[go_sem];refine Ax (rl [8,44]) [5,6,7] (fun m xs γ=>γ=[]∧∃(j:Nat) (p:Bool) (O:List (Ac×Ac)),j+m=T.length∧O.length≤j+(if p then 1 else 0)∧(∀x∈O,x∈T∨x=(tn,tt))∧xs=[.own 97 2 (O.map Be),Ai p,num j]) ⟨T.length,_,_,⟨rfl,0,false,[],om,oS,oS,rfl⟩,hent (Gw.refl _) ?_⟩ ?_
 ·simp only[PU];simp only[Ai];exact Zw
 ·rintro m xs γ ⟨rfl,j,p,O,hm,hO,hOm,rfl⟩;simp only[PU];simp only[Ai];rcases Axz j T.length with hlt|hge
  ·have ej:=eT j T.length;obtain⟨x,hx,hd⟩:=drop_at hlt;have hgx:=Asz hx;have hw:=wS j;have hs1:O.map Be++[.agg [.raw (.string ⟨tn.toArray⟩),.raw (.string ⟨tt.toArray⟩)]]=(O++[(tn,tt)]).map Be:=by simp [Be,str]
   have hs2:O.map Be++[.agg [.raw (.string ⟨x.1.toArray⟩),.raw (.string ⟨x.2.toArray⟩)]]=(O++[x]).map Be:=by simp [Be,str]
   have hs3:(O++[(tn,tt)]).map Be++[.agg [.raw (.string ⟨x.1.toArray⟩),.raw (.string ⟨x.2.toArray⟩)]]=(O++[(tn,tt)]++[x]).map Be:=by simp [Be,str]
   have hOl:O.length≤T.length+1:=by split at hO<;>omega
   cases p
   ·cases hB:Op.bytesLess x.1 tn
    ·cases hE:(x.1==tn)
     ·have hN:(x.1 != tn)=true:=by simp [bne,hE]
      simp only[go_sem,ej,hgx,hw,hB,hE,hN,Axp,nums_length];refine Zu ?_;exact Zm (m-1) ⟨rfl,j+1,true,O++[(tn,tt)]++[x],om,by simp at hO⊢;omega,fun y hy=>Aal hx hOm y (by(try simp at hy);first|exact hy|exact .inl hy|(rcases hy with h|h;exact .inl h;exact .inr (.inl h))|(rcases hy with h|h;exact .inl h;exact .inr (.inr h))),rfl⟩;done
     ·have hN:(x.1 != tn)=false:=by simp [bne,hE]
      simp only[go_sem,ej,hgx,hw,hB,hE,hN,Axp,nums_length];refine Zu ?_;exact Zm (m-1) ⟨rfl,j+1,true,O++[(tn,tt)],om,by simp at hO⊢;omega,fun y hy=>Aal hx hOm y (by(try simp at hy);first|exact hy|exact .inl hy|(rcases hy with h|h;exact .inl h;exact .inr (.inl h))|(rcases hy with h|h;exact .inl h;exact .inr (.inr h))),rfl⟩;done
    ·cases hE:(x.1==tn)
     ·have hN:(x.1 != tn)=true:=by simp [bne,hE]
      simp only[go_sem,ej,hgx,hw,hB,hE,hN,Axp,nums_length];refine Zu ?_;exact Zm (m-1) ⟨rfl,j+1,false,O++[x],om,by simp at hO⊢;omega,fun y hy=>Aal hx hOm y (by(try simp at hy);first|exact hy|exact .inl hy|(rcases hy with h|h;exact .inl h;exact .inr (.inl h))|(rcases hy with h|h;exact .inl h;exact .inr (.inr h))),rfl⟩;done
     ·have hN:(x.1 != tn)=false:=by simp [bne,hE]
      simp only[go_sem,ej,hgx,hw,hB,hE,hN,Axp,nums_length];refine Zu ?_;exact Zm (m-1) ⟨rfl,j+1,false,O,om,by simp at hO⊢;omega,fun y hy=>Aal hx hOm y (by(try simp at hy);first|exact hy|exact .inl hy|(rcases hy with h|h;exact .inl h;exact .inr (.inl h))|(rcases hy with h|h;exact .inl h;exact .inr (.inr h))),rfl⟩;done
   ·cases hB:Op.bytesLess x.1 tn
    ·exact AsQ
    ·exact AsQ
  have ej:=eU j T.length;have hOl:O.length≤T.length+1:=by split at hO<;>omega
  have hsn:O.map Be++[.agg [.raw (.string ⟨tn.toArray⟩),.raw (.string ⟨tt.toArray⟩)]]=(O++[(tn,tt)]).map Be:=by simp [Be,str]
  cases p
  ·simp only[go_sem,ej,Axp,nums_length];refine Zu ?_
   exact⟨_,_,W1.refl _,rfl,Gw.refl _,rfl,O++[(tn,tt)],rfl,by simp at hO⊢;omega,fun x hx=>by
    rcases Ax5.1 hx with hx|hx
    ·exact hOm x hx
    ·exact .inr (Ax6.1 hx)⟩
  simp only[go_sem,ej,Axp,nums_length];refine Zu ?_;exact⟨_,_,W1.refl _,rfl,Gw.refl _,rfl,O,rfl,om,hOm⟩
end
section
open Go.RowKit Go.Proofs
def soR (l:List Ac) (s:Ac) (r:AV):Prop:=∃l':List Ac,(r=.sl 1 (l'.map str)∨r=.own 9 1 (l'.map str))∧l'.length≤l.length+1∧∀x∈l',x∈l∨x=s
theorem Ah3 (l:List Ac) (s:Ac) (hl:l.length≤100000):Ab Tryz.prog 66 [.sl 1 (l.map str),str s] (soR l s):=by
 refine HC.plain (N7 [] [7] [] Tryz.func66 ?_) ⟨_,[],.inl rfl,oS,oS⟩;simp only[go_sem];refine Ax (rl [6,41]) [5] (fun m xs γ=>γ=[]∧∃j:Nat,j+m=l.length∧xs=[num j]) ⟨l.length,_,_,⟨rfl,0,om,rfl⟩,hent (Gw.refl _) ?_⟩ ?_
 ·exact Zw
 ·rintro m xs γ ⟨rfl,j,hm,rfl⟩;simp only[PU];rcases Axz j l.length with hlt|hge
  ·have ej:=eT j l.length;obtain⟨x,hx,hd⟩:=drop_at hlt;have hgx:=B8 hx;have hw:=wS j;have hnl:(l.map str).length=l.length:=Axp _;cases hB:Op.bytesLess x s;rotate_left
   ·simp only[go_sem,ej,hgx,hw,hB,Axp,nums_length];refine Z4 ej hgx hw hB ?_;exact qJ
   cases hE:(x==s);rotate_left
   ·simp only[go_sem,ej,hgx,hw,hB,hE,Axp,nums_length];refine Z5 ej hgx hw hB hE ?_;exact⟨_,_,W1.refl _,rfl,Gw.refl _,rfl,l,.inl rfl,om,fun x hx=>.inl hx⟩
   simp only[go_sem,ej,hgx,hw,hB,hE,Axp,nums_length];refine Z5 ej hgx hw hB hE ?_;have hjl:j≤l.length:=om;have hdl:(List.take (l.length-j) (List.drop j (l.map str)))=(l.drop j).map str:=by rw[←AyJ];exact Axw oS
   have htk:List.take j (l.map str)=(l.take j).map str:=by rw[AyK]
   have htl:(l.take j).length=j:=by simp;omega
   have hnl2:((l.drop j).map str).length=l.length-j:=oS;have hnl3:((l.take j).map str).length=j:=by simp;omega
   have gj:=eq_true (show(j:Int)≤(l.length:Int) by omega);rw[hdl];refine Z2 gj hnl2 ?_;refine H5 (cs1:= ?c1a) (cs2:= ?c2a) Bo Dv 1 ?e1a ?e2a ?h1a
   case e1a=>rfl
   case e2a=>rfl
   exact AsT
  have ej:=eU j l.length;simp only[go_sem,ej,Axp,nums_length];refine Zu ?_;have hjl:j≤l.length:=om;have hdl:(List.take (l.length-j) (List.drop j (l.map str)))=(l.drop j).map str:=by rw[←AyJ];exact Axw oS
  have htk:List.take j (l.map str)=(l.take j).map str:=by rw[AyK]
  have htl:(l.take j).length=j:=by simp;omega
  have hnl2:((l.drop j).map str).length=l.length-j:=oS;have hnl3:((l.take j).map str).length=j:=by simp;omega
  have gj:=eq_true (show(j:Int)≤(l.length:Int) by omega);rw[hdl];refine Z2 gj hnl2 ?_;refine H5 (cs1:= ?c1) (cs2:= ?c2) Bo Dv 1 ?e1 ?e2 ?h1
  case e1=>rfl
  case e2=>rfl
  exact AsT
end
section
open Go.RowKit Go.Proofs
theorem As1 {l:List Crr} {j:Nat} {x:Crr} (h:l[j]? =some x):(l.map qA).getD j .any=.agg [.raw (.string ⟨x.lg.toArray⟩),.raw (.int .i64 x.bk),.raw (.int .i64 x.se),.raw (.string ⟨x.tx.toArray⟩),.raw (.int .i64 x.n)]:=by simp [h,qA,num,str]
theorem Aw5 (l:List Fc) (now:List Bk) (f:Fc) (hl:l.length≤100000) (hk:∀x∈l,Kl x) (hf:Kl f) (hn:now.length≤100000) (hnk:∀b∈now,Ii b):Ab Tryz.prog 97 [.sl 23 (l.map Mm),.sl 9 (now.map Dl),Mm f] (fun r=>∃l':List Bk,r=.sl 9 (l'.map Dl)∧l'.length≤now.length+f.bl.length∧∀x∈l',x∈now∨x∈f.bl):=
 (qB l now f hl hk hf hn hnk).wkr fun r ⟨l',h,h1,h2⟩=>by exact AmE
def BkB (M:Nat) (l:List Bk):Prop:=∀b∈l,b.tx.length≤M∧b.af.length≤1000
def bE (la:Ac) (rv:Int) (ti:Ac) (x:AV) (ch:Int):AV:=.box 67 [str la,num rv,str ti,x,num ch]
theorem Ab.freezeAtE {P:Program} {f:Nat} {args:List AV} {e k:Nat} {ι:Type} {es ps ys:ι→List AV} {B:ι→Prop} (h:Ab P f args (fun r=>∃i,r=.agg (ps i++ .mine e k (es i)::ys i)∧B i)):Ab P f args (fun r=>∃i,r=.agg (ps i++ .own e k (es i)::ys i)∧B i):=by
 obtain⟨hf,⟨_,i0,_,q0⟩,h3⟩:=h;refine⟨hf,⟨_,i0,rfl,q0⟩,fun w S vs c hz hv hc=>(h3 w S vs c hz hv hc).mono fun e' w' ⟨v,r,S',c',he,hR,hp,hr,h4,h5,h6⟩=> ?_⟩;obtain⟨i,rfl,hq⟩:=hR;revert hr;generalize hes:es i=ez;intro hr
 cases hr with
 |agg h1 ho hn hcc=>
  rename_i vs1 c1 c2;obtain⟨us1,us2,p1,p2,rfl,hps,h1,hpp⟩:=h1.unapp;obtain⟨u,us,e1,e2,rfl,hm,hys,hde⟩:=h1.uncons
  cases hm with
  |mineE hn1=>exact⟨_,_,S',c',he,⟨i,by rw[hes],hq⟩,rfl,.agg (Aa.app hps (Aa.cons (.ownE hn1) hys hde) hpp) ho hn hcc,h4,h5,h6⟩
  |mine hn1 hcap hk hb hs' hS hx1 h0 hoc hnil hcc1=>
   rename_i b cap cur c0 c3 _;obtain⟨_,hz2⟩:=hnil.zero;have hcb:0<e1 b:=by rw[hcc1];simp;omega
   have hone:=h4 b;have hcb':c' b=1∧e1 b=1∧e2 b=0∧c2 b=0∧p1 b=0:=by have:=hcc b;have:=hde b;have:=hpp b;omega
   have hle:∀x,S' x≤upd S' b (ez.length*k) x:=by
    intro x;unfold upd;split
    ·exact AaQ
    ·exact F6
   have hkeep:∀{xs vs c1},Aa w' S' xs vs c1→c1 b=0→Aa w' (upd S' b (ez.length*k)) xs vs c1:=fun h hb0=>
    h.keep (fun _ _ _=>rfl) hle (fun x hx=>⟨rfl,by unfold upd;rw[if_neg];intro hxb;subst hxb;omega⟩)
   have hown:Aa w' (upd S' b (ez.length*k)) [.own e k ez] [.slice (some ⟨b,0,none⟩) ez.length cap] e1:=
    .own hn1 hcap hk hb hs' (by simp [upd]) (hkeep hx1 (h0 b)) h0 hoc (.nil hz2) hcc1
   have hagg:Aa w' (upd S' b (ez.length*k)) [.agg ((ps i)++ .own e k ez::(ys i))] [.agg (us1++ .slice (some ⟨b,0,none⟩) ez.length cap::us).toArray] c':=
    .agg (Aa.app (hkeep hps hcb'.2.2.2.2) (Aa.cons hown (hkeep hys hcb'.2.2.1) hde) hpp) ho (hkeep hn hcb'.2.2.2.1) hcc
   refine⟨_,_,_,c',he,⟨i,by rw[hes],hq⟩,rfl,hagg,h4,⟨fun x hx=> ?_,h5.g.upd0 hS _⟩,⟨h6.os,h6.tape,h6.output,h6.size,fun x hx hx0=>⟨(h6.keep x hx hx0).1,?_⟩,h6.cell,fun x=>Ax1 (h6.le x) (hle x),h6.own⟩⟩
   ·unfold upd;rw[if_neg]
    ·exact h5 x hx
    ·exact AaF
   ·unfold upd;rw[if_neg]
    ·exact (h6.keep x hx hx0).2
    ·intro hxb;subst hxb;have:=h6.own x hx;omega
structure EdI where
 rv:Int
 ti:Ac
 bs:List Bk
 ch:Int
def EdB (i:EdI):Prop:=i.ti.length≤1000∧i.bs.length≤10000∧∀b∈i.bs,b.tx.length≤200000
theorem Aam (l:List Fc) (la:Ac) (cs:List Crr) (hl:l.length≤100) (hk:∀x∈l,Kl x) (hla:la.length≤100) (hc:cs.length≤100) (hck:∀x∈cs,x.tx.length≤1000):Ab Tryz.prog 67 [.sl 23 (l.map Mm),str la,.sl 5 (cs.map qA)] (fun r=>∃i:EdI,r=.agg ([str la,num i.rv,str i.ti]++ .mine 179 9 (i.bs.map Dl)::[num i.ch])∧EdB i):=by
 refine HC.plain (N7 [(11,[],[8]),(13,[],[8])] [] [(20,[],[0,2,3,4,2001,2005],[],[3006,7,3008])] Tryz.func67 ?_) ⟨_,⟨0,[],[],0⟩,rfl,oS,oS,oS⟩;simp only[go_sem];refine Ax (rl [10,86]) [7,8,9] (fun m xs γ=>γ=[]∧∃(j:Nat) (rv:Int) (ti:Ac) (bs:List Bk) (ch:Int) (re:List Fc),j+m=l.length∧ti.length≤1000∧bs.length≤100*j∧BkB 1000 bs∧re.length≤j∧(∀x∈re,Kl x)∧xs=[bE la rv ti (.sl 9 (bs.map Dl)) ch,.own 89 23 (re.map Mm),num j]) ⟨l.length,_,_,⟨rfl,0,0,[],[],0,[],om,oS,oS,by simp [BkB],oS,oS,rfl⟩,hent (Gw.refl _) ?_⟩ ?_
 ·simp only[PU];simp only[bE,num,str];exact AmP
 ·rintro m xs γ ⟨rfl,j,rv,ti,bs,ch,re,hm,hti,hbs,hbb,hre,hrk,rfl⟩;simp only[PU];simp only[bE,num,str];rcases Axz j l.length with hlt|hge
  ·have ej:=eT j l.length;obtain⟨x,hx,hd⟩:=drop_at hlt;have hgx:=W9 hx;have hw:=wS j;have hxo:=hk x (Axt hx);have hbo:∀b∈bs,Ii b:=fun b hb=>⟨by have:=(hbb b hb).1;omega,by have:=(hbb b hb).2;omega⟩;have hR:=Aw5 re bs x om hrk hxo om hbo;simp only[Mm,num,str]at hR;have hsn:re.map Mm++[.agg [.raw (.int .i64 x.n),.raw (.int .i64 x.tm),.raw (.int .i64 x.kd),.raw (.int .i64 x.st),.raw (.string ⟨x.lg.toArray⟩),.raw (.int .i64 x.rv),.raw (.int .i64 x.bs),.raw (.string ⟨x.ti.toArray⟩),.raw (.string ⟨x.au.toArray⟩),.sl 1 (x.tp.map str),.sl 9 (x.bl.map Dl),.raw (.int .i64 x.un),.sl 1 (nums x.af),.raw (.int .i64 x.ap),.raw (.int .i64 x.de),.raw (.int .i64 x.ed),.raw (.int .i64 x.bk),.raw (.int .i64 x.se),.raw (.string ⟨x.tx.toArray⟩),.raw (.string ⟨x.nm.toArray⟩),.raw (.int .i64 x.pa),.raw (.int .i64 x.cl),.raw (.int .i64 x.ul)]]=(re++[x]).map Mm:=by simp [Mm,num,str]
   have hrx:∀y∈re++[x],Kl y:=fun y hy=>by
    rcases Ax5.1 hy with hy|hy
    ·exact hrk y hy
    ·rw [Ax6.1 hy];exact hxo
   have hbx:∀l2:List Bk,(∀y∈l2,y∈bs∨y∈x.bl)→BkB 1000 l2:=fun l2 h b hb=>by
    rcases h b hb with h|h
    ·exact hbb b h
    ·exact hxo.bk b h
   have hxl:=hxo.bl;have hxt:=hxo.ti;simp only[go_sem,ej,hgx,hw,Axp,nums_length];repeat' first|refine Aj.on (fun _=>?_) (fun _=>?_)|with_reducible refine gd ?_|simp only[go_sem,ej,hgx,hw,Axp,nums_length]
   all_goals first
    |(refine Au (m-1) _ _ om ⟨rfl,j+1,rv,ti,bs,ch,re,om,hti,om,hbb,om,hrk,rfl⟩ (hent (Gw.refl _) ?_)
      simp only[PU];try simp only[bE,num,str]
      repeat first|exact Wk.nil|refine Ep ?_ ?_|refine A1 ?_|refine A6 ?_|refine Wk.same ?_|refine B7 ?_
      done)
    |(refine Au (m-1) _ _ om ⟨rfl,j+1,rv,ti,bs,x.n,re,om,hti,om,hbb,om,hrk,rfl⟩ (hent (Gw.refl _) ?_)
      simp only[PU];try simp only[bE,num,str]
      repeat first|exact Wk.nil|refine Ep ?_ ?_|refine A1 ?_|refine A6 ?_|refine Wk.same ?_|refine B7 ?_
      done)
    |(refine hR.mono ?_
      rintro r ⟨l2,rfl,hl2,hm2⟩;simp only[go_sem,ej,hgx,hw,hsn,Axp,nums_length];refine Zu ?_
      first
       |(refine Au (m-1) _ _ om ⟨rfl,j+1,rv,x.ti,l2,x.n,re++[x],om,hxt,om,hbx l2 hm2,by simp;omega,hrx,rfl⟩ (hent (Gw.refl _) ?_)
         simp only[PU];try simp only[bE,num,str]
         repeat first|exact Wk.nil|refine Ep ?_ ?_|refine A1 ?_|refine A6 ?_|refine Wk.same ?_|refine B7 ?_
         done)
       |(refine Au (m-1) _ _ om ⟨rfl,j+1,x.rv,x.ti,l2,x.n,re++[x],om,hxt,om,hbx l2 hm2,by simp;omega,hrx,rfl⟩ (hent (Gw.refl _) ?_)
         simp only[PU];try simp only[bE,num,str]
         repeat first|exact Wk.nil|refine Ep ?_ ?_|refine A1 ?_|refine A6 ?_|refine Wk.same ?_|refine B7 ?_
         done))
  have ej:=eU j l.length;simp only[go_sem,ej,Axp,nums_length];refine Zu ?_;have hbo:∀b∈bs,Ii b:=fun b hb=>⟨by have:=(hbb b hb).1;omega,by have:=(hbb b hb).2;omega⟩;refine HC.old (Aak bs om hbo) ?_;rintro r rfl;simp only[go_sem,ej,Axp,nums_length];refine Zu ?_;refine Ax (rl [8,3,1,84]) [7,11] (fun m2 xs γ=>γ=[]∧∃(i:Nat) (b2:List Bk),i+m2=cs.length∧b2.length≤10000∧(∀b∈b2,b.tx.length≤1000+1001*i)∧xs=[bE la rv ti (.mine 179 9 (b2.map Dl)) ch,num i]) ⟨cs.length,_,_,⟨rfl,0,bs,om,om,fun b hb=>by have:=(hbb b hb).1;omega,rfl⟩,hent (Gw.refl _) ?_⟩ ?_
  ·simp only[PU];try simp only[bE,num,str]
   exact AmP
  ·rintro m2 xs γ ⟨rfl,i,b2,hm2,hb2,hbt,rfl⟩;simp only[PU];try simp only[bE,num,str]
   rcases Axz i cs.length with hlt2|hge2
   ·have ei:=eT i cs.length;obtain⟨c,hcx,hdc⟩:=drop_at hlt2;have hgc:=As1 hcx;have hwi:=wS i;have hct:=hck c (Axt hcx);cases hE:(c.lg==la)
    ·simp only[go_sem,ei,hgc,hwi,hE,Axp,nums_length];refine Zu ?_;refine Au (m2-1) _ _ om ⟨rfl,i+1,b2,om,hb2,fun b hb=>by have:=hbt b hb;omega,rfl⟩ (hent (Gw.refl _) ?_);exact Amy
    simp only[go_sem,ei,hgc,hwi,hE,Axp,nums_length];refine Zu ?_;have hC:=aY b2 c (1000+1001*i) om om hbt om;simp only[qA,num,str]at hC;refine HC.old hC ?_;rintro r ⟨l3,rfl,hl3⟩
    have hln:l3.length≤10000∧∀b∈l3,b.tx.length≤1000+1001*(i+1):=by
     rcases hl3 with rfl|⟨q,y,t,hq,ht,rfl⟩
     ·exact ⟨hb2,fun b hb=>by have:=hbt b hb;omega⟩
     ·refine ⟨by simpa using hb2,fun b hb=> ?_⟩;rcases List.mem_or_eq_of_mem_set hb with hb|rfl
      ·have:=hbt b hb;omega
      ·show t.length≤_;omega
    simp only[go_sem,ei,hgc,hwi,hE,Axp,nums_length];refine Zu ?_;refine Au (m2-1) _ _ om ⟨rfl,i+1,l3,om,hln.1,hln.2,rfl⟩ (hent (Gw.refl _) ?_);exact Amy
   have ei:=eU i cs.length;simp only[go_sem,ei,Axp,nums_length];refine Zu ?_;exact⟨_,_,W1.refl _,rfl,Gw.refl _,rfl,⟨rv,ti,b2,ch⟩,rfl,hti,hb2,fun b hb=>by have:=hbt b hb;show b.tx.length≤200000;omega⟩
theorem Ah4 (l:List Fc) (la:Ac) (cs:List Crr) (hl:l.length≤100) (hk:∀x∈l,Kl x) (hla:la.length≤100) (hc:cs.length≤100) (hck:∀x∈cs,x.tx.length≤1000):Ab Tryz.prog 67 [.sl 23 (l.map Mm),str la,.sl 5 (cs.map qA)] (fun r=>∃i:EdI,r=.agg [str la,num i.rv,str i.ti,.sl 9 (i.bs.map Dl),num i.ch]∧EdB i):=
 (Ab.freezeAtE (ps:=fun i:EdI=>[str la,num i.rv,str i.ti]) (es:=fun i:EdI=>i.bs.map Dl) (ys:=fun i:EdI=>[num i.ch]) (Aam l la cs hl hk hla hc hck)).wkr fun r ⟨i,h,hb⟩=>
  ⟨_,by rw[h];exact W1.agg (.same (.same (.same (Ba (.same .nil))))),rfl,i,rfl,hb⟩
end
section
open Go.RowKit Go.Proofs
theorem Avg (l:List Ac) (s:Ac) (hl:l.length≤100000):Ab Tryz.prog 66 [.sl 1 (l.map str),str s] (fun r=>∃l':List Ac,r=.sl 1 (l'.map str)∧l'.length≤l.length+1∧∀x∈l',x∈l∨x=s):=
 (Ah3 l s hl).wkr fun r ⟨l',h,h1,h2⟩=>by exact AmE
def edX (e:Ac×EdI):AV:=.agg [str e.1,num e.2.rv,str e.2.ti,.sl 9 (e.2.bs.map Dl),num e.2.ch]
structure StI where
 au:Ac
 tp:List Ac
 pu:Int
 co:List Crr
 re:Bool
 tk:Bool
structure Aw8 (i:StI):Prop where
 au:i.au.length≤1000
 tp:i.tp.length≤10
 tn:∀t∈i.tp,t.length≤1000
 ct:∀c∈i.co,c.tx.length≤1000
def tI (id:Int) (i:StI) (tp ed co:AV):AV:=.box 63 [num id,str i.au,tp,ed,num i.pu,co,Ai i.re,Ai i.tk]
structure StB (id:Int) (s:A2):Prop where
 id:s.id=id
 au:s.au.length≤1000
 tp:s.tp.length≤10
 tn:∀t∈s.tp,t.length≤1000
 ed:s.ed.length≤100
 ef:∀e∈s.ed,∃x:Ac×EdI,e=edX x∧x.1.length≤100∧EdB x.2
 co:s.co.length≤100
 cf:∀c∈s.co,∃x:Crr,c=qA x∧x.tx.length≤1000
theorem Amc (l:List Fc) (id:Int) (hl:l.length≤100) (hk:∀x∈l,Kl x):Ab Tryz.prog 38 [.sl 23 (l.map Mm),num id] (fun r=>∃s:A2,r=Dx s∧StB id s):=by
 refine HC.plain (N7 [] [17] [(34,[104,111,10007],[0,2,3,4,5,7,1001,1006,1008],[2009,2010],[3011,12,3013])] Tryz.func38 ?_) ⟨_,⟨id,[],[],[],0,[],false,false⟩,rfl,rfl,oS,oS,oS,oS,oS,oS,oS⟩;simp only[go_sem];refine Ax (rl [7,111]) [5,6] (fun m xs γ=>γ=[]∧∃(j:Nat) (ow:List Fc),j+m=l.length∧ow.length≤j∧(∀x∈ow,Kl x)∧xs=[.own 89 23 (ow.map Mm),num j]) ⟨l.length,_,_,⟨rfl,0,[],om,oS,oS,rfl⟩,hent (Gw.refl _) ?_⟩ ?_
 ·simp only[PU];repeat first|exact Wk.nil|refine Ep ?_ ?_|refine A1 ?_|refine A6 ?_|refine Ba ?_|refine Wk.same ?_|refine B7 ?_
 ·rintro m xs γ ⟨rfl,j,ow,hm,how,hok,rfl⟩;simp only[PU];rcases Axz j l.length with hlt|hge
  ·have ej:=eT j l.length;obtain⟨x,hx,hd⟩:=drop_at hlt;have hgx:=W9 hx;have hw:=wS j;have hxo:=hk x (Axt hx);have hsn:ow.map Mm++[.agg [.raw (.int .i64 x.n),.raw (.int .i64 x.tm),.raw (.int .i64 x.kd),.raw (.int .i64 x.st),.raw (.string ⟨x.lg.toArray⟩),.raw (.int .i64 x.rv),.raw (.int .i64 x.bs),.raw (.string ⟨x.ti.toArray⟩),.raw (.string ⟨x.au.toArray⟩),.sl 1 (x.tp.map str),.sl 9 (x.bl.map Dl),.raw (.int .i64 x.un),.sl 1 (nums x.af),.raw (.int .i64 x.ap),.raw (.int .i64 x.de),.raw (.int .i64 x.ed),.raw (.int .i64 x.bk),.raw (.int .i64 x.se),.raw (.string ⟨x.tx.toArray⟩),.raw (.string ⟨x.nm.toArray⟩),.raw (.int .i64 x.pa),.raw (.int .i64 x.cl),.raw (.int .i64 x.ul)]]=(ow++[x]).map Mm:=by simp [Mm,num,str]
   have hrx:∀y∈ow++[x],Kl y:=fun y hy=>by
    rcases Ax5.1 hy with hy|hy
    ·exact hok y hy
    ·rw [Ax6.1 hy];exact hxo
   simp only[go_sem,ej,hgx,hw,Axp,nums_length];repeat' first|refine Aj.on (fun _=>?_) (fun _=>?_)|with_reducible refine gd ?_|simp only[go_sem,ej,hgx,hw,hsn,Axp,nums_length]
   all_goals first
    |(refine Au (m-1) _ _ om ⟨rfl,j+1,ow++[x],om,by simp;omega,hrx,rfl⟩ (hent (Gw.refl _) ?_)
      simp only[PU];repeat first|exact Wk.nil|refine Ep ?_ ?_|refine A1 ?_|refine A6 ?_|refine Ba ?_|refine Wk.same ?_|refine B7 ?_
      done)
    |(refine Au (m-1) _ _ om ⟨rfl,j+1,ow,om,om,hok,rfl⟩ (hent (Gw.refl _) ?_)
      simp only[PU];repeat first|exact Wk.nil|refine Ep ?_ ?_|refine A1 ?_|refine A6 ?_|refine Ba ?_|refine Wk.same ?_|refine B7 ?_
      done)
  have ej:=eU j l.length;simp only[go_sem,ej,Axp,nums_length];refine Zu ?_;refine Ax (rl [6,1,4,107]) [5,7,8,9,10] (fun m2 xs γ=>γ=[]∧∃(i:Nat) (s:StI) (p:Bool) (lg:List Ac),i+m2=ow.length∧Aw8 s∧s.co.length≤i∧lg.length≤i∧(∀x∈lg,x.length≤100)∧xs=[.sl 23 (ow.map Mm),tI id s (.sl 1 (s.tp.map str)) .nil (.own 131 5 (s.co.map qA)),Ai p,.sl 1 (lg.map str),num i]) ⟨ow.length,_,_,⟨rfl,0,⟨[],[],0,[],false,false⟩,false,[],om,⟨oS,oS,oS,oS⟩,oS,oS,oS,rfl⟩,hent (Gw.refl _) ?_⟩ ?_
  ·simp only[PU];try simp only[tI,num,str,Ai]
   exact Zw
  ·rintro m2 xs γ ⟨rfl,i,s,p,lg,hm2,hs,hsc,hlg,hlb,rfl⟩;simp only[PU];try simp only[tI,num,str,Ai]
   rcases Axz i ow.length with hlt2|hge2
   ·have ei:=eT i ow.length;obtain⟨x,hx,hdx⟩:=drop_at hlt2;have hgx:=W9 hx;have hwi:=wS i;have hxo:=hok x (Axt hx);have hsn:s.co.map qA++[.agg [.raw (.string ⟨x.lg.toArray⟩),.raw (.int .i64 x.bk),.raw (.int .i64 x.se),.raw (.string ⟨x.tx.toArray⟩),.raw (.int .i64 x.n)]]=(s.co++[Crr.mk x.lg x.bk x.se x.tx x.n]).map qA:=by simp [qA,num,str]
    have hcn:∀c∈s.co++[Crr.mk x.lg x.bk x.se x.tx x.n],c.tx.length≤1000:=fun c hc=>by
     rcases Ax5.1 hc with hc|hc
     ·exact hs.ct c hc
     ·rw [Ax6.1 hc];exact hxo.tx
    have hlx:∀l3:List Ac,(∀y∈l3,y∈lg∨y=x.lg)→∀y∈l3,y.length≤100:=fun l3 h y hy=>by
     rcases h y hy with h|h
     ·exact hlb y h
     ·rw [h];exact hxo.lg
    have hxt:=hxo.tp;simp only[go_sem,ei,hgx,hwi,Axp,nums_length];repeat' first|refine Aj.on (fun _=>?_) (fun _=>?_)|with_reducible refine gd ?_|simp only[go_sem,ei,hgx,hwi,hsn,Axp,nums_length]
    all_goals first
     |(refine Au (m2-1) _ _ om ⟨rfl,i+1,s,p,lg,om,hs,om,om,hlb,rfl⟩ (hent (Gw.refl _) ?_)
       simp only[PU];try simp only[tI,num,str,Ai]
       repeat first|exact Wk.nil|refine Wk.same ?_|refine Ep ?_ ?_|refine A1 ?_|refine A6 ?_|refine Ba ?_|refine B7 ?_
       done)
     |(refine Au (m2-1) _ _ om ⟨rfl,i+1,{s with pu:=x.n},true,lg,om,⟨hs.au,hs.tp,hs.tn,hs.ct⟩,by show s.co.length≤_;omega,om,hlb,rfl⟩ (hent (Gw.refl _) ?_)
       simp only[PU];try simp only[tI,num,str,Ai]
       repeat first|exact Wk.nil|refine Wk.same ?_|refine Ep ?_ ?_|refine A1 ?_|refine A6 ?_|refine Ba ?_|refine B7 ?_
       done)
     |(refine Au (m2-1) _ _ om ⟨rfl,i+1,s,true,lg,om,hs,om,om,hlb,rfl⟩ (hent (Gw.refl _) ?_)
       simp only[PU];try simp only[tI,num,str,Ai]
       repeat first|exact Wk.nil|refine Wk.same ?_|refine Ep ?_ ?_|refine A1 ?_|refine A6 ?_|refine Ba ?_|refine B7 ?_
       done)
     |(refine Au (m2-1) _ _ om ⟨rfl,i+1,{s with co:=s.co++[Crr.mk x.lg x.bk x.se x.tx x.n]},p,lg,om,⟨hs.au,hs.tp,hs.tn,hcn⟩,by simp;omega,om,hlb,rfl⟩ (hent (Gw.refl _) ?_)
       simp only[PU];try simp only[tI,num,str,Ai]
       repeat first|exact Wk.nil|refine Wk.same ?_|refine Ep ?_ ?_|refine A1 ?_|refine A6 ?_|refine Ba ?_|refine B7 ?_
       done)
     |(refine Au (m2-1) _ _ om ⟨rfl,i+1,{s with re:=true},p,lg,om,⟨hs.au,hs.tp,hs.tn,hs.ct⟩,by show s.co.length≤_;omega,om,hlb,rfl⟩ (hent (Gw.refl _) ?_)
       simp only[PU];try simp only[tI,num,str,Ai]
       repeat first|exact Wk.nil|refine Wk.same ?_|refine Ep ?_ ?_|refine A1 ?_|refine A6 ?_|refine Ba ?_|refine B7 ?_
       done)
     |(refine Au (m2-1) _ _ om ⟨rfl,i+1,{s with tk:=true},p,lg,om,⟨hs.au,hs.tp,hs.tn,hs.ct⟩,by show s.co.length≤_;omega,om,hlb,rfl⟩ (hent (Gw.refl _) ?_)
       simp only[PU];try simp only[tI,num,str,Ai]
       repeat first|exact Wk.nil|refine Wk.same ?_|refine Ep ?_ ?_|refine A1 ?_|refine A6 ?_|refine Ba ?_|refine B7 ?_
       done)
     |(refine H5 (cs1:= ?c1) (cs2:= ?c2) Bo Dv 1 ?e1 ?e2 ?h1
       case e1=>rfl
       case e2=>rfl
       simp only[Ayp,Ayr,Ays];simp only[go_sem];refine Zu ?_;apply Ml
       ·exact qH
       simp only[go_sem,hgx,hwi,Axp,nums_length];refine Zu ?_;refine HC.old (Avg lg x.lg om) ?_;rintro r ⟨l3,rfl,hl3,hm3⟩;simp only[go_sem,hgx,hwi,Axp,nums_length];refine Zu ?_;refine Au (m2-1) _ _ om ⟨rfl,i+1,{s with au:=x.au,tp:=x.tp},p,l3,om,⟨hxo.au,hxo.tp,hxo.tn,hs.ct⟩,by show s.co.length≤_;omega,om,hlx l3 hm3,rfl⟩ (hent (Gw.refl _) ?_);simp only[PU];try simp only[tI,num,str,Ai]
       repeat first|exact Wk.nil|refine Wk.same ?_|refine Ep ?_ ?_|refine A1 ?_|refine A6 ?_|refine Ba ?_|refine B7 ?_
       done)
   have ei:=eU i ow.length;simp only[go_sem,ei,Axp,nums_length];repeat' first|refine Aj.on (fun _=>?_) (fun _=>?_)|with_reducible refine gd ?_|simp only[go_sem,ei,Axp,nums_length]
   ·exact ⟨Dx ⟨id,[],[],[],s.pu,[],false,true⟩,_,W1.agg (.same (.same (A1 (A1 (.same (A1 (.same (.same .nil)))))))),rfl,Gw.refl _,rfl,_,rfl,rfl,oS,oS,oS,oS,oS,oS,oS⟩
   refine Ax (rl [6,1,1,1,1,2,1,105]) [7,9,12] (fun m3 xs γ=>γ=[]∧∃(k:Nat) (es:List (Ac×EdI)),k+m3=lg.length∧es.length≤k∧(∀e∈es,e.1.length≤100∧EdB e.2)∧xs=[tI id s (.sl 1 (s.tp.map str)) (.own 67 5 (es.map edX)) (.sl 5 (s.co.map qA)),.sl 1 (lg.map str),num k]) ⟨lg.length,_,_,⟨rfl,0,[],om,oS,oS,rfl⟩,hent (Gw.refl _) ?_⟩ ?_
   ·simp only[PU];try simp only[tI,num,str,Ai]
    repeat first|exact Wk.nil|refine Wk.same ?_|refine Ep ?_ ?_|refine A1 ?_|refine A6 ?_|refine Ba ?_|refine B7 ?_
   ·rintro m3 xs γ ⟨rfl,k,es,hm3,hes,hee,rfl⟩;simp only[PU];try simp only[tI,num,str,Ai]
    rcases Axz k lg.length with hlt3|hge3
    ·have ek:=eT k lg.length;obtain⟨la,hla,hdl⟩:=drop_at hlt3;have hgl:=B8 hla;have hwk:=wS k;simp only[go_sem,ek,hgl,hwk,Axp,nums_length];refine Zu ?_;have hlal:=hlb la (Axt hla);refine HC.old (Ah4 ow la s.co om hok hlal om hs.ct) ?_;rintro r ⟨ei2,rfl,hei⟩;have hsn:es.map edX++[.agg [.raw (.string ⟨la.toArray⟩),.raw (.int .i64 ei2.rv),.raw (.string ⟨ei2.ti.toArray⟩),.sl 9 (ei2.bs.map Dl),.raw (.int .i64 ei2.ch)]]=(es++[(la,ei2)]).map edX:=by simp [edX,num,str]
     have hee2:∀e∈es++[(la,ei2)],e.1.length≤100∧EdB e.2:=fun e he=>by
      rcases Ax5.1 he with he|he
      ·exact hee e he
      ·rw [Ax6.1 he];exact⟨hlal,hei⟩
     simp only[num,str];simp only[go_sem,ek,hgl,hwk,Axp,nums_length];refine Zu ?_;refine Au (m3-1) _ _ om ⟨rfl,k+1,es++[(la,ei2)],om,by simp;omega,hee2,rfl⟩ (hent (Gw.refl _) ?_);simp only[PU];try simp only[tI,num,str,Ai]
     repeat first|exact Wk.nil|refine Wk.same ?_|refine Ep ?_ ?_|refine A1 ?_|refine A6 ?_|refine Ba ?_|refine B7 ?_
     done
    have ek:=eU k lg.length;simp only[go_sem,ek,Axp,nums_length];refine Z1 ek ?_
    exact⟨Dx ⟨id,s.au,s.tp,es.map edX,s.pu,s.co.map qA,s.re,s.tk⟩,_,W1.agg (.same (.same (.same (Ba (.same (.same (.same (.same .nil)))))))),rfl,Gw.refl _,rfl,_,rfl,rfl,hs.au,hs.tp,hs.tn,by show(es.map edX).length≤100;simp;omega,fun e he=>by
     obtain⟨y,hy,rfl⟩:=AxB.1 he;exact⟨y,rfl,hee y hy⟩,by show(s.co.map qA).length≤100;simp;omega,fun c hc=>by
     obtain⟨y,hy,rfl⟩:=AxB.1 hc;exact⟨y,rfl,hs.ct y hy⟩⟩
end
end Go.Proofs.YtmophjggmekoeaaGreatDoor
