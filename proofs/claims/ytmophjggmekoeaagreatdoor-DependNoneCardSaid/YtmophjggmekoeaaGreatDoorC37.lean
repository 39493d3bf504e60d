/- The reference of states, by form: all of it. -/
import Derived.Test.YtmophjggmekoeaaGreatDoorC36
set_option linter.all false
set_option maxRecDepth 100000
set_option maxHeartbeats 4000000
namespace Go.Proofs.YtmophjggmekoeaaGreatDoor
section
open Go.RowKit Go.Proofs
def z8:A2:=⟨0,[],[],[],0,[],false,false⟩
theorem Avh (L:List A2) (tm:List AV) (hl:L.length≤1000000) (id:Int):Ab Tryz.prog 37 [.agg [.sl 8 (L.map Dx),.sl 2 tm],num id] (fun r=>∃(s:A2) (b:Bool),r=.tup [Dx s,Ai b]):=by
 refine HC.plain (N7 [] [] [] Tryz.func37 ?_) ⟨_,z8,true,rfl⟩;simp only[go_sem];refine Ax (rl [7,21]) [6] (fun m xs γ=>γ=[]∧∃j:Nat,j+m=L.length∧xs=[num j]) ⟨L.length,_,_,⟨rfl,0,om,rfl⟩,hent (Gw.refl _) ?_⟩ ?_
 ·exact Zw
 ·rintro m xs γ ⟨rfl,j,hm,rfl⟩;simp only[PU];rcases Axz j L.length with hlt|hge
  ·have ej:=eT j L.length;obtain⟨x,hx,hd⟩:=drop_at hlt;have hgx:=tH hx;have hw:=wS j;by_cases hi:x.id=id
   ·have ei:=eq_true hi;simp only[go_sem,ej,ei,hgx,hw,Axp,nums_length];refine Z4 ej ei hgx hw ?_;exact⟨_,_,W1.refl _,rfl,Gw.refl _,rfl,x,true,rfl⟩
   have ei:=eq_false hi;simp only[go_sem,ej,ei,hgx,hw,Axp,nums_length];refine Z4 ej ei hgx hw ?_;exact qJ
  have ej:=eU j L.length;simp only[go_sem,ej,Axp,nums_length];refine Zu ?_;exact⟨.tup [Dx z8,Ai false],_,W1.tup (K1 (.same (.same (A1 (A1 (.same (A1 (.same (.same .nil)))))))) (.same .nil)),rfl,Gw.refl _,rfl,z8,false,rfl⟩
def stX (L:List A2) (T:List (Ac×Ac)):AV:=.box 27 [.sl 8 (L.map Dx),.sl 2 (T.map Be)]
structure tJ (n:Nat) (L:List A2) (T:List (Ac×Ac)):Prop where
 len:L.length≤n
 st:∀s∈L,StB s.id s∧Kg s.id
 tl:T.length≤n
 tt:∀t∈T,t.2.length≤1000
theorem Ao1 (l:List Fc) (hl:l.length≤100) (hk:∀x∈l,Kl x) (hi:∀x∈l,Kg x.st):Ab Tryz.prog 14 [.sl 23 (l.map Mm)] (fun r=>∃(L:List A2) (T:List (Ac×Ac)),r=.agg [.sl 8 (L.map Dx),.sl 2 (T.map Be)]∧tJ l.length L T):=by
 refine HC.plain (N7 [(1000012,[],[])] [13] [(10,[],[0,1,2002,3,4,5,6,8,12,2007,9,10,2011,2013,14,15],[],[]),(12,[60,10008,10003],[2,4,1000,1003,5],[2001],[3006,7])] Tryz.func14 ?_) ⟨_,[],[],rfl,oS,oS,oS,oS⟩;simp only[go_sem];refine Ax (rl [5,82]) [3,4] (fun m xs γ=>γ=[]∧∃(j:Nat) (L:List A2) (T:List (Ac×Ac)),j+m=l.length∧tJ j L T∧xs=[stX L T,num j]) ⟨l.length,_,_,⟨rfl,0,[],[],om,⟨oS,oS,oS,oS⟩,rfl⟩,hent (Gw.refl _) ?_⟩ ?_
 ·simp only[PU];try simp only[stX,num,str]
  exact Zw
 ·rintro m xs γ ⟨rfl,j,L,T,hm,hB,rfl⟩;simp only[PU];try simp only[stX,num,str]
  rcases Axz j l.length with hlt|hge
  ·have ej:=eT j l.length;obtain⟨x,hx,hd⟩:=drop_at hlt;have hgx:=W9 hx;have hw:=wS j;have hxo:=hk x (Axt hx);have hxi:=hi x (Axt hx);have hB1:=hB.len;have hB2:=hB.tl;simp only[go_sem,ej,hgx,hw,Axp,nums_length];refine Zu ?_;refine HC.old (Avh L (T.map Be) om x.st) ?_;rintro r ⟨s,b,rfl⟩;simp only[Dx,Q4,num,str,Ai];by_cases hA:x.kd=3∧b=false
   ·obtain ⟨h3,rfl⟩:=hA;have e3:=eq_true h3;have e7:=eN x.kd 7;simp only[go_sem,hgx,hw,e3,Axp,nums_length];refine Z3 hgx hw e3 ?_;refine HC.old (Amc l x.st hl hk) ?_;rintro r ⟨s2,rfl,hs2⟩;simp only[Dx,Q4,num,str,Ai];simp only[go_sem,hgx,hw,e3,Axp,nums_length];refine Z3 hgx hw e3 ?_;refine Jh (rl [6,2,2,77]) [9] (fun xs γ=>γ=[]∧∃a:Nat,a≤L.length∧xs=[num a]) ?_ ?_;rotate_left
    ·rintro xs γ ⟨rfl,a,hal,rfl⟩;simp only[PU];have hdl:(List.take (L.length-a) (List.drop a (L.map Dx)))=(L.drop a).map Dx:=by rw[←AyJ];exact Axw oS
     have htk:List.take a (L.map Dx)=(L.take a).map Dx:=by rw[AyK]
     have hnl2:((L.drop a).map Dx).length=L.length-a:=oS;have hnl3:((L.take a).map Dx).length=a:=by simp;omega
     have htl:(L.take a).length=a:=by simp;omega
     have gj:=eq_true (show(a:Int)≤(L.length:Int) by omega);refine Z3 gj hdl hnl2 ?_;refine H5 (cs1:= ?c1a) (cs2:= ?c2a) Bo Dv 1 ?e1a ?e2a ?h1a
     case e1a=>rfl
     case e2a=>rfl
     simp only[Ayp,Ayr,Ays];simp only[go_sem];refine Z0 ?_;apply Ml
     ·exact qH
     simp only[go_sem,gj,Axp,nums_length];repeat' first|refine Aj.on (fun _=>?_) (fun _=>?_)|with_reducible refine gd ?_|simp only[go_sem,gj,htk,hnl2,hnl3,htl,e7,hw,Axs,List.length_singleton,AxQ,Axr,Axp,nums_length]
     have hfin:(L.take a).map Dx++ .agg [.raw (.int .i64 s2.id),.raw (.string ⟨s2.au.toArray⟩),.sl 1 (s2.tp.map str),.sl 5 s2.ed,.raw (.int .i64 s2.pu),.sl 5 s2.co,.raw (.bool s2.re),.raw (.bool s2.tk)]::(L.drop a).map Dx=(L.take a++s2::L.drop a).map Dx:=by simp [Dx,Q4,num,str,Ai]
     have hB':tJ (j+1) (L.take a++s2::L.drop a) T:=⟨by simp;omega,fun y hy=>by
      rcases Ax5.1 hy with hy|hy
      ·exact hB.st y (AxK hy)
      ·rcases Ax2.1 hy with hy|hy
       ·rw [hy];have hid:=hs2.id;exact⟨⟨rfl,hs2.au,hs2.tp,hs2.tn,hs2.ed,hs2.ef,hs2.co,hs2.cf⟩,by rw[hid];exact hxi⟩
       ·exact hB.st y (AxL hy),om,hB.tt⟩
     try rw[hfin]
     refine Au (m-1) _ _ om ⟨rfl,j+1,_,T,om,hB',rfl⟩ (hent (Gw.refl _) ?_);simp only[PU];try simp only[stX,num,str]
     exact Zw;done
    refine Z3 hgx hw e3 ?_;refine Ax (rl [6,2,2,77]) [9] (fun m2 xs γ=>γ=[]∧∃a:Nat,a+m2=L.length∧xs=[num a]) ⟨L.length,_,_,⟨rfl,0,om,rfl⟩,hent (Gw.refl _) ?_⟩ ?_
    ·exact Zw
    ·rintro m2 xs γ ⟨rfl,a,hm2,rfl⟩;simp only[PU];rcases Axz a L.length with hlt2|hge2
     ·have ea:=eT a L.length;obtain⟨y,hy,hdy⟩:=drop_at hlt2;have hgy:=tH hy;have hwa:=wS a;by_cases hc:y.id<s2.id
      ·have ec:=eq_true hc;simp only[go_sem,ea,ec,hgy,hwa,Axp,nums_length];refine Zu ?_;exact Zm (m2-1) ⟨rfl,a+1,om,rfl⟩;done
      have ec:=eq_false hc;simp only[go_sem,ea,ec,hgy,hwa,Axp,nums_length];exact Anm
     have ea:=eU a L.length;simp only[go_sem,ea,Axp,nums_length];exact Anm
   by_cases h7:x.kd=7
   ·have e7:=eq_true h7;have e3:=eN x.kd 3;simp only[go_sem,hgx,hw,e3,e7,Axp,nums_length];refine Zu ?_;have hW:=As0 T (x.nm,x.tx) om;simp only[Be,str]at hW;refine HC.old hW ?_;rintro r ⟨T',rfl,hT1,hT2⟩;simp only[go_sem,hgx,hw,e3,e7,Axp,nums_length];refine Zu ?_
    have hB':tJ (j+1) L T':=⟨om,hB.st,om,fun t ht=>by
     rcases hT2 t ht with h|h
     ·exact hB.tt t h
     ·rw [h];exact hxo.tx⟩
    refine Au (m-1) _ _ om ⟨rfl,j+1,L,T',om,hB',rfl⟩ (hent (Gw.refl _) ?_);simp only[PU];try simp only[stX,num,str]
    exact Zw;done
   have e7:=eq_false h7;have hB':tJ (j+1) L T:=⟨om,hB.st,om,hB.tt⟩;by_cases h3:x.kd=3
   ·have e3:=eq_true h3;have hb:b=true:=by cases b with|true=>rfl|false=>exact absurd ⟨h3,rfl⟩ hA
    subst hb;exact Atn
   have e3:=eq_false h3;exact Atn
  have ej:=eU j l.length;simp only[go_sem,ej,Axp,nums_length];refine Zu ?_;exact⟨_,_,W1.refl _,rfl,Gw.refl _,rfl,L,T,rfl,by have:=hB.len;omega,hB.st,by have:=hB.tl;omega,hB.tt⟩
end
section
open Go.RowKit Go.Proofs
structure X5 where
 a:Int
 b:Int
 c:Int
 d:Int
 e:Int
def xA (x:X5):AV:=.agg [num x.a,num x.b,num x.c,num x.d,num x.e]
def XOk (x:X5):Prop:=Kg x.a∧Kg x.b∧Kg x.c∧Kg x.d∧Kg x.e
theorem Aw9 {l:List X5} {j:Nat} {x:X5} (h:l[j]? =some x):(l.map xA).getD j .any=.agg [.raw (.int .i64 x.a),.raw (.int .i64 x.b),.raw (.int .i64 x.c),.raw (.int .i64 x.d),.raw (.int .i64 x.e)]:=by simp [h,xA,num]
theorem Amd (l:List X5) (hl:l.length≤9223372036854775807) (hx:∀x∈l,XOk x):Ab Tryz.prog 13 [.sl 5 (l.map xA)] (fun r=>∃f:List Fc,r=.own 89 23 (f.map Mm)∧f.length≤16∧∀x∈f,Kl x∧Kg x.st):=by
 refine A9 [] Bo Cq Tryz.func13 oD oK (by simp only[Tryz.f13,AxD,Bh,Cf,C5,dD,rL,rK,Nat.reduceLeDiff,Nat.reduceSub,ne_eq,not_false_eq_true,and_self,B2,Bf,C9,List.getElem?_toArray,List.getElem?_cons_succ,List.getElem?_cons_zero,Ce,Eb,Bg,cutAt,A8,Em,Ab4,Nat.reduceAdd,Nat.reduceEqDiff,reduceIte];rfl) Tryz.ntmps13 Tryz.results13 ⟨_,[],rfl,oS,oS⟩ rfl ?_;simp only[Axr,Axq,Nat.reduceAdd,Nat.reduceSub,AxT,AxZ,Ax4,Ax8,num,str,Ai];refine Z0 ?_;refine Ap [false,true,false,false,false,true,true,true,true,true,true,true,true,true,true,true,true,true,true,true,true,true,true,true,true] [3,4] (fun n xs=>∃(j:Nat) (f:List Fc),j≤l.length∧j+n=l.length∧f.length≤j∧f.length≤16∧(∀x∈f,Kl x∧Kg x.st)∧xs=[.own 89 23 (f.map Mm),num j]) ⟨l.length,_,⟨0,[],om,om,oS,oS,oS,rfl⟩,?_⟩ ?_
 ·simp only[Io,Ip,Eh,Ci,Db,Aye,Ayf,num];simp only[Axv];exact Df
 ·rintro n xs ⟨j,f,hjl,hn,hfj,hf6,hfk,rfl⟩;simp only[Io,Ip,Eh,Ci,Db,Aye,Ayf,num];by_cases hlt:j<l.length∧j<16;rotate_left
  ·have hend:∃f:List Fc,(AV.own 89 23 (f.map Mm))=.own 89 23 (f.map Mm):=⟨f,rfl⟩;by_cases h1:j<l.length
   ·have ej:=eq_true (show(j:Int)<(l.length:Int) by omega);have e6:=eq_false (show¬(j:Int)<16 by omega);repeat' first|refine Aj.on (fun _=>?_) (fun _=>?_)|with_reducible refine gd ?_|simp only[go_sem,ej,e6,Axp]
    exact⟨f,rfl,hf6,hfk⟩
   have ej:=eU j l.length;refine Zu ?_;exact⟨f,rfl,hf6,hfk⟩
  obtain⟨hlt,h6⟩:=hlt;have ej:=eq_true (show(j:Int)<(l.length:Int) by omega);have e6:=eq_true (show(j:Int)<16 by omega);obtain⟨x,hx0,hd0⟩:=drop_at hlt;have hgx:=Aw9 hx0;have hw:=wS j;obtain⟨xa,xb,xc,xd,xe⟩:=hx x (Axt hx0);refine Zu ?_;refine(Asy j om x.a x.b x.c x.d x.e xa xb xc xd xe).mono ?_;rintro r ⟨g,rfl,hg1,hg2⟩;have hmp:(f++[g]).map Mm=f.map Mm++[Mm g]:=oS;simp only[Mm,num,str]at hmp⊢;refine Zu ?_
  refine Az (n-1) _ om ⟨j+1,f++[g],om,om,by simp;omega,by simp;omega,fun y hy=>by
   rcases Ax5.1 hy with h|h
   ·exact hfk y h
   ·rw [Ax6]at h;subst h;exact⟨hg1,hg2⟩,rfl⟩ ?_
  rw[hmp];simp only[Io,Ip,Eh,Ci,Db,Aye,Ayf,num];exact Df
theorem tJ.le {n m:Nat} {L:List A2} {T:List (Ac×Ac)} (h:tJ n L T) (hnm:n≤m):tJ m L T:=⟨Ax1 h.len hnm,h.st,Ax1 h.tl hnm,h.tt⟩
theorem Ame (l:List X5) (hl:l.length≤9223372036854775807) (hx:∀x∈l,XOk x) (a:Int) (ha:Kg a):Ab Tryz.prog 5 [.sl 5 (l.map xA),num a] (fun r=>∃(L:List A2) (T:List (Ac×Ac)) (M:List A2) (U:List (Ac×Ac)),r=.tup [.agg [.sl 8 (L.map Dx),.sl 2 (T.map Be)],.agg [.sl 8 (M.map Dx),.sl 2 (U.map Be)]]∧tJ 16 L T∧tJ 16 M U):=by refine HC.plain (HC.weak ?_) ⟨_,[],[],[],[],rfl,⟨oS,oS,oS,oS⟩,⟨oS,oS,oS,oS⟩⟩;refine B3 [] [] [] Bo Dv Cq Tryz.func5 oD oK (by simp only[Tryz.f5,go_sem,reduceIte];rfl) Tryz.ntmps5 Tryz.results5 rfl ?_;simp only[Axr,Axq,Nat.reduceAdd,Nat.reduceSub,AxT,AxZ,Ax4,Ax8,num,str,Ai];refine Zu ?_;refine HC.old (Amd l hl hx) ?_;rintro r ⟨f,rfl,hf1,hf2⟩;have hwl:IntKind.i64.wrap ((f.length:Int)+1)=((f.length+1:Nat):Int):=Eu om;refine Zu ?_;refine HC.old (E1 a ha (f.length+1) om om) ?_;rintro r rfl;simp only[num];have hk:=Ee a (n:=f.length+1) om;generalize pickF a (f.length+1)=k at hk⊢;refine Zu ?_;have hm:∀x∈f.take k,x∈f:=fun x h=>AxK h;have hF1:=Ao1 (f.take k) (by simp;omega) (fun x h=>(hf2 x (hm x h)).1) (fun x h=>(hf2 x (hm x h)).2);rw[AyK]at hF1;refine HC.old hF1 ?_;rintro r ⟨L,T,rfl,hB1⟩;refine Zu ?_;refine HC.old (Ao1 f om (fun x h=>(hf2 x h).1) (fun x h=>(hf2 x h).2)) ?_;rintro r ⟨M,U,rfl,hB2⟩;refine Zu ?_;exact⟨_,_,W1.refl _,rfl,Gw.refl _,rfl,L,T,M,U,rfl,hB1.le (by simp;omega),hB2.le hf1⟩
end
section
open Go.RowKit Go.Proofs
def G4 (l:List Ac) (a:E5):List Ac:=if Aq a=true then F2 l (B0 a)else l
theorem Ah5 (l:List Ac) (a:E5):(G4 l a).length≤l.length+1:=by
 unfold G4;split
 ·exact Tv l (B0 a)
 ·omega
theorem Xa:∀(Z:List E5) (l:List Ac),(Z.foldl G4 l).length≤l.length+Z.length
 |[],l=>Axu _
 |a::Z,l=>by have:=Xa Z (G4 l a);have:=Ah5 l a;exact bK
theorem Aan {l:List Ac} (h:l.Pairwise (·< ·)) (a:E5):(G4 l a).Pairwise (·< ·)∧∀x,x∈G4 l a↔x∈l∨Aq a=true∧x=B0 a:=by
 unfold G4;split
 ·rename_i hv;obtain⟨h1,h2⟩:=Wy (B0 a) h;exact⟨h1,fun x=>by rw[h2];simp [hv]⟩
 ·rename_i hv;exact⟨h,fun x=>by simp [hv]⟩
theorem Uo:∀(Z:List E5) (l:List Ac),l.Pairwise (·< ·)→(Z.foldl G4 l).Pairwise (·< ·)∧∀x,x∈Z.foldl G4 l↔x∈l∨∃a∈Z,Aq a=true∧x=B0 a
 |[],l,h=>⟨h,fun x=>oS⟩
 |a::Z,l,h=>by obtain⟨h1,h2⟩:=Aan h a;obtain⟨h3,h4⟩:=Uo Z _ h1;refine⟨h3,fun x=> ?_⟩;rw[Ayt,h4,h2];simp only[Ax2,exists_eq_or_imp];exact or_assoc
def b0:List Ac:=[[47],47::P2]
def Up (L:List A2) (t:Ac):List E5:=⟨5,t,0,[]⟩::(List.range (oP L t)).map fun(p:Nat)=>(⟨3,t,(p:Int)+1,[]⟩:E5)
def Vg (L:List A2):List E5:=L.flatMap I5++((Bp L).flatMap (Up L)++(Cs L).map auF)
theorem As3:b0.Pairwise (·< ·):=by unfold b0;refine AxN.2 ⟨fun x hx=> ?_,List.pairwise_singleton _ _⟩;rw[Ax6]at hx;subst hx;exact of_decide_eq_true rfl
theorem As4:B0 yW=[47]∧Aq yW=true:=oK
theorem As5:B0 yX=47::P2∧Aq yX=true:=oK
theorem Amf (L:List A2):(Vg L).foldl G4 b0=Fa L:=by
 obtain⟨h1,h2⟩:=Uo (Vg L) b0 As3;refine(Yx h1 fun x=> ?_).symm;rw[h2];simp only[oQ,AxB,Ayj,Zj,Vg,b0,Ax5,Ax2,AyB,or_false,List.mem_flatMap];constructor
 ·rintro ((rfl|rfl)|⟨a,ha,hv,rfl⟩)
  ·exact ⟨yW,⟨.inl (.inl rfl),As4.2⟩,As4.1⟩
  ·exact ⟨yX,⟨.inl (.inr rfl),As5.2⟩,As5.1⟩
  ·refine ⟨a,⟨.inr ?_,hv⟩,rfl⟩;rcases ha with h|⟨t,ht,ha⟩|h
   ·exact .inl h
   ·refine .inr (.inl ⟨t,ht,?_⟩)
    have hn:B1 t=true:=by
     simp only[Up,Ax2,AxB]at ha;rcases ha with rfl|⟨p,_,rfl⟩
     ·simp [Aq]at hv;exact hv
     ·simp [Aq]at hv;exact hv.2
    rw[Uq,if_pos hn];simp only[Up,Ax2,AxB,Ay6]at ha⊢;rcases ha with rfl|⟨p,hp,rfl⟩
    ·exact Ho
    ·refine .inr ⟨p,?_,rfl⟩;have:Kj ((p:Int)+1)=true:=by simp [Aq]at hv;exact hv.1
     have:=Lj.1 this;omega
   ·exact Nl
 ·rintro ⟨a,⟨ha,hv⟩,rfl⟩;rcases ha with(rfl|rfl)|h|⟨t,ht,ha⟩|h
  ·exact .inl (.inl As4.1)
  ·exact .inl (.inr As5.1)
  ·exact .inr ⟨a,.inl h,hv,rfl⟩
  ·refine .inr ⟨a,.inr (.inl ⟨t,ht,?_⟩),hv,rfl⟩;unfold Uq at ha;split at ha
   ·simp only[Up,Ax2,AxB,Ay6]at ha⊢;rcases ha with rfl|⟨p,hp,rfl⟩
    ·exact Ho
    ·exact .inr ⟨p,om,rfl⟩
   ·simp at ha
  ·exact .inr ⟨a,.inr (.inr h),hv,rfl⟩
theorem Amg (l:List Ac) (a:E5) (hl:l.length≤10000000) (ha:a.name.length≤1000000000) (hb:a.lang.length≤1000000000):Ab Tryz.prog 25 [.sl 1 (l.map str),Dk a] (fun r=>r=.sl 1 (l.map str)∧Aq a=false∨r=.own 9 1 ((F2 l (B0 a)).map str)∧Aq a=true):=by
 have hwit:∃r:AV,r=.sl 1 (l.map str)∧Aq a=false∨r=.own 9 1 ((F2 l (B0 a)).map str)∧Aq a=true:=by
  cases h:Aq a
  ·exact ⟨_,.inl ⟨rfl,rfl⟩⟩
  ·exact ⟨_,.inr ⟨rfl,rfl⟩⟩
 simp only[Dk];refine Ir [] Tryz.func25 hwit ?_;cases hv:Aq a
 ·refine Zu ?_;refine Zb (Wt a ha hb) ?_;rintro r rfl;simp only[Er,hv,Ax0,if_false];try simp only[Ai,num,str]
  repeat' first|refine Aj.on (fun _=>?_) (fun _=>?_)|with_reducible refine And.intro (by first|omega|rfl|decide|with_unfolding_all rfl) ?_|simp only[go_sem,DT,Int.reduceEq,Int.cast_ofNat_Int,Ae,ne_eq,Nat.reduceEqDiff,not_false_eq_true,Axp]
  all_goals first|exact .inl ⟨rfl,rfl⟩|(simp;done)
 ·refine Zu ?_;refine Zb (Wt a ha hb) ?_;rintro r rfl;simp only[Er,hv,if_true];refine Zn ?_;obtain⟨s,hs⟩:∃s,B0 a=s:=⟨_,rfl⟩;rw[hs];refine Ap (rl [7,3,8,33]) [7,8,9] (fun n xs=>∃j:Nat,j≤l.length∧j+n=l.length∧xs=[.own 9 1 ((Gj s (l.take j)).1.map str),Ai (Gj s (l.take j)).2,num j]) ⟨l.length,_,⟨0,om,om,rfl⟩,?_⟩ ?_
  ·exact AnP
  ·rintro n xs ⟨j,hjl,hn,rfl⟩;have hol:=Tu s (l.take j);rw[AxC]at hol;simp only[PU];rcases Axz j l.length with hlt|hge
   ·have ej:=eT j l.length;obtain⟨x,hx,hd⟩:=drop_at hlt;have hgx:=B8 hx;have hw:=wS j;have hstep:=Wv (s:=s) hx;obtain⟨o,ho⟩:∃o,(Gj s (l.take j)).1=o:=⟨_,rfl⟩;obtain⟨d,hd⟩:∃d,(Gj s (l.take j)).2=d:=⟨_,rfl⟩;rw[show Gj s (l.take j)=(o,d)from Prod.ext ho hd]at hol hstep⊢;simp only[Gu]at hstep;simp only[Ai]at *;have hol2:o.length≤l.length+1:=Ax1 (AyA _ _) (Ax1 hol om);rcases Bool.eq_false_or_eq_true (leS s x)with hle|hle
    ·have hle2:(Op.bytesLess s x||s==x)=true:=hle;by_cases hxs:x=s
     ·have hxe:=eq_true hxs;have ebx:(x==s)=true:=by simp [hxs]
      cases d
      ·repeat' first|refine Aj.on (fun _=>?_) (fun _=>?_)|with_reducible refine And.intro (by first|omega|rfl|decide|with_unfolding_all rfl) ?_|simp only[go_sem,DT,Int.reduceEq,Int.cast_ofNat_Int,Ae,ne_eq,Nat.reduceEqDiff,not_false_eq_true,Axp,ej,hgx,hw,hle2,ebx,Axs,Axr,Axq]
       exact jB
      ·repeat' first|refine Aj.on (fun _=>?_) (fun _=>?_)|with_reducible refine And.intro (by first|omega|rfl|decide|with_unfolding_all rfl) ?_|simp only[go_sem,DT,Int.reduceEq,Int.cast_ofNat_Int,Ae,ne_eq,Nat.reduceEqDiff,not_false_eq_true,Axp,ej,hgx,hw,hle2,ebx,Axs,Axr,Axq]
       exact jB
     ·have hxe:=eq_false hxs;have ebx:(x==s)=false:=by simp [hxs]
      cases d
      ·repeat' first|refine Aj.on (fun _=>?_) (fun _=>?_)|with_reducible refine And.intro (by first|omega|rfl|decide|with_unfolding_all rfl) ?_|simp only[go_sem,DT,Int.reduceEq,Int.cast_ofNat_Int,Ae,ne_eq,Nat.reduceEqDiff,not_false_eq_true,Axp,ej,hgx,hw,hle2,ebx,Axs,Axr,Axq]
       exact jB
      ·repeat' first|refine Aj.on (fun _=>?_) (fun _=>?_)|with_reducible refine And.intro (by first|omega|rfl|decide|with_unfolding_all rfl) ?_|simp only[go_sem,DT,Int.reduceEq,Int.cast_ofNat_Int,Ae,ne_eq,Nat.reduceEqDiff,not_false_eq_true,Axp,ej,hgx,hw,hle2,ebx,Axs,Axr,Axq]
       exact jB
    ·have hle2:(Op.bytesLess s x||s==x)=false:=hle;by_cases hxs:x=s
     ·have hxe:=eq_true hxs;have ebx:(x==s)=true:=by simp [hxs]
      cases d
      ·repeat' first|refine Aj.on (fun _=>?_) (fun _=>?_)|with_reducible refine And.intro (by first|omega|rfl|decide|with_unfolding_all rfl) ?_|simp only[go_sem,DT,Int.reduceEq,Int.cast_ofNat_Int,Ae,ne_eq,Nat.reduceEqDiff,not_false_eq_true,Axp,ej,hgx,hw,hle2,ebx,Axs,Axr,Axq]
       exact jB
      ·repeat' first|refine Aj.on (fun _=>?_) (fun _=>?_)|with_reducible refine And.intro (by first|omega|rfl|decide|with_unfolding_all rfl) ?_|simp only[go_sem,DT,Int.reduceEq,Int.cast_ofNat_Int,Ae,ne_eq,Nat.reduceEqDiff,not_false_eq_true,Axp,ej,hgx,hw,hle2,ebx,Axs,Axr,Axq]
       exact jB
     ·have hxe:=eq_false hxs;have ebx:(x==s)=false:=by simp [hxs]
      cases d
      ·repeat' first|refine Aj.on (fun _=>?_) (fun _=>?_)|with_reducible refine And.intro (by first|omega|rfl|decide|with_unfolding_all rfl) ?_|simp only[go_sem,DT,Int.reduceEq,Int.cast_ofNat_Int,Ae,ne_eq,Nat.reduceEqDiff,not_false_eq_true,Axp,ej,hgx,hw,hle2,ebx,Axs,Axr,Axq]
       exact jB
      ·repeat' first|refine Aj.on (fun _=>?_) (fun _=>?_)|with_reducible refine And.intro (by first|omega|rfl|decide|with_unfolding_all rfl) ?_|simp only[go_sem,DT,Int.reduceEq,Int.cast_ofNat_Int,Ae,ne_eq,Nat.reduceEqDiff,not_false_eq_true,Axp,ej,hgx,hw,hle2,ebx,Axs,Axr,Axq]
       exact jB
   ·have ej:=eU j l.length;rw[Axw hge]at hol⊢;obtain⟨o,ho⟩:∃o,(Gj s l).1=o:=⟨_,rfl⟩;obtain⟨d,hd⟩:∃d,(Gj s l).2=d:=⟨_,rfl⟩;have hpl:F2 l s=o++if d then[]else[s]:=by rw[F2,ho,hd]
    rw[show Gj s l=(o,d)from Prod.ext ho hd]at hol⊢;rw[hpl];have hol2:o.length≤l.length+1:=Ax1 (AyA _ _) (Ax1 hol om);simp only[Ai];cases d
    ·repeat' first|refine Aj.on (fun _=>?_) (fun _=>?_)|with_reducible refine And.intro (by first|omega|rfl|decide|with_unfolding_all rfl) ?_|simp only[go_sem,DT,Int.reduceEq,Int.cast_ofNat_Int,Ae,ne_eq,Nat.reduceEqDiff,not_false_eq_true,Axp,ej,Axs,Axr,Axq]
     all_goals first|(simp only[Ax0,if_false,AxJ,Axx,Axv,str,or_true,false_or,and_true];done)|(refine .inr ⟨?_,rfl⟩;simp only[Ax0,if_false,AxJ,Axx,Axv,str];done)
    ·repeat' first|refine Aj.on (fun _=>?_) (fun _=>?_)|with_reducible refine And.intro (by first|omega|rfl|decide|with_unfolding_all rfl) ?_|simp only[go_sem,DT,Int.reduceEq,Int.cast_ofNat_Int,Ae,ne_eq,Nat.reduceEqDiff,not_false_eq_true,Axp,ej,Axs,Axr,Axq]
     all_goals first|exact .inr trivial|(simp only[if_true,AxF,or_true,false_or,and_true];done)|(refine .inr ⟨?_,rfl⟩;simp only[if_true,AxF];done)
theorem aZ (l:List Ac) (a:E5) (hl:l.length≤10000000) (ha:a.name.length≤1000000000) (hb:a.lang.length≤1000000000):Ab Tryz.prog 25 [.sl 1 (l.map str),Dk a] (fun r=>r=.sl 1 ((G4 l a).map str)):=by
 refine(Amg l a hl ha hb).wkr ?_;rintro r (⟨rfl,hv⟩|⟨rfl,hv⟩)
 ·exact ⟨_,W1.refl _,rfl,by rw[G4,hv];rfl⟩
 ·exact ⟨_,W1.ownsl _ _ _,rfl,by rw[G4,if_pos hv]⟩
end
section
open Go.RowKit Go.Proofs
theorem bA {L:List A2} {Z:List E5} (hZ:(Vg L).length≤9000000) (h:Z.length≤(Vg L).length):(Z.foldl G4 b0).length≤9000002:=by have:=Xa Z b0;have e:b0.length=2:=rfl;omega
theorem Lu (L:List A2):(Vg L).length=(L.flatMap I5).length+(((Bp L).flatMap (Up L)).length+(Cs L).length):=by simp only[Vg,Axs,Axp]
theorem Ao2 {α:Type} {f:α→List E5} {M:List α} {i:Nat}:((M.take i).flatMap f).length≤(M.flatMap f).length:=by
 conv=>rhs;rw[←AxR i M,AyL,Axs]
 omega
theorem Ah6 {α:Type} {f:α→List E5} {M:List α} {i:Nat} {s:α} (h:M[i]? =some s):((M.take i).flatMap f).length+(f s).length≤(M.flatMap f).length:=by rw[←Ox h];exact Ao2
theorem tK (L:List A2) (t:Ac):(Up L t).length=1+oP L t:=by simp [Up];omega
theorem As6 {L:List A2} {t:Ac} {p:Nat} (hp:p<oP L t):(Up L t)[1+p]? =some ⟨3,t,((p+1:Nat):Int),[]⟩:=by rw[Up,AyV,List.getElem?_cons_succ,List.getElem?_map,List.getElem?_range hp];simp
theorem Ah7 (L:List A2) (tm:List AV) (v:List UInt8) (p:Int) (hl:L.length≤100000) (hs:∀s∈L,Ki s):Ab Tryz.prog 27 [stA L tm,str v,num p] (fun r=>r=.tup [.sl 1 (nums (Pz ((Cr v L).reverse.map (·.id)) p)),num (((Cr v L).length+4) / 5:Nat)]):=by refine(yQ L tm v p hl hs).wkr ?_;rintro r rfl;exact⟨_,W1.tup (Ba (Wk.refl _)),rfl,rfl⟩
theorem As7 (L:List A2) (tm:List AV) (hl:L.length≤10000) (hs:∀s∈L,Ki s) (ht:∀s∈L,s.tp.length≤1000) (he:∀s∈L,Aly s) (hT:(Bp L).length≤1000000000) (hA:(Cs L).length≤1000000000) (hZ:(Vg L).length≤9000000)
 (hnT:∀t∈Bp L,t.length≤1000000000) (hnA:∀t∈Cs L,t.length≤1000000000) (hnE:∀s∈L,∀e∈s.ed,(edl e).length≤1000000000):
 Ab Tryz.prog 7 [stA L tm] (fun r=>r=.sl 1 ((Fa L).map str)):=by
 simp only[stA];refine Ir [] Tryz.func7 ⟨_,rfl⟩ ?_;simp (decide:=true) only[En [5] [4200005,4000005] [] [[],[5],[5],[5],[43,5],[],[45,43],[45],[],[],[],[]],AxE,AxX,AxY];simp (decide:=true) only[En [] [] [] [[],[60],[],[60],[],[],[58],[58],[58],[],[]],AxE,AxX,AxY];refine Zu ?_;refine Ap (rl [3,4,8,35]) [3,4] (fun n xs=>∃(i:Nat) (acc:List Ac),i≤L.length∧i+n=L.length∧acc=((L.take i).flatMap I5).foldl G4 b0∧xs=[.sl 1 (acc.map str),num i]) ⟨L.length,_,⟨0,b0,om,om,rfl,rfl⟩,?_⟩ ?_
 ·simp only[b0,P2,Axx,Axv,str];exact Ut
 ·rintro n xs ⟨i,acc,hi1,hi2,hacc,rfl⟩;simp only[PU];rcases Axz i L.length with hlt|hge
  ·have ej:=eT i L.length;obtain⟨s,hx,hd⟩:=drop_at hlt;have hso:=hs s (Axt hx);have heo:=he s (Axt hx);have hed:=hso.2;have hgx:=Lf hx;simp only[num,str,Ai]at hgx;have hw:=wS i;refine Z3 ej hgx hw ?_;refine Ap [false,false,false,true,false,false,true,false,false,false,false,false,false,false,false,false,false,false,false,false,false,false,false,false,false,false,false,true,true,true,true,true,true,true,true,true,true,true,true,true,true,true,true,true,true,true,true,true,true,true,false,false,false,false,false,false,false,false,false,false,false,false,false,false,false,false,false,false,false,false,false,false,false,false,false,false,false,false,false,false,false,false,false,false,false,false,false,false,false,false,false,false,false,false,false,false,false,false,false,false,false,false,false] [3,6] (fun n xs=>∃(j:Nat) (acc2:List Ac),j≤(I5 s).length∧j+n=(I5 s).length∧acc2=((L.take i).flatMap I5++(I5 s).take j).foldl G4 b0∧xs=[.sl 1 (acc2.map str),num j]) ⟨(I5 s).length,_,⟨0,acc,om,om,by rw[hacc];simp only[AxI,AxF],rfl⟩,?_⟩ ?_
   ·exact Ut
   ·rintro n2 xs ⟨j,acc2,hj1,hj2,hacc2,rfl⟩;simp only[PU];rcases Axz j (I5 s).length with hjl|hjg
    ·have htk:s.tk=false:=by
      cases h:s.tk with
      |false=>rfl
      |true=>simp [I5,h]at hjl
     have hjl':j<s.ed.length:=by rw[Zo htk]at hjl;exact hjl
     have hwj:=wS j;have ek:=eT j s.ed.length;obtain⟨e,hjx,hjd⟩:=drop_at hjl';have hle2:=hnE s (Axt hx) e (Axt hjx);obtain⟨l,c1,c2,c3,c4,rfl⟩:=heo e (Axt hjx);have hge:s.ed.getD j .any=.agg [str l,c1,c2,c3,c4]:=by simp [hjx]
     have hel:edl (.agg [str l,c1,c2,c3,c4])=l:=by simp [edl,str]
     rw[hel]at hle2;simp only[str]at hge;have hal:acc2.length≤9000002:=by rw[hacc2];refine bA hZ ?_;have:=Ah6 (f:=I5) hx;rw[Lu];simp only[Axs,AxC];omega
     refine Z7 ek hge hwj hw htk hgx ej ?_;refine((aZ (acc2) ⟨2,[],s.id,l⟩ om oS hle2).wk ?_).mono ?_
     ·simp only[Dk,num,str];exact tN
     rintro r rfl;refine Z7 ek hge hwj hw htk hgx ej ?_;refine Az (n2-1) [.sl 1 ((G4 acc2 ⟨2,[],s.id,l⟩).map str),num ((j+1:Nat):Int)] om ⟨j+1,_,om,om,?_,rfl⟩ ?_
     ·rw [hacc2,Ax9,AgF htk hjx,←AxS,Ayx (l:=((L.take i).flatMap I5)++List.take j (I5 s))];rfl
     ·exact Ut
    ·rw [Axw hjg]at hacc2;have hn2:acc2=((L.take (i+1)).flatMap I5).foldl G4 b0:=by rw[hacc2,Ax9,hx,AyL];simp
     cases htk:s.tk
     ·have hjg':s.ed.length≤j:=by rw[Zo htk]at hjg;exact hjg
      have ek:=eU j s.ed.length;refine Z3 ek hw htk ?_;refine Az (n-1) [.sl 1 (acc2.map str),num ((i+1:Nat):Int)] om ⟨i+1,_,om,om,?_,rfl⟩ ?_
      ·exact hn2
      ·exact Ut
     ·repeat' first|refine Aj.on (fun _=>?_) (fun _=>?_)|with_reducible refine And.intro (by first|omega|rfl|decide|with_unfolding_all rfl) ?_|simp only[go_sem,DT,Int.reduceEq,Int.cast_ofNat_Int,Ae,ne_eq,Nat.reduceEqDiff,not_false_eq_true,Axp,hw,htk]
      all_goals (
       refine Az (n-1) [.sl 1 (acc2.map str),num ((i+1:Nat):Int)] om ⟨i+1,_,om,om,hn2,rfl⟩ ?_;simp only[PU];repeat first|exact Wk.nil|refine Ba ?_|refine Wk.same ?_|refine B7 ?_)
  ·have ej:=eU i L.length;rw[Axw hge]at hacc;refine Z1 ej ?_;refine((gM L tm hl hs ht).wk ?_).mono ?_
   ·try simp only[num,str]
    exact tN
   rintro r rfl;try simp only[Ai,num,str]
   repeat' first|refine Aj.on (fun _=>?_) (fun _=>?_)|with_reducible refine And.intro (by first|omega|rfl|decide|with_unfolding_all rfl) ?_|simp only[go_sem,DT,Int.reduceEq,Int.cast_ofNat_Int,Ae,ne_eq,Nat.reduceEqDiff,not_false_eq_true,Axp,ej]
   refine Ap [false,false,false,true,false,false,false,true,true,true,true,true,false,false,false,false,false,false,false,false,false,false,false,false,false,false,false,false,false,false,false,false,false,false,false,false,false,false,false,false,false,false,false,false,false,false,false,false,false,false,false,false,true,true,true,true,true,true,true,true,true,true,true,true,true,true,true,true,true,true,true,true,true,true,true,true,true,true,true,true,true,true,true,true,true,true,true,false,false,false,false,false,false,false,false,false,false,false,false,false,false,false,false] [3,7,8] (fun n xs=>∃(i:Nat) (acc:List Ac),i≤(Bp L).length∧i+n=(Bp L).length∧acc=(((L.flatMap I5)++((Bp L).take i).flatMap (Up L))).foldl G4 b0∧xs=[.sl 1 (acc.map str),.sl 1 ((Bp L).map str),num i]) ⟨(Bp L).length,_,⟨0,acc,om,om,by rw[hacc];simp only[AxI,List.flatMap_nil,AxF],rfl⟩,?_⟩ ?_
   ·exact Ut
   ·rintro n xs ⟨i,acc,hi1,hi2,hacc,rfl⟩;simp only[PU];rcases Axz i (Bp L).length with hlt|hge
    ·have ej:=eq_true (show(i:Int)<((Bp L).length:Int) by omega);obtain⟨t,hx,hd⟩:=drop_at hlt;have hgx:=B8 hx;have hw:=wS i;have hpgl:=ArT L t hl;have hal:acc.length≤9000002:=by rw[hacc];refine bA hZ ?_;have:=Ao2 (f:=Up L) (M:=Bp L) (i:=i);rw[Lu];simp only[Axs];omega
     refine Z3 ej hgx hw ?_;refine((Ah7 L tm t 1 om hs).wk ?_).mono ?_
     ·try simp only[num,str]
      exact tN
     rintro r rfl;try simp only[Ai,num,str]
     repeat' first|refine Aj.on (fun _=>?_) (fun _=>?_)|with_reducible refine And.intro (by first|omega|rfl|decide|with_unfolding_all rfl) ?_|simp only[go_sem,DT,Int.reduceEq,Int.cast_ofNat_Int,Ae,ne_eq,Nat.reduceEqDiff,not_false_eq_true,Axp,ej,hgx,hw]
     refine((aZ (acc) ⟨5,t,0,[]⟩ om (hnT t (Axt hx)) oS).wk ?_).mono ?_
     ·simp only[Dk,num,str];exact tN
     rintro r rfl;refine Z3 ej hgx hw ?_;refine Ap (rl [3,1,3,1,3,1,62,13]) [3,7,11] (fun n xs=>∃(p:Nat) (acc4:List Ac),p≤oP L t∧p+n=oP L t∧acc4=(((L.flatMap I5)++((Bp L).take i).flatMap (Up L))++(Up L t).take (1+p)).foldl G4 b0∧xs=[.sl 1 (acc4.map str),.sl 1 ((Bp L).map str),num ((p+1:Nat):Int)]) ⟨oP L t,_,⟨0,_,om,om,rfl,rfl⟩,?_⟩ ?_
     ·have e0:(((L.flatMap I5)++((Bp L).take i).flatMap (Up L))++(Up L t).take (1+0)).foldl G4 b0=G4 acc ⟨5,t,0,[]⟩:=by rw[hacc,Ayx];rfl
      rw[e0];exact Ut
     ·rintro n4 xs ⟨p,acc4,hp1,hp2,hacc4,rfl⟩;simp only[PU];rcases Axz p (oP L t)with hpl|hpg
      ·have hwp:IntKind.i64.wrap (((p+1:Nat):Int)+1)=((p+1+1:Nat):Int):=Eu om;have hpl':p<((Cr t L).length+4) / 5:=hpl;have ep:=eq_true (show((p+1:Nat):Int)≤((((Cr t L).length+4) / 5:Nat):Int) by omega);have hal:acc4.length≤9000002:=by rw[hacc4];refine bA hZ ?_;have:=Ah6 (f:=Up L) hx;rw[Lu];simp only[Axs,AxC];omega
       refine Z5 ep hwp hw hgx ej ?_;refine((aZ (acc4) ⟨3,t,((p+1:Nat):Int),[]⟩ om (hnT t (Axt hx)) oS).wk ?_).mono ?_
       ·simp only[Dk,num,str];exact tN
       rintro r rfl;refine Z5 ep hwp hw hgx ej ?_;refine Az (n4-1) [.sl 1 ((G4 acc4 ⟨3,t,((p+1:Nat):Int),[]⟩).map str),.sl 1 ((Bp L).map str),num ((p+1+1:Nat):Int)] om ⟨p+1,_,om,om,?_,rfl⟩ ?_
       ·rw [hacc4,show 1+(p+1)=(1+p)+1 by omega,Ax9,As6 hpl,←AxS,Ayx (l:=((L.flatMap I5)++((Bp L).take i).flatMap (Up L))++List.take (1+p) (Up L t))];rfl
       ·exact Ut
      ·have hpg':p≥((Cr t L).length+4) / 5:=hpg;have ep:=eq_false (show¬((p+1:Nat):Int)≤((((Cr t L).length+4) / 5:Nat):Int) by omega);refine Z2 ep hw ?_;refine Az (n-1) [.sl 1 (acc4.map str),.sl 1 ((Bp L).map str),num ((i+1:Nat):Int)] om ⟨i+1,_,om,om,?_,rfl⟩ ?_
       ·have e1:(Up L t).take (1+p)=Up L t:=Axw (by rw[tK];omega);rw[hacc4,e1,Ax9,hx,AyL,AxS];simp
       ·exact Ut
    ·have ej:=eq_false (show¬(i:Int)<((Bp L).length:Int) by omega);rw[Axw hge]at hacc;refine Z1 ej ?_;refine Zb (Zi L tm hl hs) ?_;rintro r rfl;try simp only[Ai,num,str]
     repeat' first|refine Aj.on (fun _=>?_) (fun _=>?_)|with_reducible refine And.intro (by first|omega|rfl|decide|with_unfolding_all rfl) ?_|simp only[go_sem,DT,Int.reduceEq,Int.cast_ofNat_Int,Ae,ne_eq,Nat.reduceEqDiff,not_false_eq_true,Axp,ej]
     refine Ap [false,false,false,true,false,false,false,false,false,false,false,false,true,true,false,false,false,false,false,false,false,false,false,false,false,false,false,false,false,false,false,false,false,false,false,false,false,false,false,false,false,false,false,false,false,false,false,false,false,false,false,false,false,false,false,false,false,false,false,false,false,false,false,false,false,false,false,false,false,false,false,false,false,false,false,false,false,false,false,false,false,false,false,false,false,false,false,false,false,true,true,true,true,true,true,true,true,true,true,true,true,true,false] [3,12,13] (fun n xs=>∃(q:Nat) (acc:List Ac),q≤(Cs L).length∧q+n=(Cs L).length∧acc=(((L.flatMap I5)++(Bp L).flatMap (Up L))++((Cs L).take q).map auF).foldl G4 b0∧xs=[.sl 1 (acc.map str),.sl 1 ((Cs L).map str),num q]) ⟨(Cs L).length,_,⟨0,acc,om,om,by rw[hacc];simp only[AxI,Axv,AxF],rfl⟩,?_⟩ ?_
     ·exact Ut
     ·rintro n xs ⟨q,acc,hq1,hq2,hacc,rfl⟩;simp only[PU];rcases Axz q (Cs L).length with hq|hq
      ·have ej:=eq_true (show(q:Int)<((Cs L).length:Int) by omega);obtain⟨u,hux,hud⟩:=drop_at hq;have hgx:=B8 hux;have hw:=wS q;have hal:acc.length≤9000002:=by rw[hacc];refine bA hZ ?_;rw[Lu];simp only[Axs,Axp,AxC];omega
       refine Z3 ej hgx hw ?_;refine((aZ (acc) ⟨4,u,0,[]⟩ om (hnA u (Axt hux)) oS).wk ?_).mono ?_
       ·simp only[Dk,num,str];exact tN
       rintro r rfl;refine Z3 ej hgx hw ?_;refine Az (n-1) [.sl 1 ((G4 acc (auF u)).map str),.sl 1 ((Cs L).map str),num ((q+1:Nat):Int)] om ⟨q+1,_,om,om,?_,rfl⟩ ?_
       ·rw [hacc,Ax9,hux,AxJ,←AxS,Ayx (l:=((L.flatMap I5)++(Bp L).flatMap (Up L))++List.map auF (List.take q (Cs L)))];rfl
       ·exact Ut
      ·have ej:=eq_false (show¬(q:Int)<((Cs L).length:Int) by omega);rw[Axw hq]at hacc;have hfin:acc=Fa L:=by rw[hacc,←Amf,Vg,AxS]
       rw[hfin];repeat' first|refine Aj.on (fun _=>?_) (fun _=>?_)|with_reducible refine And.intro (by first|omega|rfl|decide|with_unfolding_all rfl) ?_|simp only[go_sem,DT,Int.reduceEq,Int.cast_ofNat_Int,Ae,ne_eq,Nat.reduceEqDiff,not_false_eq_true,Axp,ej]
       all_goals rfl
end
section
open Go.RowKit Go.Proofs
theorem bB {L:List A2} {T:List (Ac×Ac)} (h:tJ 16 L T):StG L T where
 len':=by have:=h.len;omega
 tp':=fun s hs=>(h.st s hs).1.tp
 ed:=fun s hs=>(h.st s hs).1.ed
 id:=fun s hs=>(h.st s hs).2
 tn:=fun s hs=>(h.st s hs).1.tn
 an:=fun s hs=>(h.st s hs).1.au
 eo:=fun s hs e he=>by obtain⟨x,rfl,_,_⟩:=(h.st s hs).1.ef e he;exact⟨_,_,_,_,_,rfl⟩
 en:=fun s hs e he=>by obtain⟨x,rfl,hx,_⟩:=(h.st s hs).1.ef e he;show x.1.length≤1000000000;omega
 tl:=by have:=h.tl;omega
 tt:=fun t ht=>by have:=h.tt t ht;omega
theorem Amh {L:List A2} {T:List (Ac×Ac)} (h:tJ 16 L T):(Vg L).length≤9000000:=by
 have G:=bB h;have h1:=Jl (l:=Bp L) (f:=Up L) (c:=10) fun t _=>by rw[tK];unfold oP;have:=Lg t L;have:=h.len;omega
 have h2:=Jl (l:=L) (f:=I5) (c:=100) fun s hs=>by
  unfold I5;split
  ·simp
  ·rw [Axp];exact G.ed s hs
 have:=Mg G;have:=Mh G;have:=h.len;rw[Lu];omega
theorem Ah8 {L:List A2}:∀a∈Fa L,a.length≤1000000:=fun a ha=>by unfold Fa at ha;rw[(Dw _).2]at ha;obtain⟨x,hx,rfl⟩:=AxB.1 ha;have:=Wr (Ayj.1 hx).2;omega
theorem Avi {L:List A2} {T:List (Ac×Ac)} (h:tJ 16 L T):Ab Tryz.prog 7 [stA L (T.map Be)] (fun r=>r=.sl 1 ((Fa L).map str)):=by
 have G:=bB h;have:=Mg G;have:=Mh G;refine As7 L (T.map Be) G.len G.ok G.tp G.eo om om (Amh h) (fun t ht=> ?_) (fun t ht=> ?_) G.en
 ·obtain ⟨s,hs,_,h2⟩:=gR.1 ht;have:=G.tn s hs t h2;omega
 ·obtain ⟨s,hs,_,rfl⟩:=gS.1 ht;have:=G.an s hs;omega
theorem As8 (key:Ac):Ab Tryz.prog 9 [.sl 3 [],str key] (fun r=>r=.own 9 1 []):=by
 refine Ab.mono (Ahd [] key oD oS) ?_;rintro r ⟨D,rfl,_,h⟩
 cases D with
 |nil=>rfl
 |cons y D=>exact absurd ((h y).1 oS) oS
theorem As9 {M:List A2} {U:List (Ac×Ac)} (h:tJ 16 M U):Ab Tryz.prog 6 [.sl 3 [],.agg [.sl 8 (M.map Dx),.sl 2 (U.map Be)]] (fun r=>∃D:List Ac,r=.tup [.sl 1 (D.map str),.sl 1 []]∧D.length=(Fa M).length∧∀x∈Fa M,x∈D):=by
 have G:=bB h;refine Ab.mono (Ahe (val:=fun _=>[]) [] (ArU G) (Zr G) Ah8 (fun h=>absurd rfl h) oD oS) ?_;rintro r ⟨D,E,rfl,h1,h2,_,h4⟩
 have hE:E=[]:=by
  cases E with
  |nil=>rfl
  |cons y E=>exact absurd ((h4 y).1 oS) (by simp [B4])
 subst hE;have hm:∀x,x∈D↔x∈Fa M:=fun x=>by rw[h2];simp [B4]
 refine⟨D,rfl,?_,fun x hx=>(hm x).2 hx⟩;have n1:D.Nodup:=h1.imp fun{a b} hab e=>by subst e;exact tE a hab
 have n2:(Fa M).Nodup:=(Dw _).1.imp fun{a b} hab e=>by subst e;exact Ex a hab
 exact((List.perm_ext_iff_of_nodup n1 n2).2 hm).length_eq
theorem Avj (l:List X5) (hl:l.length≤9223372036854775807) (hX:∀x∈l,XOk x):Ab Tryz.prog 3 [.sl 5 (l.map xA)] (fun r=>r=Ai true):=by
 refine HC.plain (Zt [] [] [] Tryz.func3 ?_) ⟨_,rfl⟩;refine HC.wk (HC.old (Ave) ?_) ?_;rotate_left
 ·exact Qv
 rintro r rfl;refine Zn ?_;refine HC.wk (HC.old (Ame l hl hX 0 ⟨oD,oD⟩) ?_) ?_;rotate_left
 ·exact Qv
 rintro r ⟨L,T,M,U,rfl,hB1,hB2⟩;refine Zn ?_;refine HC.wk (HC.old (As9 hB2) ?_) ?_;rotate_left
 ·exact Qv
 rintro r ⟨D,rfl,hDl,hDm⟩;refine Zn ?_;refine HC.wk (HC.old (Avi hB2) ?_) ?_;rotate_left
 ·try simp only[stA]
  exact Zw
 rintro r rfl;refine Zn ?_;have hle:=Zr (bB hB2);generalize Fa M=all at *;refine Ax (rl [0,3,1,2,4,46]) [3,9] (fun m xs γ=>γ=[]∧∃j:Nat,j+m=all.length∧xs=[Ai true,num j]) ⟨all.length,_,_,⟨rfl,0,om,rfl⟩,hent (Gw.refl _) ?_⟩ ?_
 ·try simp only[Ai]
  exact Zw
 rintro m xs γ ⟨rfl,j,hm,rfl⟩;simp only[PU];try simp only[Ai]
 rcases Axz j all.length with hlt|hge
 ·have ej:=eT j all.length;obtain⟨x,hx,hd⟩:=drop_at hlt;have hgx:=B8 hx;have hw:=wS j;have hd:decide (x∈D)=true:=decide_eq_true (hDm x (Axt hx));refine Zu ?_;refine HC.wk (HC.old (Awe D x om) ?_) ?_;rotate_left
  ·exact Qv
  rintro r rfl;try simp only[hd,Ai]
  refine Zu ?_;exact Zm (m-1) ⟨rfl,j+1,om,rfl⟩
 have ej:=eU j all.length;have e0:(((0:Nat):Int)=0)=True:=eq_true rfl;have el:((D.length:Int)=(all.length:Int))=True:=eq_true om;refine Zu ?_;refine HC.wk (HC.old (As8 [116,111,112,105,99,115]) ?_) ?_;rotate_left
 ·exact Qv
 exact Ij
end
end Go.Proofs.YtmophjggmekoeaaGreatDoor
