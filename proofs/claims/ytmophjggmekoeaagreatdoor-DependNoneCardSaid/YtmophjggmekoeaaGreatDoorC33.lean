/- The iterator scan$1. -/
import Derived.Maps.RangeRun
import Derived.Test.YtmophjggmekoeaaGreatDoorC32
set_option linter.all false
set_option maxRecDepth 100000
set_option maxHeartbeats 4000000
namespace Go.Proofs.YtmophjggmekoeaaGreatDoor.Lx
open Go.RowKit Go.Proofs
structure Tk where
 k:Int
 t:List UInt8
 a:Nat
def tk (t:Tk):AV:=tokA t.k t.t t.a
def wsp (c:UInt8):Bool:=decide (((c.toNat:Nat):Int)=32)||decide (((c.toNat:Nat):Int)=10)
def scanF:Nat→List UInt8→Nat→Option Nat→List Tk
 |0,_,_,_=>[]
 |f+1,[],at_,none=>[]
 |f+1,c::r,at_,none=>if Q7 (c::r)then⟨6,[123],at_⟩::scanF f r (at_+1) (some at_)
  else if(litL (c::r)).2.2 then[⟨0,[],at_+(litL (c::r)).2.1⟩]else⟨1,(litL (c::r)).1,at_⟩::scanF f ((c::r).drop (litL (c::r)).2.1) (at_+(litL (c::r)).2.1) none
 |f+1,[],at_,some g=>[⟨0,[],g⟩]
 |f+1,c::r,at_,some g=>if wsp c then scanF f r (at_+1) (some g)
  else match partL (c::r)with
   |none=>[⟨0,[],at_⟩]
   |some (k,t,n)=>⟨k,t,at_⟩::scanF f ((c::r).drop n) (at_+n) (if k=7 then none else some g)
def toks (s:List UInt8):List Tk:=scanF (s.length+1) s 0 none
def Awt (s:List UInt8) (k:Nat) (args:List AV):Prop:=∃t,(toks s)[k]? =some t∧args=[tk t]
def Asm:Option Nat→Int
 |none=> -1
 |some g=>(g:Int)
theorem Aac:Asm none= -1:=rfl
theorem Aad (g:Nat):Asm (some g)=(g:Int):=rfl
theorem Ug {s:List UInt8} {pre rest:List Tk} {t:Tk} {k:Nat} (he:toks s=pre++t::rest) (hk:pre.length=k):(toks s)[k]? =some t:=by rw[he];subst hk;simp
theorem O5 {s:List UInt8} {pre rest:List Tk} {t:Tk} (he:toks s=pre++t::rest):toks s=(pre++[t])++rest:=by rw[he];simp
theorem Ahl {s:List UInt8} {pre:List Tk} {t:Tk} {k:Nat} (he:toks s=pre++[t]) (hk:pre.length=k):k+1=(toks s).length:=by rw[he];subst hk;simp
theorem Ahm:∀{u:List UInt8} {c:UInt8} {r:List UInt8},u=c::r→Q7 u=false→(litL u).2.2=false→0<(litL u).2.1:=by
 intro u c r hu ho hb;subst hu
 cases hbad:P9 c with
 |true=>rw[Ue ho hbad]at hb;cases hb
 |false=>
  cases hl:lb c with
  |false=>rw[Lp ho hbad hl];simp
  |true=>
   cases r with
   |nil=>simp only[Q7]at ho;rw[ho]at hl;cases hl
   |cons d r=>rw[Uf ho hbad hl];simp
theorem aP:∀(n:Nat) (u:List UInt8),u.length≤n→(litL u).2.1≤u.length∧(litL u).1.length≤(litL u).2.1
 |_,[],_=>by simp [litL]
 |0,c::r,h=>by simp at h
 |n+1,c::r,h=>by
  cases ho:Q7 (c::r)with
  |true=>rw[iM ho];simp
  |false=>
   cases hb:P9 c with
   |true=>rw[Ue ho hb];simp
   |false=>
    cases hl:lb c with
    |false=>rw[Lp ho hb hl];have:=aP n r (by simp at h;omega);simp;omega
    |true=>
     cases r with
     |nil=>simp only[Q7]at ho;rw[ho]at hl;cases hl
     |cons d r=>rw[Uf ho hb hl];have:=aP n r (by simp at h;omega);simp;omega
theorem pQ {u:List UInt8} {k:Int} {t:List UInt8} {n:Nat} (h:partL u=some (k,t,n)):0<n∧n≤u.length∧k≠0∧k≠6∧k≠1:=by
 cases u with
 |nil=>cases h
 |cons c r=>
  simp only[partL]at h;split at h
  ·rename_i hl;split at h
   ·cases h
   ·injection h with h;simp only[Prod.mk.injEq]at h;obtain⟨rfl,rfl,rfl⟩:=h;have:=Mk nmI (c::r);refine⟨?_,this,oD,oD,oD⟩;have:nmI (c.toNat:Int)=true:=by simp [nmI,hl]
    simp [Hg,this]
  ·split at h
   ·rename_i hl;split at h
    ·cases h
    ·injection h with h;simp only[Prod.mk.injEq]at h;obtain⟨rfl,rfl,rfl⟩:=h;have:=Mk Lo (c::r);refine⟨?_,this,oD,oD,oD⟩;simp [Hg,hl]
   ·split at h
    ·split at h
     ·rename_i d r' hr;split at h
      ·injection h with h;simp only[Prod.mk.injEq]at h;obtain⟨rfl,rfl,rfl⟩:=h;have:=congrArg List.length hr;simp at this;exact⟨om,by simp;omega,oD,oD,oD⟩
      ·cases h
     ·cases h
    ·split at h
     ·exact AmC
     ·split at h
      ·exact AmC
      ·cases h
theorem Asn (s:List UInt8) (hs:s.length≤1000000):Qj Tryz.prog 228 [.elt (.agg [str s])] (toks s).length (Awt s):=by
 refine Na [] [(15,2)] [] Bo Cq Tryz.func228 oD oK (by simp only[Tryz.f228,go_sem,reduceIte,reduceCtorEq];rfl) Tryz.ntmps228 Tryz.results228 rfl ?_;intro l;simp only[LS,Nat.reduceAdd,Nat.reduceSub];simp only[go_sem];refine Fo (rl [3,74]) [3,4] (fun n st xs=>∃(k j:Nat) (tg:Option Nat) (pre:List Tk),st=some k∧j≤s.length∧s.length-j<n∧toks s=pre++scanF n (s.drop j) j tg∧pre.length=k∧xs=[num j,num (Asm tg)]) ⟨s.length+1,_,⟨0,0,none,[],rfl,om,om,rfl,rfl,rfl⟩,?_⟩ ?_
 ·exact Zw
 ·rintro n st xs ⟨k,j,tg,pre,rfl,hjl,hn,he,hk,rfl⟩;obtain⟨m,rfl⟩:∃m,n=m+1:=⟨n-1,om⟩;have hw1:=wS j;simp only[PU]
  cases tg with
  |none=>
   simp only[Aac];repeat' first|refine Aj.on (fun _=>?_) (fun _=>?_)|with_reducible refine gd ?_|simp only[go_sem,Int.reduceEq,Int.reduceNeg,decide_true,eq_self]
   ·rename_i hj;refine .inl ?_;have:j=s.length:=om;subst this;rw[he,List.drop_length,Axs,hk];simp [scanF]
   ·rename_i hj;have hj':j<s.length:=om;obtain⟨c,hc,hd⟩:=Gk hj';refine(sY s j hj' hs).mono ?_;rintro r rfl
    cases hop:Q7 (s.drop j)with
    |true=>
     simp only[Ai];repeat' first|refine Aj.on (fun _=>?_) (fun _=>?_)|with_reducible refine gd ?_|simp only[go_sem,Int.reduceEq,Int.reduceNeg,decide_true,eq_self,hw1]
     have he2:toks s=pre++⟨6,[123],j⟩::scanF m (s.drop (j+1)) (j+1) (some j):=by rw[he,hd];rw[hd]at hop;simp only[scanF,hop,if_true]
     refine J9 ⟨_,Ug he2 hk,rfl⟩ ?_ ?_
     ·refine Z1 hw1 ?_;refine Cn m _ om ⟨k+1,j+1,some j,_,rfl,om,om,O5 he2,by simp [hk],rfl⟩ ?_;exact Zw
     ·repeat' first|refine Aj.on (fun _=>?_) (fun _=>?_)|with_reducible refine gd ?_|simp only[go_sem,Int.reduceEq,Int.reduceNeg,decide_true,eq_self,hw1]
      exact Rv
    |false=>
     simp only[Ai];repeat' first|refine Aj.on (fun _=>?_) (fun _=>?_)|with_reducible refine gd ?_|simp only[go_sem,Int.reduceEq,Int.reduceNeg,decide_true,eq_self,hw1]
     refine(Aab s j hjl hs).mono ?_;rintro r rfl;rw[hd]at hop;have h1:=aP (s.drop j).length (s.drop j) (Axu _);rw[AxQ]at h1;obtain⟨⟨lt,ln,lbad⟩,hx⟩:∃x,litL (s.drop j)=x:=⟨_,rfl⟩;rw[hx]at h1⊢;have h2:ln≤s.length-j:=h1.1;clear h1
     cases lbad with
     |true=>
      simp only[Aaa,if_true,tokA,str,num];refine Z1 hw1 ?_;have he2:toks s=pre++[⟨0,[],j+ln⟩]:=by rw[he,hd];rw[hd]at hx;simp only[scanF,hop,hx,if_true,Ax0,if_false]
      exact Ao4
     |false=>
      simp only[Aaa,Ax0,if_false,tokA,str,num];have hp:0<ln:=by have:=Ahm hd (by rw[hd];exact hop);rw[hx]at this;exact this rfl
      refine Z1 hw1 ?_;have he2:toks s=pre++⟨1,lt,j⟩::scanF m (s.drop (j+ln)) (j+ln) none:=by rw[he,hd];rw[hd]at hx;simp only[scanF,hop,hx,if_true,Ax0,if_false];rw[←hd,Ay2]
      refine J9 ⟨_,Ug he2 hk,rfl⟩ ?_ ?_
      ·refine Z1 hw1 ?_;refine Cn m _ om ⟨k+1,j+ln,none,_,rfl,om,om,O5 he2,by simp [hk],rfl⟩ ?_;exact Zw
      ·repeat' first|refine Aj.on (fun _=>?_) (fun _=>?_)|with_reducible refine gd ?_|simp only[go_sem,Int.reduceEq,Int.reduceNeg,decide_true,eq_self,hw1]
       exact Rv
  |some g=>
   simp only[Aad];have hg:((g:Int)= -1)=False:=oS;repeat' first|refine Aj.on (fun _=>?_) (fun _=>?_)|with_reducible refine gd ?_|simp only[go_sem,Int.reduceEq,Int.reduceNeg,decide_true,eq_self,hw1,hg,decide_false,Ae]
   ·rename_i hj;have:j=s.length:=om;subst this;have he2:toks s=pre++[⟨0,[],g⟩]:=by rw[he,List.drop_length];simp only[scanF]
    exact Ao4
   ·rename_i hj hw32;exact Atd
   ·rename_i hj hw0 hw32;exact Atd
   ·rename_i hj hw0 hw1;have hj':j<s.length:=om;obtain⟨c,hc,hd⟩:=Gk hj';have hws:wsp c=false:=by simp only[wsp,←hc,hw0,hw1,decide_false,Bool.or_false]
    refine(Asl s j hj' hs).mono ?_;rintro r rfl;obtain⟨o,ho⟩:∃o,partL (s.drop j)=o:=⟨_,rfl⟩;rw[ho]
    cases o with
    |none=>
     simp only[Lq,tokA,str,num];repeat' first|refine Aj.on (fun _=>?_) (fun _=>?_)|with_reducible refine gd ?_|simp only[go_sem,Int.reduceEq,Int.reduceNeg,decide_true,eq_self,hw1,hg,decide_false,Ae]
     have he2:toks s=pre++[⟨0,[],j⟩]:=by rw[he,hd];rw[hd]at ho;simp only[scanF,hws,ho,Ax0,if_false]
     exact Ao4
    |some x=>
     obtain⟨q,t,n⟩:=x;have hp:=pQ ho;rw[AxQ]at hp;obtain⟨hn0,hnl,hq0,hq6,hq1⟩:=hp;simp only[Lq,tokA,str,num]
     replace hq0:(q=0)=False:=by simp [hq0]
     repeat' first|refine Aj.on (fun _=>?_) (fun _=>?_)|with_reducible refine gd ?_|simp only[go_sem,Int.reduceEq,Int.reduceNeg,decide_true,eq_self,hw1,hg,decide_false,Ae]
     ·rename_i h7;have he2:toks s=pre++⟨q,t,j⟩::scanF m (s.drop (j+n)) (j+n) none:=by exact AmX
      refine J9 ⟨_,Ug he2 hk,rfl⟩ ?_ ?_
      ·refine Z3 hw1 hg hq0 ?_;refine Cn m _ om ⟨k+1,j+n,none,_,rfl,om,om,O5 he2,by simp [hk],rfl⟩ ?_;exact Zw
      ·repeat' first|refine Aj.on (fun _=>?_) (fun _=>?_)|with_reducible refine gd ?_|simp only[go_sem,Int.reduceEq,Int.reduceNeg,decide_true,eq_self,hw1,hg,decide_false,Ae,hq0]
       exact Rv
     ·rename_i h7;have he2:toks s=pre++⟨q,t,j⟩::scanF m (s.drop (j+n)) (j+n) (some g):=by exact AmX
      refine J9 ⟨_,Ug he2 hk,rfl⟩ ?_ ?_
      ·refine Z3 hw1 hg hq0 ?_;refine Cn m _ om ⟨k+1,j+n,(some g),_,rfl,om,om,O5 he2,by simp [hk],rfl⟩ ?_;exact Zw
      ·repeat' first|refine Aj.on (fun _=>?_) (fun _=>?_)|with_reducible refine gd ?_|simp only[go_sem,Int.reduceEq,Int.reduceNeg,decide_true,eq_self,hw1,hg,decide_false,Ae,hq0]
       exact Rv
end Go.Proofs.YtmophjggmekoeaaGreatDoor.Lx
namespace Go.Proofs.YtmophjggmekoeaaGreatDoor.Lx
open Go.RowKit Go.Proofs
theorem Aso (s:List UInt8) (hs:s.length≤1000000):Ab Tryz.prog 164 [str s] (fun r=>r=.clo 228 [.elt (.agg [str s])]):=by refine Ir [(1,[1],[])] Tryz.func164 ⟨_,rfl⟩ ?_;simp only[go_sem];repeat' first|refine Aj.on (fun _=>?_) (fun _=>?_)|with_reducible refine gd ?_|simp only[go_sem]
def tl:List Tk→AV
 |[]=>.nil
 |a::l=>.own 230 3 ((a::l).map tk)
def tokensR (s:List UInt8):AV:=if 1000<s.length then .tup [.nil,num 1000,num 90]else
 match(toks s).find? (fun t=>decide (t.k=0))with
 |some t=>.tup [.nil,num (t.a:Nat),num 90]
 |none=>.tup [tl (toks s),num 0,num 0]
theorem Jq:∀(f:Nat) (u:List UInt8) (a:Nat) (g:Option Nat),(scanF f u a g).length≤f
 |0,_,_,_=>by simp [scanF]
 |f+1,[],_,none=>by simp [scanF]
 |f+1,[],_,some g=>by simp [scanF]
 |f+1,c::r,a,none=>by
  have h1:=Jq f r (a+1) (some a);have h2:=Jq f ((c::r).drop (litL (c::r)).2.1) (a+(litL (c::r)).2.1) none;simp only[scanF];split
  ·exact Vh
  ·split
   ·simp
   ·exact Vh
 |f+1,c::r,a,some g=>by
  have h1:=Jq f r (a+1) (some g);simp only[scanF];split
  ·omega
  ·split
   ·simp
   ·rename_i k t n _;have h2:=Jq f ((c::r).drop n) (a+n) (if k=7 then none else some g);exact Vh
theorem toks_len (s:List UInt8):(toks s).length≤s.length+1:=Jq _ _ _ _
theorem Uh {l:List Tk} {k:Nat} {t:Tk} (hk:l[k]? =some t) (ha:∀u∈l.take k,u.k≠0) (h0:t.k=0):l.find? (fun t=>decide (t.k=0))=some t:=by
 have hlt:k<l.length:=(List.getElem?_eq_some_iff.1 hk).1;have he:l=l.take k++t::l.drop (k+1):=by have:=(List.getElem?_eq_some_iff.1 hk).2;rw[←this,List.getElem_cons_drop,AxR]
 rw[he,List.find?_append];have:(l.take k).find? (fun t=>decide (t.k=0))=none:=by rw[List.find?_eq_none];intro u hu;simpa using ha u hu
 rw[this];simp [h0]
theorem W5 {l:List Tk} {k:Nat} {t:Tk} (hk:l[k]? =some t):l.take (k+1)=l.take k++[t]:=by rw[Ax9,hk];rfl
theorem aQ:tl []=.nil:=rfl
theorem aR (a:Tk) (l:List Tk):tl (a::l)=.own 230 3 (tk a::l.map tk):=rfl
theorem AlQ (l:List Tk) (t:Tk):tl (l++[t])=.own 230 3 (l.map tk++[tk t]):=by cases l<;>simp [tl]
theorem tokens10 (s:List UInt8) (hs:s.length≤1000000):Ab Tryz.prog 89 [str s] (fun r=>r=tokensR s):=by
 refine Fw [] [] [6,12,13,14,15,16,17,18,19,20,21] Bo Cq Tryz.func89 oD oK (by simp only[Tryz.f89,go_sem,reduceIte,reduceCtorEq];rfl) Tryz.ntmps89 Tryz.results89 ⟨_,rfl⟩ rfl ?_;skip;simp only[LS,Nat.reduceAdd,Nat.reduceSub];simp (decide:=true) only[En [6] [1600006] [] [[6],[6],[],[],[]],AxE,AxX,AxY];repeat' first|refine Aj.on (fun _=>?_) (fun _=>?_)|with_reducible refine gd ?_|simp only[go_sem]
 ·rename_i h;have h1:1000<s.length:=om;simp only[tokensR,h1,if_true,num]
 ·rename_i h;have h1:¬1000<s.length:=om;simp only[tokensR,h1,if_false];refine Za (Aso s hs) ?_;refine H1 (rl [5,2,5,10]) [5] (fun k xs=>xs=[.box 153 [tl ((toks s).take k)]]∧∀t∈(toks s).take k,t.k≠0) (Axu 23) ?_ (Asn s hs) ?_ ?_ ?_
  ·exact Ho
  ·refine ⟨_,⟨rfl,oS⟩,?_⟩;simp only[PU];simp only[AxI,aQ];exact Zw
  ·rintro k args xs ⟨t,hk,rfl⟩ ⟨rfl,ha⟩;refine⟨rfl,rfl,?_⟩;simp only[PU];have hlk:k<(toks s).length:=(List.getElem?_eq_some_iff.1 hk).1;have hl1:=toks_len s;have hlt:((toks s).take k).length=k:=by simp;omega
   simp only[tk,tokA,str,num];rcases hp:(toks s).take k with _|⟨p0,pr⟩<;>simp only[aQ,aR]
   ·repeat' first|refine Aj.on (fun _=>?_) (fun _=>?_)|with_reducible refine gd ?_|simp only[go_sem,Axp]
    ·rw [Uh hk ha (by assumption)]
    ·exact Ate
   ·simp only[hp,Axr]at hlt;repeat' first|refine Aj.on (fun _=>?_) (fun _=>?_)|with_reducible refine gd ?_|simp only[go_sem,Axp,Axr]
    ·rw [Uh hk ha (by assumption)]
    ·exact Ate
  ·rintro xs ⟨rfl,ha⟩;rw[Ay0]at ha;have hf:(toks s).find? (fun t=>decide (t.k=0))=none:=by rw[List.find?_eq_none];intro u hu;simpa using ha u hu
   simp only[PU];simp only[Ay0,hf,num]
   cases ht:toks s with
   |nil=>simp only[aQ,aR];exact Aia
   |cons a l=>simp only[aQ,aR];exact Aia
end Go.Proofs.YtmophjggmekoeaaGreatDoor.Lx
namespace Go.Proofs.YtmophjggmekoeaaGreatDoor
section
open Go.RowKit Go.Proofs
theorem iN (s:Ac) (at0 e:Nat) (he:e≠0) (ht:Ab Tryz.prog 89 [str s] (fun r=>r=.tup [.nil,num at0,num e])):
 Ab Tryz.prog 59 [str s] (fun r=>r=.tup [.sl 8 [],num at0,num e]):=by
 refine HC.plain (HC.weak ?_) ⟨_,rfl⟩;refine Ti Bo Dv Cq [] [3,6] [(3,[10003,10004],[1000,1001],[2002,2003],[3004])] (As:=[_,_,_]) (ds:=[_,_,_]) (ss:=[2,3,4]) [(2,3),(3,2),(4,1)] Tryz.func59 rfl oD rfl Tryz.ntmps59 (congrArg Array.toList Tryz.results59) rfl (by simp only[Axx,Axv,Bm,Ri,Ce,Eb,Ed,Cf,C5,AxV,AxO,AxP,Ayi,AxU,Ayb,AxW,Ayg,AxH,cond_false,cond_true,Ia,Hy,H7,H8,H9,Hw,xB,xY,Nat.reduceBEq,Nat.reduceBNe,Hz,Ge,Gz,Hc,I3,Bh,B2,Cm,Ko,Axx,Axv,Nat.reduceMod,Nat.reduceDiv,Bf,C9,AxD,List.getElem?_toArray,List.getElem?_cons_succ,List.getElem?_cons_zero,Bg,cutAt,A8,Em,Nat.reduceAdd,Nat.reduceEqDiff,Nat.reduceLeDiff,Nat.reduceSub,ne_eq,not_false_eq_true,and_self,reduceIte];rfl) oK (by simp only[Bm,Ri,Ce,Eb,Ed,Cf,C5,AxV,AxO,AxP,Ayi,AxU,Ayb,AxW,Ayg,AxH,cond_false,cond_true,Ia,Hy,H7,H8,H9,Hw,xB,xY,Nat.reduceBEq,Nat.reduceBNe,Hz,Ge,Gz,Hc,I3,Bh,B2,Cm,Ko,Axx,Axv,Nat.reduceMod,Nat.reduceDiv,Bf,C9,AxD,List.getElem?_toArray,List.getElem?_cons_succ,List.getElem?_cons_zero,Bg,cutAt,A8,Em,Nat.reduceAdd,Nat.reduceEqDiff,Nat.reduceLeDiff,Nat.reduceSub,ne_eq,not_false_eq_true,and_self,reduceIte];rfl) oK ?_;simp only[yO,Axr,Axq,Nat.reduceAdd,Nat.reduceSub,AxT,AxZ,Ax4,Ax8,num,str,Ai,pt];refine Zu ?_;refine HC.old ht ?_;rintro r rfl;simp only[num];have ee:=eq_false (show¬((e:Int)=0) by omega);refine Zu ?_;refine sI Bo Dv Cq [(3,[],[0])] [] [] [] (by simp only[Bm,Ri,Ce,Eb,Ed,Cf,C5,AxV,AxO,AxP,Ayi,AxU,Ayb,AxW,Ayg,AxH,cond_false,cond_true,Ia,Hy,H7,H8,H9,Hw,xB,xY,Nat.reduceBEq,Nat.reduceBNe,Hz,Ge,Gz,Hc,I3,Bh,B2,Cm,Ko,Axx,Axv,Nat.reduceMod,Nat.reduceDiv,Bf,C9,AxD,List.getElem?_toArray,List.getElem?_cons_succ,List.getElem?_cons_zero,Bg,cutAt,A8,Em,Nat.reduceAdd,Nat.reduceEqDiff,Nat.reduceLeDiff,Nat.reduceSub,ne_eq,not_false_eq_true,and_self,reduceIte];rfl) oK ?_;simp (decide:=true) only[En [] [] [] [[],[],[],[],[]],AxE,AxX,AxY];simp only[Kb];refine Zu ?_;exact⟨_,_,W1.tup (A1 (Wk.refl _)),rfl,Gw.refl _,rfl,rfl⟩
theorem Ui:∀u:Ac,(Lx.litL u).1.length≤u.length
 |[]=>by simp [Lx.litL]
 |[c]=>by unfold Lx.litL;split<;>(try split)<;>simp
 |c::d::r=>by
  have h1:=Ui r;have h2:=Ui (d::r);simp only[Axr]at h2;unfold Lx.litL;repeat' split
  all_goals simp only[Axr,Axq]
  all_goals omega
theorem Ahn {u t:Ac} {k:Int} {n:Nat} (h:Lx.partL u=some (k,t,n)):0≤k∧t.length≤u.length+1:=by
 cases u with
 |nil=>cases h
 |cons c r=>
  simp only[Lx.partL]at h;repeat' split at h
  all_goals first|cases h;done|(injection h with h;injection h with h1 h2;injection h2 with h2 h3;subst h1;subst h2;refine⟨om,?_⟩;simp only[AxC,Axr,Axq]at *;(first|omega|(split<;>omega)|skip))
theorem Lr:∀(f:Nat) (u:Ac) (a:Nat) (g:Option Nat),∀t∈Lx.scanF f u a g,0≤t.k∧t.t.length≤u.length+1
 |0,_,_,_,t,h=>by simp [Lx.scanF]at h
 |f+1,[],_,none,t,h=>by simp [Lx.scanF]at h
 |f+1,c::r,a,none,t,h=>by
  have hl:=Ui (c::r);unfold Lx.scanF at h;split at h
  ·rcases Ax2.1 h with rfl|h
   ·simp
   ·have:=Lr f _ _ _ t h;exact Vh
  ·split at h
   ·simp at h;subst h;simp
   ·rcases Ax2.1 h with rfl|h
    ·exact ⟨(by decide:(0:Int)≤1),Nat.le_succ_of_le hl⟩
    ·exact An8
 |f+1,[],a,some g,t,h=>by simp [Lx.scanF]at h;subst h;simp
 |f+1,c::r,a,some g,t,h=>by
  unfold Lx.scanF at h;split at h
  ·have:=Lr f _ _ _ t h;exact Vh
  ·split at h
   ·simp at h;subst h;simp
   ·rename_i k x n hp;rcases Ax2.1 h with rfl|h
    ·exact Ahn hp
    ·exact An8
def cvT (t:Lx.Tk):Tk:=⟨t.k.toNat,t.t,t.a⟩
def Qs (s:Ac):List Tk:=(Lx.toks s).map cvT
theorem Aae (s:Ac):(Qs s).length≤s.length+1:=by simp only[Qs,Axp];exact Lx.toks_len s
theorem pR (s:Ac):∀t∈Qs s,t.text.length≤s.length+1:=fun t h=>by obtain⟨u,hu,rfl⟩:=AxB.1 h;exact(Lr _ _ _ _ u hu).2
theorem AuW (s:Ac):(Qs s).map Rk=(Lx.toks s).map Lx.tk:=by rw[Qs,Ay4];refine AyY fun t ht=> ?_;have:=(Lr _ _ _ _ t ht).1;simp only[Function.comp_apply,Rk,cvT,Lx.tk,Lx.tokA];rw[Int.toNat_of_nonneg this]
def G3 (s:Ac):List Nd×Nat×Nat:=if 1000<s.length then([],1000,90)else match(Lx.toks s).find? (fun t=>decide (t.k=0))with
 |some t=>([],t.a,90)
 |none=>Px Bc (Qs s) s.length
theorem Asp (s:Ac) (hs:s.length≤1000):Alc Bc (Qs s) where
 atoi:=fun t ht=>Yz t.text (by have:=pR s t ht;omega)
 cont:=fun l x hl=>by have:=Tl l x om;rwa [show decide (x∈l)=l.contains x from by simp]at this
theorem Aho (s:Ac) (hs:s.length≤1000000):Ab Tryz.prog 59 [str s] (fun r=>r=oI (G3 s)):=by
 have ht:=Lx.tokens10 s hs;unfold G3;unfold Lx.tokensR at ht;split at ht
 ·rename_i h;rw[if_pos h];exact iN s 1000 90 oD ht
 ·rename_i h;rw[if_neg h];split at ht
  ·rename_i t hf;try rw[hf]
   exact iN s t.a 90 oD ht
  ·rename_i hf;try rw[hf]
   have hl:=Aae s;refine Alj (Asp s om) s 0 om hs (ht.wkr ?_);rintro r rfl;refine⟨_,W1.tup (ys:=[.sl 3 ((Qs s).map Rk),num 0,num 0]) ?_,rfl,rfl⟩;rw[AuW]
   cases Lx.toks s with
   |nil=>exact A1 (Wk.refl _)
   |cons a l=>exact Ba (Wk.refl _)
end
section
open Go.RowKit Go.Proofs
section
variable {P : Program} {T : Bd} {H : Gy}
theorem Asq (hT:Am P T) (hH:Cl P H) (hm:P.follows .mixedOrders=true) {f:Nat} {fn:Func} {code:Code} {args γ:List AV} {K:AV→List AV→Prop} {F:Value→List AV→Prop} (hf:P.funcs[f]? =some fn) (hb:fn.body=some code) (hn:(fn.name== "runtime.NumGoroutine")=false) (hpa:args.all pb=true) {nt:Nat} (hnt:fn.ntmps=nt) {rs:List ResultVar} (hrs:fn.results.toList=rs)
 (h:Cd P T H (.ext code) (hfin T rs K F) γ (args++List.replicate (nt-args.length) .any)):HC P f args γ K F:=by
 refine⟨⟨fn,code,hf,hb,hn⟩,fun w S vs gv c c1 hz hr hg hc=> ?_⟩;have hl:=hr.length;refine calls_of_wp hf hb (wp_mono (h [] w S (fun b=>c b+c1 b) _ w ?_) fun e a w' hq=> ?_)
 ·refine ⟨S,c,c1,gv,?_,?_,hg,hc,rfl,hz,Stp.refl w S _⟩
  ·exact qz9
  ·exact AhR
 ·exact qz8
theorem aS {x y:Code} {Q:Exit→List AV→List AV→Prop} {γ σ:List AV} (h:Cd P T H (.ext x) (Jg (Cd P T H (.ext y) Q) Q) γ σ):Cd P T H (.ext (.seq x y)) Q γ σ:=fun dfs w0 S0 c0 a w hst=>by
 refine wp_seq (wp_mono (h dfs w0 S0 c0 a w hst) fun e a w hq=> ?_);obtain⟨γ',σ',hq,hs'⟩:=hq
 cases e with
 |normal=>exact hq _ _ _ _ _ _ hs'
 |_=>exact⟨γ',σ',hq,hs'⟩
theorem aT (hT:Am P T) (hH:Cl P H) (hm:P.follows .mixedOrders=true) (A:L2) (E:List Nat) (O:Pr) {c:Code} {d:CH} {Q:Exit→List AV→List AV→Prop} {γ σ:List AV} (hd:Bm A E O c=some d) (hk:He T A E O c=true) (h:Cd P T H d Q γ σ):Cd P T H (.ext c) Q γ σ:=
 fun dfs w0 S0 c0 a w hst=>Br hT hH hm c d hd hk Q γ σ a w hst h
end
end
section
open Go.RowKit Go.Proofs
section
variable {dfs : List Deferred} {P : Program} {T : Bd} {H : Gy}
def HI (dfs:List Deferred) (w0:World) (S0 c0:Nat→Nat) (m r:Nat) (es:Array MapEntry) (clk:Nat) (seen:Array Nat) (σ:List AV) (a:Act) (w:World):Prop:=
 ∃S c,RefOk σ a.tmps.toList∧Aa w S σ a.tmps.toList c∧(∀b,c b≤1)∧a.defers=dfs∧Sz w S∧Stp w0 S0 c0 w S c∧(c m=0∧S m=0)∧(c r=0∧S r=0)∧m<w.heap.size∧r<w.heap.size∧w0.heap.size≤r∧m≠r∧
  w.heap[m]? =some (.map es clk)∧w.heap[r]? =some (.mapIter (some m) clk seen clk)
theorem HI.run {w0 w:World} {S0 c0:Nat→Nat} {m r clk:Nat} {es:Array MapEntry} {seen:Array Nat} {σ:List AV} {a:Act} {c:Code} {Q:Exit→List AV→List AV→Prop} (h:HI dfs w0 S0 c0 m r es clk seen σ a w) (hb:Cd P T H (.ext c) Q [] σ):
 c.wp P (fun e a' w'=>∃γ' σ',Q e γ' σ'∧(γ'=[]→HI dfs w0 S0 c0 m r es clk seen σ' a' w')) a w:=by
 obtain⟨S,k,hrf,hr,h1,hd,hz,hs,⟨hm1,hm2⟩,⟨hr1,hr2⟩,hml,hrl,hrw,hne,hhm,hhr⟩:=h;have hst:Ah dfs w S k [] σ a w:=⟨S,k,fun _=>0,[],hrf,hr,.nil Al,fun b=>by simpa using h1 b,hd,hz,by simpa using Stp.refl w S k⟩;refine wp_mono (hb dfs w S k a w hst) fun e a' w' ⟨γ',σ',hq,S',c',c1',gv',hrf',hr',hg',h1',hd',hz',hs'⟩=>⟨γ',σ',hq,fun hγ=> ?_⟩;subst hγ;exact AsZ
theorem HI.stop {w0 w:World} {S0 c0:Nat→Nat} {m r clk:Nat} {es:Array MapEntry} {seen:Array Nat} {σ:List AV} {a:Act} {ks:List Value} {vs:List AV} (h:HI dfs w0 S0 c0 m r es clk seen σ a w) (hm0:m<w0.heap.size→1≤c0 m)
 (hks:es.toList.map (·.key)=ks) (hbn:(es.toList.map (·.born)).Pairwise (·< ·)∧∀e∈es.toList,e.born<clk) (hvs:∀(w:World) (S:Nat→Nat),Aa w S vs (es.toList.map (·.val)) (fun _=>0)):Ah dfs w0 S0 c0 [.nmap m ks vs] σ a w:=by
 obtain⟨S,k,hrf,hr,h1,hd,hz,hs,⟨hm1,hm2⟩,⟨hr1,hr2⟩,hml,hrl,hrw,hne,hhm,hhr⟩:=h;refine⟨S,k,fun b=>if b=m then 1 else 0,[undef],hrf,hr,.nmap hhm hm2 hks hbn (hvs w S) (.nil Al) (fun x=>oS),fun b=> ?_,hd,hz,⟨hs.os,hs.tape,hs.output,hs.size,hs.keep,hs.cell,hs.le,fun b hb=> ?_⟩⟩
 ·have:=h1 b;show k b+(if b=m then 1 else 0)≤1;split
  ·rename_i e;subst e;omega
  ·omega
 ·show k b+(if b=m then 1 else 0)≤c0 b;split
  ·rename_i e;subst e;have:=hm0 hb;omega
  ·have:=hs.own b hb;omega
end
end
section
open Go.RowKit Go.Proofs
open Go.ChangeMaps (setBlock)
section
variable {dfs : List Deferred} {P : Program}
theorem aU {w w1:World} {S:Nat→Nat} {r:Nat} {ob ob':Obj} (hw:w1=w∨w1=w.drew) (hr:w.heap[r]? =some ob) (hS:S r=0):Stp w S (fun b=>if b=r then 1 else 0) (setBlock w1 r ob') S (fun b=>if b=r then 1 else 0):=by
 have hh:w1.heap=w.heap:=by rcases hw with rfl|rfl<;>rfl
 have ho:w1.os=w.os∧w1.tape=w.tape∧w1.output=w.output∧w.drawn≤w1.drawn:=by
  rcases hw with rfl|rfl
  ·exact ⟨rfl,rfl,rfl,Axu _⟩
  ·exact ⟨rfl,rfl,rfl,Nat.le_succ _⟩
 have hb:∀b,b≠r→(setBlock w1 r ob').heap[b]? =w.heap[b]? :=fun b hb=>by show(w1.heap.setIfInBounds r ob')[b]? =_;rw[hh,Array.getElem?_setIfInBounds_ne om]
 refine⟨ho.1,ho.2.1,⟨ho.2.2.1,fun _=>ho.2.2.2⟩,by show _≤(w1.heap.setIfInBounds r ob').size;rw[hh];simp,fun b hlt h0=> ?_,fun b o h=> ?_,fun _=>Axu _,fun _ _=>Axu _⟩
 ·refine ⟨hb b fun e=> ?_,rfl⟩;simp only[e,if_true]at h0;omega
 ·have hne:b≠r:=fun e=>by rw[e,hS]at h;omega
  unfold World.cell?;simp only[hb b hne]
theorem HI.next {w0 w:World} {S0 c0:Nat→Nat} {m r clk it:Nat} {es:Array MapEntry} {seen:Array Nat} {σ:List AV} {a:Act} {o:Oper} {Q:Exit→Act→World→Prop} (ho:o.op=.next (.tmp it) false) (hit:σ.getD it .any=.raw (.pointer (some ⟨r,0,none⟩))) (h:HI dfs w0 S0 c0 m r es clk seen σ a w) (hold:∀e∈es.toList,e.born<clk):
 o.wp P a w (fun a' w'=>((leftOf es seen).size=0∧HI dfs w0 S0 c0 m r es clk seen (aset σ o.dst (.tup [.raw (.bool false)])) a' w')∨∃e∈(leftOf es seen).toList,HI dfs w0 S0 c0 m r es clk (seen.push e.born) (aset σ o.dst (.tup [.raw (.bool true),.any,.any])) a' w') Q:=by
 obtain⟨S,k,hrf,hr,h1,hd,hz,hs,⟨hm1,hm2⟩,⟨hr1,hr2⟩,hml,hrl,hrw,hne,hhm,hhr⟩:=h;have he:a.eval (.tmp it)=.pointer (some ⟨r,0,none⟩):=by have hst:Ah dfs w S k [] σ a w:=⟨S,k,fun _=>0,[],hrf,hr,.nil Al,fun b=>by simpa using h1 b,hd,hz,by simpa using Stp.refl w S k⟩;exact hst.raw hit
 rcases run_next_at (P:=P) w o.type r m clk clk seen es clk hhr hhm hold (Axu _)with⟨h0,hrun⟩|⟨e,hel,w1,hal,hrun⟩
 ·obtain ⟨c4,h2,h3⟩:=hr.aset (y:=.tup [.raw (.bool false)]) (u:=.tuple #[.bool false]) (Aa.tup (c1:=fun _=>0) (.raw rfl (.nil Al)) (.nil Al) (fun b=>rfl)) o.dst;refine Ao (w':=w) (v:=.tuple #[.bool false]) ?_ (.inl ⟨h0,S,c4,hrf.aset _ _ rfl,h2,fun b=>by have:=h1 b;have:=h3 b;omega,by rw[put_defers];exact hd,hz,hs.drop fun b=>by have:=h3 b;omega,⟨by have:=h3 m;omega,hm2⟩,⟨by have:=h3 r;omega,hr2⟩,hml,hrl,hrw,hne,hhm,hhr⟩);exact Aax
 ·have hk:=aU (w:=w) (S:=S) (ob':=.mapIter (some m) clk (seen.push e.born) clk) hal hhr hr2;have hr':=hr.step hk (fun b=>by have:=h1 b;show k b+(if b=r then 1 else 0)≤1;split<;>first|(rename_i e;subst e;omega)|omega);obtain⟨c4,h2,h3⟩:=hr'.aset (y:=.tup [.raw (.bool true),.any,.any]) (u:=.tuple #[.bool true,e.key,e.val]) (Aa.tup (c1:=fun _=>0) (.raw rfl (.any (.any (.nil Al)))) (.nil Al) (fun b=>rfl)) o.dst;have hh:w1.heap=w.heap:=by rcases hal with rfl|rfl<;>rfl
  have hsz:(setBlock w1 r (.mapIter (some m) clk (seen.push e.born) clk)).heap.size=w.heap.size:=by show(w1.heap.setIfInBounds _ _).size=_;rw[hh];simp
  have hz':Sz (setBlock w1 r (.mapIter (some m) clk (seen.push e.born) clk)) S:=hz.stp hk fun b hb=>hz b (by rw[hsz]at hb;exact hb)
  have hs2:Stp w0 S0 c0 (setBlock w1 r (.mapIter (some m) clk (seen.push e.born) clk)) S c4:=by
   refine⟨hk.os.trans hs.os,hk.tape.trans hs.tape,⟨hk.output.1.trans hs.output.1,fun e=>Ax1 (hs.output.2 e) (hk.output.2 e)⟩,by rw[hsz];exact hs.size,fun b hb h0=> ?_,fun b o h=> ?_,hs.le,fun b hb=> ?_⟩
   ·obtain ⟨g1,g2⟩:=hs.keep b hb h0;obtain⟨g3,_⟩:=hk.keep b (Aym hb hs.size) (by rw[if_neg];omega);exact⟨g3.trans g1,g2⟩
   ·rw [hk.cell b o (Aym h (hs.le b)),hs.cell b o h]
   ·have:=h3 b;have:=hs.own b hb;omega
  refine Ao (w':=setBlock w1 r (.mapIter (some m) clk (seen.push e.born) clk)) (v:=.tuple #[.bool true,e.key,e.val]) ?_ (.inr ⟨e,hel,S,c4,hrf.aset _ _ rfl,h2,fun b=>by have:=h1 b;have:=h3 b;omega,by rw[put_defers];exact hd,hz',hs2,⟨by have:=h3 m;omega,hm2⟩,⟨by have:=h3 r;omega,hr2⟩,by rw[hsz];exact hml,by rw[hsz];exact hrl,hrw,hne,?_,?_⟩)
  ·exact Aax
  ·rw [(hk.keep m hml (by rw[if_neg hne])).1];exact hhm
  ·show (w1.heap.setIfInBounds r _)[r]? =_;rw[hh];simp [hrl]
end
end
section
open Go.RowKit Go.Proofs
open Go.ChangeMaps (setBlock)
section
variable {dfs : List Deferred} {P : Program}
theorem HI.entry {w0 w:World} {S0 c0:Nat→Nat} {m r clk it:Nat} {es:Array MapEntry} {seen:Array Nat} {e:MapEntry} {σ:List AV} {a:Act} {o:Oper} {Q:Exit→Act→World→Prop} (ho:o.op=.entry (.tmp it)) (hit:σ.getD it .any=.raw (.pointer (some ⟨r,0,none⟩))) (h:HI dfs w0 S0 c0 m r es clk (seen.push e.born) σ a w)
 (he:e∈es.toList) (hn:(es.toList.map (·.born)).Nodup) (h1:e.key.oneCell'=true) (h2:e.val.oneCell'=true):
 o.wp P a w (fun a' w'=>HI dfs w0 S0 c0 m r es clk (seen.push e.born) (aset σ o.dst (.tup [.raw e.key,.raw e.val])) a' w') Q:=by
 obtain⟨S,k,hrf,hr,h1',hd,hz,hs,⟨hm1,hm2⟩,⟨hr1,hr2⟩,hml,hrl,hrw,hne,hhm,hhr⟩:=h;have hev:a.eval (.tmp it)=.pointer (some ⟨r,0,none⟩):=by have hst:Ah dfs w S k [] σ a w:=⟨S,k,fun _=>0,[],hrf,hr,.nil Al,fun b=>by simpa using h1' b,hd,hz,by simpa using Stp.refl w S k⟩;exact hst.raw hit
 have hrun:=run_entry_at (P:=P) w r m clk seen es clk e hhr hhm he hn;obtain⟨c4,g2,g3⟩:=hr.aset (y:=.tup [.raw e.key,.raw e.val]) (u:=.tuple #[e.key,e.val]) (Aa.tup (c1:=fun _=>0) (.raw h1 (.raw h2 (.nil Al))) (.nil Al) (fun b=>rfl)) o.dst;refine Ao (w':=w) (v:=.tuple #[e.key,e.val]) ?_ ⟨S,c4,hrf.aset _ _ rfl,g2,fun b=>by have:=h1' b;have:=g3 b;omega,by rw[put_defers];exact hd,hz,hs.drop fun b=>by have:=g3 b;omega,⟨by have:=g3 m;omega,hm2⟩,⟨by have:=g3 r;omega,hr2⟩,hml,hrl,hrw,hne,hhm,hhr⟩;exact AnA
theorem HI.start {w0 w:World} {S0 c0:Nat→Nat} {m mt q kt et:Nat} {ks:List Value} {vs:List AV} {σ:List AV} {a:Act} {o:Oper} {Q:Exit→Act→World→Prop} (ho:o.op=.range mt (.tmp q)) (hmt:P.underlying mt=some (.map kt et)) (hq:σ.getD q .any=.raw (.map (some m))) (hst:Ah dfs w0 S0 c0 [.nmap m ks vs] σ a w):
 o.wp P a w (fun a' w'=>∃r es clk,HI dfs w0 S0 c0 m r es clk #[] (aset σ o.dst (.raw (.pointer (some ⟨r,0,none⟩)))) a' w'∧es.toList.map (·.key)=ks∧((es.toList.map (·.born)).Pairwise (·< ·)∧∀e∈es.toList,e.born<clk)∧(∃S d,Aa w S vs (es.toList.map (·.val)) d)∧(m<w0.heap.size→1≤c0 m)) Q:=by
 have hev:=hst.raw hq;obtain⟨S,c,c1,gv,hrf,hr,hg,h1,hdf,hz,hs⟩:=hst;obtain⟨es,clk,d1,c2,hb,hSm,hkeys,hborn,hvs,hrest,hcc,_⟩:=Ah.takeMap hg (gi:=0) rfl
 have hml:m<w.heap.size:=by
  rcases Axz m w.heap.size with h|h
  ·exact h
  ·rw [Array.getElem?_eq_none h]at hb;cases hb
 have hS0:upd S w.heap.size 0=S:=by funext x;unfold upd;split<;>simp_all [hz.z]
 have hk:=Stp.alloc (w:=w) (S:=S) (c:=fun _=>0) hz (.mapIter (some m) clk #[] clk) 0;rw[hS0]at hk;have hz2:=hz.alloc (.mapIter (some m) clk #[] clk) 0;rw[hS0]at hz2;have hn:c w.heap.size=0:=by exact Ana
 have hr2:=hr.step hk (fun b=>by have:=h1 b;show c b+0≤1;omega);have hm1:c m=0:=by have:=h1 m;have:=hcc m;simp at this;omega
 obtain⟨c4,g2,g3⟩:=hr2.aset (.raw (v:=.pointer (some ⟨w.heap.size,0,none⟩)) rfl (.nil Al)) o.dst;have hsz:(w.alloc (.mapIter (some m) clk #[] clk)).heap.size=w.heap.size+1:=oS;have hrun:(execOp a.eval o).run P w=.ok (.value (.pointer (some ⟨w.heap.size,0,none⟩))) (w.alloc (.mapIter (some m) clk #[] clk)):=by unfold execOp;simp [ho,hev,Instr.range,getObj,newObj,Sem.run,Sem.run_bind,run_underlying hmt,hb]
 refine Ao hrun ⟨w.heap.size,es,clk,⟨S,c4,hrf.aset _ _ rfl,g2,fun b=>by have:=h1 b;have:=g3 b;omega,by rw[put_defers];exact hdf,hz2,?_,⟨by have:=g3 m;omega,hSm⟩,⟨by have:=g3 w.heap.size;omega,hz.z _ (Axu _)⟩,by rw[hsz];omega,by rw[hsz];omega,hs.size,om,?_,heap_alloc_new w _⟩,hkeys,hborn,⟨S,d1,hvs⟩,fun hlt=> ?_⟩
 ·have hk3:Stp w S (fun b=>c b+c1 b) (w.alloc (.mapIter (some m) clk #[] clk)) S (fun x=>(if x=w.heap.size then 1 else 0)+(c x+c1 x)):=by
   have:=Stp.alloc (w:=w) (S:=S) (c:=fun b=>c b+c1 b) hz (.mapIter (some m) clk #[] clk) 0;rw[hS0]at this;exact this
  refine(hs.trans hk3).drop fun b=> ?_;have:=g3 b;show c4 b≤(if b=w.heap.size then 1 else 0)+(c b+c1 b);omega
 ·have:=(hk.keep m hml rfl).1;exact this.trans hb
 ·have e1:=hs.own m hlt;have e2:=hcc m;simp at e2;omega
end
end
section
open Go.RowKit Go.Proofs
section
variable {dfs : List Deferred} {P : Program} {T : Bd} {H : Gy}
theorem HI.open {w0 w:World} {S0 c0:Nat→Nat} {m r clk:Nat} {es:Array MapEntry} {seen:Array Nat} {σ:List AV} {a:Act} (h:HI dfs w0 S0 c0 m r es clk seen σ a w):
 ∃S k,Ah dfs w S k [] σ a w∧∀σ' a' w',Ah dfs w S k [] σ' a' w'→HI dfs w0 S0 c0 m r es clk seen σ' a' w':=by
 obtain⟨S,k,hrf,hr,h1,hd,hz,hs,⟨hm1,hm2⟩,⟨hr1,hr2⟩,hml,hrl,hrw,hne,hhm,hhr⟩:=h;refine⟨S,k,⟨S,k,fun _=>0,[],hrf,hr,.nil Al,fun b=>by simpa using h1 b,hd,hz,by simpa using Stp.refl w S k⟩,fun σ' a' w' ⟨S',c',c1',gv',hrf',hr',hg',h1',hd',hz',hs'⟩=> ?_⟩;exact AsZ
theorem HI.wk {w0 w:World} {S0 c0:Nat→Nat} {m r clk:Nat} {es:Array MapEntry} {seen:Array Nat} {σ σ':List AV} {a:Act} (h:HI dfs w0 S0 c0 m r es clk seen σ a w) (hw:Wk σ σ'):HI dfs w0 S0 c0 m r es clk seen σ' a w:=by obtain⟨S,k,h1,h2⟩:=h.open;exact h2 _ _ _ (h1.wk hw)
theorem HI.ops {w0 w:World} {S0 c0:Nat→Nat} {m r clk:Nat} {es:Array MapEntry} {seen:Array Nat} {σ:List AV} {a:Act} {ops:Array Oper} {Q:Exit→Act→World→Prop} {K:List AV→Prop} (hT:Am P T) (hH:Cl P H) (l:List Nat) (os:List Oper) (cs:List CO)
 (hl:l.map (ops[·]?)=os.map some) (hcs:B2 ops os=some cs) (h:HI dfs w0 S0 c0 m r es clk seen σ a w) (hb:E7 P T H ovN [] (fun γ σ=>γ=[]∧K σ) (fun _ _ _=>False) cs [] σ)
 (hQ:∀σ' a' w',K σ'→HI dfs w0 S0 c0 m r es clk seen σ' a' w'→Q .normal a' w'):wpOps P ops Q l a w:=by
 obtain⟨S,k,h1,h2⟩:=h.open;exact Ix hT hH (T8 P) l os cs [] σ a w hl hcs h1 hb (fun γ σ' a' w' hs hK=>by obtain⟨rfl,hK⟩:=hK;exact hQ σ' a' w' hK (h2 _ _ _ hs)) (fun v γ σ' a' w' hE _=>hE.elim)
end
end
section
open Go.RowKit Go.Proofs
section
variable {dfs : List Deferred}
theorem Ni {P:Program} {T:Bd} {H:Gy} {ov:Op→List AV→Option Value} {fz:List Nat} {w0:World} {S0 c0:Nat→Nat} {Q:Exit→Act→World→Prop} (hT:Am P T) (hH:Cl P H) (hO:AgS P ov) (l2:List Nat) {ops:Array Oper} {K:List AV→List AV→Prop} {E:Value→List AV→List AV→Prop}:
 ∀(l:List Nat) (os:List Oper) (cs:List CO) (γ σ:List AV) (a:Act) (w:World),l.map (ops[·]?)=os.map some→B2 ops os=some cs→Ah dfs w0 S0 c0 γ σ a w→E7 P T H ov fz K E cs γ σ→
  (∀γ σ a' w',Ah dfs w0 S0 c0 γ σ a' w'→K γ σ→wpOps P ops Q l2 a' w')→(∀v γ σ a' w',E v γ σ→Ah dfs w0 S0 c0 γ σ a' w'→Q (.panic [{v:=v,recovered:=false}]) a' w')→wpOps P ops Q (l++l2) a w
 |[],os,cs,γ,σ,a,w,hl,hcs,hst,h,hQ,hE=>by exact AhX
 |i::l,[],cs,γ,σ,a,w,hl,hcs,hst,h,hQ,hE=>by simp at hl
 |i::l,o::os,cs,γ,σ,a,w,hl,hcs,hst,h,hQ,hE=>by
  simp only[Axx,List.cons.injEq]at hl;obtain⟨ho,hl⟩:=hl;simp only[B2]at hcs;split at hcs
  ·rename_i g r hg hr;injection hcs with hcs;subst hcs;have rest:∀γ σ a w,Ah dfs w0 S0 c0 γ σ a w→E7 P T H ov fz K E r γ σ→wpOps P ops Q (l++l2) a w:=fun γ σ a w hst h=>Ni hT hH hO l2 l os r γ σ a w hl hr hst h hQ hE;simp only[Ax4,wpOps,ho];exact AsP
  ·cases hcs
end
section
variable {dfs : List Deferred} {P : Program} {T : Bd} {H : Gy}
end
end
end Go.Proofs.YtmophjggmekoeaaGreatDoor
