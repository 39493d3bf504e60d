/- All, of the code. -/
import Derived.Test.YtmophjggmekoeaaGreatDoorC29
set_option linter.all false
set_option maxRecDepth 100000
set_option maxHeartbeats 4000000
namespace Go.Proofs.YtmophjggmekoeaaGreatDoor
section
open Go.RowKit Go.Proofs
def oQ (l:List E5):List Ac:=(l.filter Aq).map B0
def Fa (L:List A2):List Ac:=dst (oQ (Zj L))
theorem AgG {l:List E5} {k:Nat} {a:E5} (h:l[k]? =some a):oQ (l.take (k+1))=oQ (l.take k)++if Aq a=true then[B0 a]else[]:=by rw[Ax9,h];unfold oQ;rw[AyP,AxJ];congr 1;cases hv:Aq a<;>simp [hv]
theorem Zp (l:List E5):(oQ l).length≤l.length:=by unfold oQ;rw[Axp];exact AyE _ _
theorem ArT (L:List A2) (t:Ac) (h:L.length≤10000):oP L t≤10000:=by have:=Lg t L;unfold oP;omega
theorem gQ (L:List A2) (tm:List AV):Ab Tryz.prog 43 [stA L tm] (fun r=>r=.clo 71 [.elt (.agg [.sl 8 (L.map Dx),.sl 2 tm])]):=by simp only[stA];refine A9 [(1,[1],[])] Bo Cq Tryz.func43 oD oK (by simp only[Tryz.f43,go_sem,reduceIte];rfl) Tryz.ntmps43 Tryz.results43 ⟨_,rfl⟩ rfl ?_;simp only[LS,Nat.reduceAdd,Nat.reduceSub];exact Atp
theorem AuO (L:List A2) (tm:List AV) (hl:L.length≤10000) (hs:∀s∈L,Ki s) (ht:∀s∈L,s.tp.length≤1000) (he:∀s∈L,Aly s) (hT:(Bp L).length≤1000000000) (hA:(Cs L).length≤1000000000) (hZ:(Zj L).length≤10000000):
 Ab Tryz.prog 17 [stA L tm] (fun r=>r=.own 9 1 ((Fa L).map str)):=by
 simp only[stA];refine Fw [(7,[200003],[])] [] [4,5,6,9,10,11,12,13,14,15,16,17,18,19,20] Bo Cq Tryz.func17 oD oK (by simp only[Tryz.f17,go_sem,reduceIte,reduceCtorEq];rfl) Tryz.ntmps17 Tryz.results17 ⟨_,rfl⟩ rfl ?_;skip;simp only[LS,Nat.reduceAdd,Nat.reduceSub];refine Z0 ?_;refine((gQ L tm).wk ?_).mono ?_
 ·simp only[stA];exact Zw
 rintro r rfl;refine Z0 ?_;have hi:=yY L tm hl hs ht he hT hA;obtain⟨Z,hX⟩:∃Z,Zj L=Z:=⟨_,rfl⟩;have hYX:adY L=fun k args=>∃a,Z[k]? =some a∧args=[Dk a]:=by funext k args;simp only[adY,hX]
 unfold Fa;rw[hYX]at hi;rw[hX]at hi hZ⊢;refine H1 (rl [3,4,2,12]) [3] (fun k xs=>xs=[.box 30 [.mine 9 1 ((oQ (Z.take k)).map str)]]) (Axu 25) ?_ hi ?_ ?_ ?_
 ·exact Ho
 ·refine ⟨_,rfl,?_⟩;simp only[PU];simp only[AxI,oQ,List.filter_nil,Axv];exact jF
 ·rintro k args xs ⟨a,hk,rfl⟩ rfl;refine⟨rfl,rfl,?_⟩;have hlk:k<Z.length:=(List.getElem?_eq_some_iff.1 hk).1;have hfl:=Zp (Z.take k);rw[AxC]at hfl;have hsn:=AgG hk;obtain⟨G,hG⟩:∃G,oQ (Z.take k)=G:=⟨_,rfl⟩;rw[hG]at hfl hsn;rw[hG];simp only[Dk,num,str,Ai];simp only[PU];repeat' first|refine Aj.on (fun _=>?_) (fun _=>?_)|with_reducible refine gd ?_|simp only[go_sem,DT,Int.reduceEq,Int.cast_ofNat_Int,Ae,ne_eq,Nat.reduceEqDiff,not_false_eq_true,Axp,Axp]
  refine((Gr a).wk ?_).mono ?_
  ·simp only[Dk,num,str];exact Zw
  rintro r rfl;cases hv:Aq a
  ·simp only[Er,hv,Ax0,if_false,num,str];refine Zu ?_;refine L6 [.box 30 [.mine 9 1 ((oQ (Z.take (k+1))).map str)]] rfl ?_;rw[hsn,hv];simp only[Ax0,if_false,AxF];simp only[PU];exact jF
  ·simp only[Er,hv,if_true,num,str];refine Zu ?_;refine L6 [.box 30 [.mine 9 1 ((oQ (Z.take (k+1))).map str)]] rfl ?_;rw[hsn,hv];simp only[if_true,AxJ,Axx,Axv,str];simp only[PU];exact jF
 ·rintro xs rfl;simp only[PU];rw[Ay0];have hfl:=Zp Z;refine Z0 ?_;refine B9.mono (AgB (oQ Z) om) ?_;rintro r y ⟨rfl,rfl⟩;refine Z0 ?_;refine(P6 _ (by rw[AyD];omega)).mono ?_;rintro r rfl;exact Atp
end
section
open Go.RowKit Go.Proofs
structure StG (L:List A2) (T:List (Ac×Ac)):Prop where
 len':L.length≤1000
 tp':∀s∈L,s.tp.length≤10
 ed:∀s∈L,s.ed.length≤100
 id:∀s∈L,Kg s.id
 tn:∀s∈L,∀t∈s.tp,t.length≤1000
 an:∀s∈L,s.au.length≤1000
 eo:∀s∈L,Aly s
 en:∀s∈L,∀e∈s.ed,(edl e).length≤1000000000
 tl:T.length≤100000
 tt:∀t∈T,t.2.length≤100000
section
variable {L : List A2} {T : List (Ac × Ac)} (G : StG L T)
include G
theorem StG.len:L.length≤10000:=Ax1 G.len' om
theorem StG.tp:∀s∈L,s.tp.length≤1000:=fun s hs=>Ax1 (G.tp' s hs) om
theorem StG.ok:∀s∈L,Ki s:=fun s hs=>⟨by have:=G.tp' s hs;omega,by have:=G.ed s hs;omega⟩
theorem AgH (v:Ac):∀i∈(Cr v L).map (·.id),Kg i:=fun i hi=>by obtain⟨s,hs,rfl⟩:=AxB.1 hi;exact G.id s (AgD _ _ _ hs)
theorem Al2 (v:Ac):(Cr v L).length≤10000:=Ax1 (Lg v L) G.len
end
def Mf (L:List A2) (t:Ac) (n:Int):Ac:=Aon (((Cr t L).map (·.id)).take n.toNat)
def Zq (L:List A2):Ac:=Lib.join (Bp L) [44,32]
def T6 (L:List A2):Ac:=Lib.join (Cs L) [44,32]
section
variable {L : List A2} {T : List (Ac × Ac)} (G : StG L T)
include G
theorem yZ (a b:Ac):Ab Tryz.prog 101 [str a,str b,.elt (.agg [.sl 8 (L.map Dx),.sl 2 (T.map Be)])] (fun r=>r=str (Nh T a)):=by
 refine HC.plain (Zt [] [] [] Tryz.func101 ?_) ⟨_,rfl⟩;refine HC.wk (HC.old (oO L T a (Ax1 G.tl om) (fun t ht=>Ax1 (G.tt t ht) om)) ?_) ?_;rotate_left
 ·exact qS
 exact Ij
theorem oR (n:Int) (t:Ac):Ab Tryz.prog 108 [num n,.elt (.agg [.sl 8 (L.map Dx),.sl 2 (T.map Be)]),.elt (.agg [str t])] (fun r=>r=str (Mf L t n)):=by
 refine HC.plain (Zt [] [] [] Tryz.func108 ?_) ⟨_,rfl⟩;refine HC.wk (HC.old (Ag2 L (T.map Be) t n (Ax1 G.len om) G.ok) ?_) ?_;rotate_left
 ·exact qS
 rintro r rfl;refine Zn ?_;refine HC.wk (HC.old (Ag5 (((Cr t L).map (·.id)).take n.toNat) (by have:=Al2 G t;simp;omega) (fun i hi=>AgH G _ i (AxK hi))) ?_) ?_;rotate_left
 ·exact Qv
 exact Ij
end
end
section
open Go.RowKit Go.Proofs
theorem gR {L:List A2} {t:Ac}:t∈Bp L↔∃s∈L,D8 s=true∧t∈s.tp:=by rw[T3,(Dw _).2];simp only[List.mem_flatMap,Ayj];exact⟨fun⟨s,⟨h1,h2⟩,h3⟩=>⟨s,h1,h2,h3⟩,fun⟨s,h1,h2,h3⟩=>⟨s,⟨h1,h2⟩,h3⟩⟩
theorem gS {L:List A2} {t:Ac}:t∈Cs L↔∃s∈L,D8 s=true∧t=s.au:=by rw[T4,(Dw _).2];simp only[AxB,Ayj];exact⟨fun⟨s,⟨h1,h2⟩,h3⟩=>⟨s,h1,h2,h3.symm⟩,fun⟨s,h1,h2,h3⟩=>⟨s,⟨h1,h2⟩,h3.symm⟩⟩
theorem Jl {α β:Type} {f:α→List β} {c:Nat}:∀{l:List α},(∀x∈l,(f x).length≤c)→(l.flatMap f).length≤c*l.length
 |[],_=>by simp
 |x::l,h=>by have h1:=Jl (l:=l) fun y hy=>h y (by simp [hy]);have h2:=h x oS;rw[List.flatMap_cons,Axs,Axr,Nat.mul_add,Ay3];omega
def gT (L:List A2) (T:List (Ac×Ac)):List AV:=[.agg [str [116,101,109,112,108,97,116,101],num 2,.clo 101 [.elt (.agg [.sl 8 (L.map Dx),.sl 2 (T.map Be)])]],.agg [str [115,116,111,114,121],num 3,.clo 103 [.elt (.agg [.sl 8 (L.map Dx),.sl 2 (T.map Be)])]],.agg [str [108,97,116,101,115,116],num 3,.clo 107 [.elt (.agg [.sl 8 (L.map Dx),.sl 2 (T.map Be)])]],.agg [str [112,97,103,101],num 3,.clo 111 [.elt (.agg [.sl 8 (L.map Dx),.sl 2 (T.map Be)])]],.agg [str [98,121],num 2,.clo 113 [.elt (.agg [.sl 8 (L.map Dx),.sl 2 (T.map Be)])]],.agg [str [114,101,108,97,116,101,100],num 3,.clo 115 [.elt (.agg [.sl 8 (L.map Dx),.sl 2 (T.map Be)])]],.agg [str [116,111,112,105,99,115],num 1,.clo 119 [.elt (.agg [.sl 8 (L.map Dx),.sl 2 (T.map Be)])]],.agg [str [97,117,116,104,111,114,115],num 1,.clo 121 [.elt (.agg [.sl 8 (L.map Dx),.sl 2 (T.map Be)])]],.agg [str [99,111,117,110,116],num 2,.clo 122 [.elt (.agg [.sl 8 (L.map Dx),.sl 2 (T.map Be)])]]]
structure Av5 (L:List A2) (T:List (Ac×Ac)) (sf:Int→Ac→Ac):Prop where
 call:∀(i:Int) (b:Ac),Kg i→b.length≤1000000→Ab Tryz.prog 106 [stA L (T.map Be),num i,str b] (fun r=>r=str (sf i b))
 len:∀i b,(sf i b).length≤1000000
section
variable {L : List A2} {T : List (Ac × Ac)} {sf : Int → Ac → Ac} (G : StG L T)
include G
theorem Mg:(Bp L).length≤10000:=by rw[T3];refine Ax1 (Rj _) ?_;have h1:=Jl (l:=L.filter D8) (f:=(·.tp)) (c:=10) fun s hs=>G.tp' s (Ayj.1 hs).1;have h2:=AyE D8 L;have:=G.len';omega
theorem Mh:(Cs L).length≤10000:=by rw[T4];refine Ax1 (Rj _) ?_;rw[Axp];exact Ax1 (AyE D8 L) G.len
theorem zB:(Zq L).length≤10020000000:=by have h1:=Mg G;have h2:=Ou (sep:=[44,32]) (c:=1000) (zs:=Bp L) (fun t ht=>by obtain⟨s,hs,_,h3⟩:=gR.1 ht;exact G.tn s hs t h3);have:(Zq L).length≤(Bp L).length*1002:=h2;omega
theorem oT:(T6 L).length≤10020000:=by have h1:=Mh G;have h2:=Ou (sep:=[44,32]) (c:=1000) (zs:=Cs L) (fun t ht=>by obtain⟨s,hs,_,rfl⟩:=gS.1 ht;exact G.an s hs);have:(T6 L).length≤(Cs L).length*1002:=h2;omega
theorem zC (a b:Ac):Ab Tryz.prog 119 [str a,str b,.elt (.agg [.sl 8 (L.map Dx),.sl 2 (T.map Be)])] (fun r=>r=str (Zq L)):=by
 refine HC.plain (Zt [] [] [] Tryz.func119 ?_) ⟨_,rfl⟩;refine HC.wk (HC.old (gO L (T.map Be) G.len G.ok G.tp) ?_) ?_;rotate_left
 ·exact qS
 rintro r rfl;refine Zn ?_;have htl:=Mg G;have htb:=zB G;refine HC.wk (HC.old (Y0 (Bp L) [44,32] om (by have:(Lib.join (Bp L) [44,32]).length≤10020000000:=htb;omega)) ?_) ?_;rotate_left
 ·exact Qv
 exact Ij
theorem zD (a b:Ac):Ab Tryz.prog 121 [str a,str b,.elt (.agg [.sl 8 (L.map Dx),.sl 2 (T.map Be)])] (fun r=>r=str (T6 L)):=by
 refine HC.plain (Zt [] [] [] Tryz.func121 ?_) ⟨_,rfl⟩;refine HC.wk (HC.old (W2 L (T.map Be) G.len G.ok) ?_) ?_;rotate_left
 ·exact qS
 rintro r rfl;refine Zn ?_;have htl:=Mh G;have htb:=oT G;refine HC.wk (HC.old (Y0 (Cs L) [44,32] om (by have:(Lib.join (Cs L) [44,32]).length≤10020000:=htb;omega)) ?_) ?_;rotate_left
 ·exact Qv
 exact Ij
theorem zF (a b:Ac) (hb:b.length≤1000000):Ab Tryz.prog 107 [str a,str b,.elt (.agg [.sl 8 (L.map Dx),.sl 2 (T.map Be)])] (fun r=>r=str (Iw b fun i=>Mf L a i)):=by
 refine HC.plain (Zt [(1,[3],[])] [] [] Tryz.func107 ?_) ⟨_,rfl⟩;refine HC.wk (HC.old (oN b 108 [.elt (.agg [.sl 8 (L.map Dx),.sl 2 (T.map Be)]),.elt (.agg [str a])] (fun i=>Mf L a i) hb (fun n h1 h2=>oR G n a)) ?_) ?_;rotate_left
 ·exact Qv
 exact Ij
omit G in
theorem Al3:Ab Tryz.prog 70 [stA L (T.map Be)] (fun r=>r=.sl 3 (gT L T)):=by simp only[stA,gT];refine HC.plain (Zt [(1,[1],[])] [] [] Tryz.func70 ?_) ⟨_,rfl⟩;refine⟨_,_,?_,rfl,Gw.refl _,rfl,rfl⟩;exact W1.ownsl _ _ _
end
end
section
open Go.RowKit Go.Proofs
section
variable {L : List A2} {T : List (Ac × Ac)} {sf : Int → Ac → Ac} (G : StG L T)
include G
omit G in
theorem AuP {s p:Ac} (h:Lib.hasPrefix s p=true):p.length≤s.length:=by rw[←Lib.hasPrefix_of_take,Ax3]at h;exact of_decide_eq_true h.1
omit G in
theorem T7 (sep:Ac):∀(k:Nat) (s:Ac),(Lib.splitK sep 0 k s).length≤k+1
 |0,s=>by rw[Lib.splitK];simp
 |k+1,s=>by
  rw[Lib.splitK];split
  ·simp
  ·have:=T7 sep k;simp only[Axr];exact Nat.succ_le_succ (this _)
theorem AgI:(Zj L).length≤1000000:=by
 have h1:=Jl (l:=Bp L) (f:=Uq L) (c:=65) fun t _=>by
  unfold Uq;split
  ·simp;omega
  ·simp
 have h2:=Jl (l:=L) (f:=I5) (c:=100) fun s hs=>by
  unfold I5;split
  ·simp
  ·rw [Axp];exact G.ed s hs
 have:=Mg G;have:=Mh G;have:=G.len';simp only[Zj,Axs,Axp,Axr,Axq];omega
theorem Zr:(Fa L).length≤1000000:=by have:=Rj (oQ (Zj L));have:=Zp (Zj L);have:=AgI G;unfold Fa;omega
theorem ArU:Ab Tryz.prog 17 [stA L (T.map Be)] (fun r=>r=.sl 1 ((Fa L).map str)):=by have:=Mg G;have:=Mh G;have:=AgI G;refine(AuO L (T.map Be) G.len G.ok G.tp G.eo om om om).wkr ?_;exact AaP
theorem oU (a:Ac):Ab Tryz.prog 69 [stA L (T.map Be),str a] (fun r=>r=str (if a∈Fa L then[49]else[])):=by
 have hl:=Zr G;have hall:=ArU G;simp only[stA]at *;refine HC.plain (HC.weak ?_) ⟨_,rfl⟩;refine B3 [] [] [] Bo Dv Cq Tryz.func69 oD oK (by simp only[Tryz.f69,go_sem,reduceIte];rfl) Tryz.ntmps69 Tryz.results69 rfl ?_;simp only[LS,Nat.reduceAdd,Nat.reduceSub];repeat' first|refine Aj.on (fun _=>?_) (fun _=>?_)|with_reducible refine gd ?_|simp only[go_sem]
 refine HC.old hall ?_;rintro r rfl;generalize Fa L=l at *;repeat' first|refine Aj.on (fun _=>?_) (fun _=>?_)|with_reducible refine gd ?_|simp only[go_sem]
 refine Ax [false,false,false,false,false,false,true,false,false,false,false,true,true,true,true,true,true,true] [10] (fun m xs γ=>γ=[]∧∃i,i+m=l.length∧xs=[num i]∧a∉l.take i) ⟨l.length,_,_,⟨rfl,0,om,rfl,oS⟩,hent (Gw.refl _) ?_⟩ ?_
 ·simp only[PU];exact Rt
 ·rintro m xs γ ⟨rfl,i,hi,rfl,hn⟩;simp only[PU];by_cases hlt:i<l.length;rotate_left
  ·have ej:=eq_false (show¬(i:Int)<(l.length:Int) by omega);rw[Axw om]at hn;repeat' first|refine Aj.on (fun _=>?_) (fun _=>?_)|with_reducible refine gd ?_|simp only[go_sem,ej,Axp]
   rw[if_neg hn];exact Qu
  have ej:=eq_true (show(i:Int)<(l.length:Int) by omega);have hg:(l.map str).getD i .any=str l[i]:=by simp [Axy,hlt]
  simp only[str]at hg;by_cases he:l[i]=a
  ·have e1:(l[i]==a)=true:=by simpa using he
   repeat' first|refine Aj.on (fun _=>?_) (fun _=>?_)|with_reducible refine gd ?_|simp only[go_sem,ej,Axp,hg,e1]
   rw[if_pos (show a∈l from he▸Ayz _)];exact Qu
  have e1:(l[i]==a)=false:=by simpa using he
  have hw:IntKind.i64.wrap ((i:Int)+1)=((i+1:Nat):Int):=Eu om;repeat' first|refine Aj.on (fun _=>?_) (fun _=>?_)|with_reducible refine gd ?_|simp only[go_sem,ej,Axp,hg,e1,hw]
  refine Au (m-1) _ _ om ⟨rfl,i+1,om,rfl,?_⟩ (hent (Gw.refl _) ?_)
  ·rw [Ayv hlt,Ax5,Ax6];rintro(h|h)
   ·exact hn h
   ·exact he h.symm
  ·simp only[PU];exact Rt
omit G in
def Dy (key:Ac):List Ac:=Lib.splitK [47] 0 (min 4 (key.length+1)-1) key
omit G in
theorem zG (key:Ac):0<(Dy key).length:=by
 unfold Dy
 cases (min 4 (key.length+1)-1)with
 |zero=>simp [Lib.splitK]
 |succ k=>rw[Lib.splitK];split<;>simp
omit G in
theorem W3 (ps:List Ac) (i:Nat) (hi:i<ps.length+2):(ps.map str++[str [],str []]).getD i .any=str ((ps++[[],[]]).getD i []):=by have:ps.map str++[str [],str []]=(ps++[[],[]]).map str:=oS;rw[this,Axy,Axy,List.getElem?_map,List.getElem?_eq_getElem (by simpa using hi)];rfl
omit G in
def fmW:List (Ac×Nat×Nat):=[([116,101,109,112,108,97,116,101],2,101),([115,116,111,114,121],3,103),([108,97,116,101,115,116],3,107),([112,97,103,101],3,111),([98,121],2,113),([114,101,108,97,116,101,100],3,115),([116,111,112,105,99,115],1,119),([97,117,116,104,111,114,115],1,121),([99,111,117,110,116],2,122)]
omit G in
theorem AgJ:gT L T=fmW.map fun f=>.agg [str f.1,num f.2.1,.clo f.2.2 [.elt (.agg [.sl 8 (L.map Dx),.sl 2 (T.map Be)])]]:=rfl
omit G in
theorem gU {i:Nat} {f:Ac×Nat×Nat} (h:fmW[i]? =some f):(gT L T).getD i .any=.agg [str f.1,num f.2.1,.clo f.2.2 [.elt (.agg [.sl 8 (L.map Dx),.sl 2 (T.map Be)])]]:=by rw[AgJ,Axy,List.getElem?_map,h];rfl
theorem ArV (key:Ac) (hp:Lib.hasPrefix key [97,100,100,114,101,115,115,47]=true):Ab Tryz.prog 42 [stA L (T.map Be),str key] (fun r=>r=str (if key.drop 7∈Fa L then[49]else[])):=by
 have hst:stA L (T.map Be)=.agg [.sl 8 (L.map Dx),.sl 2 (T.map Be)]:=rfl;rw[hst];refine HC.plain (N7 [(7,[],[5])] [] [(2,[],[1,2,2000],[],[3003,4]),(7,[],[0,2,3,2001,2004,5,6,7,9,10,2008,11,12],[],[]),(9,[],[0,2,3,5,6,2001,2004,2007],[],[3008,9])] Tryz.func42 ?_) ⟨_,rfl⟩;simp (decide:=true) only[En [5,7] [3000007,2300007] [] [[7],[7],[25,5],[25],[],[],[29],[29,7],[29,7],[5,29],[29],[29],[29]],AxE,AxX,AxY];have hlen:8≤key.length:=by have:=AuP hp;exact G5
 have htd:List.take (key.length-7) (List.drop 7 key)=key.drop 7:=Axw oS;refine Z0 ?_;refine HC.wk (HC.old (fL key [97,100,100,114,101,115,115,47]) ?_) Zv;rintro r rfl;refine Zn ?_;refine HC.wk (HC.old (oU G (key.drop 7)) ?_) (by simp only[stA,num,str];exact Zw);exact Ij
theorem ArW {key x:Ac} (j:Nat) {w:Ac} {c g:Nat} (hk:key.length≤1000000) (hp:Lib.hasPrefix key [97,100,100,114,101,115,115,47]=false) (hj:fmW[j]? =some (w,c,g)) (hw:(w==(Dy key).getD 0 [])=true) (hc:c=(Dy key).length) (hno:∀i<j,∀f,fmW[i]? =some f→(f.1==(Dy key).getD 0 [])=false)
 (h:Ab Tryz.prog g [str ((Dy key++[[],[]]).getD 1 []),str ((Dy key++[[],[]]).getD 2 []),.elt (.agg [.sl 8 (L.map Dx),.sl 2 (T.map Be)])] (fun r=>r=str x)):Ab Tryz.prog 42 [stA L (T.map Be),str key] (fun r=>r=str x):=by
 have hst:stA L (T.map Be)=.agg [.sl 8 (L.map Dx),.sl 2 (T.map Be)]:=rfl;rw[hst];refine HC.plain (N7 [(7,[],[5])] [] [(2,[],[1,2,2000],[],[3003,4]),(7,[],[0,2,3,2001,2004,5,6,7,9,10,2008,11,12],[],[]),(9,[],[0,2,3,5,6,2001,2004,2007],[],[3008,9])] Tryz.func42 ?_) ⟨_,rfl⟩;simp (decide:=true) only[En [5,7] [3000007,2300007] [] [[7],[7],[25,5],[25],[],[],[29],[29,7],[29,7],[5,29],[29],[29],[29]],AxE,AxX,AxY];have hfl:(gT L T).length=9:=rfl;have hpl:=zG key;have hpe:Lib.splitK [47] 0 (min 4 (key.length+1)-1) key=Dy key:=rfl;have hpt:(Dy key).length≤4:=by have:=T7 [47] (min 4 (key.length+1)-1) key;rw[hpe]at this;omega
 have hp0:((Dy key).map str).getD 0 .any=str ((Dy key).getD 0 []):=by simp [Axy,hpl]
 have hj9:j<9:=(List.getElem?_eq_some_iff.1 hj).1;simp only[str]at hp0;refine Z0 ?_;refine HC.wk (HC.old (fL key [97,100,100,114,101,115,115,47]) ?_) Zv;rintro r rfl;simp only[Ai,num,str];refine Z1 hp ?_;refine HC.wk (HC.old (Agh key [47] 4 om oS om om) ?_) Zv;rintro r rfl;try simp only[Ai,num,str]
 refine Z1 hpe ?_;refine HC.wk (HC.old (Al3 (L:=L) (T:=T)) ?_) (by simp only[stA,num,str];exact Zw);rintro r rfl;refine Z1 hfl ?_;refine Ax (rl [7,1,12,29]) [5,19] (fun m xs γ=>γ=[]∧∃i,i+m=9∧i≤j∧xs=[.own 9 1 ((Dy key).map str),num i]) ⟨9,_,_,⟨rfl,0,om,om,rfl⟩,hent (Gw.refl _) ?_⟩ ?_
 ·simp only[PU,hpe];exact Zw
 rintro m xs γ ⟨rfl,i,hi,hij,rfl⟩;simp only[PU];have ej:=eq_true (show(i:Int)<9 by omega);rcases Nat.lt_or_eq_of_le hij with hlt|rfl
 ·obtain ⟨f,hf⟩:∃f,fmW[i]? =some f:=⟨_,List.getElem?_eq_getElem (show i<fmW.length by simp only[fmW,Axr,Axq];omega)⟩;have hgi:=gU (L:=L) (T:=T) hf;have h1:=hno i hlt f hf;have hwi:=wS i;obtain⟨w',c',g'⟩:=f;simp only[str,num]at hgi h1;refine Z7 ej hgi hp0 hpl h1 hfl hwi ?_;exact Zm (m-1) ⟨rfl,i+1,om,om,rfl⟩
 ·have hgi:=gU (L:=L) (T:=T) hj;have e2:=eq_true (show((c:Int)=((Dy key).length:Int)) by omega);have hq1:=W3 (Dy key) 1 om;have hq2:=W3 (Dy key) 2 om;simp only[str,num]at hgi hq1 hq2;refine Z8 ej hgi hp0 hpl hw e2 hfl (And.intro hq1 hq2) ?_;refine HC.wk (HC.old h ?_) Zv;exact Ij
end
end
section
open Go.RowKit
variable [Env]
variable {dfs : List Deferred}
def Zy (vs:List Nat):Option Nat→Op→Bool
 |some d,.load _ (.tmp _)=>vs.contains d
 |_,_=>false
def zH (i:Option TI) (gi:Option Nat) (off:Nat) (d:Option Nat) (γ σ:List AV) (K:List AV→List AV→Prop):Prop:=match i,gi with
 |some i,some gi=>(match γ.getD gi .any with
  |.nbox _ _ cs=>off+lsz i≤cs.length∧K γ (aset σ d (pl (pval i.td.agg ((pcells cs off (lsz i)).map v1))))
  |_=>False)
 |_,_=>False
def Al5 (T:Bd) (op:Op) (d:Option Nat) (γ σ:List AV) (K:List AV→List AV→Prop):Prop:=match op with
 |.load t (.tmp q)=>(match Hb (σ.getD q .any)with
  |some (b,off)=>zH (T t) (Jz b γ) off d γ σ K
  |none=>False)
 |_=>False
def bH (vs:List Nat):Option Nat→Op→Bool
 |some d,.box _ _=>vs.contains d
 |some d,.alloc _=>vs.contains d
 |_,_=>false
def sQ (d:Option Nat) (K:List AV→List AV→Prop) (γ σ:List AV):Prop:=match d with
 |some s=>Kb [s] (fun _ γ σ=>K γ σ) γ σ
 |none=>False
def Jm (P:Program) (T:Bd) (H:Gy) (vs:List Nat) (K:List AV→List AV→Prop) (E:Value→List AV→List AV→Prop):List CO→List AV→List AV→Prop
 |[],γ,σ=>K γ σ
 |⟨d,op,none⟩::l,γ,σ=>bif Zy vs d op then Al5 T op d γ σ (Jm P T H vs K E l)else bif bH vs d op then hop P T H d op γ σ (sQ d (Jm P T H vs K E l)) E else hop P T H d op γ σ (Jm P T H vs K E l) E
 |_::_,_,_=>False
section
variable {P : Program} {T : Bd} {H : Gy} {w0 : World} {S0 c0 : Nat → Nat} {γ σ : List AV} {a : Act} {w : World} {o : Oper} {Q : Exit → Act → World → Prop}
theorem gV {t n off gi b Te q:Nat} {i:TI} {cs:List AV} (ho:o.op=.load t (.tmp q)) (hi:Cx P t i) (hst:Ah dfs w0 S0 c0 γ σ a w) (hq:σ.getD q .any=.raw (.pointer (some ⟨b,off,none⟩))) (hx:γ[gi]? =some (.nbox b Te cs)) (hn:n=lsz i) (hl:off+n≤cs.length):
 o.wp P a w (fun a' w'=>Ah dfs w0 S0 c0 γ (aset σ o.dst (pl (pval i.td.agg ((pcells cs off n).map v1)))) a' w') Q:=by
 have he:=hst.raw hq;obtain⟨S,c,c1,gv,hrf,hr,hg,h1,hd,hz,hs⟩:=hst;obtain⟨cur,d1,c2,hb,hS,hcs,hone,hg2,hc,hput⟩:=Ah.takeBox hg hx;have hcl:=hcs.length;obtain⟨e1,e2,hp,hpt,hce⟩:=hcs.part off n;have hval:=Fq (Aa.map_v Aa.v1 hp) (fun u hu=>hone u (AxL (AxK hu))) i.td.agg (fun ha=>by unfold lsz at hn;rw[ha]at hn;simp at hn;subst hn;simp [pcells];omega);obtain⟨e3,hval,hle⟩:=hval.pl;obtain⟨c4,h2,h3⟩:=hr.aset hval o.dst;refine Ao (w':=w) (v:=if i.td.agg then .agg ((cur.toList.drop off).take n).toArray else((cur.toList.drop off).take n).headD undef) ?_ ⟨S,c4,c1,gv,hrf.aset _ _ (Kp _),h2,hg,fun x=> ?_,by rw[put_defers];exact hd,hz,hs.drop fun x=> ?_⟩
 ·have hrun:=Ff (off:=off) hi hb hn (by simp at hcl;omega);exact Aax
 ·have:=h1 x;have:=hle x;have:=h3 x;show c4 x+c1 x≤1;omega
 ·have:=hle x;have:=h3 x;show c4 x+c1 x≤c x+c1 x;omega
theorem Qp (hT:Am P T) (hH:Cl P H) {vs:List Nat} {ops:Array Oper} {K:List AV→List AV→Prop} {E:Value→List AV→List AV→Prop}:
 ∀(l:List Nat) (os:List Oper) (cs:List CO) (γ σ:List AV) (a:Act) (w:World),l.map (ops[·]?)=os.map some→B2 ops os=some cs→Ah dfs w0 S0 c0 γ σ a w→Jm P T H vs K E cs γ σ→
  (∀γ σ a' w',Ah dfs w0 S0 c0 γ σ a' w'→K γ σ→Q .normal a' w')→(∀v γ σ a' w',E v γ σ→Ah dfs w0 S0 c0 γ σ a' w'→Q (.panic [{v:=v,recovered:=false}]) a' w')→wpOps P ops Q l a w
 |[],os,cs,γ,σ,a,w,hl,hcs,hst,h,hQ,hE=>by exact AhX
 |i::l,[],cs,γ,σ,a,w,hl,hcs,hst,h,hQ,hE=>by simp at hl
 |i::l,o::os,cs,γ,σ,a,w,hl,hcs,hst,h,hQ,hE=>by
  simp only[Axx,List.cons.injEq]at hl;obtain⟨ho,hl⟩:=hl;simp only[B2]at hcs;split at hcs
  ·rename_i g r hg hr;injection hcs with hcs;subst hcs;have rest:∀γ σ a w,Ah dfs w0 S0 c0 γ σ a w→Jm P T H vs K E r γ σ→wpOps P ops Q l a w:=fun γ σ a w hst h=>Qp hT hH l os r γ σ a w hl hr hst h hQ hE;simp only[wpOps,ho]
   cases hgd:o.guard with
   |none=>
    rw[hgd]at hg;simp only[Bf]at hg;injection hg with hg;subst hg;have hw:Region.wanted o (yielded ops a.tmps)=true:=by simp [Region.wanted,hgd]
    rw[if_pos hw];refine .inl ?_;unfold Jm at h
    cases hv:Zy vs o.dst o.op with
    |false=>
     rw[hv]at h;simp only[cond_false]at h
     cases hn:bH vs o.dst o.op with
     |true=>
      rw[hn]at h;simp only[cond_true]at h;refine A7 (fun a' w' ⟨γ',σ',h1,h2⟩=> ?_) (Fj hT hH hst h fun v γ' σ' w' h1 h2=>hE v γ' σ' a w' h1 h2);unfold sQ at h1;split at h1
      ·obtain ⟨_,γ2,σ2,h3,h4,_⟩:=Iv h2 h1;exact rest γ2 σ2 a' w' h4 h3
      ·exact h1.elim
     |false=>
     rw[hn]at h;simp only[cond_false]at h;exact A7 (fun a' w' ⟨γ',σ',h1,h2⟩=>rest γ' σ' a' w' h2 h1) (Fj hT hH hst h fun v γ' σ' w' h1 h2=>hE v γ' σ' a w' h1 h2)
    |true=>
     rw[hv]at h;simp only[cond_true]at h;unfold Al5 at h;split at h
     ·rename_i t q hop;split at h
      ·rename_i b off hp;unfold zH at h;split at h
       ·rename_i i gi hi hgi;split at h
        ·rename_i b' Te cs' hx;obtain⟨g1,g2⟩:=Gp hgi;rw[hx]at g1 g2;injection g2 with g2;subst g2;exact A7 (fun a' w' hs=>rest _ _ a' w' hs h.2) (gV hop (hT t i hi) hst (Hl hp) g1 rfl h.1)
        ·exact Ad
       ·exact Ad
      ·exact Ad
     ·exact Ad
   |some jw=>
    obtain⟨j,want⟩:=jw;rw[hgd]at hg;simp only[Bf]at hg;split at hg
    ·rename_i t ht;injection hg with hg;subst hg;simp only[Jm]at h
    ·cases hg
  ·cases hcs
theorem P7 (hT:Am P T) (hH:Cl P H) (vs:List Nat) {id:Nat} {ops:Array Oper} {cs:List CO} {Q:Exit→List AV→List AV→Prop} (hcs:B2 ops ops.toList=some cs) (h:Jm P T H vs (Q .normal) (wI Q) cs γ σ):Cd P T H (.ext (.region id ops false)) Q γ σ:=fun dfs w0 S0 c0 a w hst=>by refine wp_region ?_;refine Qp hT hH (vs:=vs) (List.range ops.size) ops.toList cs γ σ a w ?_ hcs hst h (fun γ σ a' w' hst hK=>⟨γ,σ,hK,hst⟩) (fun v γ σ a' w' hE hst=>⟨γ,σ,hE,hst⟩);exact qG
end
section
variable {P : Program} {T : Bd} {H : Gy} {vs : List Nat} {K : List AV → List AV → Prop} {E : Value → List AV → List AV → Prop} {γ σ : List AV} {d : Option Nat}
theorem zI:Jm P T H vs K E [] γ σ=K γ σ:=(rfl)
theorem oV (op:Op) (l:List CO):Jm P T H vs K E (⟨d,op,none⟩::l) γ σ=bif Zy vs d op then Al5 T op d γ σ (Jm P T H vs K E l)else bif bH vs d op then hop P T H d op γ σ (sQ d (Jm P T H vs K E l)) E else hop P T H d op γ σ (Jm P T H vs K E l) E:=(rfl)
theorem AgK (d t q:Nat):Zy vs (some d) (.load t (.tmp q))=vs.contains d:=(rfl)
theorem zJ (t q:Nat) (y:Operand):Zy vs d (.store t (.tmp q) y)=false:=by cases d<;>rfl
theorem AgL (x:Operand):Zy vs d (.move x)=false:=by cases d<;>rfl
theorem oW (x:Operand):Zy vs d (.assign x)=false:=by cases d<;>rfl
theorem Zz (x:Operand):Zy vs d (.nilCheck x)=false:=by cases d<;>rfl
theorem Vb (t f:Nat) (x:Operand):Zy vs d (.fieldAddr t x f)=false:=by cases d<;>rfl
theorem AgM (c:Call):Zy vs d (.call c)=false:=by cases d<;>rfl
theorem Al6 (b:BinOp) (t t':Nat) (x y:Operand):Zy vs d (.binOp b t x y t')=false:=by cases d<;>rfl
theorem ArX (b:UnOp) (t:Nat) (x:Operand):Zy vs d (.unOp b t x)=false:=by cases d<;>rfl
theorem zK (t q:Nat) (y:Operand):bH vs d (.store t (.tmp q) y)=false:=by cases d<;>rfl
theorem AgN (x:Operand):bH vs d (.move x)=false:=by cases d<;>rfl
theorem oX (x:Operand):bH vs d (.assign x)=false:=by cases d<;>rfl
theorem Z9 (x:Operand):bH vs d (.nilCheck x)=false:=by cases d<;>rfl
theorem Vd (t f:Nat) (x:Operand):bH vs d (.fieldAddr t x f)=false:=by cases d<;>rfl
theorem AgO (c:Call):bH vs d (.call c)=false:=by cases d<;>rfl
theorem Al7 (b:BinOp) (t t':Nat) (x y:Operand):bH vs d (.binOp b t x y t')=false:=by cases d<;>rfl
theorem ArY (b:UnOp) (t:Nat) (x:Operand):bH vs d (.unOp b t x)=false:=by cases d<;>rfl
theorem AgP (t:Nat) (x:Operand):bH vs d (.load t x)=false:=by cases d<;>rfl
theorem zL (t:Nat) (ps:Array (Nat×Operand)):bH vs d (.build t ps)=false:=by cases d<;>rfl
theorem gW (x:Operand) (n:Nat):bH vs d (.extract x n)=false:=by cases d<;>rfl
theorem gX (t:Nat) (y:Option Operand):bH vs d (.makeMap t y)=false:=by cases d<;>rfl
theorem aA (f:Fn) (xs ys:Array Operand):bH vs d (.makeFunc f xs ys)=false:=by cases d<;>rfl
theorem gY (s t:Nat) (x:Operand):bH vs d (.convert s t x)=false:=by cases d<;>rfl
theorem Al8 (d t:Nat) (x:Operand):bH vs (some d) (.box t x)=vs.contains d:=(rfl)
theorem zM (t:Nat) (ps:Array (Nat×Operand)):Zy vs d (.build t ps)=false:=by cases d<;>rfl
theorem gZ (x:Operand) (n:Nat):Zy vs d (.extract x n)=false:=by cases d<;>rfl
theorem iA (t:Nat) (y:Option Operand):Zy vs d (.makeMap t y)=false:=by cases d<;>rfl
theorem aB (f:Fn) (xs ys:Array Operand):Zy vs d (.makeFunc f xs ys)=false:=by cases d<;>rfl
theorem iB (s t:Nat) (x:Operand):Zy vs d (.convert s t x)=false:=by cases d<;>rfl
theorem Al9 (t:Nat) (x:Operand):Zy vs d (.box t x)=false:=by cases d<;>rfl
theorem zN (t:Nat):Zy vs d (.alloc t)=false:=by cases d<;>rfl
theorem oY (s:Nat):sQ (some s) K γ σ=Kb [s] (fun _ γ σ=>K γ σ) γ σ:=(rfl)
def Aoq (T:Bd) (t:Nat) (d:Option Nat) (γ σ:List AV) (K:List AV→List AV→Prop):Option (Nat×Nat)→Prop
 |some (b,off)=>zH (T t) (Jz b γ) off d γ σ K
 |none=>False
theorem zO (t q:Nat):Al5 T (.load t (.tmp q)) d γ σ K=Aoq T t d γ σ K (Hb (σ.getD q .any)):=by
 show(match Hb (σ.getD q .any)with
  |some (b,off)=>zH (T t) (Jz b γ) off d γ σ K
  |none=>False)=_
 generalize Hb (σ.getD q .any)=x;cases x<;>rfl
theorem oZ (t b off:Nat):Aoq T t d γ σ K (some (b,off))=zH (T t) (Jz b γ) off d γ σ K:=(rfl)
def Aor (i:TI) (off:Nat) (d:Option Nat) (γ σ:List AV) (K:List AV→List AV→Prop):AV→Prop
 |.nbox _ _ cs=>off+lsz i≤cs.length∧K γ (aset σ d (pl (pval i.td.agg ((pcells cs off (lsz i)).map v1))))
 |_=>False
theorem zP (i:TI) (gi off:Nat):zH (some i) (some gi) off d γ σ K=Aor i off d γ σ K (γ.getD gi .any):=by
 show(match γ.getD gi .any with
  |.nbox _ _ cs=>off+lsz i≤cs.length∧K γ (aset σ d (pl (pval i.td.agg ((pcells cs off (lsz i)).map v1))))
  |_=>False)=_
 generalize γ.getD gi .any=x;cases x<;>rfl
theorem zQ (i:TI) (off b U:Nat) (cs:List AV):Aor i off d γ σ K (.nbox b U cs)=(off+lsz i≤cs.length∧K γ (aset σ d (pl (pval i.td.agg ((pcells cs off (lsz i)).map v1))))):=(rfl)
theorem zR (b:Nat) (ks:List Value) (us:List AV) (k:Value) (y:AV):wA b ks us k y none=.nmap b (ks++[k]) (us++[y]):=(rfl)
theorem zS (b j:Nat) (ks:List Value) (us:List AV) (k:Value) (y:AV):wA b ks us k y (some j)=.nmap b ks (us.set j y):=(rfl)
attribute [go_sem] zR zS Al8 Al9 zN oY zK AgN oX Z9 Vd AgO Al7 ArY AgP zL gW gX aA gY zM gZ iA aB iB zI oV AgK zJ AgL oW Zz Vb AgM Al6 ArX zO oZ zP zQ List.contains_cons List.contains_nil Bool.or_false Aza Bool.true_or Nat.reduceBEq
end
end
section
open Go.RowKit Go.Proofs
def K8:List Ac:=[[97,100,100,114,101,115,115,47],[97,100,100,114,101,115,115,47,109,97,112],[116,101,109,112,108,97,116,101,47,102,114,111,110,116],[116,101,109,112,108,97,116,101,47,109,97,112],[108,97,116,101,115,116,47,47,53],[108,97,116,101,115,116,47,47,54,52],[116,111,112,105,99,115],[97,117,116,104,111,114,115]]
def Ic (k:Ac):Value:=.string ⟨k.toArray⟩
theorem Hn (k:Ac):∀ks:List Ac,(k∈ks∧∃j,∃h:j<ks.length,B5 (Ic k) (ks.map Ic)=some j∧ks[j]=k)∨(k∉ks∧B5 (Ic k) (ks.map Ic)=none)
 |[]=>.inr ⟨oS,rfl⟩
 |x::ks=>by
  have hv:dY (Ic k) (Ic x)=decide (k=x):=by
   by_cases h:k=x
   ·subst h;simp only[decide_true];exact(Go.MapKept.bytes_beq _ _).2 rfl
   ·rw [decide_eq_false h,←Bool.not_eq_true];intro h2;have:=(Go.MapKept.bytes_beq _ _).1 h2;injection this with this;exact h (by simpa using congrArg Array.toList this)
  have hc:B5 (Ic k) ((x::ks).map Ic)=if decide (k=x)then some 0 else(B5 (Ic k) (ks.map Ic)).map (·+1):=by simp only[B5,Axx,List.findIdx?_cons,hv]
  by_cases h:k=x
  ·exact .inl ⟨by simp [h],0,oS,by rw[hc];simp [h],by simp [h]⟩
  ·rcases Hn k ks with⟨h1,j,hj,h2,h3⟩|⟨h1,h2⟩
   ·exact .inl ⟨by simp [h1],j+1,by simp [hj],by rw[hc];simp [h,h2],by simp [h3]⟩
   ·exact .inr ⟨by simp [h,h1],by rw[hc];simp [h,h2]⟩
theorem Jn (k:Ac) (ks:List Ac):N2 (HH.kd 9) (Ic k) (ks.map Ic)=True:=eq_true ⟨trivial,fun x hx=>by obtain⟨y,_,rfl⟩:=AxB.1 hx;trivial⟩
theorem aC (z:Value) (vs:List AV) (j:Nat):U4 true z vs (some j)=.tup [view (vs.getD j .any),.raw (.bool true)]:=rfl
theorem aD (z:Value) (vs:List AV):U4 true z vs none=.tup [aconst z,.raw (.bool false)]:=rfl
theorem Oy (s:ByteArray):view (.raw (.string s))=.raw (.string s):=rfl
theorem J6 (s:ByteArray):aconst (.string s)=.raw (.string s):=rfl
theorem Rq (x:AV) (A:Prop) (K:AV→Prop):hnc (.elt x) A K=A:=rfl
theorem AlA:(true=false→False)=True:=eq_true oD
attribute [go_sem] aC aD Oy J6 Rq AlA
def F4 (ks:List Ac) (k:Ac):List Ac:=if k∈ks then ks else ks++[k]
structure Jo (L:List A2) (T:List (Ac×Ac)) (val:Ac→Ac):Prop where
 call:∀key:Ac,key∈K8→Ab Tryz.prog 42 [.agg [.sl 8 (L.map Dx),.sl 2 (T.map Be)],str key] (fun r=>r=str (val key))
 len':∀key,(val key).length≤900000
theorem Jo.len {L:List A2} {T:List (Ac×Ac)} {val:Ac→Ac} (V:Jo L T val) (key:Ac):(val key).length≤1000000:=Ax1 (V.len' key) om
structure Lm (a:E5) (url word:Ac):Prop where
 n:Kg a.n
 k2:(a.kind=2)=False
 k3:(a.kind=3)=False
 k5:(a.kind=5)=False
def H6 (L:List A2) (T:List (Ac×Ac)) (a:E5) (url word:Ac) (m:Nat):List AV:=[.sl 8 (L.map Dx),.sl 2 (T.map Be),num a.kind,str a.name,num a.n,str a.lang,str url,str word,.raw (.map (some m))]
def Ur (m:Nat) (val:Ac→Ac) (ks:List Ac):List AV:=[.nmap m (ks.map Ic) (ks.map fun k=>str (val k))]
theorem AgQ (n:Int) (h:Kg n):(Lib.itoa n).length≤21:=Lib.itoa_length_le n h.1 h.2
section
variable {L : List A2} {T : List (Ac × Ac)} {val : Ac → Ac} (V : Jo L T val) {a : E5} {url word : Ac} (A : Lm a url word) {m : Nat}
include V in
theorem aF (key:Ac) (hk:key∈K8) (ks:List Ac):HC Tryz.prog 33 [.elt (.agg (H6 L T a url word m)),str key] (Ur m val ks) (fun r γ=>r=str (val key)∧γ=Ur m val (F4 ks key)) (fun _ _=>False):=by
 refine N7 [] [] [] Tryz.func33 ?_;have hm:(m=m)=True:=eq_true rfl;have k1:HH.mp 80=some (9,9):=rfl;have k2:HH.zr 9=some (.string ⟨#[]⟩):=rfl;have k3:HH.kd 9=some .string:=rfl;have hky:=Jn key ks;rw[k3]at hky;simp only[Ic]at hky;rcases Hn key ks with⟨hi,j,hj,hf,he⟩|⟨hi,hf⟩
 ·have ha:F4 ks key=ks:=by simp [F4,hi]
  have hg:(ks.map fun k=>str (val k)).getD j .any=str (val key):=by simp [Axy,hj,he]
  simp only[Ic]at hf;simp only[H6,Ur,num,str,Ic]at hg⊢;repeat' first|refine Aj.on (fun _=>?_) (fun _=>?_)|with_reducible refine gd ?_|simp only[go_sem,hm,k1,k2,k3,hky,hf,hg,aC,aD,Oy,J6,Rq,AlA]
  rw[ha];exact Zx
 have ha:F4 ks key=ks++[key]:=by simp [F4,hi]
 simp only[Ic]at hf;simp only[H6,Ur,num,str,Ic];repeat' first|refine Aj.on (fun _=>?_) (fun _=>?_)|with_reducible refine gd ?_|simp only[go_sem,hm,k1,k2,k3,hky,hf,aC,aD,Oy,J6,Rq,AlA]
 refine HC.old (V.call key hk) ?_;rintro r rfl;simp only[num,str];repeat' first|refine Aj.on (fun _=>?_) (fun _=>?_)|with_reducible refine gd ?_|simp only[go_sem,hm,k1,k2,k3,hky,hf,aC,aD,Oy,J6,Rq,AlA]
 rw[ha];simp only[AxJ,Axx,Axv];exact Zx
end
end
section
open Go.RowKit Go.Proofs
end
section
open Go.RowKit Go.Proofs
section
variable {dfs : List Deferred}
def fzl (fz:List Nat):Option Nat→List Nat
 |some d=>bif fz.contains d then[d]else[]
 |none=>[]
def AgR (fz:List Nat) (d:Option Nat) (K:List AV→List AV→Prop) (γ σ:List AV):Prop:=kK (fzl fz d) (K γ) σ
def E7 (P:Program) (T:Bd) (H:Gy) (ov:Op→List AV→Option Value) (fz:List Nat) (K:List AV→List AV→Prop) (E:Value→List AV→List AV→Prop):List CO→List AV→List AV→Prop
 |[],γ,σ=>K γ σ
 |⟨d,op,none⟩::l,γ,σ=>(match ov op σ with
  |some v=>E7 P T H ov fz K E l γ (aset σ d (.raw v))
  |none=>hop P T H d op γ σ (AgR fz d (E7 P T H ov fz K E l)) E)
 |_::_,_,_=>False
def AgS (P:Program) (ov:Op→List AV→Option Value):Prop:=
 ∀{dfs:List Deferred} {w0 w:World} {S0 c0:Nat→Nat} {γ σ:List AV} {a:Act} {o:Oper} {v:Value},Ah dfs w0 S0 c0 γ σ a w→ov o.op σ=some v→v.oneCell'=true∧(execOp a.eval o).run P w=.ok (.value v) w
theorem Ix {P:Program} {T:Bd} {H:Gy} {ov:Op→List AV→Option Value} {fz:List Nat} {w0:World} {S0 c0:Nat→Nat} {Q:Exit→Act→World→Prop} (hT:Am P T) (hH:Cl P H) (hO:AgS P ov) {ops:Array Oper} {K:List AV→List AV→Prop} {E:Value→List AV→List AV→Prop}:
 ∀(l:List Nat) (os:List Oper) (cs:List CO) (γ σ:List AV) (a:Act) (w:World),l.map (ops[·]?)=os.map some→B2 ops os=some cs→Ah dfs w0 S0 c0 γ σ a w→E7 P T H ov fz K E cs γ σ→
  (∀γ σ a' w',Ah dfs w0 S0 c0 γ σ a' w'→K γ σ→Q .normal a' w')→(∀v γ σ a' w',E v γ σ→Ah dfs w0 S0 c0 γ σ a' w'→Q (.panic [{v:=v,recovered:=false}]) a' w')→wpOps P ops Q l a w
 |[],os,cs,γ,σ,a,w,hl,hcs,hst,h,hQ,hE=>by exact AhX
 |i::l,[],cs,γ,σ,a,w,hl,hcs,hst,h,hQ,hE=>by simp at hl
 |i::l,o::os,cs,γ,σ,a,w,hl,hcs,hst,h,hQ,hE=>by
  simp only[Axx,List.cons.injEq]at hl;obtain⟨ho,hl⟩:=hl;simp only[B2]at hcs;split at hcs
  ·rename_i g r hg hr;injection hcs with hcs;subst hcs;have rest:∀γ σ a w,Ah dfs w0 S0 c0 γ σ a w→E7 P T H ov fz K E r γ σ→wpOps P ops Q l a w:=fun γ σ a w hst h=>Ix hT hH hO l os r γ σ a w hl hr hst h hQ hE;simp only[wpOps,ho];exact AsP
  ·cases hcs
theorem Oz {P:Program} {T:Bd} {H:Gy} {ov:Op→List AV→Option Value} {γ σ:List AV} (hT:Am P T) (hH:Cl P H) (hO:AgS P ov) (fz:List Nat) {id:Nat} {ops:Array Oper} {cs:List CO} {Q:Exit→List AV→List AV→Prop} (hcs:B2 ops ops.toList=some cs) (h:E7 P T H ov fz (Q .normal) (wI Q) cs γ σ):Cd P T H (.ext (.region id ops false)) Q γ σ:=fun dfs w0 S0 c0 a w hst=>by refine wp_region ?_;refine Ix hT hH hO (List.range ops.size) ops.toList cs γ σ a w ?_ hcs hst h (fun γ σ a' w' hst hK=>⟨γ,σ,hK,hst⟩) (fun v γ σ a' w' hE hst=>⟨γ,σ,hE,hst⟩);exact qG
end
section
variable {P : Program} {T : Bd} {H : Gy} {ov : Op → List AV → Option Value} {fz : List Nat} {K : List AV → List AV → Prop} {E : Value → List AV → List AV → Prop} {γ σ : List AV} {d : Option Nat}
def AgT (op:Op) (l:List CO) (P:Program) (T:Bd) (H:Gy) (ov:Op→List AV→Option Value) (fz:List Nat) (K:List AV→List AV→Prop) (E:Value→List AV→List AV→Prop) (d:Option Nat) (γ σ:List AV):Option Value→Prop
 |some v=>E7 P T H ov fz K E l γ (aset σ d (.raw v))
 |none=>hop P T H d op γ σ (AgR fz d (E7 P T H ov fz K E l)) E
theorem zT:E7 P T H ov fz K E [] γ σ=K γ σ:=rfl
theorem pA (op:Op) (l:List CO):E7 P T H ov fz K E (⟨d,op,none⟩::l) γ σ=AgT op l P T H ov fz K E d γ σ (ov op σ):=by
 show(match ov op σ with
  |some v=>E7 P T H ov fz K E l γ (aset σ d (.raw v))
  |none=>hop P T H d op γ σ (AgR fz d (E7 P T H ov fz K E l)) E)=_
 cases ov op σ<;>rfl
theorem pB (op:Op) (l:List CO) (v:Value):AgT op l P T H ov fz K E d γ σ (some v)=E7 P T H ov fz K E l γ (aset σ d (.raw v)):=rfl
theorem pC (op:Op) (l:List CO):AgT op l P T H ov fz K E d γ σ none=hop P T H d op γ σ (AgR fz d (E7 P T H ov fz K E l)) E:=rfl
theorem AlB (k:List AV→List AV→Prop):AgR fz d k γ σ=kK (fzl fz d) (k γ) σ:=rfl
theorem AgU (d:Nat):fzl fz (some d)=bif fz.contains d then[d]else[]:=rfl
theorem AgV:fzl fz none=[]:=rfl
theorem AgW (k:List AV→Prop):kK [] k σ=k σ:=rfl
attribute [go_sem] AlB AgU AgV AgW zT pA pB pC
end
def ovN:Op→List AV→Option Value:=fun _ _=>none
theorem T8 (P:Program):AgS P ovN:=fun _ h=>by cases h
theorem ArZ (op:Op) (σ:List AV):ovN op σ=none:=rfl
attribute [go_sem] ArZ /-! ## the table -/
def ovI:AV→Option Value
 |.raw (.int k i)=>if 0≤i∧i<16 then some (.pointer (some ⟨0,i.toNat,none⟩))else none
 |_=>none
def ovL:AV→Option Value
 |.raw (.pointer (some ⟨0,j,none⟩))=>if j<16 then some (.int .u32 (oA.getD j 0))else none
 |_=>none
def ovX:AV→Option Value
 |.raw (.int .u32 r)=>some (.int .u32 (ixor .u32 4294967295 r))
 |_=>none
def ovT:Op→List AV→Option Value
 |.indexAddr 135 (.global 0) (.tmp q),σ=>ovI (σ.getD q .any)
 |.load 133 (.tmp q),σ=>ovL (σ.getD q .any)
 |.unOp .xor 133 (.tmp q),σ=>ovX (σ.getD q .any)
 |_,_=>none
theorem pD:AgS Tryz.prog ovT:=fun{dfs w0 w S0 c0 γ σ a o v} hst h=>by
 unfold ovT at h;split at h
 ·rename_i q ho;unfold ovI at h;split at h
  ·rename_i k i hx;split at h
   ·rename_i hi;injection h with h;subst h;have e1:=hst.raw hx;refine⟨rfl,?_⟩;have hu:Tryz.prog.underlying 135=some (.array (Tryz.prog.arrayLen 135) (Tryz.prog.elem 135)):=by kernel_rfl
    have hl:Tryz.prog.arrayLen 135=16:=by kernel_rfl
    have hs:(sizeOf (Tryz.prog.elem 135)).run Tryz.prog w=.ok 1 w:=by
     have he2:Tryz.prog.elem 135=133:=by kernel_rfl
     rw[he2];exact Tryz.sizeOf133 w
    have he:a.eval (.global 0)=.pointer (some ⟨0,0,none⟩):=rfl;unfold execOp;simp only[ho,e1,he,Sem.run_bind,run_indexAt_array (h:=hu),hl,hs,Result.andThen_ok,Sem.run_pure];rw[if_pos (by simpa using hi)];simp [Addr.add,hs];intro h;omega
   ·cases h
  ·cases h
 ·rename_i q ho;unfold ovL at h;split at h
  ·rename_i j hx;split at h
   ·rename_i hj;injection h with h;subst h;have e1:=hst.raw hx;refine⟨rfl,?_⟩;obtain⟨S,c,c1,gv,hrf,hr,hg,h1,hd,hz,hs⟩:=hst;have hc:w.cell? ⟨0,j,none⟩=some (.int .u32 (oA.getD j 0)):=by have:=(hz.g _ (AuF _ (AyH _ (AxB.2 ⟨(oA.getD j 0,j),by rw[Ay7];show oA[j]? =some (oA.getD j 0);rw[Axy,List.getElem?_eq_getElem (show j<oA.length from hj)];rfl,rfl⟩)))).2;exact this
    have hu:Tryz.prog.underlying 133=some (.int .u32):=by kernel_rfl
    unfold execOp;simp only[ho,e1,Instr.loadAt,Instr.sureAddr,Sem.run_bind,Sem.run_pure,Result.andThen_ok];simp [loadVar,run_underlying hu,hc]
   ·cases h
  ·cases h
 ·rename_i q ho;unfold ovX at h;split at h
  ·rename_i r hx;injection h with h;subst h;have e1:=hst.raw hx;refine⟨rfl,?_⟩;unfold execOp;simp only[ho,e1];simp [Op.unary,Op.intBits,ixor];try rfl
  ·cases h
 ·cases h
theorem AlD (q:Nat) (σ:List AV):ovT (.indexAddr 135 (.global 0) (.tmp q)) σ=ovI (σ.getD q .any):=rfl
theorem AgX (q:Nat) (σ:List AV):ovT (.load 133 (.tmp q)) σ=ovL (σ.getD q .any):=rfl
theorem AlE (q:Nat) (σ:List AV):ovT (.unOp .xor 133 (.tmp q)) σ=ovX (σ.getD q .any):=rfl
theorem AlF (r:Int):ovX (.raw (.int .u32 r))=some (.int .u32 (ixor .u32 4294967295 r)):=rfl
theorem AgY (a b:Nat) (x:Operand) (σ:List AV):ovT (.convert a b x) σ=none:=rfl
theorem AgZ (x:Operand) (σ:List AV):ovT (.move x) σ=none:=rfl
theorem pE (x:Operand) (σ:List AV):ovT (.assign x) σ=none:=rfl
theorem AlG (b:BinOp) (t t':Nat) (x y:Operand) (σ:List AV):ovT (.binOp b t x y t') σ=none:=rfl
theorem AlH (k:IntKind) (i:Int) (h0:0≤i) (h1:i<16):ovI (.raw (.int k i))=some (.pointer (some ⟨0,i.toNat,none⟩)):=by show(if 0≤i∧i<16 then _ else _)=_;rw[if_pos ⟨h0,h1⟩]
theorem AlI (j:Nat) (h:j<16):ovL (.raw (.pointer (some ⟨0,j,none⟩)))=some (.int .u32 (oA.getD j 0)):=by show(if j<16 then _ else _)=_;rw[if_pos h]
theorem iC (a b:Int):0≤ixor .u32 a b∧ixor .u32 a b<4294967296:=by unfold ixor;rw[IntKind.wrap_u32];omega
theorem sR (R:Int) (h:0≤R):ovI (.raw (.int .u32 (R.tmod 16)))=some (.pointer (some ⟨0,(R.tmod 16).toNat,none⟩)):=
 AlH _ _ (by rw[AyQ h];omega) (by rw[AyQ h];omega)
theorem sS (R:Int) (h:0≤R):ovL (.raw (.pointer (some ⟨0,(R.tmod 16).toNat,none⟩)))=some (.int .u32 (oA.getD (R.tmod 16).toNat 0)):=
 AlI _ (by rw[AyQ h];omega)
attribute [go_sem] AlE AlF AgY AlD AgX AgZ pE AlG
def sh4 (r:Int):Int:=ixor .u32 (Apj .u32 r 4) (oA.getD (r.tmod 16).toNat 0)
def Asb (r:Int) (c:UInt8):Int:=sh4 (sh4 (ixor .u32 r (IntKind.u32.wrap ((c.toNat:Nat):Int))))
def pF (s:Ac):Int:=s.foldl Asb 4294967295
def Q6 (s:Ac):Int:=IntKind.i64.wrap (ixor .u32 4294967295 (pF s))
theorem Aos (s:Ac) (hs:s.length≤1000000):Ab Tryz.prog 41 [str s] (fun r=>r=num (Q6 s)):=by
 refine HC.plain (Zt [] [6,7,8] [] Tryz.func41 ?_) ⟨_,rfl⟩;refine Ax (rl [5,29]) [3,4] (fun m xs γ=>γ=[]∧∃i:Nat,i+m=s.length∧xs=[.raw (.int .u32 (pF (s.take i))),num i]) ⟨s.length,_,_,⟨rfl,0,om,rfl⟩,hent (Gw.refl _) ?_⟩ ?_
 ·simp only[PU,AxI,pF,AyC];exact Zw
 ·rintro m xs γ ⟨rfl,i,hi,rfl⟩;simp only[PU];by_cases hlt:i<s.length;rotate_left
  ·have ej:=eq_false (show¬((i:Int)<(s.length:Int)) by omega);rw[Axw om];refine Zu ?_;refine Oz Bo Dv pD [] (by simp only[Bm,Ri,Ce,Eb,Ed,Cf,C5,AxV,AxO,AxP,Ayi,AxU,Ayb,AxW,Ayg,AxH,cond_false,cond_true,Ia,Hy,H7,H8,H9,Hw,xB,xY,Nat.reduceBEq,Nat.reduceBNe,Hz,Ge,Gz,Hc,I3,Bh,B2,Cm,Ko,Axx,Axv,Nat.reduceMod,Nat.reduceDiv,Bf,C9,AxD,List.getElem?_toArray,List.getElem?_cons_succ,List.getElem?_cons_zero,Bg,cutAt,A8,Em,Nat.reduceAdd,Nat.reduceEqDiff,Nat.reduceLeDiff,Nat.reduceSub,ne_eq,not_false_eq_true,and_self,reduceIte];rfl) ?_;exact Ze
  have ej:=eq_true (show((i:Int)<(s.length:Int)) by omega);have hw:=wS i
  have htk:pF (s.take (i+1))=Asb (pF (s.take i)) (s.getD i 0):=by
   have hgd:s.getD i 0=s[i]:=by simp [Axy,hlt]
   unfold pF;rw[Ayv hlt,Ayx,hgd];rfl
  generalize pF (s.take i)=r at *;refine Zu ?_;refine Oz Bo Dv pD [] (by simp only[Bm,Ri,Ce,Eb,Ed,Cf,C5,AxV,AxO,AxP,Ayi,AxU,Ayb,AxW,Ayg,AxH,cond_false,cond_true,Ia,Hy,H7,H8,H9,Hw,xB,xY,Nat.reduceBEq,Nat.reduceBNe,Hz,Ge,Gz,Hc,I3,Bh,B2,Cm,Ko,Axx,Axv,Nat.reduceMod,Nat.reduceDiv,Bf,C9,AxD,List.getElem?_toArray,List.getElem?_cons_succ,List.getElem?_cons_zero,Bg,cutAt,A8,Em,Nat.reduceAdd,Nat.reduceEqDiff,Nat.reduceLeDiff,Nat.reduceSub,ne_eq,not_false_eq_true,and_self,reduceIte];rfl) ?_;obtain⟨x1,x2⟩:=iC r (IntKind.u32.wrap ((s.getD i 0).toNat:Int));unfold Asb at htk;generalize ixor IntKind.u32 r (IntKind.u32.wrap ((s.getD i 0).toNat:Int))=r1 at *;have f1:=sR r1 x1;have f2:=sS r1 x1;refine Zu ?_;refine Oz Bo Dv pD [] (by simp only[Bm,Ri,Ce,Eb,Ed,Cf,C5,AxV,AxO,AxP,Ayi,AxU,Ayb,AxW,Ayg,AxH,cond_false,cond_true,Ia,Hy,H7,H8,H9,Hw,xB,xY,Nat.reduceBEq,Nat.reduceBNe,Hz,Ge,Gz,Hc,I3,Bh,B2,Cm,Ko,Axx,Axv,Nat.reduceMod,Nat.reduceDiv,Bf,C9,AxD,List.getElem?_toArray,List.getElem?_cons_succ,List.getElem?_cons_zero,Bg,cutAt,A8,Em,Nat.reduceAdd,Nat.reduceEqDiff,Nat.reduceLeDiff,Nat.reduceSub,ne_eq,not_false_eq_true,and_self,reduceIte];rfl) ?_;obtain⟨y1,y2⟩:0≤sh4 r1∧sh4 r1<4294967296:=iC _ _;have hsh:ixor .u32 (Apj .u32 r1 4) (oA.getD (r1.tmod 16).toNat 0)=sh4 r1:=rfl;rw[hsh];generalize sh4 r1=r2 at *;have f3:=sR r2 y1;have f4:=sS r2 y1;refine Zu ?_;refine Au (m-1) _ _ om ⟨rfl,i+1,om,rfl⟩ (hent (Gw.refl _) ?_);rw[htk];unfold sh4;exact Zw
end
end Go.Proofs.YtmophjggmekoeaaGreatDoor
