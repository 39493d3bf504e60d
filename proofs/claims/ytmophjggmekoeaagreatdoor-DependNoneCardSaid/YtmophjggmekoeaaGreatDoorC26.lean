/- Comparisons, topics. -/
import Derived.Shelf.SlSortCmp.NoneTotal
import Derived.Sort.OwnSortedInts
import Derived.Test.YtmophjggmekoeaaGreatDoorC25
set_option linter.all false
set_option maxRecDepth 100000
set_option maxHeartbeats 4000000
namespace Go.Proofs.YtmophjggmekoeaaGreatDoor
section
open Go.RowKit Go.Proofs
variable [Env]
def orI:List Int→Int
 |[]=>0
 |x::r=>if x=0 then orI r else x
theorem drop_at {α:Type} {l:List α} {j:Nat} (h:j<l.length):∃x,l[j]? =some x∧l.drop j=x::l.drop (j+1):=⟨l[j],List.getElem?_eq_getElem h,Ayd h⟩
theorem Og {l:List Int} {j:Nat} {x:Int} (h:l[j]? =some x):(nums l).getD j .any=.raw (.int .i64 x):=by simp [nums,h,num]
theorem B8 {l:List (List UInt8)} {j:Nat} {x:List UInt8} (h:l[j]? =some x):(l.map str).getD j .any=.raw (.string ⟨x.toArray⟩):=by simp [h,str]
theorem AuJ (xs:List Int) (hl:xs.length≤1000000):Ab Tryz.prog 21 [.sl 1 (nums xs)] (fun r=>r=num (orI xs)):=by
 refine Zs [] Tryz.func21 ⟨_,rfl⟩ ?_;refine Ap (rl [5,1,2,9]) [8] (fun n ys=>∃(j:Nat),j≤xs.length∧j+n=xs.length∧orI xs=orI (xs.drop j)∧ys=[num j]) ⟨xs.length,_,⟨0,om,om,rfl,rfl⟩,?_⟩ ?_
 ·exact Zw
 ·rintro n ys ⟨j,hjl,hn,he,rfl⟩;simp only[PU];rcases Axz j xs.length with hlt|hge
  ·have ej:=eT j xs.length;obtain⟨x,hx,hd⟩:=drop_at hlt;have hgx:=Og hx;have hw:=wS j;by_cases h0:x=0
   ·have e0:=eq_true h0;refine Z4 ej hgx hw e0 ?_;refine Az (n-1) [num ((j+1:Nat):Int)] om ⟨j+1,om,om,?_,rfl⟩ ?_
    ·rw [he,hd,orI,if_pos h0]
    ·exact Zw
   ·have e0:=eq_false h0;refine Z4 ej hgx hw e0 ?_;rw[he,hd,orI,if_neg h0]
  ·have ej:=eU j xs.length;refine Z1 ej ?_;rw[he,AyN hge];rfl
def Agq (s:A2) (a:Int) (t:A2) (b:Int):Int:=orI [Ld s.pu t.pu,Ld s.id t.id,Ld a b]
theorem yP (s t:A2) (a b:Int):Ab Tryz.prog 201 [qst s a,qst t b] (fun r=>r=num (Agq s a t b)):=by
 simp only[qst];refine Ir [] Tryz.func201 ⟨_,rfl⟩ ?_;simp (decide:=true) only[En [3,2] [2100003,1900002,1600003,1500003,1300002,1200002,900003,800003,600002,500002] [] [[5,2],[5,2],[2],[8,3],[8,3],[3],[],[12,2],[12,2],[2],[15,3],[15,3],[3],[],[2],[2],[3],[3],[],[],[],[]],AxE,AxX,AxY];refine Zu ?_;refine Za (Ma s.pu t.pu) ?_;refine Za (Ma s.id t.id) ?_;refine Za (Ma a b) ?_;refine((AuJ [Ld s.pu t.pu,Ld s.id t.id,Ld a b] oS).wk ?_).mono ?_
 ·simp only[nums,Axx,Axv,num];exact Zw
 exact Ij
theorem Agr (s t:A2) (a b:Int):Ab Tryz.prog 212 [qst s a,qst t b] (fun r=>r=num (Agq t b s a)):=by
 simp only[qst];refine A9 [] Bo Cq Tryz.func212 oD oK (by simp only[Tryz.f212,go_sem,reduceIte];rfl) Tryz.ntmps212 Tryz.results212 ⟨_,rfl⟩ rfl ?_;simp only[LS,Nat.reduceAdd,Nat.reduceSub];repeat' first|refine Aj.on (fun _=>?_) (fun _=>?_)|with_reducible refine gd ?_|simp only[go_sem,DT,Int.reduceEq,Int.cast_ofNat_Int]
 refine(yP t s b a).mono ?_;rintro r rfl;simp only[num];exact Aaw
theorem Alk (l:List (List UInt8)) (v:List UInt8) (hl:l.length≤9223372036854775807):Ab Tryz.prog 232 [.sl 1 (l.map str),str v] (fun r=>∃i:Int,(0≤i↔v∈l)∧r=num i):=by
 refine Zs [] Tryz.func232 ⟨num (if v∈l then 0 else -1),_,by split<;>simp [*],rfl⟩ ?_;refine Ap (rl [5,1,2,11]) [8] (fun n ys=>∃(j:Nat),j≤l.length∧j+n=l.length∧v∉l.take j∧ys=[num j]) ⟨l.length,_,⟨0,om,om,oS,rfl⟩,?_⟩ ?_
 ·exact Zw
 ·rintro n ys ⟨j,hjl,hn,he,rfl⟩;simp only[PU];rcases Axz j l.length with hlt|hge
  ·have ej:=eT j l.length;obtain⟨x,hx,hd⟩:=drop_at hlt;have hgx:=B8 hx;have hw:=wS j;by_cases h0:v=x
   ·have e0:(v==x)=true:=by simp [h0]
    refine Z4 ej hgx hw e0 ?_;exact⟨j,⟨fun _=>h0▸Axt hx,fun _=>om⟩,rfl⟩
   ·have e0:(v==x)=false:=by simp [h0]
    refine Zu ?_;refine Az (n-1) [num ((j+1:Nat):Int)] om ⟨j+1,om,om,?_,rfl⟩ ?_
    ·rw [Ax9,hx];simp only[Azc,Ax5,Ax6,not_or];exact⟨he,h0⟩
    ·exact Zw
  ·have ej:=eU j l.length;rw[Axw hge]at he;refine Z1 ej ?_;exact⟨-1,⟨fun h=>om,fun h=>absurd h he⟩,rfl⟩
theorem Tl (l:List (List UInt8)) (v:List UInt8) (hl:l.length≤9223372036854775807):Ab Tryz.prog 167 [.sl 1 (l.map str),str v] (fun r=>r=Ai (decide (v∈l))):=by
 refine A9 [] Bo Cq Tryz.func167 oD oK (by simp only[Tryz.f167,go_sem,reduceIte];rfl) Tryz.ntmps167 Tryz.results167 ⟨_,rfl⟩ rfl ?_;simp only[LS,Nat.reduceAdd,Nat.reduceSub];repeat' first|refine Aj.on (fun _=>?_) (fun _=>?_)|with_reducible refine gd ?_|simp only[go_sem,DT,Int.reduceEq,Int.cast_ofNat_Int]
 refine(Alk l v hl).mono ?_;rintro r ⟨i,hi,rfl⟩;simp only[num];repeat' first|refine Aj.on (fun _=>?_) (fun _=>?_)|with_reducible refine gd ?_|simp only[go_sem,DT,Int.reduceEq,Int.cast_ofNat_Int]
 exact tru_e (by simp [hi])
theorem Awc (l:List (List UInt8)) (v:List UInt8) (hl:l.length≤9223372036854775807):Ab Tryz.prog 84 [.sl 1 (l.map str),str v] (fun r=>r=Ai (decide (v∈l))):=by
 refine Zs [] Tryz.func84 ⟨_,rfl⟩ ?_;refine Ap (rl [4,14]) [5] (fun n ys=>∃(j:Nat),j≤l.length∧j+n=l.length∧v∉l.take j∧ys=[num j]) ⟨l.length,_,⟨0,om,om,oS,rfl⟩,?_⟩ ?_
 ·exact Zw
 ·rintro n ys ⟨j,hjl,hn,he,rfl⟩;simp only[PU];rcases Axz j l.length with hlt|hge
  ·have ej:=eT j l.length;obtain⟨x,hx,hd⟩:=drop_at hlt;have hgx:=B8 hx;have hw:=wS j;by_cases h0:x=v
   ·have e0:(x==v)=true:=by simp [h0]
    refine Zu ?_;exact tru_t (by simp only[decide_eq_true_eq];exact h0▸Axt hx)
   ·have e0:(x==v)=false:=by simp [h0]
    refine Zu ?_;refine Az (n-1) [num ((j+1:Nat):Int)] om ⟨j+1,om,om,?_,rfl⟩ ?_
    ·rw [Ax9,hx];simp only[Azc,Ax5,Ax6,not_or];exact⟨he,fun h=>h0 h.symm⟩
    ·exact Zw
  ·have ej:=eU j l.length;rw[Axw hge]at he;refine Z1 ej ?_;exact tru_f (by simp only[decide_eq_false_iff_not];exact he)
def G2 (s t:A2):Bool:=if s.pu≠t.pu then decide (s.pu<t.pu)else decide (s.id≤t.id)
theorem Alm (s t:A2):Ab Tryz.prog 85 [Dx s,Dx t] (fun r=>r=Ai (G2 s t)):=by
 simp only[Dx,Q4];refine Ir [] Tryz.func85 ⟨_,rfl⟩ ?_;by_cases h:s.pu=t.pu
 ·have e:=eq_true h;refine Zu ?_;exact tru_e (by simp [G2,h])
 ·have e:=eq_false h;refine Zu ?_;exact tru_e (by simp [G2,h])
def hasB (s:A2) (v:List UInt8):Bool:=decide (v=[])||decide (v∈s.tp)
theorem Aom (s:A2) (a:Int) (v:List UInt8) (hl:s.tp.length≤9223372036854775807):Ab Tryz.prog 128 [qst s a,str v] (fun r=>r=Ai (hasB s v)):=by
 simp only[qst];refine Ir [] Tryz.func128 ⟨_,rfl⟩ ?_;by_cases h:v=[]
 ·have e:(v==[])=true:=by simp [h]
  refine Zu ?_;exact tru_t (by simp [hasB,h])
 ·have e:(v==[])=false:=by simp [h]
  refine Zu ?_;refine Za (Tl s.tp v hl) ?_;exact tru_e (by simp [hasB,h])
end
section
open Go.RowKit Go.Proofs
variable [Env]
theorem Ags (s:A2) (a:Int) (v:List UInt8) (hl:s.tp.length≤9223372036854775807):Ab Tryz.prog 193 [qst s a,.elt (.agg [str v])] (fun r=>r=Ai (hasB s v)):=by
 simp only[qst];refine Zs [] Tryz.func193 ⟨_,rfl⟩ ?_;refine((Aom s a v hl).wk ?_).mono ?_
 ·exact qQ
 exact Ij
theorem ArL (s:A2) (a:Int) (v:List UInt8) (hl:s.tp.length≤9223372036854775807):Ab Tryz.prog 127 [qst s a,.elt (.agg [str v])] (fun r=>r=Ai (hasB s v)):=by
 simp only[qst];refine Zs [] Tryz.func127 ⟨_,rfl⟩ ?_;refine((Aom s a v hl).wk ?_).mono ?_
 ·exact qQ
 exact Ij
theorem oJ (s:A2) (a:Int):Ab Tryz.prog 131 [qst s a] (fun r=>r=num s.id):=by simp only[qst];refine Ir [] Tryz.func131 ⟨_,rfl⟩ ?_;exact Ze
end
section
open Go.RowKit Go.Proofs
abbrev Cnd:=Nat×List AV×(A2→Int→Bool)
def fU (c:Cnd):AV:=.clo c.1 c.2.1
def Di (cs:List Cnd) (s:A2) (i:Int):Bool:=cs.all fun c=>c.2.2 s i
def C6 (p:A2→Int→Bool):Nat→List A2→List (A2×Nat)
 |_,[]=>[]
 |i,s::r=>if D8 s&&p s i then(s,i)::C6 p (i+1) r else C6 p (i+1) r
theorem Tm (p:A2→Int→Bool):∀(i:Nat) (l m:List A2),C6 p i (l++m)=C6 p i l++C6 p (i+l.length) m
 |i,[],m=>by simp [C6]
 |i,s::l,m=>by have:=Tm p (i+1) l m;simp only[Ax4,C6,this,Axr];have e:i+1+l.length=i+(l.length+1):=om;split<;>simp [e]
theorem Py {p:A2→Int→Bool} {l:List A2} {i:Nat} {s:A2} (hx:l[i]? =some s):(C6 p 0 (l.take (i+1))).length=(C6 p 0 (l.take i)).length+if D8 s&&p s i then 1 else 0:=by have hi:=(List.getElem?_eq_some_iff.1 hx).1;rw[Ax9,hx,Tm,Axs,AxC,Ay8 om,Ayc];simp only[Azc,C6];split<;>simp
theorem Agu {p:A2→Int→Bool} {l:List A2} {i:Nat} {s:A2} (hx:l[i]? =some s) (hp:(D8 s&&p s i)=true):(C6 p 0 l)[(C6 p 0 (l.take i)).length]? =some (s,i):=by
 have hi:=(List.getElem?_eq_some_iff.1 hx).1;have hd:l.drop i=s::l.drop (i+1):=by exact An9
 have:C6 p 0 l=C6 p 0 (l.take i)++(s,i)::C6 p (i+1) (l.drop (i+1)):=by rw[←AxR i l,Tm,AxR,AxC,Ay8 om,Ayc,hd,C6,if_pos hp]
 rw[this];simp
def Ki (s:A2):Prop:=s.tp.length≤9223372036854775807∧s.ed.length≤9223372036854775807
def Agv (c:Cnd):Prop:=∀(s:A2) (a:Int),Ki s→Ab Tryz.prog c.1 (qst s a::c.2.1) (fun r=>r=Ai (c.2.2 s a))
def qY (x:A2×Nat):AV:=qst x.1 (x.2:Nat)
def Agw (p:A2→Int→Bool) (l:List A2) (k:Nat) (args:List AV):Prop:=∃x,(C6 p 0 l)[k]? =some x∧args=[qY x]
theorem Lf {l:List A2} {j:Nat} {x:A2} (h:l[j]? =some x):(l.map Dx).getD j .any=.agg [num x.id,str x.au,.sl 1 (x.tp.map str),.sl 5 x.ed,num x.pu,.sl 5 x.co,Ai x.re,Ai x.tk]:=by simp [h,Dx,Q4]
theorem ArM {l:List Cnd} {j:Nat} {x:Cnd} (h:l[j]? =some x):(l.map fU).getD j .any=.clo x.1 x.2.1:=by simp [h,fU]
theorem Y4 (L:List A2) (tm:List AV) (cs:List Cnd) (hl:L.length≤1000000) (hs:∀s∈L,Ki s) (hcl:cs.length≤1000000) (hc:∀c∈cs,Agv c):
 Qj Tryz.prog 208 [.elt (.agg [.sl 8 (L.map Dx),.sl 2 tm]),.elt (.agg [.sl 1 (cs.map fU)])] (C6 (Di cs) 0 L).length (Agw (Di cs) L):=by
 refine Na [] [(10,2)] [] Bo Cq Tryz.func208 oD oK (by simp only[Tryz.f208,go_sem,reduceIte,reduceCtorEq];rfl) Tryz.ntmps208 Tryz.results208 rfl ?_;intro l;simp only[LS,Nat.reduceAdd,Nat.reduceSub];refine Zu ?_;refine Fo (rl [4,3,1,1,3,27]) [12] (fun n st xs=>∃(k i:Nat),st=some k∧i≤L.length∧i+n=L.length∧k=(C6 (Di cs) 0 (L.take i)).length∧xs=[num i]) ⟨L.length,_,⟨0,0,rfl,om,om,rfl,rfl⟩,?_⟩ ?_
 ·exact Zw
 ·rintro n st xs ⟨k,i,rfl,hil,hn,he,rfl⟩;simp only[PU];rcases Axz i L.length with hlt|hge
  ·have ej:=eT i L.length;obtain⟨s,hx,hd⟩:=drop_at hlt;have hso:=hs s (Axt hx);have hgx:=Lf hx;simp only[num,str,Ai]at hgx;have hw:=wS i;refine Z3 ej hgx hw ?_;refine((Agp s i hso.2).wk ?_).mono ?_
   ·exact qQ
   rintro r rfl;simp only[Ai];cases hls:D8 s
   ·refine Z3 ej hgx hw ?_;refine Cn (n-1) [num ((i+1:Nat):Int)] om ⟨k,i+1,rfl,om,om,?_,rfl⟩ ?_
    ·rw [he,Py hx,if_neg (by simp [hls])];simp
    ·exact Zw
   ·refine Z3 ej hgx hw ?_;refine Fo [false,false,false,false,false,false,false,false,true,false,false,false,false,false,false,false,false,false,false,false,false,false,false,false,false,true,true,true,true,true,true,true,true,true,false,false,false,false,false] [25] (fun n2 st2 xs=>∃j:Nat,st2=some k∧j≤cs.length∧j+n2=cs.length∧(∀c∈cs.take j,c.2.2 s i=true)∧xs=[num j]) ⟨cs.length,_,⟨0,rfl,om,om,oS,rfl⟩,?_⟩ ?_
    ·exact Zw
    ·rintro n2 st2 xs ⟨j,rfl,hjl,hn2,hall,rfl⟩;simp only[PU];rcases Axz j cs.length with hjt|hjg
     ·have ek:=eT j cs.length;obtain⟨c,hcx,hcd⟩:=drop_at hjt;have hgc:=ArM hcx;have hwj:=wS j;refine Z4 ek hgc hw hwj ?_;refine((hc c (Axt hcx) s i hso).wk ?_).mono ?_
      ·exact qQ
      rintro r rfl;simp only[Ai];cases hb:c.2.2 s i
      ·refine Z4 ek hgc hw hwj ?_;have hp:Di cs s i=false:=by simp only[Di,List.all_eq_false];exact⟨c,Axt hcx,by simp [hb]⟩
       refine Cn (n-1) [num ((i+1:Nat):Int)] om ⟨k,i+1,rfl,om,om,?_,rfl⟩ ?_
       ·rw [he,Py hx,if_neg (by simp [hp])];simp
       ·exact Zw
      ·refine Zu ?_;refine Cn (n2-1) [num ((j+1:Nat):Int)] om ⟨j+1,rfl,om,om,?_,rfl⟩ ?_
       ·intro d hd;rw[Ax9,hcx]at hd;simp only[Azc,Ax5,Ax6]at hd;rcases hd with hd|rfl
        ·exact hall d hd
        ·exact hb
       ·exact Zw
     ·have ek:=eU j cs.length;rw[Axw hjg]at hall;have hp:Di cs s i=true:=by simp only[Di,Ax7];exact hall
      refine Z2 ek hw ?_;refine J9 ⟨(s,i),by rw[he];exact Agu hx (by simp [hls,hp]),rfl⟩ ?_ ?_
      ·refine Z2 ek hw ?_;refine Cn (n-1) [num ((i+1:Nat):Int)] om ⟨k+1,i+1,rfl,om,om,?_,rfl⟩ ?_
       ·rw [he,Py hx,if_pos (by simp [hls,hp])]
       ·exact Zw
      ·repeat' first|refine Aj.on (fun _=>?_) (fun _=>?_)|with_reducible refine gd ?_|simp only[go_sem,DT,Int.reduceEq,Int.cast_ofNat_Int,Ae,ne_eq,Nat.reduceEqDiff,not_false_eq_true,ek,hw,Axp]
       exact Rv
  ·have ej:=eU i L.length;rw[Axw hge]at he;refine Z1 ej ?_;exact .inl (by rw[he])
end
section
open Go.RowKit Go.Proofs
def stA (L:List A2) (tm:List AV):AV:=.agg [.sl 8 (L.map Dx),.sl 2 tm]
theorem Y5 (L:List A2) (tm:List AV) (cs:List Cnd):Ab Tryz.prog 124 [stA L tm,.sl 1 (cs.map fU)] (fun r=>r=.clo 208 [.elt (stA L tm),.elt (.agg [.sl 1 (cs.map fU)])]):=by simp only[stA];refine Ir [(1,[2,3],[])] Tryz.func124 ⟨_,rfl⟩ ?_;exact Ze
theorem Agx (XS:List (A2×Nat)) (hl:XS.length≤1000000) {g:Nat} {cs:List AV} (hi:Qj Tryz.prog g cs XS.length (fun k args=>∃x,XS[k]? =some x∧args=[qY x])):Ab Tryz.prog 260 [.mine 195 9 [],.clo g cs] (fun r=>r=.mine 195 9 (XS.map qY)):=by
 refine Fw [] [] [5,7,8,9,10,11] Bo Cq Tryz.func260 oD oK (by simp only[Tryz.f260,go_sem,reduceIte,reduceCtorEq];rfl) Tryz.ntmps260 Tryz.results260 ⟨_,rfl⟩ rfl ?_;skip;simp only[LS,Nat.reduceAdd,Nat.reduceSub];refine Z0 ?_;refine H1 (rl [2,1,2,1,1,5]) [2] (fun k xs=>xs=[.box 197 [.mine 195 9 ((XS.take k).map qY)]]) (Axu 13) ?_ hi ?_ ?_ ?_
 ·exact Ho
 ·refine ⟨_,rfl,?_⟩;simp only[PU];simp only[AxI,Axv];exact Zw
 ·rintro k args xs ⟨x,hk,rfl⟩ rfl;refine⟨rfl,rfl,?_⟩;have hlk:k<XS.length:=(List.getElem?_eq_some_iff.1 hk).1;have hlt:((XS.take k).map qY).length=k:=by simp;omega
  have hsn:(XS.take k).map qY++[qY x]=(XS.take (k+1)).map qY:=by rw[Ax9,hk];simp
  obtain⟨s,i⟩:=x;simp only[qY,qst,num,str,Ai]at hsn⊢;simp only[PU];repeat' first|refine Aj.on (fun _=>?_) (fun _=>?_)|with_reducible refine gd ?_|simp only[go_sem,DT,Int.reduceEq,Int.cast_ofNat_Int,hlt,hsn]
  refine L6 _ rfl ?_;exact Zw
 ·rintro xs rfl;simp only[PU];simp only[Ay0];exact Ze
theorem Wl (XS:List (A2×Nat)) (hl:XS.length≤1000000) {g:Nat} {cs:List AV} (hi:Qj Tryz.prog g cs XS.length (fun k args=>∃x,XS[k]? =some x∧args=[qY x])):Ab Tryz.prog 210 [.clo g cs] (fun r=>r=.mine 195 9 (XS.map qY)):=by
 refine A9 [] Bo Cq Tryz.func210 oD oK (by simp only[Tryz.f210,go_sem,reduceIte];rfl) Tryz.ntmps210 Tryz.results210 ⟨_,rfl⟩ rfl ?_;simp only[LS,Nat.reduceAdd,Nat.reduceSub];repeat' first|refine Aj.on (fun _=>?_) (fun _=>?_)|with_reducible refine gd ?_|simp only[go_sem,DT,Int.reduceEq,Int.cast_ofNat_Int]
 refine((Agx XS hl hi).wk ?_).mono ?_
 ·exact Df
 rintro r rfl;exact Aaw
end
section
open Go.RowKit Go.Proofs
end
section
open Go.RowKit Go.Proofs
def Gf:List A2→A2→List A2
 |[],x=>[x]
 |y::r,x=>if G2 y x then x::y::r else y::Gf r x
def U8 (v:List UInt8) (acc:List A2) (s:A2):List A2:=if D8 s&&hasB s v then Gf acc s else acc
def Cr (v:List UInt8) (L:List A2):List A2:=L.foldl (U8 v) []
theorem Tn:∀(l:List A2) (x:A2),(Gf l x).length=l.length+1
 |[],x=>rfl
 |y::r,x=>by have:=Tn r x;simp only[Gf];split<;>simp [this]
theorem fV (v:List UInt8):∀(L acc:List A2),(L.foldl (U8 v) acc).length≤acc.length+L.length
 |[],acc=>by simp
 |s::L,acc=>by
  have h:=fV v L (U8 v acc s)
  have:(U8 v acc s).length≤acc.length+1:=by
   unfold U8;split
   ·rw [Tn];omega
   ·omega
  exact bK
theorem Lg (v:List UInt8) (L:List A2):(Cr v L).length≤L.length:=by have:=fV v L [];simpa[Cr]using this
theorem Wm {v:List UInt8} {L:List A2} {i:Nat} {s:A2} (hx:L[i]? =some s):Cr v (L.take (i+1))=if D8 s&&hasB s v then Gf (Cr v (L.take i)) s else Cr v (L.take i):=by rw[Ax9,hx];simp only[Cr,Azc,Ayx,Ayt,AyC,U8]
theorem Wn {x:A2}:∀(B A:List A2),(∀y∈B,G2 y x=false)→(∀y,A.head? =some y→G2 y x=true)→Gf (B++A) x=B++x::A
 |[],[],_,_=>rfl
 |[],a::A,_,h=>by simp only[Ax8,Gf,h a rfl,if_true]
 |b::B,A,hB,hA=>by have:=Wn B A (fun y hy=>hB y (by simp [hy])) hA;simp only[Ax4,Gf,hB b oS,Ax0,if_false,this]
theorem fW {v:List UInt8} {L:List A2} {i:Nat} {s:A2} {O A B:List A2} (hx:L[i]? =some s) (hsel:(D8 s&&hasB s v)=true) (hO:(Cr v (L.take i)).reverse=O) (hAB:O=A++B) (hB:∀y∈B,G2 y s=false) (hA:A=[]∨∃y,A.getLast? =some y∧G2 y s=true):
 (Cr v (L.take (i+1))).reverse=A++[s]++B:=by
 have hr:Cr v (L.take i)=B.reverse++A.reverse:=by rw[←List.reverse_reverse (Cr v (L.take i)),hO,hAB,List.reverse_append]
 rw[Wm hx,if_pos hsel,hr,Wn B.reverse A.reverse (fun y hy=>hB y (by simpa using hy)) (fun y hy=> ?_)]
 ·simp
 ·rcases hA with rfl|⟨z,hz,hz2⟩
  ·simp at hy
  ·rw [List.head?_reverse,hz]at hy;injection hy with hy;subst hy;exact hz2
theorem Agy (L:List A2) (tm:List AV) (v:List UInt8) (hl:L.length≤100000) (hs:∀s∈L,Ki s):Ab Tryz.prog 54 [stA L tm,str v] (fun r=>r=.sl 8 ((Cr v L).reverse.map Dx)):=by
 simp only[stA];refine Ir [(1000008,[],[])] Tryz.func54 ⟨_,rfl⟩ ?_;simp (decide:=true) only[En [9] [] [] [[9],[],[42],[43,42],[42,9],[42],[43,42],[42],[42],[42],[42],[42]],AxE,AxX,AxY];refine Zu ?_;refine Ap (rl [5,63]) [5,6] (fun n xs=>∃(i:Nat),i≤L.length∧i+n=L.length∧xs=[.sl 8 (((Cr v (L.take i)).reverse).map Dx),num i]) ⟨L.length,_,⟨0,om,om,rfl⟩,?_⟩ ?_
 ·simp only[AxI,Cr,AyC,List.reverse_nil,Axv];exact Zw
 ·rintro n xs ⟨i,hil,hn,rfl⟩;simp only[PU];rcases Axz i L.length with hlt|hge
  ·have ej:=eT i L.length;obtain⟨s,hx,hd⟩:=drop_at hlt;have hso:=hs s (Axt hx);have hgx:=Lf hx;simp only[num,str,Ai]at hgx;have hw:=wS i;refine Zu ?_;refine((Tj s hso.2).wk ?_).mono ?_
   ·exact qM
   rintro r rfl;simp only[Ai];simp only[go_sem];refine Ya (rl [27,11]) [] (fun xs=>xs=[]∧(D8 s&&hasB s v)=true) ?_ ?_
   ·cases hls:D8 s
    ·have hsel:(D8 s&&hasB s v)=false:=by simp [hls]
     exact Att
    ·by_cases hv:v=[]
     ·have ev:(v==[])=true:=by simp [hv]
      refine Zu ?_;refine K0 [] ⟨rfl,by simp [hasB,hls, *]⟩ ?_;exact Zw
     ·have ev:(v==[])=false:=by simp [hv]
      refine Zu ?_;refine Zb (Awc s.tp v hso.1) ?_;rintro r rfl;simp only[Ai];by_cases hin:v∈s.tp
      ·have ei:=eq_true hin;refine Zu ?_;refine K0 [] ⟨rfl,by simp [hasB,hls, *]⟩ ?_;exact Zw
      ·have ei:=eq_false hin;have hsel:(D8 s&&hasB s v)=false:=by simp [hasB,hls,hv,hin]
       exact Att
   ·rintro xs ⟨rfl,hsel⟩;simp only[PU];have holen:(Cr v (L.take i)).length≤i:=by have:=Lg v (L.take i);rw[AxC]at this;omega
    obtain⟨O,hO⟩:∃O,(Cr v (L.take i)).reverse=O:=⟨_,rfl⟩;have hOl:O.length≤i:=by rw[←hO,List.length_reverse];exact holen
    rw[hO];refine Zu ?_;refine Ap (rl [9,1,30,14]) [9] (fun n2 xs=>∃k:Nat,k≤O.length∧k=n2∧(∀y∈O.drop k,G2 y s=false)∧xs=[num k]) ⟨O.length,_,⟨O.length,om,rfl,oS,rfl⟩,?_⟩ ?_
    ·exact Zw
    ·rintro n2 xs ⟨k,hk,rfl,hall,rfl⟩;simp only[PU];rcases AxG k with rfl|hpos
     ·have e0:=eq_false (show¬(0:Int)<((0:Nat):Int) by omega);have hfin:=fW (v:=v) hx hsel hO (A:=[]) (B:=O) rfl (by simpa using hall) (.inl rfl);have hmd:List.take O.length (O.map Dx)=O.map Dx:=Axw oS;repeat' first|refine Aj.on (fun _=>?_) (fun _=>?_)|with_reducible refine gd ?_|simp only[go_sem,DT,Int.reduceEq,Int.cast_ofNat_Int,ej,hgx,hw,Axp,e0,hmd,Axs]
      all_goals try (exfalso;omega)
      refine Az (n-1) [.sl 8 (((Cr v (L.take (i+1))).reverse).map Dx),num ((i+1:Nat):Int)] om ⟨i+1,om,om,rfl⟩ ?_;rw[hfin];simp only[AxJ,Axx,Axv,Ax8,Ax4,Dx,Q4,num,str,Ai];exact Zw
     ·have e0:=eq_true (show(0:Int)<(k:Int) by omega);obtain⟨y,hy⟩:∃y,O[k-1]? =some y:=⟨_,List.getElem?_eq_getElem om⟩;have hgy:=Lf hy;simp only[num,str,Ai]at hgy;have hwk:IntKind.i64.wrap ((k:Int)-1)=((k-1:Nat):Int):=by rw[Cj om om];omega
      refine Zu ?_;refine((Alm y s).wk ?_).mono ?_
      ·exact qM
      rintro r rfl;simp only[Ai];cases hah:G2 y s
      ·refine Zu ?_;refine Az (k-1) [num ((k-1:Nat):Int)] om ⟨k-1,om,rfl,?_,rfl⟩ ?_
       ·intro z hz;have hd1:O.drop (k-1)=y::O.drop k:=by rw[Ayd om];have:=(List.getElem?_eq_some_iff.1 hy).2;rw[this];congr 2;omega
        rw[hd1,Ax2]at hz;rcases hz with rfl|hz
        ·exact hah
        ·exact hall z hz
       ·exact Zw
      ·have hfin:=fW (v:=v) hx hsel hO (A:=O.take k) (B:=O.drop k) (AxR k O).symm hall (.inr ⟨y,by rw[List.getLast?_eq_getElem?,AxC,Ay8 hk,List.getElem?_take_of_lt om];exact hy,hah⟩);have hmt:List.take k (O.map Dx)=(O.take k).map Dx:=List.map_take.symm;have hmd:List.take (O.length-k) (List.drop k (O.map Dx))=(O.drop k).map Dx:=by rw[←AyJ,Axw oS]
       repeat' first|refine Aj.on (fun _=>?_) (fun _=>?_)|with_reducible refine gd ?_|simp only[go_sem,DT,Int.reduceEq,Int.cast_ofNat_Int,ej,hgx,hw,Axp,e0,hgy,hwk,hmt,hmd,Axs,AxC,AxQ,AyI]
       refine Az (n-1) [.sl 8 (((Cr v (L.take (i+1))).reverse).map Dx),num ((i+1:Nat):Int)] om ⟨i+1,om,om,rfl⟩ ?_;rw[hfin];simp only[AxJ,Axx,Axv,Dx,Q4,num,str,Ai];exact Zw
  ·exact AaJ
end
section
open Go.RowKit Go.Proofs
end
section
open Go.RowKit Go.Proofs
def Pz {α:Type} (O:List α) (p:Int):List α:=if 1≤p then(O.drop (5*(p-1).toNat)).take 5 else[]
theorem ArN {α:Type} {O:List α} {x:α} {p:Int} (h:((O.length / 5+1:Nat):Int)=p):Pz (O++[x]) p=Pz O p++[x]:=by subst h;have h1:(1:Int)≤((O.length / 5+1:Nat):Int):=om;have h2:(((O.length / 5+1:Nat):Int)-1).toNat=O.length / 5:=om;simp only[Pz,h1,if_true,h2];have h3:5*(O.length / 5)≤O.length:=Nat.mul_div_le _ _;have h4:O.length<5*(O.length / 5)+5:=om;rw[Ay5 h3,Axw (by simp;omega),Axw (by simp;omega)]
theorem Aln {α:Type} {O:List α} {x:α} {p:Int} (h:¬((O.length / 5+1:Nat):Int)=p):Pz (O++[x]) p=Pz O p:=by
 by_cases hp:1≤p
 ·obtain ⟨q,rfl⟩:∃q:Nat,p=((q+1:Nat):Int):=⟨(p-1).toNat,om⟩;have h2:(((q+1:Nat):Int)-1).toNat=q:=om;simp only[Pz,hp,if_true,h2];rcases Axz O.length (5*q)with hl|hl
  ·rw [AyN (by simp;omega),AyN om]
  ·rw [Ay5 hl,Ayo (by simp;omega)]
 ·simp only[Pz,hp,if_false]
theorem Alo {α:Type} (O:List α) (p:Int):(Pz O p).length≤5:=by
 unfold Pz;split
 ·rw [AxC];omega
 ·simp
theorem yQ (L:List A2) (tm:List AV) (v:List UInt8) (p:Int) (hl:L.length≤100000) (hs:∀s∈L,Ki s):Ab Tryz.prog 27 [stA L tm,str v,num p] (fun r=>r=.tup [.own 3 1 (nums (Pz ((Cr v L).reverse.map (·.id)) p)),num (((Cr v L).length+4) / 5:Nat)]):=by
 simp only[stA];refine A9 [] Bo Cq Tryz.func27 oD oK (by simp only[Tryz.f27,go_sem,reduceIte];rfl) Tryz.ntmps27 Tryz.results27 ⟨_,rfl⟩ rfl ?_;simp only[LS,Nat.reduceAdd,Nat.reduceSub];repeat' first|refine Aj.on (fun _=>?_) (fun _=>?_)|with_reducible refine gd ?_|simp only[go_sem,DT,Int.reduceEq,Int.cast_ofNat_Int]
 refine((Agy L tm v hl hs).wk ?_).mono ?_
 ·simp only[stA,str];exact Df
 rintro r rfl;obtain⟨M,hM⟩:∃M,Cr v L=M:=⟨_,rfl⟩;have hMl:M.length≤L.length:=by rw[←hM];exact Lg v L
 simp only[hM];have hwi:IntKind.i64.wrap ((M.length:Int)-1)=(M.length:Int)-1:=Cj om om;obtain⟨O,hO⟩:∃O,M.reverse=O:=⟨_,rfl⟩;have hOl:O.length=M.length:=by rw[←hO,List.length_reverse]
 simp only[hO];repeat' first|refine Aj.on (fun _=>?_) (fun _=>?_)|with_reducible refine gd ?_|simp only[go_sem,DT,Int.reduceEq,Int.cast_ofNat_Int,Axp]
 refine Ap [false,false,false,false,false,false,false,false,false,true,true,true,false,false,false,true,true,true,true,true,true,true,true,true,true,true,true,true,true,true,true,true,true,true,true,true,true,false,false] [9,10,11] (fun k xs=>∃(i:Nat),i≤O.length∧i+k=O.length∧xs=[num (((i+4) / 5:Nat):Int),.own 3 1 (nums (Pz ((O.map (·.id)).take i) p)),num i]) ⟨O.length,_,⟨0,om,om,rfl⟩,?_⟩ ?_
 ·have e0:Pz (([]:List Int)) p=[]:=by unfold Pz;split<;>simp
  simp only[AxI,e0,nums,Axv];exact Rx
 ·rintro k xs ⟨i,hil,hk,rfl⟩;have hpl:=Alo ((O.map (·.id)).take i) p;simp only[PU];rcases Axz i O.length with hlt|hge
  ·have ej:=eq_true (show(i:Int)<(O.length:Int) by omega);obtain⟨s,hx⟩:∃s,O[i]? =some s:=⟨_,List.getElem?_eq_getElem hlt⟩;have hgx:=Lf hx;simp only[num,str,Ai]at hgx;have hw:IntKind.i64.wrap ((i:Int)+1)=((i+1:Nat):Int):=Eu om;have hm:(i:Int).tmod 5=((i % 5:Nat):Int):=Oe (n:=5) om;have htk:(O.map (·.id)).take (i+1)=(O.map (·.id)).take i++[s.id]:=by rw[Ax9,List.getElem?_map,hx];rfl
   have htl:((O.map (·.id)).take i).length=i:=by simp;omega
   have hin:=ArN (O:=(O.map (·.id)).take i) (x:=s.id) (p:=p);have hout:=Aln (O:=(O.map (·.id)).take i) (x:=s.id) (p:=p);rw[htl,←htk]at hin hout;by_cases h5:i % 5=0
   ·have e5:=eq_true (show((i % 5:Nat):Int)=0 by omega);have hwp:IntKind.i64.wrap (((((i+4) / 5:Nat):Int))+1)=((i / 5+1:Nat):Int):=by rw[Cj om om];omega
    exact AsO
   ·have e5:=eq_false (show¬((i % 5:Nat):Int)=0 by omega);have hwp:(((i+4) / 5:Nat):Int)=((i / 5+1:Nat):Int):=om;exact AsO
  ·have ej:=eq_false (show¬(i:Int)<(O.length:Int) by omega);repeat' first|refine Aj.on (fun _=>?_) (fun _=>?_)|with_reducible refine gd ?_|simp only[go_sem,DT,Int.reduceEq,Int.cast_ofNat_Int,ej,Axp]
   rw[Axw (by simp;omega),show i=M.length by omega,←hO]
theorem AuK {l:List (A2×Nat)} {j:Nat} {s:A2} {i:Nat} (h:l[j]? =some (s,i)):(l.map qY).getD j .any=.agg [num s.id,str s.au,.sl 1 (s.tp.map str),.sl 5 s.ed,num s.pu,.sl 5 s.co,Ai s.re,Ai s.tk,num (i:Int)]:=by simp [h,qY,qst]
theorem Wo (XS:List (A2×Nat)) (n:Int) (hl:XS.length≤1000000):Ab Tryz.prog 130 [.sl 9 (XS.map qY),num n,.raw (.func (.func 131) #[] #[])] (fun r=>r=.own 3 1 (nums ((XS.map (·.1.id)).take n.toNat))):=by
 refine Zs [] Tryz.func130 ⟨_,rfl⟩ ?_;refine Ap (rl [7,22]) [7,8] (fun k xs=>∃(j:Nat),j≤XS.length∧j≤n.toNat∧j+k=XS.length∧xs=[.own 3 1 (nums ((XS.map (·.1.id)).take j)),num j]) ⟨XS.length,_,⟨0,om,om,om,rfl⟩,?_⟩ ?_
 ·simp only[AxI,nums,Axv];exact Rx
 ·rintro k xs ⟨j,hjl,hjn,hk,rfl⟩;have hol:((XS.map (·.1.id)).take j).length=j:=by simp;omega
  simp only[PU];rcases Axz j n.toNat with hjt|hjg
  ·have en:=eq_true (show(j:Int)<n by omega);rcases Axz j XS.length with hlt|hge
   ·have ej:=eT j XS.length;obtain⟨x,hx⟩:∃x,XS[j]? =some x:=⟨_,List.getElem?_eq_getElem hlt⟩;obtain⟨s,i⟩:=x;have hgx:=AuK hx;simp only[num,str,Ai]at hgx;have hw:=wS j;have hsn:nums ((XS.map (·.1.id)).take j)++[AV.raw (.int .i64 s.id)]=nums ((XS.map (·.1.id)).take (j+1)):=by rw[Ax9,List.getElem?_map,hx];simp [nums,num]
    refine Zu ?_;refine((oJ s i).wk ?_).mono ?_
    ·simp only[qst,num,str,Ai];exact Df
    rintro r rfl;refine Zn ?_;exact Zl (k-1) ⟨j+1,om,om,om,rfl⟩
   ·have ej:=eU j XS.length;refine Zu ?_;rw[Axw (by simp;omega),Axw (by simp;omega)]
  ·have en:=eq_false (show¬(j:Int)<n by omega);refine Zu ?_;rw[show j=n.toNat by omega]
end
end Go.Proofs.YtmophjggmekoeaaGreatDoor
namespace Go.Proofs.YtmophjggmekoeaaGreatDoor
open Go.RowKit Go.Proofs Go.Sort Go.Shelf Go.Lib
variable [Env]
theorem Stp.grown (hdr:Env.drawn) {w w':World} {S S' c':Nat→Nat} (h:Stp w S (fun _=>0) w' S' c'):∃q os',w'=Go.Sort.grow (w.drewN q) os':=by
 refine⟨w'.drawn-w.drawn,w'.heap.extract w.heap.size w'.heap.size,?_⟩
 have hheap:w.heap++w'.heap.extract w.heap.size w'.heap.size=w'.heap:=by
  apply Array.ext_getElem?;intro i;have hs:=h.size;rcases Axz i w.heap.size with hi|hi
  ·rw [Array.getElem?_append_left hi];exact(h.keep i hi rfl).1.symm
  ·rw [Array.getElem?_append_right hi];simp only[Array.getElem?_extract];split
   ·congr 1;omega
   ·rw [Array.getElem?_eq_none om]
 have h1:=h.os;have h2:=h.tape;have h3:=h.output;obtain⟨hp,tp,dr,os,out⟩:=w;obtain⟨hp',tp',dr',os',out'⟩:=w';simp only[Go.Sort.grow,World.drewN]at *;subst h1;subst h2;obtain⟨rfl,h3⟩:=h3;have h3:=h3 hdr;rw[hheap];congr 1;omega
theorem Ab.lays (hdr:Env.drawn) {P:Program} {f:Nat} {args:List AV} {n:Int} (h:Ab P f args (fun r=>r=num n)) {w:World} {S:Nat→Nat} {vs:List Value} (hz:Sz w S) (hr:Aa w S args vs (fun _=>0)):
 Calls P f vs.toArray w fun e w'=>e=.returned (.int .i64 n)∧∃q os',w'=Go.Sort.grow (w.drewN q) os':=by
 refine(h.2.2 w S vs _ hz hr (fun _=>oS)).mono ?_;rintro e w' ⟨v,r,S',c',rfl,rfl,hp,hrr,h4,h5,h6⟩;have hv:v=.int .i64 n:=by cases hrr with|raw h1 h=>rfl
 subst hv;exact⟨rfl,h6.grown hdr⟩
theorem sK {P:Program} {f:Nat} {args:List AV} {n:Int} (h: @Ab ⟨True,Env.globs⟩ P f args (fun r=>r=num n)) {w:World} {S:Nat→Nat} {vs:List Value} (hz:Sz w S) (hr:Aa w S args vs (fun _=>0)):
 Calls P f vs.toArray w fun e w'=>e=.returned (.int .i64 n)∧∃q os',w'=Go.Sort.grow (w.drewN q) os':=by
 have hz2: @Sz ⟨True,Env.globs⟩ w S:= @Sz.mk ⟨True,Env.globs⟩ w S hz.z hz.g;exact @Ab.lays ⟨True,Env.globs⟩ trivial P f args n h w S vs hz2 hr
theorem Nc {w:World} {S:Nat→Nat} {k:Nat}:∀{es:List AV} {cv:List Value} {c:Nat→Nat},(∀x∈es,(cellsOf x).length=k)→Aa w S (flat es) cv c→Zc c→
 ∃css:List (List Value),css.length=es.length∧cv=css.flatten∧∀(i:Nat) (x:AV) (cs:List Value),es[i]? =some x→css[i]? =some cs→cs.length=k∧Aa w S (cellsOf x) cs (fun _=>0)
 |[],cv,c,_,h,_=>⟨[],rfl,by rw[h.zero.1];rfl,oS⟩
 |x::es,cv,c,hk,h,h0=>by
  rw[flat]at h;obtain⟨us1,us2,c1,c2,rfl,g1,g2,hc⟩:=h.unapp;have z1:Zc c1:=fun b=>by have:=hc b;have:=h0 b;omega
  have z2:Zc c2:=fun b=>by have:=hc b;have:=h0 b;omega
  obtain⟨css,i1,i2,i3⟩:=Nc (fun y hy=>hk y (by simp [hy])) g2 z2;refine⟨us1::css,by simp [i1],by rw[i2];rfl,fun i y cs hy hcs=> ?_⟩
  cases i with
  |zero=>simp at hy hcs;subst hy;subst hcs;exact⟨by rw[g1.length];exact hk x oS,g1.congr fun b=>(z1 b).symm⟩
  |succ i=>exact i3 i y cs (by simpa using hy) (by simpa using hcs)
theorem Wp {w:World} {S:Nat→Nat}:∀{es:List AV} {css:List (List Value)},css.length=es.length→(∀(i:Nat) (x:AV) (cs:List Value),es[i]? =some x→css[i]? =some cs→Aa w S (cellsOf x) cs (fun _=>0))→Aa w S (flat es) css.flatten (fun _=>0)
 |[],[],_,_=>.nil Al
 |[],_::_,h,_=>by simp at h
 |_::_,[],h,_=>by simp at h
 |x::es,cs::css,h,hr=>by rw[flat,List.flatten_cons];exact(hr 0 x cs rfl rfl).app (Wp (by simpa using h) fun i y ds hy hd=>hr (i+1) y ds (by simpa using hy) (by simpa using hd)) (fun _=>rfl)
theorem fX {w:World} {g:Nat} {cur:Array Value} {e:TypeId} {ss:List Value} (hb:w.heap[g]? =some (.cells cur e (0,0))) (ht:cur.toList.take ss.length=ss):Holds id w g 0 ss.toArray:=by
 intro j hj;have hj':j<ss.length:=by simpa using hj
 refine⟨?_,by simp [World.frozen?,hb]⟩;have h1:(cur.toList.take ss.length)[j]? =ss[j]? :=by rw[ht]
 exact Amt
theorem sL {w:World} {g n:Nat} {os:Array Obj} {cur:Array Value} {e:TypeId} {fr:Nat×Nat} (d:Array Value) (hb:w.heap[g]? =some (.cells cur e fr)):
 (Go.Sort.grow (putRow id (Sort.ahead w n) g 0 d) os).heap[g]? =some (.cells (putCells id 0 d cur) e fr):=by
 exact Amx
theorem oL {w:World} {g n:Nat} {os:Array Obj} (d:Array Value):w.grownBy (Go.Sort.grow (putRow id (Sort.ahead w n) g 0 d) os) (some g):=by exact Amp
theorem Alp (cur:Array Value) (ts:List Value) (h:ts.length≤cur.size):(putCells id 0 ts.toArray cur).toList.take ts.length=ts:=by
 apply Ayw;intro j;by_cases hj:j<ts.length
 ·exact Ank
 ·rw [List.getElem?_take_eq_none om,List.getElem?_eq_none om]
theorem oM {w:World} {S c:Nat→Nat} {b n:Nat} {os:Array Obj} {cur:Array Value} {e:TypeId} (d:Array Value) (hz:Sz w S) (hb:w.heap[b]? =some (.cells cur e (0,0))) (hc:0<c b) (hS:S b=0):
 Stp w S c (Go.Sort.grow (putRow id (Sort.ahead w n) b 0 d) os) S c∧Sz (Go.Sort.grow (putRow id (Sort.ahead w n) b 0 d) os) S:=by
 have hg:=oL (w:=w) (g:=b) (n:=n) (os:=os) d;obtain⟨h1,h2,h3,h4,h5⟩:=hg;have hbs:b<w.heap.size:=(Array.getElem?_eq_some_iff.1 hb).1;have hother:∀x,x<w.heap.size→x≠b→(Go.Sort.grow (putRow id (Sort.ahead w n) b 0 d) os).heap[x]? =w.heap[x]? :=fun x hx hne=>h5 x hx (by intro h;injection h with h;exact hne h);refine Xe hz ⟨by first|exact h1|rfl,by first|exact h2|rfl,⟨by first|exact h3|rfl,fun _=>AyA _ _⟩,h4,fun x hx hx0=> ?_,fun x o ho=> ?_,fun x=>Axu _,fun x hx=>Axu _⟩ fun x hx=>hz x om
 ·have hne:x≠b:=by rintro rfl;omega
  exact⟨hother x hx hne,rfl⟩
 ·exact Am7
theorem Qn {k:Nat} (hk:0<k):∀(css:List (List Value)),(∀cs∈css,cs.length=k)→∀t,t<css.length*k→css.flatten[t]! =(css[t / k]!)[t % k]!
 |[],_,t,h=>by simp at h
 |cs::css,hl,t,h=>by
  have h0:=hl cs oS;rcases Axz t k with ht|ht
  ·rw [Nat.div_eq_of_lt ht,Nat.mod_eq_of_lt ht];simp only[List.flatten_cons,List.getElem!_cons_zero];rw[getElem!_def,getElem!_def,List.getElem?_append_left om]
  ·have ih:=Qn hk css (fun c hc=>hl c (by simp [hc])) (t-k) (by simp only[Axr,Ayh]at h;omega);have e1:t / k=(t-k) / k+1:=by rw[←Nat.sub_add_cancel ht,Nat.add_div_right _ hk];simp
   have e2:t % k=(t-k) % k:=by rw[←Nat.sub_add_cancel ht,Nat.add_mod_right];simp
   rw[e1,e2];simp only[List.flatten_cons,List.getElem!_cons_succ];rw[←ih,getElem!_def,getElem!_def,List.getElem?_append_right om,h0]
theorem Lh {k:Nat}:∀(css:List (List Value)),(∀cs∈css,cs.length=k)→css.flatten.length=css.length*k
 |[],_=>by simp
 |cs::css,hl=>by rw[List.flatten_cons,Axs,Lh css (fun c hc=>hl c (by simp [hc])),hl cs oS,Axr,Ayh];omega
theorem Oh {k n:Nat} (hk:0<k) [Inhabited (Fin n)] (enc:Fin n→List Value) (he:∀i,(enc i).length=k) (d:List (Fin n)):flatK enc k d.toArray=(d.map enc).flatten.toArray:=by
 have hl:∀cs∈d.map enc,cs.length=k:=fun cs hcs=>by obtain⟨i,_,rfl⟩:=AxB.1 hcs;exact he i
 have hlen:=Lh (d.map enc) hl;rw[Axp]at hlen;apply Array.ext
 ·simp [hlen]
 ·intro t h1 h2;have ht:t<d.length*k:=by simpa using h1
  have hq:t / k<d.length:=by rw[Nat.div_lt_iff_lt_mul hk];exact ht
  have:=Qn hk (d.map enc) hl t (by simpa using ht);have g1:=get_flatK enc k d.toArray t (by simpa using ht);rw[getElem!_pos _ t h1]at g1;rw[getElem!_pos _ t (by rw[hlen];exact ht)]at this;rw[g1];simp only[Ayp];rw[this];congr 1;rw[getElem!_pos _ _ (by simpa using hq),getElem!_pos _ _ (by simpa using hq)];simp
theorem Y6 {α:Type} (es:List α):(List.finRange es.length).map es.get=es:=by exact qG
theorem Y7 {P:Program} {ρ:Ren} (L:SlLaysF0.n6 P ρ) (k:Nat) (hk0:0<k) (aE:∀w,(isAgg (ρ.t 24)).run P w=.ok true w) (zE:∀w,(Go.sizeOf (ρ.t 24)).run P w=.ok k w) {e g:Nat} (hfn:Gn P (ρ.f 6))
 (eg:∀args w,(callFunc g args).run P w=.ok (.enter g args) w) (es:List AV) (hk:∀x∈es,∃ys,x=.agg ys∧ys.length=k) (hlen:es.length≤1000000) (cf:Fin es.length→Fin es.length→Int) (hO:SWO (ltOf cf))
 (hT:∀x y,(ltOf cf) x y=false→(ltOf cf) y x=false→x=y) (hcall:∀i j:Fin es.length,@Ab ⟨True,Env.globs⟩ P g [es.get i,es.get j] (fun r=>r=num (cf i j))):
 B9 P (ρ.f 6) (.row e k es) [.raw (.func (.func g) #[] #[])] (fun r y=>r=.tup []∧y=.row e k (((List.finRange es.length).mergeSort fun x y=> !(ltOf cf) y x).map es.get)):=by
 have hkc:∀x∈es,(cellsOf x).length=k:=fun x hx=>by obtain⟨ys,rfl,hy⟩:=hk x hx;exact hy
 refine⟨hfn,⟨_,_,rfl,rfl⟩,fun w S v vs c hz hr hc=> ?_⟩;obtain⟨v',us,d1,d2,he0,h1,h2,hd⟩:=hr.uncons;injection he0 with e1 e2;subst e1;subst e2;obtain⟨fv,us2,d3,d4,rfl,h3,h4,hd2⟩:=h2.uncons;obtain⟨rfl,hz4⟩:=h4.zero;have hfv:fv=.func (.func g) #[] #[]∧Zc d3:=by cases h3 with|raw ho h=>cases h with|nil hz=>exact⟨rfl,hz⟩
 obtain⟨rfl,hz3⟩:=hfv;have hd':∀b,c b=d1 b:=fun b=>by rw[hd,hd2,hz3 b,hz4 b];omega
 have hc1:∀b,d1 b≤1:=fun b=>by rw[←hd'];exact hc b
 have h1c:Aa w S [.row e k es] [v] c:=h1.congr hd';rcases AxG es.length with h0|hpos
 ·have hes:es=[]:=AxA h0;subst hes;have hv:∃p cap,v=.slice p 0 cap:=by exact Aay
  obtain⟨p,cap,rfl⟩:=hv;refine(AnyF.slices_SortFunc_none L p cap _ w).mono ?_;rintro e' w' ⟨rfl,rfl⟩;refine⟨_,_,_,S,c,rfl,⟨rfl,rfl⟩,rfl,.inr ⟨_,_,_,rfl⟩,?_,hc,hz,Stp.refl _ _ _⟩;have:((List.finRange ([]:List AV).length).mergeSort fun x y=> !(ltOf cf) y x).map ([]:List AV).get=[]:=by have:(List.finRange ([]:List AV).length)=[]:=rfl;rw[this];simp
  rw[this];exact Aa.tup (.nil Al) h1c (c1:=fun _=>0) (c2:=c) (fun b=>oS)
 ·haveI:Inhabited (Fin es.length):=⟨⟨0,hpos⟩⟩
  cases h1c with
  |rowE h=>simp at hpos
  |row hn hcap hkk hb hs hS hf h0 ho hnil hcc=>
   rename_i b cap cur c0 c2;obtain⟨_,hz2⟩:=hnil.zero;obtain⟨css,hcl,hcv,hcs⟩:=Nc hkc hf h0;have hbs:b<w.heap.size:=(Array.getElem?_eq_some_iff.1 hb).1;have hck:∀i:Fin es.length,∃cs,css[i.1]? =some cs:=fun i=>⟨_,List.getElem?_eq_getElem (by rw[hcl];exact i.2)⟩;obtain⟨enc,hencdef⟩:∃enc:Fin es.length→List Value,∀i,css[i.1]? =some (enc i):=⟨fun i=>(hck i).choose,fun i=>(hck i).choose_spec⟩;have hek:∀i,(enc i).length=k:=fun i=>(hcs i.1 (es.get i) (enc i) oS (hencdef i)).1;have her:∀i,Aa w S (cellsOf (es.get i)) (enc i) (fun _=>0):=fun i=>(hcs i.1 (es.get i) (enc i) oS (hencdef i)).2;have hmap:(List.finRange es.length).map enc=css:=by exact Atj
   have hone:∀i,∀u∈enc i,u.oneCell'=true:=fun i u hu=>by exact AmQ
   have hfl:flatK enc k (List.finRange es.length).toArray=css.flatten.toArray:=by rw[Oh hk0 enc hek,hmap]
   have hclen:css.flatten.length=es.length*k:=by exact AmJ
   have hH:HoldsK enc k w b 0 (List.finRange es.length).toArray:=by rw[HoldsK,hfl];exact fX hb (by rw[hclen];exact hcv)
   have hcb:0<c b:=by rw[hcc];simp;omega
   have hcmp:CmpLays P g #[] enc k cf b 0 (List.finRange es.length).toArray.size w:=fun m os dk hdk x y=>by
    have hsw:=oM (n:=m) (os:=os) (flatK enc k dk) hz hb hcb hS;have hrx:=(her x).step hsw.1 (fun b=>by have:=hc b;simpa using this);have hry:=(her y).step hsw.1 (fun b=>by have:=hc b;simpa using this);obtain⟨ax,hax,_⟩:=hk (es.get x) (List.get_mem _ _);obtain⟨ay,hay,_⟩:=hk (es.get y) (List.get_mem _ _);have hcl':=hcall x y;rw[hax,hay]at hcl';rw[hax]at hrx;rw[hay]at hry
    have ha1:Aa (sortWorldK enc k w b 0 m dk os) S [.agg ay] [.agg (enc y).toArray] (fun _=>0):=
     Aa.agg (c1:=fun _=>0) (c2:=fun _=>0) hry (hone y) (.nil Al) (fun b=>oS)
    have hargs:Aa (sortWorldK enc k w b 0 m dk os) S [.agg ax,.agg ay] [.agg (enc x).toArray,.agg (enc y).toArray] (fun _=>0):=
     Aa.agg (c1:=fun _=>0) (c2:=fun _=>0) hrx (hone x) ha1 (fun b=>oS)
    have hres:=sK hcl' hsw.2 hargs;rw[Array.append_empty];exact hres
   have hsz:(List.finRange es.length).toArray.size=es.length:=oS;have hcon:=AnyQ.slices_SortFunc_total L k aE zE enc hek hone cf hO g #[] b 0 cap (List.finRange es.length).toArray w eg hcmp hH hbs (by rw[hsz];omega) hT;rw[hsz]at hcon;refine hcon.mono ?_;rintro e' w' ⟨rfl,n,os,rfl⟩;generalize hsrt:((List.finRange es.length).toArray.toList.mergeSort fun x y=> !(ltOf cf) y x)=ss;have hss:((List.finRange es.length).mergeSort fun x y=> !(ltOf cf) y x)=ss:=by rw[←hsrt]
   have hsl:ss.length=es.length:=by rw[←hss,AyD];simp
   obtain⟨hst,hszz⟩:=oM (n:=n) (os:=os) (flatK enc k ss.toArray) hz hb hcb hS;have hfs:flatK enc k ss.toArray=(ss.map enc).flatten.toArray:=Oh hk0 enc hek ss;have hfsl:(ss.map enc).flatten.length=es.length*k:=by exact AmW
   refine⟨_,_,_,S,c,rfl,⟨rfl,rfl⟩,rfl,.inr ⟨_,_,_,rfl⟩,?_,hc,hszz,hst⟩;refine Aa.tup (c1:=fun _=>0) (c2:=c) (.nil Al) ?_ (fun b=>oS);have hml:(ss.map es.get).length=es.length:=by rw[Axp,hsl]
   have htake:(putCells id 0 (flatK enc k ss.toArray) cur).toList.take (es.length*k)=(ss.map enc).flatten:=by exact Anx
   have key:Aa (Go.Sort.grow (putRow id (Sort.ahead w n) b 0 (flatK enc k ss.toArray)) os) S [.row e k (ss.map es.get)] [.slice (some ⟨b,0,none⟩) (ss.map es.get).length cap] c:= ?_
   ·rw [hml]at key;exact key
   refine .row (c0:=fun _=>0) (c2:=c2) om hcap (fun x hx=> ?_) (sL _ hb) (by simp [putCells,hs]) hS ?_ Al ?_ (.nil hz2) hcc
   ·obtain ⟨i,_,rfl⟩:=AxB.1 hx;exact hkc _ (List.get_mem _ _)
   ·exact Atf
   ·exact AmH
end Go.Proofs.YtmophjggmekoeaaGreatDoor
namespace Go.Proofs.YtmophjggmekoeaaGreatDoor
open Go.RowKit Go.Proofs Go.Sort Go.Shelf Go.Lib
variable [Env]
theorem Mx {P:Program} {ρ:Ren} (L:SlLaysF0.n6 P ρ) (k:Nat) (hk0:0<k) (aE:∀w,(isAgg (ρ.t 24)).run P w=.ok true w) (zE:∀w,(Go.sizeOf (ρ.t 24)).run P w=.ok k w) {e g:Nat} (hfn:Gn P (ρ.f 6))
 (eg:∀args w,(callFunc g args).run P w=.ok (.enter g args) w) {α:Type} (XS D:List α) (f:α→AV) (cmp:α→α→Int) (hk:∀x∈XS,∃ys,f x=.agg ys∧ys.length=k) (hlen:XS.length≤1000000)
 (hir:∀x∈XS,¬cmp x x<0) (htr:∀x∈XS,∀y∈XS,∀z∈XS,cmp x y<0→cmp y z<0→cmp x z<0) (htri:∀x∈XS,∀y∈XS,cmp x y<0∨x=y∨cmp y x<0) (hnd:XS.Nodup)
 (hcall:∀x∈XS,∀y∈XS,@Ab ⟨True,Env.globs⟩ P g [f x,f y] (fun r=>r=num (cmp x y))) (hD:D.Perm XS) (hDs:D.Pairwise fun x y=>cmp x y<0):
 B9 P (ρ.f 6) (.row e k (XS.map f)) [.raw (.func (.func g) #[] #[])] (fun r y=>r=.tup []∧y=.row e k (D.map f)):=by
 obtain⟨es,hes⟩:∃es,XS.map f=es:=⟨_,rfl⟩;have hl:es.length=XS.length:=by rw[←hes,Axp]
 have hat:∀i:Fin es.length,i.1<XS.length:=fun i=>by have:=i.2;omega
 have hget:∀i:Fin es.length,es.get i=f (XS[i.1]'(hat i)):=fun i=>by subst hes;simp
 have hmem:∀i:Fin es.length,XS[i.1]'(hat i)∈XS:=fun i=>Ayz _;have hinj:∀i j:Fin es.length,XS[i.1]'(hat i)=XS[j.1]'(hat j)→i=j:=fun i j h=>Fin.ext ((List.getElem_inj hnd).1 h);have hlt:∀i j:Fin es.length,ltOf (fun i j:Fin es.length=>cmp (XS[i.1]'(hat i)) (XS[j.1]'(hat j))) i j=true↔cmp (XS[i.1]'(hat i)) (XS[j.1]'(hat j))<0:=fun i j=>by simp [ltOf]
 have hnlt:∀i j:Fin es.length,ltOf (fun i j:Fin es.length=>cmp (XS[i.1]'(hat i)) (XS[j.1]'(hat j))) i j=false↔¬cmp (XS[i.1]'(hat i)) (XS[j.1]'(hat j))<0:=fun i j=>by rw[←hlt i j];simp
 have hO:SWO (ltOf (fun i j:Fin es.length=>cmp (XS[i.1]'(hat i)) (XS[j.1]'(hat j)))):=by
  refine⟨fun i=>(hnlt i i).2 (hir _ (hmem i)),fun i j k h1 h2=>(hlt i k).2 (htr _ (hmem i) _ (hmem j) _ (hmem k) ((hlt i j).1 h1) ((hlt j k).1 h2)),fun i j k h1 h2=>(hnlt i k).2 fun h3=> ?_⟩;have h1:=(hnlt i j).1 h1;have h2:=(hnlt j k).1 h2;rcases htri _ (hmem j) _ (hmem k)with h|h|h
  ·exact h2 h
  ·rw [←h]at h3;exact h1 h3
  ·exact h1 (htr _ (hmem i) _ (hmem k) _ (hmem j) h3 h)
 have hT:∀i j:Fin es.length,ltOf (fun i j:Fin es.length=>cmp (XS[i.1]'(hat i)) (XS[j.1]'(hat j))) i j=false→ltOf (fun i j:Fin es.length=>cmp (XS[i.1]'(hat i)) (XS[j.1]'(hat j))) j i=false→i=j:=fun i j h1 h2=>by
  rcases htri _ (hmem i) _ (hmem j)with h|h|h
  ·exact absurd h ((hnlt i j).1 h1)
  ·exact hinj i j h
  ·exact absurd h ((hnlt j i).1 h2)
 have hrow:=Y7 (e:=e) L k hk0 aE zE hfn eg es (fun x hx=>by rw[←hes]at hx;obtain⟨y,hy,rfl⟩:=AxB.1 hx;exact hk y hy) om (fun i j:Fin es.length=>cmp (XS[i.1]'(hat i)) (XS[j.1]'(hat j))) hO hT
  (fun i j=>by rw[hget i,hget j];exact hcall _ (hmem i) _ (hmem j))
 rw[hes];refine B9.mono hrow ?_;rintro r y ⟨rfl,rfl⟩;refine⟨rfl,?_⟩;congr 1;generalize hss:((List.finRange es.length).mergeSort fun x y=> !(ltOf (fun i j:Fin es.length=>cmp (XS[i.1]'(hat i)) (XS[j.1]'(hat j)))) y x)=ss;have hp:ss.Perm (List.finRange es.length):=by rw[←hss];exact List.mergeSort_perm _ _
 have hle:∀i j:Fin es.length,(!(ltOf (fun i j:Fin es.length=>cmp (XS[i.1]'(hat i)) (XS[j.1]'(hat j)))) j i)=true↔¬cmp (XS[j.1]'(hat j)) (XS[i.1]'(hat i))<0:=fun i j=>by rw[←hnlt j i];simp
 have hpw:ss.Pairwise fun i j=>¬cmp (XS[j.1]'(hat j)) (XS[i.1]'(hat i))<0:=by
  have:=List.pairwise_mergeSort (le:=fun x y=> !(ltOf (fun i j:Fin es.length=>cmp (XS[i.1]'(hat i)) (XS[j.1]'(hat j)))) y x) (fun i j k h1 h2=> ?_) (fun i j=> ?_) (List.finRange es.length)
  ·rw [hss]at this;exact this.imp fun{a b} h=>(hle a b).1 h
  ·have h1:=(hle i j).1 h1;have h2:=(hle j k).1 h2;refine(hle i k).2 fun h3=> ?_;rcases htri _ (hmem i) _ (hmem j)with h|h|h
   ·exact h2 (htr _ (hmem k) _ (hmem i) _ (hmem j) h3 h)
   ·rw [h]at h3;exact h2 h3
   ·exact h1 h
  ·rw [Ayk];by_cases h:cmp (XS[j.1]'(hat j)) (XS[i.1]'(hat i))<0
   ·exact .inr ((hle j i).2 fun h2=>hir _ (hmem i) (htr _ (hmem i) _ (hmem j) _ (hmem i) h2 h))
   ·exact .inl ((hle i j).2 h)
 have hnds:ss.Nodup:=hp.symm.nodup (List.nodup_finRange _)
 have hpw2:ss.Pairwise fun i j=>cmp (XS[i.1]'(hat i)) (XS[j.1]'(hat j))<0:=by
  refine(hpw.and hnds).imp fun{i j} h=> ?_;rcases htri _ (hmem i) _ (hmem j)with h2|h2|h2
  ·exact h2
  ·exact absurd (hinj i j h2) h.2
  ·exact absurd h2 h.1
 have hX:(List.finRange es.length).map (fun i:Fin es.length=>XS[i.1]'(hat i))=XS:=by
  apply List.ext_getElem
  ·simp [hl]
  ·intro i h1 h2;simp
 have hSD:ss.map (fun i:Fin es.length=>XS[i.1]'(hat i))=D:=by
  have hperm:(ss.map (fun i:Fin es.length=>XS[i.1]'(hat i))).Perm D:=by have h1:=hp.map (fun i:Fin es.length=>XS[i.1]'(hat i));rw[hX]at h1;exact h1.trans hD.symm
  refine List.Perm.eq_of_pairwise (le:=fun x y=>cmp x y<0) (fun x y hx hy h1 h2=> ?_) ?_ hDs hperm
  ·have hx':x∈XS:=by obtain⟨i,_,rfl⟩:=AxB.1 hx;exact hmem i
   have hy':y∈XS:=hD.mem_iff.1 hy;exact absurd (htr _ hx' _ hy' _ hx' h1 h2) (hir _ hx')
  ·exact List.pairwise_map.2 hpw2
 rw[←hSD,Ay4];exact AyY fun i _=>hget i
end Go.Proofs.YtmophjggmekoeaaGreatDoor
