/- Parse, of the code. -/
import Derived.Lib.ItoaLen
import Derived.Lib.AtoiAllCases
import Derived.Shelf.SlicesQ.Reverse
import Derived.Shelf.Sort.Plain
import Derived.Shelf.Unicode.DecodeAny
import Derived.Shelf.Slices.CompactS
import Derived.Shelf.Slices.SearchI
import Derived.Shelf.Slices.Cells
import Derived.Shelf.Slices.In.SortNone
import Derived.Ground.SlgnProg
import Derived.Shelf.SlicesE.Clone
import Derived.Test.YtmophjggmekoeaaGreatDoorC27
set_option linter.all false
set_option maxRecDepth 100000
set_option maxHeartbeats 4000000
namespace Go.Proofs.YtmophjggmekoeaaGreatDoor
section
open Go.RowKit Go.Proofs
theorem J5 (s:Ac) (hs:s.length≤1000000):Ab Tryz.prog 56 [str s,str [47],num 5] (fun r=>r=.sl 1 ((Av s).map str)):=by refine(Ta Tryz.lays147 (by kernel_rfl) Yy ⟨_,_,Tryz.func56,rfl,oD⟩ oB s [47] 5 om oS om om).wkr ?_;exact AaP
theorem Tr (sep:Ac):∀(k:Nat) (s:Ac),∀p∈Lib.splitK sep 0 k s,p.length≤s.length
 |0,s,p,h=>by rw[Lib.splitK,Ax6]at h;rw[h];exact Axu _
 |k+1,s,p,h=>by
  rw[Lib.splitK]at h;split at h
  ·rw [Ax6]at h;rw[h];exact Axu _
  ·rw [Ax2]at h;rcases h with rfl|h
   ·rw [AxC];omega
   ·have:=Tr sep k _ p h;rw[AxQ]at this;omega
theorem sO {s:Ac} {i:Nat}:((Av s).getD i []).length≤s.length:=by
 rw[Axy]
 cases h:(Av s)[i]? with
 |none=>simp
 |some p=>exact Tr _ _ _ _ (Axt h)
theorem Gi {l:List Ac} {i:Nat} (h:i<l.length):(l.map str).getD i .any=.raw (.string ⟨(l.getD i []).toArray⟩):=by simp [Axy,h,str]
theorem Ot (n:Nat) (w:Ac) (ps:List Ac) (hn:2≤n) (hn2:n≤100) (hl:ps.length≤1000000):Ab Tryz.prog 57 [num n,str w,.elt (.agg [.sl 1 (ps.map str)])] (fun r=>r=Ai (decide (ps.length=n∧ps.getD 1 []=w))):=by
 refine Ir [] Tryz.func57 ⟨_,rfl⟩ ?_;by_cases h1:ps.length=n
 ·have e1:=eq_true (show(ps.length:Int)=(n:Int) by omega);have hg:=Gi (l:=ps) (i:=1) om;repeat' first|refine Aj.on (fun _=>?_) (fun _=>?_)|with_reducible refine gd ?_|simp only[go_sem,DT,Int.reduceEq,Axq,e1,hg,Axp,Int.toNat_one]
  all_goals first|omega|(simp [h1,Ai];rw[Bool.eq_iff_iff];simp;done)
 ·have e1:=eq_false (show¬(ps.length:Int)=(n:Int) by omega);repeat' first|refine Aj.on (fun _=>?_) (fun _=>?_)|with_reducible refine gd ?_|simp only[go_sem,DT,Int.reduceEq,Axq,e1,Axp]
  all_goals first|omega|(simp [h1,Ai];done)
def P3 (o:Option E5):AV:=match o with
 |some a=>.tup [Dk a,num 0]
 |none=>.tup [Dk I4,num 120]
theorem sP (s:Ac) (hs:s.length≤1000000):Ab Tryz.prog 31 [str s] (fun r=>r=P3 (D9 s)):=by
 have hll:(Av s).length≤1000000:=by have h:=Lib.splitB_length_le (Cy [47]) 0 (min 5 (s.length+1)-1) (Cy s);have h2:=congrArg List.length (Lib.splitB_data (Cy [47]) 0 (min 5 (s.length+1)-1) (Cy s));rw[Axp,Bv,Bv]at h2;unfold Av;omega
 refine A9 [(2,[4],[])] Bo Cq Tryz.func31 oD oK (by simp only[Tryz.f31,go_sem,reduceIte];rfl) Tryz.ntmps31 Tryz.results31 ⟨_,rfl⟩ rfl ?_;simp only[LS,Nat.reduceAdd,Nat.reduceSub];by_cases h1:s=[47]
 ·have e1:(s==[47])=true:=by rw[h1];rfl
  have hcand:Li s=⟨1,[],0,[]⟩:=by rw[Li,if_pos h1]
  repeat' first|refine Aj.on (fun _=>?_) (fun _=>?_)|with_reducible refine gd ?_|simp only[go_sem,DT,Int.reduceEq,Axq,e1]
  refine((J5 s hs).wk ?_).mono ?_
  ·try simp only[num,str]
   exact Df
  rintro r rfl;try simp only[Ai,num,str]
  repeat' first|refine Aj.on (fun _=>?_) (fun _=>?_)|with_reducible refine gd ?_|simp only[go_sem,DT,Int.reduceEq,Axq,e1]
  refine((Gr ⟨1,[],0,[]⟩).wk ?_).mono ?_
  ·try simp only[Dk,num,str]
   exact Df
  rintro r rfl;try simp only[Ai,num,str]
  repeat' first|refine Aj.on (fun _=>?_) (fun _=>?_)|with_reducible refine gd ?_|simp only[go_sem,DT,Int.reduceEq,Axq,e1]
  have hps:D9 s=if Aq ⟨1,[],0,[]⟩=true∧B0 ⟨1,[],0,[]⟩=s then some ⟨1,[],0,[]⟩else none:=by rw[D9,hcand]
  rw[hps];cases hv:Aq ⟨1,[],0,[]⟩
  ·simp only[Er,hv,Ax0,if_false,false_and,num,str];repeat' first|refine Aj.on (fun _=>?_) (fun _=>?_)|with_reducible refine gd ?_|simp only[go_sem,DT,Int.reduceEq,Axq,e1]
   exact jI
  ·by_cases hf:B0 ⟨1,[],0,[]⟩=s
   ·have hf':(B0 ⟨1,[],0,[]⟩==s)=true:=by rw[hf];simp
    simp only[Er,hv,hf,if_true,and_self,num,str];repeat' first|refine Aj.on (fun _=>?_) (fun _=>?_)|with_reducible refine gd ?_|simp only[go_sem,DT,Int.reduceEq,Axq,hf,e1]
    exact jH
   ·have hf':(B0 ⟨1,[],0,[]⟩==s)=false:=by
     cases h:(B0 ⟨1,[],0,[]⟩==s)with
     |false=>rfl
     |true=>exact absurd (beq_iff_eq.1 h) hf
    simp only[Er,hv,hf,if_true,if_false,and_false,num,str];repeat' first|refine Aj.on (fun _=>?_) (fun _=>?_)|with_reducible refine gd ?_|simp only[go_sem,DT,Int.reduceEq,Axq,hf',e1]
    exact jG
 ·have e1:(s==[47])=false:=by simp [h1]
  by_cases h2:s=47::P2
  ·have e2:(s==[47,109,97,112])=true:=by rw[h2];rfl
   have hcand:Li s=⟨6,[],0,[]⟩:=by rw[Li,if_neg h1,if_pos h2]
   repeat' first|refine Aj.on (fun _=>?_) (fun _=>?_)|with_reducible refine gd ?_|simp only[go_sem,DT,Int.reduceEq,Axq,e1,e2]
   refine((J5 s hs).wk ?_).mono ?_
   ·try simp only[num,str]
    exact Df
   rintro r rfl;try simp only[Ai,num,str]
   repeat' first|refine Aj.on (fun _=>?_) (fun _=>?_)|with_reducible refine gd ?_|simp only[go_sem,DT,Int.reduceEq,Axq,e1,e2]
   refine((Gr ⟨6,[],0,[]⟩).wk ?_).mono ?_
   ·try simp only[Dk,num,str]
    exact Df
   rintro r rfl;try simp only[Ai,num,str]
   repeat' first|refine Aj.on (fun _=>?_) (fun _=>?_)|with_reducible refine gd ?_|simp only[go_sem,DT,Int.reduceEq,Axq,e1,e2]
   have hps:D9 s=if Aq ⟨6,[],0,[]⟩=true∧B0 ⟨6,[],0,[]⟩=s then some ⟨6,[],0,[]⟩else none:=by rw[D9,hcand]
   rw[hps];cases hv:Aq ⟨6,[],0,[]⟩
   ·simp only[Er,hv,Ax0,if_false,false_and,num,str];repeat' first|refine Aj.on (fun _=>?_) (fun _=>?_)|with_reducible refine gd ?_|simp only[go_sem,DT,Int.reduceEq,Axq,e1,e2]
    exact jI
   ·by_cases hf:B0 ⟨6,[],0,[]⟩=s
    ·have hf':(B0 ⟨6,[],0,[]⟩==s)=true:=by rw[hf];simp
     simp only[Er,hv,hf,if_true,and_self,num,str];repeat' first|refine Aj.on (fun _=>?_) (fun _=>?_)|with_reducible refine gd ?_|simp only[go_sem,DT,Int.reduceEq,Axq,hf,e1,e2]
     exact jH
    ·have hf':(B0 ⟨6,[],0,[]⟩==s)=false:=by
      cases h:(B0 ⟨6,[],0,[]⟩==s)with
      |false=>rfl
      |true=>exact absurd (beq_iff_eq.1 h) hf
     simp only[Er,hv,hf,if_true,if_false,and_false,num,str];repeat' first|refine Aj.on (fun _=>?_) (fun _=>?_)|with_reducible refine gd ?_|simp only[go_sem,DT,Int.reduceEq,Axq,hf',e1,e2]
     exact jG
  ·have e2:(s==[47,109,97,112])=false:=by
    cases h:(s==[47,109,97,112])with
    |false=>rfl
    |true=>exact absurd (beq_iff_eq.1 h) h2
   by_cases h4s:(Av s).length=4∧(Av s).getD 1 []=Bq
   ·have hln:(Av s).length=4:=h4s.1;have hg2:=Gi (l:=Av s) (i:=2) om;have hg3:=Gi (l:=Av s) (i:=3) om;have hcand:Li s=⟨2,[],Bc ((Av s).getD 2 []),(Av s).getD 3 []⟩:=by rw[Li,if_neg h1,if_neg h2,if_pos h4s]
    repeat' first|refine Aj.on (fun _=>?_) (fun _=>?_)|with_reducible refine gd ?_|simp only[go_sem,DT,Int.reduceEq,Axq,e1,e2,Axp,hg2,hg3]
    refine((J5 s hs).wk ?_).mono ?_
    ·try simp only[num,str]
     exact Df
    rintro r rfl;try simp only[Ai,num,str]
    repeat' first|refine Aj.on (fun _=>?_) (fun _=>?_)|with_reducible refine gd ?_|simp only[go_sem,DT,Int.reduceEq,Axq,e1,e2,Axp,hg2,hg3]
    refine((Ot 4 Bq (Av s) om om hll).wk ?_).mono ?_
    ·simp only[num,str,Bq,Bs,Nj,Dd];exact Df
    rintro r rfl;rw[decide_eq_true h4s];try simp only[Ai,num,str]
    repeat' first|refine Aj.on (fun _=>?_) (fun _=>?_)|with_reducible refine gd ?_|simp only[go_sem,DT,Int.reduceEq,Axq,e1,e2,Axp,hg2,hg3]
    refine((Yz ((Av s).getD 2 []) (Ax1 sO hs)).wk ?_).mono ?_
    ·try simp only[num,str]
     exact Df
    rintro r rfl;try simp only[Ai,num,str]
    repeat' first|refine Aj.on (fun _=>?_) (fun _=>?_)|with_reducible refine gd ?_|simp only[go_sem,DT,Int.reduceEq,Axq,e1,e2,Axp,hg2,hg3]
    refine((Gr ⟨2,[],Bc ((Av s).getD 2 []),(Av s).getD 3 []⟩).wk ?_).mono ?_
    ·try simp only[Dk,I4,num,str]
     exact Df
    rintro r rfl;try simp only[Ai,num,str]
    repeat' first|refine Aj.on (fun _=>?_) (fun _=>?_)|with_reducible refine gd ?_|simp only[go_sem,DT,Int.reduceEq,Axq,e1,e2,Axp,hg2,hg3]
    have hps:D9 s=if Aq ⟨2,[],Bc ((Av s).getD 2 []),(Av s).getD 3 []⟩=true∧B0 ⟨2,[],Bc ((Av s).getD 2 []),(Av s).getD 3 []⟩=s then some ⟨2,[],Bc ((Av s).getD 2 []),(Av s).getD 3 []⟩else none:=by rw[D9,hcand]
    rw[hps];cases hv:Aq ⟨2,[],Bc ((Av s).getD 2 []),(Av s).getD 3 []⟩
    ·simp only[Er,hv,Ax0,if_false,false_and,num,str];repeat' first|refine Aj.on (fun _=>?_) (fun _=>?_)|with_reducible refine gd ?_|simp only[go_sem,DT,Int.reduceEq,Axq,e1,e2,Axp,hg2,hg3]
     exact jI
    ·by_cases hf:B0 ⟨2,[],Bc ((Av s).getD 2 []),(Av s).getD 3 []⟩=s
     ·have hf':(B0 ⟨2,[],Bc ((Av s).getD 2 []),(Av s).getD 3 []⟩==s)=true:=by rw[hf];simp
      simp only[Er,hv,hf,if_true,and_self,num,str];repeat' first|refine Aj.on (fun _=>?_) (fun _=>?_)|with_reducible refine gd ?_|simp only[go_sem,DT,Int.reduceEq,Axq,hf,e1,e2,Axp,hg2,hg3]
      exact jH
     ·have hf':(B0 ⟨2,[],Bc ((Av s).getD 2 []),(Av s).getD 3 []⟩==s)=false:=by
       cases h:(B0 ⟨2,[],Bc ((Av s).getD 2 []),(Av s).getD 3 []⟩==s)with
       |false=>rfl
       |true=>exact absurd (beq_iff_eq.1 h) hf
      simp only[Er,hv,hf,if_true,if_false,and_false,num,str];repeat' first|refine Aj.on (fun _=>?_) (fun _=>?_)|with_reducible refine gd ?_|simp only[go_sem,DT,Int.reduceEq,Axq,hf',e1,e2,Axp,hg2,hg3]
      exact jG
   ·by_cases h4t:(Av s).length=4∧(Av s).getD 1 []=Bs
    ·have hln:(Av s).length=4:=h4t.1;have hg2:=Gi (l:=Av s) (i:=2) om;have hg3:=Gi (l:=Av s) (i:=3) om;have hcand:Li s=⟨3,(Av s).getD 2 [],Bc ((Av s).getD 3 []),[]⟩:=by rw[Li,if_neg h1,if_neg h2,if_neg h4s,if_pos h4t]
     repeat' first|refine Aj.on (fun _=>?_) (fun _=>?_)|with_reducible refine gd ?_|simp only[go_sem,DT,Int.reduceEq,Axq,e1,e2,Axp,hg2,hg3]
     refine((J5 s hs).wk ?_).mono ?_
     ·try simp only[num,str]
      exact Df
     rintro r rfl;try simp only[Ai,num,str]
     repeat' first|refine Aj.on (fun _=>?_) (fun _=>?_)|with_reducible refine gd ?_|simp only[go_sem,DT,Int.reduceEq,Axq,e1,e2,Axp,hg2,hg3]
     refine((Ot 4 Bq (Av s) om om hll).wk ?_).mono ?_
     ·simp only[num,str,Bq,Bs,Nj,Dd];exact Df
     rintro r rfl;rw[decide_eq_false h4s];try simp only[Ai,num,str]
     repeat' first|refine Aj.on (fun _=>?_) (fun _=>?_)|with_reducible refine gd ?_|simp only[go_sem,DT,Int.reduceEq,Axq,e1,e2,Axp,hg2,hg3]
     refine((Ot 4 Bs (Av s) om om hll).wk ?_).mono ?_
     ·simp only[num,str,Bq,Bs,Nj,Dd];exact Df
     rintro r rfl;rw[decide_eq_true h4t];try simp only[Ai,num,str]
     repeat' first|refine Aj.on (fun _=>?_) (fun _=>?_)|with_reducible refine gd ?_|simp only[go_sem,DT,Int.reduceEq,Axq,e1,e2,Axp,hg2,hg3]
     refine((Yz ((Av s).getD 3 []) (Ax1 sO hs)).wk ?_).mono ?_
     ·try simp only[num,str]
      exact Df
     rintro r rfl;try simp only[Ai,num,str]
     repeat' first|refine Aj.on (fun _=>?_) (fun _=>?_)|with_reducible refine gd ?_|simp only[go_sem,DT,Int.reduceEq,Axq,e1,e2,Axp,hg2,hg3]
     refine((Gr ⟨3,(Av s).getD 2 [],Bc ((Av s).getD 3 []),[]⟩).wk ?_).mono ?_
     ·try simp only[Dk,I4,num,str]
      exact Df
     rintro r rfl;try simp only[Ai,num,str]
     repeat' first|refine Aj.on (fun _=>?_) (fun _=>?_)|with_reducible refine gd ?_|simp only[go_sem,DT,Int.reduceEq,Axq,e1,e2,Axp,hg2,hg3]
     have hps:D9 s=if Aq ⟨3,(Av s).getD 2 [],Bc ((Av s).getD 3 []),[]⟩=true∧B0 ⟨3,(Av s).getD 2 [],Bc ((Av s).getD 3 []),[]⟩=s then some ⟨3,(Av s).getD 2 [],Bc ((Av s).getD 3 []),[]⟩else none:=by rw[D9,hcand]
     rw[hps];cases hv:Aq ⟨3,(Av s).getD 2 [],Bc ((Av s).getD 3 []),[]⟩
     ·simp only[Er,hv,Ax0,if_false,false_and,num,str];repeat' first|refine Aj.on (fun _=>?_) (fun _=>?_)|with_reducible refine gd ?_|simp only[go_sem,DT,Int.reduceEq,Axq,e1,e2,Axp,hg2,hg3]
      exact jI
     ·by_cases hf:B0 ⟨3,(Av s).getD 2 [],Bc ((Av s).getD 3 []),[]⟩=s
      ·have hf':(B0 ⟨3,(Av s).getD 2 [],Bc ((Av s).getD 3 []),[]⟩==s)=true:=by rw[hf];simp
       simp only[Er,hv,hf,if_true,and_self,num,str];repeat' first|refine Aj.on (fun _=>?_) (fun _=>?_)|with_reducible refine gd ?_|simp only[go_sem,DT,Int.reduceEq,Axq,hf,e1,e2,Axp,hg2,hg3]
       exact jH
      ·have hf':(B0 ⟨3,(Av s).getD 2 [],Bc ((Av s).getD 3 []),[]⟩==s)=false:=by
        cases h:(B0 ⟨3,(Av s).getD 2 [],Bc ((Av s).getD 3 []),[]⟩==s)with
        |false=>rfl
        |true=>exact absurd (beq_iff_eq.1 h) hf
       simp only[Er,hv,hf,if_true,if_false,and_false,num,str];repeat' first|refine Aj.on (fun _=>?_) (fun _=>?_)|with_reducible refine gd ?_|simp only[go_sem,DT,Int.reduceEq,Axq,hf',e1,e2,Axp,hg2,hg3]
       exact jG
    ·by_cases h3b:(Av s).length=3∧(Av s).getD 1 []=Nj
     ·have hln:(Av s).length=3:=h3b.1;have hg2:=Gi (l:=Av s) (i:=2) om;have hcand:Li s=⟨4,(Av s).getD 2 [],0,[]⟩:=by rw[Li,if_neg h1,if_neg h2,if_neg h4s,if_neg h4t,if_pos h3b]
      repeat' first|refine Aj.on (fun _=>?_) (fun _=>?_)|with_reducible refine gd ?_|simp only[go_sem,DT,Int.reduceEq,Axq,e1,e2,Axp,hg2]
      refine((J5 s hs).wk ?_).mono ?_
      ·try simp only[num,str]
       exact Df
      rintro r rfl;try simp only[Ai,num,str]
      repeat' first|refine Aj.on (fun _=>?_) (fun _=>?_)|with_reducible refine gd ?_|simp only[go_sem,DT,Int.reduceEq,Axq,e1,e2,Axp,hg2]
      refine((Ot 4 Bq (Av s) om om hll).wk ?_).mono ?_
      ·simp only[num,str,Bq,Bs,Nj,Dd];exact Df
      rintro r rfl;rw[decide_eq_false h4s];try simp only[Ai,num,str]
      repeat' first|refine Aj.on (fun _=>?_) (fun _=>?_)|with_reducible refine gd ?_|simp only[go_sem,DT,Int.reduceEq,Axq,e1,e2,Axp,hg2]
      refine((Ot 4 Bs (Av s) om om hll).wk ?_).mono ?_
      ·simp only[num,str,Bq,Bs,Nj,Dd];exact Df
      rintro r rfl;rw[decide_eq_false h4t];try simp only[Ai,num,str]
      repeat' first|refine Aj.on (fun _=>?_) (fun _=>?_)|with_reducible refine gd ?_|simp only[go_sem,DT,Int.reduceEq,Axq,e1,e2,Axp,hg2]
      refine((Ot 3 Nj (Av s) om om hll).wk ?_).mono ?_
      ·simp only[num,str,Bq,Bs,Nj,Dd];exact Df
      rintro r rfl;rw[decide_eq_true h3b];try simp only[Ai,num,str]
      repeat' first|refine Aj.on (fun _=>?_) (fun _=>?_)|with_reducible refine gd ?_|simp only[go_sem,DT,Int.reduceEq,Axq,e1,e2,Axp,hg2]
      refine((Gr ⟨4,(Av s).getD 2 [],0,[]⟩).wk ?_).mono ?_
      ·try simp only[Dk,I4,num,str]
       exact Df
      rintro r rfl;try simp only[Ai,num,str]
      repeat' first|refine Aj.on (fun _=>?_) (fun _=>?_)|with_reducible refine gd ?_|simp only[go_sem,DT,Int.reduceEq,Axq,e1,e2,Axp,hg2]
      have hps:D9 s=if Aq ⟨4,(Av s).getD 2 [],0,[]⟩=true∧B0 ⟨4,(Av s).getD 2 [],0,[]⟩=s then some ⟨4,(Av s).getD 2 [],0,[]⟩else none:=by rw[D9,hcand]
      rw[hps];cases hv:Aq ⟨4,(Av s).getD 2 [],0,[]⟩
      ·simp only[Er,hv,Ax0,if_false,false_and,num,str];repeat' first|refine Aj.on (fun _=>?_) (fun _=>?_)|with_reducible refine gd ?_|simp only[go_sem,DT,Int.reduceEq,Axq,e1,e2,Axp,hg2]
       exact jI
      ·by_cases hf:B0 ⟨4,(Av s).getD 2 [],0,[]⟩=s
       ·have hf':(B0 ⟨4,(Av s).getD 2 [],0,[]⟩==s)=true:=by rw[hf];simp
        simp only[Er,hv,hf,if_true,and_self,num,str];repeat' first|refine Aj.on (fun _=>?_) (fun _=>?_)|with_reducible refine gd ?_|simp only[go_sem,DT,Int.reduceEq,Axq,hf,e1,e2,Axp,hg2]
        exact jH
       ·have hf':(B0 ⟨4,(Av s).getD 2 [],0,[]⟩==s)=false:=by
         cases h:(B0 ⟨4,(Av s).getD 2 [],0,[]⟩==s)with
         |false=>rfl
         |true=>exact absurd (beq_iff_eq.1 h) hf
        simp only[Er,hv,hf,if_true,if_false,and_false,num,str];repeat' first|refine Aj.on (fun _=>?_) (fun _=>?_)|with_reducible refine gd ?_|simp only[go_sem,DT,Int.reduceEq,Axq,hf',e1,e2,Axp,hg2]
        exact jG
     ·by_cases h3f:(Av s).length=3∧(Av s).getD 1 []=Dd
      ·have hln:(Av s).length=3:=h3f.1;have hg2:=Gi (l:=Av s) (i:=2) om;have hcand:Li s=⟨5,(Av s).getD 2 [],0,[]⟩:=by rw[Li,if_neg h1,if_neg h2,if_neg h4s,if_neg h4t,if_neg h3b,if_pos h3f]
       repeat' first|refine Aj.on (fun _=>?_) (fun _=>?_)|with_reducible refine gd ?_|simp only[go_sem,DT,Int.reduceEq,Axq,e1,e2,Axp,hg2]
       refine((J5 s hs).wk ?_).mono ?_
       ·try simp only[num,str]
        exact Df
       rintro r rfl;try simp only[Ai,num,str]
       repeat' first|refine Aj.on (fun _=>?_) (fun _=>?_)|with_reducible refine gd ?_|simp only[go_sem,DT,Int.reduceEq,Axq,e1,e2,Axp,hg2]
       refine((Ot 4 Bq (Av s) om om hll).wk ?_).mono ?_
       ·simp only[num,str,Bq,Bs,Nj,Dd];exact Df
       rintro r rfl;rw[decide_eq_false h4s];try simp only[Ai,num,str]
       repeat' first|refine Aj.on (fun _=>?_) (fun _=>?_)|with_reducible refine gd ?_|simp only[go_sem,DT,Int.reduceEq,Axq,e1,e2,Axp,hg2]
       refine((Ot 4 Bs (Av s) om om hll).wk ?_).mono ?_
       ·simp only[num,str,Bq,Bs,Nj,Dd];exact Df
       rintro r rfl;rw[decide_eq_false h4t];try simp only[Ai,num,str]
       repeat' first|refine Aj.on (fun _=>?_) (fun _=>?_)|with_reducible refine gd ?_|simp only[go_sem,DT,Int.reduceEq,Axq,e1,e2,Axp,hg2]
       refine((Ot 3 Nj (Av s) om om hll).wk ?_).mono ?_
       ·simp only[num,str,Bq,Bs,Nj,Dd];exact Df
       rintro r rfl;rw[decide_eq_false h3b];try simp only[Ai,num,str]
       repeat' first|refine Aj.on (fun _=>?_) (fun _=>?_)|with_reducible refine gd ?_|simp only[go_sem,DT,Int.reduceEq,Axq,e1,e2,Axp,hg2]
       refine((Ot 3 Dd (Av s) om om hll).wk ?_).mono ?_
       ·simp only[num,str,Bq,Bs,Nj,Dd];exact Df
       rintro r rfl;rw[decide_eq_true h3f];try simp only[Ai,num,str]
       repeat' first|refine Aj.on (fun _=>?_) (fun _=>?_)|with_reducible refine gd ?_|simp only[go_sem,DT,Int.reduceEq,Axq,e1,e2,Axp,hg2]
       refine((Gr ⟨5,(Av s).getD 2 [],0,[]⟩).wk ?_).mono ?_
       ·try simp only[Dk,I4,num,str]
        exact Df
       rintro r rfl;try simp only[Ai,num,str]
       repeat' first|refine Aj.on (fun _=>?_) (fun _=>?_)|with_reducible refine gd ?_|simp only[go_sem,DT,Int.reduceEq,Axq,e1,e2,Axp,hg2]
       have hps:D9 s=if Aq ⟨5,(Av s).getD 2 [],0,[]⟩=true∧B0 ⟨5,(Av s).getD 2 [],0,[]⟩=s then some ⟨5,(Av s).getD 2 [],0,[]⟩else none:=by rw[D9,hcand]
       rw[hps];cases hv:Aq ⟨5,(Av s).getD 2 [],0,[]⟩
       ·simp only[Er,hv,Ax0,if_false,false_and,num,str];repeat' first|refine Aj.on (fun _=>?_) (fun _=>?_)|with_reducible refine gd ?_|simp only[go_sem,DT,Int.reduceEq,Axq,e1,e2,Axp,hg2]
        exact jI
       ·by_cases hf:B0 ⟨5,(Av s).getD 2 [],0,[]⟩=s
        ·have hf':(B0 ⟨5,(Av s).getD 2 [],0,[]⟩==s)=true:=by rw[hf];simp
         simp only[Er,hv,hf,if_true,and_self,num,str];repeat' first|refine Aj.on (fun _=>?_) (fun _=>?_)|with_reducible refine gd ?_|simp only[go_sem,DT,Int.reduceEq,Axq,hf,e1,e2,Axp,hg2]
         exact jH
        ·have hf':(B0 ⟨5,(Av s).getD 2 [],0,[]⟩==s)=false:=by
          cases h:(B0 ⟨5,(Av s).getD 2 [],0,[]⟩==s)with
          |false=>rfl
          |true=>exact absurd (beq_iff_eq.1 h) hf
         simp only[Er,hv,hf,if_true,if_false,and_false,num,str];repeat' first|refine Aj.on (fun _=>?_) (fun _=>?_)|with_reducible refine gd ?_|simp only[go_sem,DT,Int.reduceEq,Axq,hf',e1,e2,Axp,hg2]
         exact jG
      ·have hcand:Li s=I4:=by rw[Li,if_neg h1,if_neg h2,if_neg h4s,if_neg h4t,if_neg h3b,if_neg h3f]
       repeat' first|refine Aj.on (fun _=>?_) (fun _=>?_)|with_reducible refine gd ?_|simp only[go_sem,DT,Int.reduceEq,Axq,e1,e2,Axp]
       refine((J5 s hs).wk ?_).mono ?_
       ·try simp only[num,str]
        exact Df
       rintro r rfl;try simp only[Ai,num,str]
       repeat' first|refine Aj.on (fun _=>?_) (fun _=>?_)|with_reducible refine gd ?_|simp only[go_sem,DT,Int.reduceEq,Axq,e1,e2,Axp]
       refine((Ot 4 Bq (Av s) om om hll).wk ?_).mono ?_
       ·simp only[num,str,Bq,Bs,Nj,Dd];exact Df
       rintro r rfl;rw[decide_eq_false h4s];try simp only[Ai,num,str]
       repeat' first|refine Aj.on (fun _=>?_) (fun _=>?_)|with_reducible refine gd ?_|simp only[go_sem,DT,Int.reduceEq,Axq,e1,e2,Axp]
       refine((Ot 4 Bs (Av s) om om hll).wk ?_).mono ?_
       ·simp only[num,str,Bq,Bs,Nj,Dd];exact Df
       rintro r rfl;rw[decide_eq_false h4t];try simp only[Ai,num,str]
       repeat' first|refine Aj.on (fun _=>?_) (fun _=>?_)|with_reducible refine gd ?_|simp only[go_sem,DT,Int.reduceEq,Axq,e1,e2,Axp]
       refine((Ot 3 Nj (Av s) om om hll).wk ?_).mono ?_
       ·simp only[num,str,Bq,Bs,Nj,Dd];exact Df
       rintro r rfl;rw[decide_eq_false h3b];try simp only[Ai,num,str]
       repeat' first|refine Aj.on (fun _=>?_) (fun _=>?_)|with_reducible refine gd ?_|simp only[go_sem,DT,Int.reduceEq,Axq,e1,e2,Axp]
       refine((Ot 3 Dd (Av s) om om hll).wk ?_).mono ?_
       ·simp only[num,str,Bq,Bs,Nj,Dd];exact Df
       rintro r rfl;rw[decide_eq_false h3f];try simp only[Ai,num,str]
       repeat' first|refine Aj.on (fun _=>?_) (fun _=>?_)|with_reducible refine gd ?_|simp only[go_sem,DT,Int.reduceEq,Axq,e1,e2,Axp]
       refine((Gr I4).wk ?_).mono ?_
       ·try simp only[Dk,I4,num,str]
        exact Df
       rintro r rfl;try simp only[Ai,num,str]
       repeat' first|refine Aj.on (fun _=>?_) (fun _=>?_)|with_reducible refine gd ?_|simp only[go_sem,DT,Int.reduceEq,Axq,e1,e2,Axp]
       have hps:D9 s=if Aq I4=true∧B0 I4=s then some I4 else none:=by rw[D9,hcand]
       rw[hps];cases hv:Aq I4
       ·simp only[Er,hv,Ax0,if_false,false_and,num,str];repeat' first|refine Aj.on (fun _=>?_) (fun _=>?_)|with_reducible refine gd ?_|simp only[go_sem,DT,Int.reduceEq,Axq,e1,e2,Axp]
        exact jI
       ·by_cases hf:B0 I4=s
        ·have hf':(B0 I4==s)=true:=by rw[hf];simp
         simp only[Er,hv,hf,if_true,and_self,num,str];repeat' first|refine Aj.on (fun _=>?_) (fun _=>?_)|with_reducible refine gd ?_|simp only[go_sem,DT,Int.reduceEq,Axq,hf,e1,e2,Axp]
         exact jH
        ·have hf':(B0 I4==s)=false:=by
          cases h:(B0 I4==s)with
          |false=>rfl
          |true=>exact absurd (beq_iff_eq.1 h) hf
         simp only[Er,hv,hf,if_true,if_false,and_false,num,str];repeat' first|refine Aj.on (fun _=>?_) (fun _=>?_)|with_reducible refine gd ?_|simp only[go_sem,DT,Int.reduceEq,Axq,hf',e1,e2,Axp]
         exact jG
end
section
open Go.RowKit Go.Proofs
theorem AuL (l:List Int):(nums l).length=l.length:=by simp [nums]
theorem Me (s:Ac):Kg (Bc s):=by
 unfold Bc;split
 ·rename_i v h;exact Lib.atoiAll_bounds h
 ·have:=Lib.atoiSat_bounds s;exact⟨om,om⟩
 ·exact ⟨oD,oD⟩
theorem Ou {sep:Ac} {c:Nat}:∀{zs:List Ac},(∀z∈zs,z.length≤c)→(Lib.join zs sep).length≤zs.length*(c+sep.length)
 |[],_=>by simp [Lib.join]
 |[z],h=>by have:=h z (.head _);rw[Lib.join_one];simp;omega
 |z::y::zs,h=>by
  have h1:=h z (.head _);have h2:=Ou (sep:=sep) (zs:=y::zs) (fun x hx=>h x (.tail _ hx));have e:Lib.join (z::y::zs) sep=z++sep++Lib.join (y::zs) sep:=by simp [Lib.join,List.intercalate,AxS]
  rw[e];simp only[Axs,Axr]at h2⊢;have e2:(zs.length+1+1)*(c+sep.length)=(zs.length+1)*(c+sep.length)+(c+sep.length):=Nat.succ_mul _ _;omega
def Iw (s:Ac) (f:Int→Ac):Ac:=if Ql s=true∧Lib.itoa (Bc s)=s∧-999999999≤Bc s∧Bc s≤999999999 then f (Bc s)else[]
theorem oN (s:Ac) (g:Nat) (cs:List AV) (f:Int→Ac) (hs:s.length≤1000000) (hf:∀n,-999999999≤n→n≤999999999→Ab Tryz.prog g (num n::cs) (fun r=>r=str (f n))):Ab Tryz.prog 104 [str s,.clo g cs] (fun r=>r=str (Iw s f)):=by
 refine HC.plain (Zt [] [] [] Tryz.func104 ?_) ⟨_,rfl⟩;refine HC.old (ArI s hs) ?_;rintro r ⟨e,rfl,h1,h2⟩;simp only[num]
 cases hb:Ql s with
 |false=>
  obtain⟨t,p,rfl⟩:=h2 hb;have hF:Iw s f=[]:=by simp [Iw,hb]
  refine Z0 ?_;rw[hF];exact Qu
 |true=>
  obtain rfl:=h1 hb;by_cases hi:Lib.itoa (Bc s)=s;rotate_left
  ·have hF:Iw s f=[]:=by simp [Iw,hi]
   have e1:(Lib.itoa (Bc s)==s)=false:=by simpa using hi
   refine Z1 e1 ?_;refine HC.old (Lb (Bc s) (Me s)) ?_;rintro r rfl;try simp only[num,str,Ai]
   repeat' first|refine Aj.on (fun _=>?_) (fun _=>?_)|with_reducible refine gd ?_|simp only[go_sem,e1]
   rw[hF];exact Qu
  have e1:(Lib.itoa (Bc s)==s)=true:=by simpa using hi
  by_cases hl: -999999999≤Bc s;rotate_left
  ·have hF:Iw s f=[]:=by simp [Iw,hl]
   have e2:=eq_true (show Bc s< -999999999 by omega);refine Z2 e1 e2 ?_;refine HC.old (Lb (Bc s) (Me s)) ?_;rintro r rfl;try simp only[num,str,Ai]
   repeat' first|refine Aj.on (fun _=>?_) (fun _=>?_)|with_reducible refine gd ?_|simp only[go_sem,e1,e2]
   rw[hF];exact Qu
  have e2:=eq_false (show¬Bc s< -999999999 by omega);by_cases hh:Bc s≤999999999;rotate_left
  ·have hF:Iw s f=[]:=by
    simp only[Iw,hh,and_false,if_false]
   have e3:=eq_true (show(999999999:Int)<Bc s by omega);refine Z3 e1 e2 e3 ?_;refine HC.old (Lb (Bc s) (Me s)) ?_;rintro r rfl;try simp only[num,str,Ai]
   repeat' first|refine Aj.on (fun _=>?_) (fun _=>?_)|with_reducible refine gd ?_|simp only[go_sem,e1,e2,e3]
   rw[hF];exact Qu
  have e3:=eq_false (show¬(999999999:Int)<Bc s by omega);have hF:Iw s f=f (Bc s):=by simp only[Iw,hb,hi,hl,hh,and_self,if_true]
  refine Z3 e1 e2 e3 ?_;refine HC.old (Lb (Bc s) (Me s)) ?_;rintro r rfl;try simp only[num,str,Ai]
  repeat' first|refine Aj.on (fun _=>?_) (fun _=>?_)|with_reducible refine gd ?_|simp only[go_sem,e1,e2,e3]
  refine HC.old (hf (Bc s) hl hh) ?_;rintro r rfl;try simp only[num,str,Ai]
  repeat' first|refine Aj.on (fun _=>?_) (fun _=>?_)|with_reducible refine gd ?_|simp only[go_sem]
  rw[hF];exact Qu
def Aon (l:List Int):Ac:=Lib.join (l.map Lib.itoa) [44]
theorem Ag5 (l:List Int) (hl:l.length≤100000000) (h:∀x∈l,Kg x):Ab Tryz.prog 109 [.sl 1 (nums l)] (fun r=>r=str (Aon l)):=by
 refine HC.plain (Zt [] [] [] Tryz.func109 ?_) ⟨_,rfl⟩;refine Ax (rl [5,1,3,9]) [3,8] (fun m xs γ=>γ=[]∧∃i,i+m=l.length∧xs=[.own 9 1 (((l.take i).map Lib.itoa).map str),num i]) ⟨l.length,_,_,⟨rfl,0,om,rfl⟩,hent (Gw.refl _) ?_⟩ ?_
 ·simp only[PU,AxI,Axv];exact Zw
 ·rintro m xs γ ⟨rfl,i,hi,rfl⟩;simp only[PU];by_cases hlt:i<l.length;rotate_left
  ·have ej:=eU i l.length;have hg:i≥l.length:=om;refine Zu ?_;rw[Axw hg]
   have hb:=Ou (sep:=[44]) (c:=21) (zs:=l.map Lib.itoa) (by
    intro z hz;obtain⟨x,hx,rfl⟩:=AxB.1 hz;exact Lib.itoa_length_le x (h x hx).1 (h x hx).2)
   refine HC.wk (HC.old (Y0 (l.map Lib.itoa) [44] (by simp;omega) (by simp at hb⊢;omega)) ?_) ?_;rotate_left
   ·exact Qv
   exact Ij
  have ej:=eT i l.length;have hg:(nums l).getD i .any=num l[i]:=by simp [nums,Axy,hlt]
  simp only[num]at hg;refine Zu ?_;refine Zh (Lb l[i] (h _ (Ayz _))) ?_;have hw:=wS i;have htl:(l.take i).length=i:=by simp;omega
  refine Zu ?_;refine Au (m-1) _ _ om ⟨rfl,i+1,om,rfl⟩ (hent (Gw.refl _) ?_);have ht:((l.take (i+1)).map Lib.itoa).map str=((l.take i).map Lib.itoa).map str++[str (Lib.itoa l[i])]:=by rw[Ayv hlt,AxJ,AxJ];rfl
  simp only[PU,ht,str];exact Zw
theorem Wu (s:Ac):Ab Tryz.prog 188 [str s] (fun r=>r=Ai (B1 s)):=by
 refine HC.plain (Zt [] [] [] Tryz.func188 ?_) ⟨_,rfl⟩;refine HC.wk (HC.old (H4 ⟨4,s,0,[]⟩) ?_) ?_;rotate_left
 ·exact qO
 rintro r rfl;refine Zn ?_;have hv:Aq ⟨4,s,0,[]⟩=B1 s:=by simp [Aq]
 rw[hv];exact Qu
def Be (t:Ac×Ac):AV:=.agg [str t.1,str t.2]
def Nh (T:List (Ac×Ac)) (name:Ac):Ac:=if B1 name=true then(match T.find? (fun t=>decide (t.1=name))with
 |some t=>61::t.2
 |none=>[])else[]
theorem oO (L:List A2) (T:List (Ac×Ac)) (s:Ac) (hT:T.length≤1000000) (ht:∀t∈T,t.2.length≤1000000000):Ab Tryz.prog 102 [stA L (T.map Be),str s] (fun r=>r=str (Nh T s)):=by
 simp only[stA];refine HC.plain (Zt [] [] [] Tryz.func102 ?_) ⟨_,rfl⟩
 cases hn:B1 s with
 |false=>
  have hF:Nh T s=[]:=by simp [Nh,hn]
  refine HC.wk (HC.old (Wu s) ?_) ?_;rotate_left
  ·exact Qv
  rintro r rfl;try simp only[num,str,Ai]
  repeat' first|refine Aj.on (fun _=>?_) (fun _=>?_)|with_reducible refine gd ?_|simp only[go_sem,hn]
  rw[hF];exact Qu
 |true=>
  refine HC.wk (HC.old (Wu s) ?_) ?_;rotate_left
  ·exact Qv
  rintro r rfl;try simp only[num,str,Ai]
  repeat' first|refine Aj.on (fun _=>?_) (fun _=>?_)|with_reducible refine gd ?_|simp only[go_sem,hn]
  refine Ax (rl [6,1,7,11]) [13] (fun m xs γ=>γ=[]∧∃i,i+m=T.length∧xs=[num i]∧Nh T s=Nh (T.drop i) s) ⟨T.length,_,_,⟨rfl,0,om,rfl,oS⟩,hent (Gw.refl _) ?_⟩ ?_
  ·exact Zw
  ·rintro m xs γ ⟨rfl,i,hi,rfl,hd⟩;simp only[PU];by_cases hlt:i<T.length;rotate_left
   ·have ej:=eU i T.length;refine Z1 ej ?_;rw[hd,AyO om];have hF:Nh [] s=[]:=by simp [Nh]
    rw[hF];exact Qu
   have ej:=eT i T.length;have hg:(T.map Be).getD i .any=.agg [str T[i].1,str T[i].2]:=by simp [Axy,hlt,Be]
   simp only[str]at hg;by_cases he:T[i].1=s
   ·have e1:(T[i].1==s)=true:=by simpa using he
    have hb:=ht T[i] (Ayz _);refine Z3 ej hg e1 ?_;rw[hd,Ayd hlt];have hF:Nh (T[i]::T.drop (i+1)) s=61::T[i].2:=by simp only[Nh,hn,if_true];rw[List.find?_cons_of_pos (by simpa using he)]
    rw[hF];exact Qu
   have e1:(T[i].1==s)=false:=by simpa using he
   have hw:=wS i;refine Z4 ej hg e1 hw ?_;refine Au (m-1) _ _ om ⟨rfl,i+1,om,rfl,?_⟩ (hent (Gw.refl _) ?_)
   ·rw [hd,Ayd hlt];have hF:∀l,Nh (T[i]::l) s=Nh l s:=fun l=>by simp only[Nh,hn,if_true];rw[List.find?_cons_of_neg (by simpa using he)]
    exact hF _
   ·exact Zw
end
end Go.Proofs.YtmophjggmekoeaaGreatDoor
namespace Go.Proofs.YtmophjggmekoeaaGreatDoor
open Go.RowKit Go.Proofs Go.Sort Go.Shelf Go.Lib
variable [Env]
section
variable {α : Type} {enc : α → Value}
def Dj (enc:α→Value) (zs:List α):List AV:=zs.map fun a=>.raw (enc a)
theorem Hm:∀zs:List α,flat (Dj enc zs)=Dj enc zs
 |[]=>rfl
 |z::zs=>by have:=Hm zs;simp only[Dj,Axx,flat]at this⊢;rw[this];rfl
theorem Ov {w:World} {S:Nat→Nat}:∀{zs:List α} {cv:List Value} {c:Nat→Nat},Aa w S (Dj enc zs) cv c→cv=zs.map enc
 |[],cv,c,h=>h.zero.1
 |z::zs,cv,c,h=>by
  cases h with
  |raw h1 h=>rw[Ov (zs:=zs) h];rfl
theorem Ts (ho:∀a,(enc a).oneCell'=true) {w:World} {S:Nat→Nat}:∀zs:List α,Aa w S (Dj enc zs) (zs.map enc) (fun _=>0)
 |[]=>.nil Al
 |z::zs=>.raw (ho z) (Ts ho zs)
theorem Tt (zs:List α):∀x∈Dj enc zs,(cellsOf x).length=1:=by intro x hx;simp only[Dj,AxB]at hx;obtain⟨a,_,rfl⟩:=hx;rfl
theorem gD (ho:∀a,(enc a).oneCell'=true) (zs:List α):∀u∈zs.map enc,u.oneCell'=true:=by intro u hu;simp only[AxB]at hu;obtain⟨a,_,rfl⟩:=hu;exact ho a
theorem Gt (zs:List α):(Dj enc zs).length=zs.length:=by simp [Dj]
theorem P4 [Inhabited α] {w:World} {g:Nat} {cur:Array Value} {e:TypeId} {ss:List α} (hb:w.heap[g]? =some (.cells cur e (0,0))) (ht:cur.toList.take ss.length=ss.map enc):Holds enc w g 0 ss.toArray:=by
 intro j hj;have hj':j<ss.length:=by simpa using hj
 refine⟨?_,by simp [World.frozen?,hb]⟩;have h1:(cur.toList.take ss.length)[j]? =(ss.map enc)[j]? :=by rw[ht]
 exact Amt
theorem gE [Inhabited α] {w:World} {g n:Nat} {os:Array Obj} {cur:Array Value} {e:TypeId} {fr:Nat×Nat} (d:Array α) (hb:w.heap[g]? =some (.cells cur e fr)):
 (Go.Sort.grow (putRow enc (Sort.ahead w n) g 0 d) os).heap[g]? =some (.cells (putCells enc 0 d cur) e fr):=by
 exact Amx
theorem gF [Inhabited α] {w:World} {g n:Nat} {os:Array Obj} (d:Array α):w.grownBy (Go.Sort.grow (putRow enc (Sort.ahead w n) g 0 d) os) (some g):=by exact Amp
theorem gG [Inhabited α] (cur:Array Value) (ts:List α) (h:ts.length≤cur.size):(putCells enc 0 ts.toArray cur).toList.take ts.length=ts.map enc:=by
 apply Ayw;intro j;by_cases hj:j<ts.length
 ·exact Ank
 ·rw [List.getElem?_take_eq_none om,List.getElem?_eq_none (by simp;omega)]
theorem Ro [Inhabited α] {w:World} {S c:Nat→Nat} {b n:Nat} {os:Array Obj} {cur:Array Value} {e:TypeId} (d:Array α) (hz:Sz w S) (hb:w.heap[b]? =some (.cells cur e (0,0))) (hc:0<c b) (hS:S b=0) (s:Nat):
 Stp w S c (Go.Sort.grow (putRow enc (Sort.ahead w n) b 0 d) os) (upd S b s) c∧Sz (Go.Sort.grow (putRow enc (Sort.ahead w n) b 0 d) os) (upd S b s):=by
 have hg:=gF (enc:=enc) (w:=w) (g:=b) (n:=n) (os:=os) d;obtain⟨h1,h2,h3,h4,h5⟩:=hg;have hbs:b<w.heap.size:=(Array.getElem?_eq_some_iff.1 hb).1;have hother:∀x,x<w.heap.size→x≠b→(Go.Sort.grow (putRow enc (Sort.ahead w n) b 0 d) os).heap[x]? =w.heap[x]? :=fun x hx hne=>h5 x hx (by intro h;injection h with h;exact hne h);refine Xe hz ⟨by first|exact h1|rfl,by first|exact h2|rfl,⟨by first|exact h3|rfl,fun _=>AyA _ _⟩,h4,fun x hx hx0=> ?_,fun x o ho=> ?_,fun x=> ?_,fun x hx=>Axu _⟩ fun x hx=> ?_
 ·have hne:x≠b:=by rintro rfl;omega
  exact⟨hother x hx hne,by simp [upd,hne]⟩
 ·exact Am7
 ·unfold upd;split
  ·rename_i h;subst h;omega
  ·exact F6
 ·have hne:x≠b:=by rintro rfl;omega
  simp only[upd,hne,if_false];exact hz x om
theorem Ag6 [Inhabited α] {P:Program} {f e:Nat} (hfn:Gn P f) (ho:∀a,(enc a).oneCell'=true) (srt:List α→List α) (hsl:∀l,(srt l).length=l.length) (zs:List α)
 (hnil:∀p cap w,Calls P f #[.slice p 0 cap] w fun e w'=>e=.returned (.tuple #[])∧w'=w)
 (hcall:∀b cap w,Holds enc w b 0 zs.toArray→b<w.heap.size→Calls P f #[.slice (some ⟨b,0,none⟩) zs.length cap] w fun e w'=>e=.returned (.tuple #[])∧∃n os,w'=Go.Sort.grow (putRow enc (Sort.ahead w n) b 0 (srt zs).toArray) os):
 B9 P f (.row e 1 (Dj enc zs)) [] (fun r y=>r=.tup []∧y=.row e 1 (Dj enc (srt zs))):=by
 refine⟨hfn,⟨_,_,rfl,rfl⟩,fun w S v vs c hz hr hc=> ?_⟩
 cases hzs:zs with
 |nil=>
  subst hzs;obtain⟨v',us,d1,d2,he,h1,h2,hd⟩:=hr.uncons;injection he with he1 he2;subst he1;subst he2;obtain⟨rfl,hz2⟩:=h2.zero;have hv:∃p cap,v=.slice p 0 cap:=by exact Aay
  obtain⟨p,cap,rfl⟩:=hv;refine(hnil p cap w).mono ?_;rintro e w' ⟨rfl,rfl⟩;refine⟨_,_,_,S,d1,rfl,⟨rfl,rfl⟩,rfl,.inr ⟨_,_,_,rfl⟩,?_,fun b=>by have:=hc b;have:=hd b;omega,hz,(Stp.refl _ _ _).drop fun b=>by have:=hd b;omega⟩;have hm:srt ([]:List α)=[]:=AxA (by rw[hsl];rfl);rw[hm];exact Aa.tup (.nil Al) h1 (c1:=fun _=>0) (c2:=d1) (fun b=>oS)
 |cons z0 zs0=>
  rw[←hzs];have hne:Dj enc zs≠[]:=by rw[hzs];simp [Dj]
  generalize hes:Dj enc zs=es at hr
  cases hr with
  |rowE h=>exact absurd hes hne
  |row hn hcap hk hb hs hS h1 h0 ho' hnil' hcc=>
   rename_i b cap cur c0 c2;obtain⟨rfl,hz2⟩:=hnil'.zero;subst hes;have hlen:=Gt (enc:=enc) zs;rw[Hm]at h1;have ht:=Ov h1;rw[hlen,Ay3]at ht;have hbs:b<w.heap.size:=(Array.getElem?_eq_some_iff.1 hb).1;rw[hlen];refine(hcall b cap w (P4 hb ht) hbs).mono ?_;rintro e w' ⟨rfl,n,os,rfl⟩;generalize hss:srt zs=ss;have hsl':ss.length=zs.length:=by rw[←hss];exact hsl _
   have hcb:0<c b:=by rw[hcc];simp;omega
   obtain⟨hst,hsz⟩:=Ro (enc:=enc) (n:=n) (os:=os) ss.toArray hz hb hcb hS 0
   have hu:upd S b 0=S:=by
    funext x;unfold upd;split
    ·rename_i h;subst h;rw[hS]
    ·rfl
   exact AsW
theorem gH [Inhabited α] {P:Program} {f e:Nat} (hfn:Gn P f) (ho:∀a,(enc a).oneCell'=true) (cmp:List α→List α) (hcl0:∀l,(cmp l).length≤l.length) (z:α) (zs:List α)
 (hnil:∀p cap w,Calls P f #[.slice p 0 cap] w fun e w'=>e=.returned (.slice p 0 cap)∧w'=w)
 (hcall:∀b cap w,Holds enc w b 0 zs.toArray→zs.length≤cap→Calls P f #[.slice (some ⟨b,0,none⟩) zs.length cap] w fun e w'=>e=.returned (.slice (some ⟨b,0,none⟩) (cmp zs).length cap)∧∃q,w'=putRow enc (Sort.ahead w q) b 0 (cmp zs++List.replicate (zs.length-(cmp zs).length) z).toArray):
 Ab P f [.mine e 1 (Dj enc zs)] (fun r=>r=.own e 1 (Dj enc (cmp zs))):=by
 refine⟨hfn,⟨_,rfl⟩,fun w S vs c hz hr hc=> ?_⟩
 cases hzs:zs with
 |nil=>
  subst hzs;have hm:cmp ([]:List α)=[]:=AxA (by have:=hcl0 [];simpa using this);rw[hm];obtain⟨v',us,d1,d2,rfl,h1,h2,hd⟩:=hr.uncons;obtain⟨rfl,hz2⟩:=h2.zero
  cases h1 with
  |mineE hnil'=>refine(hnil none 0 w).mono ?_;rintro e w' ⟨rfl,rfl⟩;exact⟨_,_,S,d1,rfl,rfl,rfl,.ownE hnil',fun b=>by have:=hc b;have:=hd b;omega,hz,(Stp.refl _ _ _).drop fun b=>by have:=hd b;omega⟩
  |mine hn hcap hk hb hs hS h1 h0 ho' hnil' hcc=>rename_i b cap cur c0 c2;refine(hnil _ cap w).mono ?_;rintro e w' ⟨rfl,rfl⟩;exact⟨_,_,S,d1,rfl,rfl,rfl,.own (es:=[]) hn hcap hk hb hs (by simpa using hS) h1 h0 ho' hnil' hcc,fun b=>by have:=hc b;have:=hd b;omega,hz,(Stp.refl _ _ _).drop fun b=>by have:=hd b;omega⟩
 |cons z0 zs0=>
  rw[←hzs];have hne:Dj enc zs≠[]:=by rw[hzs];simp [Dj]
  generalize hes:Dj enc zs=es at hr
  cases hr with
  |mineE h=>exact absurd hes hne
  |mine hn hcap hk hb hs hS h1 h0 ho' hnil' hcc=>
   rename_i b cap cur us c0 c2;obtain⟨rfl,hz2⟩:=hnil'.zero;subst hes;have hlen:=Gt (enc:=enc) zs;rw[Hm]at h1;have ht:=Ov h1;rw[hlen,Ay3]at ht;rw[hlen];refine(hcall b cap w (P4 hb ht) om).mono ?_;rintro e w' ⟨rfl,n,rfl⟩;have hcl:(cmp zs).length≤zs.length:=hcl0 zs;generalize hss:cmp zs=ss at *;generalize hd:ss++List.replicate (zs.length-ss.length) z=dd;have hdl:dd.length=zs.length:=by rw[←hd];simp;omega
   have hcb:0<c b:=by rw[hcc];simp;omega
   obtain⟨hst,hsz⟩:=Ro (enc:=enc) (n:=n) (os:= #[]) dd.toArray hz hb hcb hS ss.length;rw[grow_empty]at hst hsz;refine⟨_,_,_,c,rfl,rfl,rfl,?_,hc,hsz,hst⟩;have hl2:=Gt (enc:=enc) ss;have htake:(putCells enc 0 dd.toArray cur).toList.take dd.length=dd.map enc:=gG cur dd (by rw[hs];omega);have htake2:(putCells enc 0 dd.toArray cur).toList.take ss.length=ss.map enc:=by have:=congrArg (List.take ss.length) htake;rw[List.take_take,Ay8 om]at this;rw[this,←hd,AxJ,List.take_left' oS]
   have hheap:=gE (enc:=enc) (n:=n) (os:= #[]) dd.toArray hb;rw[grow_empty]at hheap;rw[←hl2];refine .own (c0:=fun _=>0) (c2:=c2) om hcap (Tt ss) hheap (by simp [putCells,hs]) (by simp [upd]) ?_ Al ?_ (.nil hz2) hcc
   ·rw [Hm,hl2,Ay3,htake2];exact Ts ho ss
   ·rw [hl2,Ay3,htake2];exact gD ho ss
end
theorem gI {P:Program} {ρ:Ren} (L:SlLaysE0.n35 P ρ) (k:Nat) (hk0:0<k) (aE:∀w,(isAgg (ρ.t 23)).run P w=.ok true w) (zE:∀w,(Go.sizeOf (ρ.t 23)).run P w=.ok k w) {e:Nat} (hfn:Gn P (ρ.f 35))
 (es:List AV) (hk:∀x∈es,∃ys,x=.agg ys∧ys.length=k) (hlen:es.length≤1000000):
 B9 P (ρ.f 35) (.row e k es) [] (fun r y=>r=.tup []∧y=.row e k es.reverse):=by
 have hkc:∀x∈es,(cellsOf x).length=k:=fun x hx=>by obtain⟨ys,rfl,hy⟩:=hk x hx;exact hy
 refine⟨hfn,⟨_,_,rfl,rfl⟩,fun w S v vs c hz hr hc=> ?_⟩;obtain⟨v',us,d1,d2,he0,h1,h2,hd⟩:=hr.uncons;injection he0 with e1 e2;subst e1;subst e2;obtain⟨rfl,hz4⟩:=h2.zero;have hd':∀b,c b=d1 b:=fun b=>by rw[hd,hz4 b];omega
 have h1c:Aa w S [.row e k es] [v] c:=h1.congr hd';rcases AxG es.length with h0|hpos
 ·have hes:es=[]:=AxA h0;subst hes;have hv:∃p cap,v=.slice p 0 cap:=by exact Aay
  obtain⟨p,cap,rfl⟩:=hv;refine(AnyQ.slices_Reverse_empty L p cap w).mono ?_;rintro e' w' ⟨rfl,rfl⟩;exact⟨_,_,_,S,c,rfl,⟨rfl,rfl⟩,rfl,.inr ⟨_,_,_,rfl⟩,Aa.tup (.nil Al) h1c (c1:=fun _=>0) (c2:=c) (fun b=>oS),hc,hz,Stp.refl _ _ _⟩
 ·haveI:Inhabited (Fin es.length):=⟨⟨0,hpos⟩⟩
  cases h1c with
  |rowE h=>simp at hpos
  |row hn hcap hkk hb hs hS hf h0 ho hnil hcc=>
   rename_i b cap cur c0 c2;obtain⟨_,hz2⟩:=hnil.zero;obtain⟨css,hcl,hcv,hcs⟩:=Nc hkc hf h0;have hbs:b<w.heap.size:=(Array.getElem?_eq_some_iff.1 hb).1;have hck:∀i:Fin es.length,∃cs,css[i.1]? =some cs:=fun i=>⟨_,List.getElem?_eq_getElem (by rw[hcl];exact i.2)⟩;obtain⟨enc,hencdef⟩:∃enc:Fin es.length→List Value,∀i,css[i.1]? =some (enc i):=⟨fun i=>(hck i).choose,fun i=>(hck i).choose_spec⟩;have hek:∀i,(enc i).length=k:=fun i=>(hcs i.1 (es.get i) (enc i) oS (hencdef i)).1;have her:∀i,Aa w S (cellsOf (es.get i)) (enc i) (fun _=>0):=fun i=>(hcs i.1 (es.get i) (enc i) oS (hencdef i)).2;have hmap:(List.finRange es.length).map enc=css:=by exact Atj
   have hone:∀i,∀u∈enc i,u.oneCell'=true:=fun i u hu=>by exact AmQ
   have hfl:flatK enc k (List.finRange es.length).toArray=css.flatten.toArray:=by rw[Oh hk0 enc hek,hmap]
   have hclen:css.flatten.length=es.length*k:=by exact AmJ
   have hH:HoldsK enc k w b 0 (List.finRange es.length).toArray:=by rw[HoldsK,hfl];exact fX hb (by rw[hclen];exact hcv)
   have hcb:0<c b:=by rw[hcc];simp;omega
   have hsz:(List.finRange es.length).toArray.size=es.length:=oS;have hcon:=AnyQ.slices_Reverse L k aE zE enc hek hone b 0 cap (List.finRange es.length).toArray w hH (by rw[hsz];omega);rw[hsz]at hcon;refine hcon.mono ?_;rintro e' w' ⟨rfl,n,rfl⟩;have hrv:(List.finRange es.length).toArray.reverse=((List.finRange es.length).reverse).toArray:=oS;rw[hrv];obtain⟨ss,hss⟩:∃ss,(List.finRange es.length).reverse=ss:=⟨_,rfl⟩;rw[hss];have hes:es.reverse=ss.map es.get:=by rw[←hss,List.map_reverse,Y6]
   rw[hes];have hsl:ss.length=es.length:=by rw[←hss];simp
   obtain⟨hst,hszz⟩:=oM (n:=n) (os:= #[]) (flatK enc k ss.toArray) hz hb hcb hS;rw[grow_empty]at hst hszz;have hfs:flatK enc k ss.toArray=(ss.map enc).flatten.toArray:=Oh hk0 enc hek ss;have hfsl:(ss.map enc).flatten.length=es.length*k:=by exact AmW
   refine⟨_,_,_,S,c,rfl,⟨rfl,rfl⟩,rfl,.inr ⟨_,_,_,rfl⟩,?_,hc,hszz,hst⟩;refine Aa.tup (c1:=fun _=>0) (c2:=c) (.nil Al) ?_ (fun b=>oS);have hml:(ss.map es.get).length=es.length:=by rw[Axp,hsl]
   have htake:(putCells id 0 (flatK enc k ss.toArray) cur).toList.take (es.length*k)=(ss.map enc).flatten:=by exact Anx
   have hheap:=sL (n:=n) (os:= #[]) (flatK enc k ss.toArray) hb;rw[grow_empty]at hheap;have key:Aa (putRow id (Sort.ahead w n) b 0 (flatK enc k ss.toArray)) S [.row e k (ss.map es.get)] [.slice (some ⟨b,0,none⟩) (ss.map es.get).length cap] c:= ?_
   ·rw [hml]at key;exact key
   refine .row (c0:=fun _=>0) (c2:=c2) om hcap (fun x hx=> ?_) hheap (by simp [putCells,hs]) hS ?_ Al ?_ (.nil hz2) hcc
   ·obtain ⟨i,_,rfl⟩:=AxB.1 hx;exact hkc _ (List.get_mem _ _)
   ·exact Atf
   ·exact AmH
end Go.Proofs.YtmophjggmekoeaaGreatDoor
namespace Go.Proofs.YtmophjggmekoeaaGreatDoor
open Go.RowKit Go.Proofs
variable [Env]
end Go.Proofs.YtmophjggmekoeaaGreatDoor
namespace Go.Proofs
open Go.Shelf
def Tryz.lays190_ren:Go.Shelf.Ren:=⟨fun|190=>45|125=>80|258=>79|128=>145|129=>146|302=>136|303=>137|304=>138|305=>139|306=>140|307=>141|308=>142|309=>143|310=>144|333=>213|329=>214|330=>215|334=>216|335=>217|336=>50|344=>262|n=>n,fun|31=>30|9=>9|3=>3|46=>134|0=>0|51=>133|53=>213|4=>4|183=>206|182=>205|131=>99|5=>5|218=>271|222=>275|228=>320|229=>321|n=>n,fun|n=>n⟩
theorem Tryz.lays190:Go.Proofs.Lays.n190 Tryz.prog Tryz.lays190_ren:={
 mixed:=by kernel_rfl
 f125:=Tryz.func80.trans (congrArg some (by kernel_rfl))
 f128:=Tryz.func145.trans (congrArg some (by kernel_rfl))
 f129:=Tryz.func146.trans (congrArg some (by kernel_rfl))
 f190:=Tryz.func45.trans (congrArg some (by kernel_rfl))
 f258:=Tryz.func79.trans (congrArg some (by kernel_rfl))
 f302:=Tryz.func136.trans (congrArg some (by kernel_rfl))
 f303:=Tryz.func137.trans (congrArg some (by kernel_rfl))
 f304:=Tryz.func138.trans (congrArg some (by kernel_rfl))
 f305:=Tryz.func139.trans (congrArg some (by kernel_rfl))
 f306:=Tryz.func140.trans (congrArg some (by kernel_rfl))
 f307:=Tryz.func141.trans (congrArg some (by kernel_rfl))
 f308:=Tryz.func142.trans (congrArg some (by kernel_rfl))
 f309:=Tryz.func143.trans (congrArg some (by kernel_rfl))
 f310:=Tryz.func144.trans (congrArg some (by kernel_rfl))
 f329:=Tryz.func214.trans (congrArg some (by kernel_rfl))
 f330:=Tryz.func215.trans (congrArg some (by kernel_rfl))
 f333:=Tryz.func213.trans (congrArg some (by kernel_rfl))
 f334:=Tryz.func216.trans (congrArg some (by kernel_rfl))
 f335:=Tryz.func217.trans (congrArg some (by kernel_rfl))
 f336:=Tryz.func50.trans (congrArg some (by kernel_rfl))
 f344:=Tryz.func262.trans (congrArg some (by kernel_rfl))
 t0:=Tryz.underlying0
 a0:=Tryz.isAgg0
 z0:=Tryz.sizeOf0
 v0:=Tryz.zeroValue0
 t3:=Tryz.underlying3
 a3:=Tryz.isAgg3
 z3:=Tryz.sizeOf3
 v3:=Tryz.zeroValue3
 t4:=Tryz.underlying4
 a4:=Tryz.isAgg4
 z4:=Tryz.sizeOf4
 v4:=Tryz.zeroValue4
 t5:=Tryz.underlying5
 a5:=Tryz.isAgg5
 z5:=Tryz.sizeOf5
 v5:=Tryz.zeroValue5
 t9:=Tryz.underlying9
 a9:=Tryz.isAgg9
 z9:=Tryz.sizeOf9
 v9:=Tryz.zeroValue9
 t31:=Tryz.underlying30
 a31:=Tryz.isAgg30
 z31:=Tryz.sizeOf30
 v31:=Tryz.zeroValue30
 t46:=Tryz.underlying134
 a46:=Tryz.isAgg134
 z46:=Tryz.sizeOf134
 v46:=Tryz.zeroValue134
 t51:=Tryz.underlying133
 a51:=Tryz.isAgg133
 z51:=Tryz.sizeOf133
 v51:=Tryz.zeroValue133
 t53:=Tryz.underlying213
 a53:=Tryz.isAgg213
 z53:=Tryz.sizeOf213
 v53:=Tryz.zeroValue213
 t131:=Tryz.underlying99
 a131:=Tryz.isAgg99
 z131:=Tryz.sizeOf99
 v131:=Tryz.zeroValue99
 t182:=Tryz.underlying205
 a182:=Tryz.isAgg205
 z182:=Tryz.sizeOf205
 v182:=Tryz.zeroValue205
 t183:=Tryz.underlying206
 a183:=Tryz.isAgg206
 z183:=Tryz.sizeOf206
 v183:=Tryz.zeroValue206
 t218:=Tryz.underlying271
 a218:=Tryz.isAgg271
 z218:=Tryz.sizeOf271
 v218:=Tryz.zeroValue271
 t222:=Tryz.underlying275
 a222:=Tryz.isAgg275
 z222:=Tryz.sizeOf275
 v222:=Tryz.zeroValue275
 t228:=Tryz.underlying320
 a228:=Tryz.isAgg320
 z228:=Tryz.sizeOf320
 v228:=Tryz.zeroValue320
 t229:=Tryz.underlying321
 a229:=Tryz.isAgg321
 z229:=Tryz.sizeOf321
 v229:=Tryz.zeroValue321}
def Tryz.lays194_ren:Go.Shelf.Ren:=⟨fun|194=>46|n=>n,fun|31=>30|9=>9|3=>3|4=>4|0=>0|n=>n,fun|n=>n⟩
theorem Tryz.lays194:Go.Proofs.Lays.n194 Tryz.prog Tryz.lays194_ren:={
 mixed:=by kernel_rfl
 f194:=Tryz.func46.trans (congrArg some (by kernel_rfl))
 t0:=Tryz.underlying0
 a0:=Tryz.isAgg0
 z0:=Tryz.sizeOf0
 v0:=Tryz.zeroValue0
 t3:=Tryz.underlying3
 a3:=Tryz.isAgg3
 z3:=Tryz.sizeOf3
 v3:=Tryz.zeroValue3
 t4:=Tryz.underlying4
 a4:=Tryz.isAgg4
 z4:=Tryz.sizeOf4
 v4:=Tryz.zeroValue4
 t9:=Tryz.underlying9
 a9:=Tryz.isAgg9
 z9:=Tryz.sizeOf9
 v9:=Tryz.zeroValue9
 t31:=Tryz.underlying30
 a31:=Tryz.isAgg30
 z31:=Tryz.sizeOf30
 v31:=Tryz.zeroValue30}
def Tryz.laysSlE035_f155_ren:Go.Shelf.Ren:=⟨fun|35=>129|n=>n,fun|22=>197|23=>195|3=>3|4=>4|0=>0|n=>n,fun|n=>n⟩
theorem Tryz.laysSlE035_f129:Go.Proofs.SlLaysE0.n35 Tryz.prog Tryz.laysSlE035_f155_ren:={
 mixed:=by kernel_rfl
 f35:=⟨Tryz.f129.name,by decide,Tryz.func129.trans (congrArg some (by kernel_rfl))⟩
 t0:=Tryz.underlying0
 a0:=Tryz.isAgg0
 z0:=Tryz.sizeOf0
 v0:=Tryz.zeroValue0
 t3:=Tryz.underlying3
 a3:=Tryz.isAgg3
 z3:=Tryz.sizeOf3
 v3:=Tryz.zeroValue3
 t4:=Tryz.underlying4
 a4:=Tryz.isAgg4
 z4:=Tryz.sizeOf4
 v4:=Tryz.zeroValue4
 t22:=Tryz.underlying197
 a22:=Tryz.isAgg197
 z22:=Tryz.sizeOf197
 v22:=Tryz.zeroValue197}
open Go.Sort Go.RowKit in
theorem Tryz.slices_Sort_string (blk off cap:Nat) (ss:List (List UInt8)) (w:World) (hH:Holds encStr w blk off ss.toArray) (hblk:blk<w.heap.size) (hsz:ss.length<4611686018427387904):
 Calls Tryz.prog 45 #[.slice (some ⟨blk,off,none⟩) ss.length cap] w fun e w'=>
  e=.returned (.tuple #[])∧∃n os,w'=grow (putRow encStr (Sort.ahead w n) blk off (ss.mergeSort fun x y=>decide (x≤y)).toArray) os:=Any.slices_Sort_string Tryz.lays190 blk off cap ss w hH hblk hsz
open Go.RowKit Go.Lib Go.Sort in
theorem Tryz.slices_Compact_string (blk off cap:Nat) (zs:List (List UInt8)) (w:World) (hH:Holds encStr w blk off zs.toArray) (hsz:zs.length≤9223372036854775807) (hcap:zs.length≤cap):
 Calls Tryz.prog 46 #[.slice (some ⟨blk,off,none⟩) zs.length cap] w fun e w'=>e=.returned (.slice (some ⟨blk,off,none⟩) (Lib.compact zs).length cap)∧∃q,w'=putRow encStr (Sort.ahead w q) blk off (Lib.compact zs++List.replicate (zs.length-(Lib.compact zs).length) []).toArray:=Any.slices_Compact_string Tryz.lays194 blk off cap zs w hH hsz hcap
open Go.RowKit Go.Lib Go.Sort in
theorem Tryz.slices_Compact_string_empty (a:Option Addr) (cap:Nat) (w:World):
 Calls Tryz.prog 46 #[.slice a 0 cap] w fun e w'=>e=.returned (.slice a 0 cap)∧w'=w:=Any.slices_Compact_string_empty Tryz.lays194 a cap w
open Go.RowKit Go.Sort in
theorem Tryz.slices_Sort_string_none (p:Option Addr) (cap:Nat) (w:World):
 Calls Tryz.prog 45 #[.slice p 0 cap] w fun e w'=>e=.returned (.tuple #[])∧w'=w:=Any.slices_Sort_string_none Tryz.lays190 p cap w
end Go.Proofs
