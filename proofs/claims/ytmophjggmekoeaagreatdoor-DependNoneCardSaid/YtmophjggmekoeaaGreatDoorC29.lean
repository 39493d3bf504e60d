/- The reference: put, Topics, Authors, Common, Related. -/
import Derived.Test.YtmophjggmekoeaaGreatDoorC28
set_option linter.all false
set_option maxRecDepth 100000
set_option maxHeartbeats 4000000
namespace Go.Proofs.YtmophjggmekoeaaGreatDoor
section
open Go.RowKit Go.Proofs
def leS (s x:Ac):Bool:=Op.bytesLess s x||s==x
theorem Rp {s x:Ac}:leS s x=true↔s≤x:=by simp only[leS,Ayk,bytesLess_eq,decide_eq_true_eq,beq_iff_eq];exact nZ.symm
def Gu (s:Ac) (o:List Ac×Bool) (x:Ac):List Ac×Bool:=((o.1++if !o.2&&leS s x then[s]else[])++(if x=s then[]else[x]),o.2||leS s x)
def Gj (s:Ac) (l:List Ac):List Ac×Bool:=l.foldl (Gu s) ([],false)
def F2 (l:List Ac) (s:Ac):List Ac:=(Gj s l).1++if (Gj s l).2 then[]else[s]
theorem Wv {s:Ac} {l:List Ac} {j:Nat} {x:Ac} (h:l[j]? =some x):Gj s (l.take (j+1))=Gu s (Gj s (l.take j)) x:=by rw[Ax9,h];simp [Gj,Ayx]
theorem Ag7 (s:Ac):leS s s=true:=Rp.2 (List.le_refl _)
theorem Ag8 (s x:Ac) (o:List Ac) (d:Bool):(Gu s (o,d) x).1.length+(if(Gu s (o,d) x).2=true then 0 else 1)≤o.length+(if d=true then 0 else 1)+1:=by
 by_cases hx:x=s
 ·subst hx;cases d<;>simp [Gu,Ag7]
 ·cases d<;>cases hb:leS s x<;>simp [Gu,hb,hx]
theorem Ww (s:Ac):∀(l:List Ac) (o:List Ac) (d:Bool),(l.foldl (Gu s) (o,d)).1.length+(if(l.foldl (Gu s) (o,d)).2=true then 0 else 1)≤o.length+(if d=true then 0 else 1)+l.length
 |[],o,d=>Axu _
 |x::l,o,d=>by have h1:=Ww s l (Gu s (o,d) x).1 (Gu s (o,d) x).2;have h2:=Ag8 s x o d;simp only[Ayt,Axr];refine Ax1 h1 ?_;omega
theorem Tu (s:Ac) (l:List Ac):(Gj s l).1.length+(if(Gj s l).2=true then 0 else 1)≤l.length+1:=by have:=Ww s l [] false;unfold Gj;simp only[Axq,Ax0,if_false]at this;omega
theorem Tv (l:List Ac) (s:Ac):(F2 l s).length≤l.length+1:=by have:=Tu s l;unfold F2;rw[Axs];split<;>rename_i h<;>simp [h]at this⊢<;>omega
theorem Alv {a b c:Prop}:((a∨b)∨c)∨b↔a∨c∨b:=by
 constructor
 ·rintro (((h|h)|h)|h)
  ·exact .inl h
  ·exact Nl
  ·exact .inr (.inl h)
  ·exact Nl
 ·rintro (h|h|h)
  ·exact .inl (.inl (.inl h))
  ·exact .inl (.inr h)
  ·exact .inr h
theorem Wx {s:Ac}:∀{l:List Ac},l.Pairwise (·< ·)→∀(o:List Ac) (d:Bool),(o.Pairwise (·< ·))→(∀x∈o,∀y∈l,x<y∨x=y∧x=s)→(d=true→s∈o)→(d=false→∀x∈o,x<s)→
 ((l.foldl (Gu s) (o,d)).1++if (l.foldl (Gu s) (o,d)).2 then[]else[s]).Pairwise (·< ·)∧∀x,x∈((l.foldl (Gu s) (o,d)).1++if (l.foldl (Gu s) (o,d)).2 then[]else[s])↔x∈o∨x∈l∨x=s
 |[],_,o,d,ho,_,h1,h2=>by
  cases d with
  |true=>refine⟨by simpa using ho,fun x=> ?_⟩;simp;intro h;subst h;exact h1 rfl
  |false=>refine⟨?_,fun x=>oS⟩;simp only[AyC,Ax0,if_false];exact Ayq.2 ⟨ho,oS,fun x hx y hy=>by rw[Ax6]at hy;subst hy;exact h2 rfl x hx⟩
 |y::l,hl,o,d,ho,hol,h1,h2=>by
  rw[AxN]at hl
  have ho':∀x∈o,x≠s→x<y:=fun x hx hne=>by rcases hol x hx y oS with h|h
                                          ·exact h
                                          ·exact absurd h.2 hne
  have key:∀(o2:List Ac) (d2:Bool),Gu s (o,d) y=(o2,d2)→o2.Pairwise (·< ·)→(∀x∈o2,∀z∈l,x<z∨x=z∧x=s)→(d2=true→s∈o2)→(d2=false→∀x∈o2,x<s)→(∀x,x∈o2∨x=s↔x∈o∨x=y∨x=s)→
   (((y::l).foldl (Gu s) (o,d)).1++if ((y::l).foldl (Gu s) (o,d)).2 then[]else[s]).Pairwise (·< ·)∧∀x,x∈(((y::l).foldl (Gu s) (o,d)).1++if ((y::l).foldl (Gu s) (o,d)).2 then[]else[s])↔x∈o∨x∈y::l∨x=s:=by
   intro o2 d2 he g1 g2 g3 g4 g5;rw[Ayt,he];obtain⟨k1,k2⟩:=Wx hl.2 o2 d2 g1 g2 g3 g4;refine⟨k1,fun x=> ?_⟩;have:=g5 x;rw[k2];simp only[Ax2];constructor
   ·rintro (h|h|h)
    ·rcases this.1 (.inl h)with h|h|h
     ·exact .inl h
     ·exact .inr (.inl (.inl h))
     ·exact Nl
    ·exact .inr (.inl (.inr h))
    ·exact Nl
   ·rintro (h|(h|h)|h)
    ·rcases this.2 (.inl h)with h|h
     ·exact .inl h
     ·exact Nl
    ·rcases this.2 (.inr (.inl h))with h|h
     ·exact .inl h
     ·exact Nl
    ·exact .inr (.inl h)
    ·exact Nl
  have hy:∀z∈l,y<z:=fun z hz=>hl.1 z hz;by_cases hys:y=s
  ·subst hys;have hle:leS y y=true:=Rp.2 (List.le_refl _)
   cases d with
   |true=>
    refine key o true (by simp [Gu]) ho (fun x hx z hz=> ?_) (fun _=>h1 rfl) (fun h=>by cases h) (fun x=>oS);rcases hol x hx y oS with h|h
    ·exact .inl (Bw _ _ _ h (hy z hz))
    ·rw [h.1];exact .inl (hy z hz)
   |false=>
    refine key (o++[y]) true (by simp [Gu,hle]) (Ayq.2 ⟨ho,oS,fun x hx z hz=> ?_⟩) (fun x hx z hz=> ?_) (fun _=>oS) (fun h=>by cases h) (fun x=>oS)
    ·rw [Ax6]at hz;subst hz;exact h2 rfl x hx
    ·rcases Ax5.1 hx with hx|hx
     ·exact .inl (Bw _ _ _ (h2 rfl x hx) (hy z hz))
     ·exact qF
  ·cases hle:leS s y with
   |true=>
    have hsy:s<y:=by rcases nZ.1 (Rp.1 hle)with h|h
                     ·exact h
                     ·exact absurd h.symm hys
    cases d with
    |true=>
     refine key (o++[y]) true (by simp [Gu,hys]) (Ayq.2 ⟨ho,oS,fun x hx z hz=> ?_⟩) (fun x hx z hz=> ?_) (fun _=>by simp [h1 rfl]) (fun h=>by cases h) (fun x=>by simp only[Ax5,Ax6,or_assoc])
     ·rw [Ax6]at hz;subst hz;by_cases hx2:x=s
      ·subst hx2;exact hsy
      ·exact ho' x hx hx2
     ·rcases Ax5.1 hx with hx|hx
      ·by_cases hx2:x=s
       ·subst hx2;exact .inl (Bw _ _ _ hsy (hy z hz))
       ·exact .inl (Bw _ _ _ (ho' x hx hx2) (hy z hz))
      ·exact qF
    |false=>
     refine key (o++[s]++[y]) true (by simp [Gu,hle,hys]) (Ayq.2 ⟨Ayq.2 ⟨ho,oS,fun x hx z hz=> ?_⟩,oS,fun x hx z hz=> ?_⟩) (fun x hx z hz=> ?_) (fun _=>oS) (fun h=>by cases h) (fun x=>by simp only[Ax5,Ax6];exact Alv)
     ·rw [Ax6]at hz;subst hz;exact h2 rfl x hx
     ·rw [Ax6]at hz;subst hz;rcases Ax5.1 hx with hx|hx
      ·exact Bw _ _ _ (h2 rfl x hx) hsy
      ·rw [Ax6]at hx;subst hx;exact hsy
     ·rcases Ax5.1 hx with hx|hx
      ·rcases Ax5.1 hx with hx|hx
       ·exact .inl (Bw _ _ _ (Bw _ _ _ (h2 rfl x hx) hsy) (hy z hz))
       ·rw [Ax6]at hx;subst hx;exact .inl (Bw _ _ _ hsy (hy z hz))
      ·exact qF
   |false=>
    have hlt:y<s:=by
     have:¬s≤y:=fun h=>by rw[Rp.2 h]at hle;cases hle
     exact List.not_le.1 this
    have hd:d=false:=by
     cases d with
     |false=>rfl
     |true=>
      rcases hol s (h1 rfl) y oS with h|h
      ·exact absurd (Bw _ _ _ h hlt) (Ex _)
      ·exact absurd h.1.symm hys
    subst hd;refine key (o++[y]) false (by simp [Gu,hle,hys]) (Ayq.2 ⟨ho,oS,fun x hx z hz=> ?_⟩) (fun x hx z hz=> ?_) (fun h=>by cases h) (fun _ x hx=> ?_) (fun x=>by simp [or_assoc])
    ·rw [Ax6]at hz;subst hz;exact ho' x hx (fun h=>by subst h;exact absurd (h2 rfl _ hx) (Ex _))
    ·rcases Ax5.1 hx with hx|hx
     ·exact .inl (Bw _ _ _ (ho' x hx (fun h=>by subst h;exact absurd (h2 rfl _ hx) (Ex _))) (hy z hz))
     ·exact qF
    ·rcases Ax5.1 hx with hx|hx
     ·exact h2 rfl x hx
     ·rw [Ax6]at hx;subst hx;exact hlt
theorem Wy {l:List Ac} (s:Ac) (h:l.Pairwise (·< ·)):(F2 l s).Pairwise (·< ·)∧∀x,x∈F2 l s↔x∈l∨x=s:=by obtain⟨h1,h2⟩:=Wx (s:=s) h [] false oS oS oS oS;refine⟨h1,fun x=> ?_⟩;have:=(h2 x).trans (show x∈[]∨x∈l∨x=s↔x∈l∨x=s by simp);exact this
theorem Tw:∀(m:List Ac) {l:List Ac},l.Pairwise (·< ·)→(m.foldl F2 l).Pairwise (·< ·)∧∀x,x∈m.foldl F2 l↔x∈l∨x∈m
 |[],l,h=>⟨h,oS⟩
 |s::m,l,h=>by obtain⟨h1,h2⟩:=Wy s h;obtain⟨h3,h4⟩:=Tw m h1;refine⟨h3,fun x=> ?_⟩;rw[Ayt,h4,h2,Ax2,or_assoc]
theorem gJ (m:List Ac):m.foldl F2 []=dst m:=by obtain⟨h1,h2⟩:=Tw m (l:=[]) oS;exact(Yx h1 (fun x=>by rw[h2];simp)).symm
theorem P5:∀(m l:List Ac),(m.foldl F2 l).length≤l.length+m.length
 |[],l=>by simp
 |s::m,l=>by have:=P5 m (F2 l s);have:=Tv l s;exact bK
theorem Tx {α β:Type} {f:β→α→β} {l:List α} {j:Nat} {x:α} {b:β} (h:l[j]? =some x):(l.take (j+1)).foldl f b=f ((l.take j).foldl f b) x:=by rw[Ax9,h];simp [Ayx]
theorem Aoo (l:List Ac) (s:Ac) (hl:l.length≤10000000):Ab Tryz.prog 53 [.sl 1 (l.map str),str s] (fun r=>r=.own 9 1 ((F2 l s).map str)):=by
 refine Zs [] Tryz.func53 ⟨_,rfl⟩ ?_;refine Ap (rl [5,36]) [5,6,7] (fun n xs=>∃j:Nat,j≤l.length∧j+n=l.length∧xs=[.own 9 1 ((Gj s (l.take j)).1.map str),Ai (Gj s (l.take j)).2,num j]) ⟨l.length,_,⟨0,om,om,rfl⟩,?_⟩ ?_
 ·exact AnP
 ·rintro n xs ⟨j,hjl,hn,rfl⟩;have hol:=Tu s (l.take j);rw[AxC]at hol;simp only[PU];rcases Axz j l.length with hlt|hge
  ·have ej:=eT j l.length;obtain⟨x,hx,hd⟩:=drop_at hlt;have hgx:=B8 hx;have hw:=wS j;have hstep:=Wv (s:=s) hx;obtain⟨o,ho⟩:∃o,(Gj s (l.take j)).1=o:=⟨_,rfl⟩;obtain⟨d,hd⟩:∃d,(Gj s (l.take j)).2=d:=⟨_,rfl⟩;rw[show Gj s (l.take j)=(o,d)from Prod.ext ho hd]at hol hstep⊢;simp only[Gu]at hstep;simp only[Ai]at *;have hol2:o.length≤l.length+1:=Ax1 (AyA _ _) (Ax1 hol om);rcases Bool.eq_false_or_eq_true (leS s x)with hle|hle
   ·have hle2:(Op.bytesLess s x||s==x)=true:=hle;by_cases hxs:x=s
    ·have hxe:=eq_true hxs;have ebx:(x==s)=true:=by simp [hxs]
     cases d
     ·repeat' first|refine Aj.on (fun _=>?_) (fun _=>?_)|with_reducible refine gd ?_|simp only[go_sem,DT,Int.reduceEq,Int.cast_ofNat_Int,ej,hgx,hw,hle2,ebx,Axp,Axs,Axr,Axq]
      exact jB
     ·repeat' first|refine Aj.on (fun _=>?_) (fun _=>?_)|with_reducible refine gd ?_|simp only[go_sem,DT,Int.reduceEq,Int.cast_ofNat_Int,ej,hgx,hw,hle2,ebx,Axp,Axs,Axr,Axq]
      exact jB
    ·have hxe:=eq_false hxs;have ebx:(x==s)=false:=by simp [hxs]
     cases d
     ·repeat' first|refine Aj.on (fun _=>?_) (fun _=>?_)|with_reducible refine gd ?_|simp only[go_sem,DT,Int.reduceEq,Int.cast_ofNat_Int,ej,hgx,hw,hle2,ebx,Axp,Axs,Axr,Axq]
      exact jB
     ·repeat' first|refine Aj.on (fun _=>?_) (fun _=>?_)|with_reducible refine gd ?_|simp only[go_sem,DT,Int.reduceEq,Int.cast_ofNat_Int,ej,hgx,hw,hle2,ebx,Axp,Axs,Axr,Axq]
      exact jB
   ·have hle2:(Op.bytesLess s x||s==x)=false:=hle;by_cases hxs:x=s
    ·have hxe:=eq_true hxs;have ebx:(x==s)=true:=by simp [hxs]
     cases d
     ·repeat' first|refine Aj.on (fun _=>?_) (fun _=>?_)|with_reducible refine gd ?_|simp only[go_sem,DT,Int.reduceEq,Int.cast_ofNat_Int,ej,hgx,hw,hle2,ebx,Axp,Axs,Axr,Axq]
      exact jB
     ·repeat' first|refine Aj.on (fun _=>?_) (fun _=>?_)|with_reducible refine gd ?_|simp only[go_sem,DT,Int.reduceEq,Int.cast_ofNat_Int,ej,hgx,hw,hle2,ebx,Axp,Axs,Axr,Axq]
      exact jB
    ·have hxe:=eq_false hxs;have ebx:(x==s)=false:=by simp [hxs]
     cases d
     ·repeat' first|refine Aj.on (fun _=>?_) (fun _=>?_)|with_reducible refine gd ?_|simp only[go_sem,DT,Int.reduceEq,Int.cast_ofNat_Int,ej,hgx,hw,hle2,ebx,Axp,Axs,Axr,Axq]
      exact jB
     ·repeat' first|refine Aj.on (fun _=>?_) (fun _=>?_)|with_reducible refine gd ?_|simp only[go_sem,DT,Int.reduceEq,Int.cast_ofNat_Int,ej,hgx,hw,hle2,ebx,Axp,Axs,Axr,Axq]
      exact jB
  ·have ej:=eU j l.length;rw[Axw hge]at hol⊢;obtain⟨o,ho⟩:∃o,(Gj s l).1=o:=⟨_,rfl⟩;obtain⟨d,hd⟩:∃d,(Gj s l).2=d:=⟨_,rfl⟩;have hpl:F2 l s=o++if d then[]else[s]:=by rw[F2,ho,hd]
   rw[show Gj s l=(o,d)from Prod.ext ho hd]at hol⊢;rw[hpl];have hol2:o.length≤l.length+1:=Ax1 (AyA _ _) (Ax1 hol om);simp only[Ai];cases d
   ·refine Zu ?_;simp only[Ax0,if_false,AxJ,Axx,Axv,str]
   ·repeat' first|refine Aj.on (fun _=>?_) (fun _=>?_)|with_reducible refine gd ?_|simp only[go_sem,DT,Int.reduceEq,Int.cast_ofNat_Int,ej,Axp,Axs,Axr,Axq]
    all_goals simp only[if_true,AxF]
end
section
open Go.RowKit Go.Proofs
def U9 (o:List Ac) (s:A2):List Ac:=if D8 s then s.tp.foldl F2 o else o
def Bp (L:List A2):List Ac:=L.foldl U9 []
def Va (o:List Ac) (s:A2):List Ac:=if D8 s then F2 o s.au else o
def Cs (L:List A2):List Ac:=L.foldl Va []
theorem gK:∀(L:List A2) (o:List Ac),(∀s∈L,s.tp.length≤1000)→(L.foldl U9 o).length≤o.length+1000*L.length
 |[],o,_=>by simp
 |s::L,o,h=>by
  have h1:=gK L (U9 o s) (fun y hy=>h y (by simp [hy]))
  have h2:(U9 o s).length≤o.length+1000:=by
   unfold U9;split
   ·have:=P5 s.tp o;have:=h s oS;omega
   ·omega
  exact bK
theorem gL:∀(L:List A2) (o:List Ac),(L.foldl Va o).length≤o.length+L.length
 |[],o=>by simp
 |s::L,o=>by
  have h1:=gL L (Va o s)
  have h2:(Va o s).length≤o.length+1:=by
   unfold Va;split
   ·exact Tv _ _
   ·omega
  exact bK
theorem Ag9 {L:List A2} (h:∀s∈L,s.tp.length≤1000) (i:Nat):(Bp (L.take i)).length≤1000*i:=by have:=gK (L.take i) [] (fun s hs=>h s (AxK hs));rw[AxC]at this;simp only[Axq]at this;unfold Bp;omega
theorem AgA (L:List A2) (i:Nat):(Cs (L.take i)).length≤i:=by have:=gL (L.take i) [];rw[AxC]at this;simp only[Axq]at this;unfold Cs;omega
theorem gM (L:List A2) (tm:List AV) (hl:L.length≤10000) (hs:∀s∈L,Ki s) (ht:∀s∈L,s.tp.length≤1000):Ab Tryz.prog 26 [stA L tm] (fun r=>r=.own 9 1 ((Bp L).map str)):=by
 simp only[stA];refine A9 [] Bo Cq Tryz.func26 oD oK (by simp only[Tryz.f26,go_sem,reduceIte];rfl) Tryz.ntmps26 Tryz.results26 ⟨_,rfl⟩ rfl ?_;simp only[LS,Nat.reduceAdd,Nat.reduceSub];repeat' first|refine Aj.on (fun _=>?_) (fun _=>?_)|with_reducible refine gd ?_|simp only[go_sem,DT,Int.reduceEq,Int.cast_ofNat_Int]
 refine Ap (rl [3,36]) [3,4] (fun n xs=>∃i:Nat,i≤L.length∧i+n=L.length∧xs=[.own 9 1 ((Bp (L.take i)).map str),num i]) ⟨L.length,_,⟨0,om,om,rfl⟩,?_⟩ ?_
 ·simp only[AxI,Bp,AyC,Axv];exact Zw
 ·rintro n xs ⟨i,hil,hn,rfl⟩;have hol:=Ag9 ht i;simp only[PU];rcases Axz i L.length with hlt|hge
  ·have ej:=eT i L.length;obtain⟨s,hx,hd⟩:=drop_at hlt;have hso:=hs s (Axt hx);have hst:=ht s (Axt hx);have hgx:=Lf hx;simp only[num,str,Ai]at hgx;have hw:=wS i;have hstep:Bp (L.take (i+1))=U9 (Bp (L.take i)) s:=Tx hx;obtain⟨o,ho⟩:∃o,Bp (L.take i)=o:=⟨_,rfl⟩;rw[ho]at hol hstep⊢;refine Z3 ej hgx hw ?_;refine((Tj s hso.2).wk ?_).mono ?_
   ·exact qM
   rintro r rfl;simp only[Ai];cases hls:D8 s
   ·have hstep2:Bp (L.take (i+1))=o:=by rw[hstep,U9,hls];rfl
    refine Z3 ej hgx hw ?_;refine Ap (rl [3,1,3,1,14,17]) [3,7] (fun n2 xs=>xs=[.own 9 1 (o.map str),num 0]) ⟨0,_,rfl,?_⟩ ?_
    ·exact Zw
    ·rintro n2 xs rfl;simp only[PU];repeat' first|refine Aj.on (fun _=>?_) (fun _=>?_)|with_reducible refine gd ?_|simp only[go_sem,DT,Int.reduceEq,Int.cast_ofNat_Int,ej,hgx,hw,Axp,Axs,Axr,Axq]
     refine Az (n-1) [.own 9 1 ((Bp (L.take (i+1))).map str),num ((i+1:Nat):Int)] om ⟨i+1,om,om,rfl⟩ ?_;rw[hstep2];exact Zw
   ·have hstep2:Bp (L.take (i+1))=s.tp.foldl F2 o:=by rw[hstep,U9,hls];rfl
    refine Z3 ej hgx hw ?_;refine Ap (rl [3,1,3,1,14,17]) [3,7] (fun n2 xs=>∃k:Nat,k≤s.tp.length∧k+n2=s.tp.length∧xs=[.own 9 1 (((s.tp.take k).foldl F2 o).map str),num k]) ⟨s.tp.length,_,⟨0,om,om,rfl⟩,?_⟩ ?_
    ·simp only[AxI,AyC];exact Zw
    ·rintro n2 xs ⟨k,hkl,hn2,rfl⟩;have hol2:=P5 (s.tp.take k) o;rw[AxC]at hol2;simp only[PU];rcases Axz k s.tp.length with hkt|hkg
     ·have ek:=eT k s.tp.length;obtain⟨t,htx,htd⟩:=drop_at hkt;have hgt:=B8 htx;have hwk:=wS k;have hstp:(s.tp.take (k+1)).foldl F2 o=F2 ((s.tp.take k).foldl F2 o) t:=Tx htx;obtain⟨o2,ho2⟩:∃o2,(s.tp.take k).foldl F2 o=o2:=⟨_,rfl⟩;rw[ho2]at hol2 hstp⊢;refine Zu ?_;refine Za (Aoo o2 t om) ?_;refine Az (n2-1) [.own 9 1 (((s.tp.take (k+1)).foldl F2 o).map str),num ((k+1:Nat):Int)] om ⟨k+1,om,om,rfl⟩ ?_;rw[hstp];exact Zw
     ·have ek:=eU k s.tp.length;rw[Axw hkg,←hstep2];refine Z4 ek ej hgx hw ?_;refine Az (n-1) [.own 9 1 ((Bp (L.take (i+1))).map str),num ((i+1:Nat):Int)] om ⟨i+1,om,om,rfl⟩ ?_;exact Rx
  ·exact AaJ
theorem Zi (L:List A2) (tm:List AV) (hl:L.length≤10000) (hs:∀s∈L,Ki s):Ab Tryz.prog 28 [stA L tm] (fun r=>r=.own 9 1 ((Cs L).map str)):=by
 simp only[stA];refine Zs [] Tryz.func28 ⟨_,rfl⟩ ?_;refine Ap (rl [3,25]) [3,4] (fun n xs=>∃i:Nat,i≤L.length∧i+n=L.length∧xs=[.own 9 1 ((Cs (L.take i)).map str),num i]) ⟨L.length,_,⟨0,om,om,rfl⟩,?_⟩ ?_
 ·simp only[AxI,Cs,AyC,Axv];exact Zw
 ·rintro n xs ⟨i,hil,hn,rfl⟩;have hol:=AgA L i;simp only[PU];rcases Axz i L.length with hlt|hge
  ·have ej:=eT i L.length;obtain⟨s,hx,hd⟩:=drop_at hlt;have hso:=hs s (Axt hx);have hgx:=Lf hx;simp only[num,str,Ai]at hgx;have hw:=wS i;have hstep:Cs (L.take (i+1))=Va (Cs (L.take i)) s:=Tx hx;obtain⟨o,ho⟩:∃o,Cs (L.take i)=o:=⟨_,rfl⟩;rw[ho]at hol hstep⊢;refine Z3 ej hgx hw ?_;refine((Tj s hso.2).wk ?_).mono ?_
   ·exact qM
   rintro r rfl;simp only[Ai];cases hls:D8 s
   ·have hstep2:Cs (L.take (i+1))=o:=by rw[hstep,Va,hls];rfl
    refine Z3 ej hgx hw ?_;exact Am9
   ·have hstep2:Cs (L.take (i+1))=F2 o s.au:=by rw[hstep,Va,hls];rfl
    refine Z3 ej hgx hw ?_;refine Za (Aoo o s.au om) ?_;exact Am9
  ·exact AaJ
end
section
open Go.RowKit Go.Proofs
theorem gN:∀a:Ac,(encStr a).oneCell'=true:=fun _=>rfl
theorem AgB (zs:List Ac) (h:zs.length≤10000000):B9 Tryz.prog 45 (.row 9 1 (zs.map str)) [] (fun r y=>r=.tup []∧y=.row 9 1 ((zs.mergeSort fun x y=>decide (x≤y)).map str)):=
 Ag6 ⟨_,_,Tryz.func45,rfl,oD⟩ gN (fun l=>l.mergeSort fun x y=>decide (x≤y)) (fun l=>AyD l) zs Tryz.slices_Sort_string_none
  (fun b cap w hH hb=>Tryz.slices_Sort_string b 0 cap zs w hH hb om)
theorem P6 (zs:List Ac) (h:zs.length≤10000000):Ab Tryz.prog 46 [.mine 9 1 (zs.map str)] (fun r=>r=.own 9 1 ((Lib.compact zs).map str)):=
 gH ⟨_,_,Tryz.func46,rfl,oD⟩ gN Lib.compact (fun l=>Lib.compact_length_le l) [] zs Tryz.slices_Compact_string_empty
  (fun b cap w hH hc=>Tryz.slices_Compact_string b 0 cap zs w hH om hc)
theorem AgC (zs:List Ac) (h:zs.length≤1000000000):Ab Tryz.prog 209 [.sl 1 (zs.map str)] (fun r=>r=.nil∧zs=[]∨r=.mine 9 1 (zs.map str)):=by
 refine Zs [] Tryz.func209 ⟨_,.inr rfl⟩ ?_;refine⟨fun h0=> ?_,?_⟩
 ·have hz:zs=[]:=AxA h0;refine Z0 ?_;exact .inl hz
 ·refine Zu ?_;first|exact .inr rfl|exact .inr trivial
theorem Alw (zs:List Ac) (h:zs.length≤1000000000):Ab Tryz.prog 209 [.sl 1 (zs.map str)] (fun r=>r=.mine 9 1 (zs.map str)):=by
 refine(AgC zs h).wkr ?_;rintro r (⟨rfl,rfl⟩|rfl)
 ·exact ⟨_,W1.nilmine 9 1,rfl,rfl⟩
 ·exact ⟨_,W1.refl _,rfl,rfl⟩
theorem Ty (zs:List Ac) (h:zs.length≤10000000):Ab Tryz.prog 125 [.sl 1 (zs.map str)] (fun r=>r=.own 9 1 ((dst zs).map str)):=by
 refine Zs [(2,[100003],[]),(3,[100003],[])] Tryz.func125 ⟨_,rfl⟩ ?_;refine Za (Alw zs om) ?_;refine B9.mono (AgB zs h) ?_;rintro r y ⟨rfl,rfl⟩;refine Z0 ?_;refine(P6 _ (by rw[AyD];exact h)).mono ?_;rintro r rfl;repeat' first|refine Aj.on (fun _=>?_) (fun _=>?_)|with_reducible refine gd ?_|simp only[go_sem,DT,Int.reduceEq,Int.cast_ofNat_Int]
 rfl
theorem yU (XS:List (A2×Nat)) (hl:XS.length≤1000000):B9 Tryz.prog 129 (.row 195 9 (XS.map qY)) [] (fun r y=>r=.tup []∧y=.row 195 9 (XS.reverse.map qY)):=by rw[List.map_reverse];refine gI Tryz.laysSlE035_f129 9 oD Tryz.isAgg195 Tryz.sizeOf195 ⟨_,_,Tryz.func129,rfl,oD⟩ (XS.map qY) (fun x hx=> ?_) (by simpa using hl);obtain⟨y,_,rfl⟩:=AxB.1 hx;exact⟨_,rfl,rfl⟩
theorem yV (L:List A2) (tm:List AV) (cs:List Cnd) (hl:L.length≤1000000) (hs:∀s∈L,Ki s) (hcl:cs.length≤1000000) (hc:∀c∈cs,Agv c):Ab Tryz.prog 126 [stA L tm,.sl 1 (cs.map fU)] (fun r=>r=.mine 195 9 ((Q5 (C6 (Di cs) 0 L)).map qY)):=by
 simp only[stA];refine Zs [(2,[100005],[]),(3,[100005],[])] Tryz.func126 ⟨_,rfl⟩ ?_;refine((Y5 L tm cs).wk ?_).mono ?_
 ·simp only[stA];exact Zw
 rintro r rfl;simp only[stA];refine Z0 ?_;refine Za (Wl (C6 (Di cs) 0 L) (by have:=F0 (p:=Di cs) L 0;omega) (Y4 L tm cs hl hs hcl hc)) ?_;refine B9.mono (Agz (C6 (Di cs) 0 L) (by have:=F0 (p:=Di cs) L 0;omega) (Tp L 0)) ?_;rintro r y ⟨rfl,rfl⟩;exact Aaw
theorem Alx (L:List A2) (tm:List AV) (v:List UInt8) (p:Int) (hp:Kg p) (hl:L.length≤100000) (hs:∀s∈L,Ki s):Ab Tryz.prog 74 [stA L tm,str v,num p] (fun r=>r=.tup [.nil,num (((Cr v L).length+4) / 5:Nat)]∧Pz ((Cr v L).reverse.map (·.id)) p=[]∨r=.tup [.own 3 1 (nums (Pz ((Cr v L).reverse.map (·.id)) p)),num (((Cr v L).length+4) / 5:Nat)]):=by
 simp only[stA];refine Zs [(1,[4],[]),(2,[100008],[]),(3,[8],[])] Tryz.func74 ⟨_,.inr rfl⟩ ?_;refine((yV L tm [Ag1 v 127] om hs oS (fun c hc s a ho=> ?_)).wk ?_).mono ?_
 ·rw [Ax6]at hc;subst hc;exact ArL s a v ho.1
 ·exact AnF
 rintro r rfl;rw[Wq];have hXl:(Q5 (C6 (fun s _=>hasB s v) 0 L)).length≤L.length:=by rw[fZ];exact F0 L 0
 have hM:=gA v L;obtain⟨XS,hX⟩:∃XS,Q5 (C6 (fun s _=>hasB s v) 0 L)=XS:=⟨_,rfl⟩;rw[hX]at hXl hM⊢;obtain⟨M,hMM⟩:∃M,Cr v L=M:=⟨_,rfl⟩;rw[hMM]at hM⊢;have hMl:M.length=XS.length:=by rw[←hM,Axp]
 refine Z0 ?_;refine B9.mono (yU XS om) ?_;rintro r y ⟨rfl,rfl⟩;have hids:M.reverse.map (·.id)=XS.reverse.map (·.1.id):=by rw[←hM,List.map_reverse,List.map_reverse,Ay4];rfl
 rw[hids];obtain⟨O,hO⟩:∃O,XS.reverse=O:=⟨_,rfl⟩;have hOl:O.length=M.length:=by rw[←hO,List.length_reverse,hMl]
 rw[hO,←hOl];obtain⟨p1,p2⟩:=hp;have hq:(O.length:Int).tdiv 5=((O.length / 5:Nat):Int):=(Int.ofNat_tdiv O.length 5).symm;have hm:(O.length:Int).tmod 5=((O.length % 5:Nat):Int):=Oe (n:=5) om;have hwq:IntKind.i64.wrap ((O.length / 5:Nat):Int)=((O.length / 5:Nat):Int):=Cj om om;have hwm:IntKind.i64.wrap ((O.length % 5:Nat):Int)=((O.length % 5:Nat):Int):=Cj om om;obtain⟨np,hnp⟩:∃np,(O.length+4) / 5=np:=⟨_,rfl⟩;rw[hnp];by_cases h5:0<O.length % 5
 ·have e5:=eq_true (show(0:Int)<((O.length % 5:Nat):Int) by omega);have hwp:IntKind.i64.wrap (((O.length / 5:Nat):Int)+1)=(np:Int):=by rw[Cj om om];omega
  exact AsN
 ·have e5:=eq_false (show¬(0:Int)<((O.length % 5:Nat):Int) by omega);have hwp:((O.length / 5:Nat):Int)=(np:Int):=om;exact AsN
theorem ArQ (L:List A2) (tm:List AV) (v:List UInt8) (p:Int) (hp:Kg p) (hl:L.length≤100000) (hs:∀s∈L,Ki s):Ab Tryz.prog 74 [stA L tm,str v,num p] (fun r=>r=.tup [.own 3 1 (nums (Pz ((Cr v L).reverse.map (·.id)) p)),num (((Cr v L).length+4) / 5:Nat)]):=by
 refine(Alx L tm v p hp hl hs).wkr ?_;rintro r (⟨rfl,h⟩|rfl)
 ·refine ⟨_,W1.tup (A6 (e:=3) (k:=1) (.same .nil)),rfl,by rw[h];rfl⟩
 ·exact ⟨_,W1.refl _,rfl,rfl⟩
end
section
open Go.RowKit Go.Proofs
theorem holds_nil:Di []=fun _ _=>true:=by funext s a;simp [Di]
theorem Tz:∀(L:List A2) (i:Nat),(C6 (fun _ _=>true) i L).map (·.1)=L.filter D8
 |[],i=>rfl
 |s::L,i=>by
  have:=Tz L (i+1);unfold C6;by_cases h:D8 s=true
  ·rw [if_pos (by simp [h]),AyM,if_pos h,Axx,this]
  ·rw [if_neg (by simp [h]),AyM,if_neg h,this]
theorem Wz:∀(L:List A2) (o:List Ac),L.foldl U9 o=((L.filter D8).flatMap (·.tp)).foldl F2 o
 |[],o=>rfl
 |s::L,o=>by
  rw[Ayt,Wz L,U9];by_cases h:D8 s=true
  ·rw [if_pos h,AyM,if_pos h,List.flatMap_cons,Ayx]
  ·rw [if_neg h,AyM,if_neg h]
theorem T3 (L:List A2):Bp L=dst ((L.filter D8).flatMap (·.tp)):=by rw[Bp,Wz,gJ]
theorem W0:∀(L:List A2) (o:List Ac),L.foldl Va o=((L.filter D8).map (·.au)).foldl F2 o
 |[],o=>rfl
 |s::L,o=>by
  rw[Ayt,W0 L,Va];by_cases h:D8 s=true
  ·rw [if_pos h,AyM,if_pos h,Axx,Ayt]
  ·rw [if_neg h,AyM,if_neg h]
theorem T4 (L:List A2):Cs L=dst ((L.filter D8).map (·.au)):=by rw[Cs,W0,gJ]
theorem Ow {XS:List (A2×Nat)} (h:∀x∈XS,x.1.tp.length≤1000) (k:Nat):((XS.take k).flatMap (·.1.tp)).length≤1000*k:=by
 induction k with
 |zero=>simp
 |succ k ih=>
  rw[Ax9,AyL,Axs]
  have hlast:((XS[k]?.toList).flatMap (·.1.tp)).length≤1000:=by
   cases hx:XS[k]? with
   |none=>simp
   |some x=>simpa using h x (Axt hx)
  omega
theorem gO (L:List A2) (tm:List AV) (hl:L.length≤10000) (hs:∀s∈L,Ki s) (ht:∀s∈L,s.tp.length≤1000):Ab Tryz.prog 72 [stA L tm] (fun r=>r=.own 9 1 ((Bp L).map str)):=by
 have hlen:=F0 (p:=fun _ _=>true) L 0;simp only[stA];refine Fw [] [] [4,7,8,9,10,11,12] Bo Cq Tryz.func72 oD oK (by simp only[Tryz.f72,go_sem,reduceIte,reduceCtorEq];rfl) Tryz.ntmps72 Tryz.results72 ⟨_,rfl⟩ rfl ?_;skip;simp only[LS,Nat.reduceAdd,Nat.reduceSub];refine Z0 ?_;refine((Y5 L tm []).wk ?_).mono ?_
 ·simp only[stA,Axv];exact Zw
 rintro r rfl;refine Z0 ?_;have hi:=Y4 L tm [] om hs oS (fun c hc=>by simp at hc);rw[holds_nil]at hi;obtain⟨XS,hX⟩:∃XS,C6 (fun _ _=>true) 0 L=XS:=⟨_,rfl⟩;have hXm:∀x∈XS,x.1.tp.length≤1000:=fun x hx=>ht x.1 (by rw[←hX]at hx;exact(Y8 L 0 x hx).2);have hXt:XS.flatMap (·.1.tp)=(L.filter D8).flatMap (·.tp):=by rw[←Tz L 0,hX,List.flatMap_map]
 have hYX:Agw (fun _ _=>true) L=fun k args=>∃x,XS[k]? =some x∧args=[qY x]:=by funext k args;simp only[Agw,hX]
 rw[hYX]at hi;rw[hX]at hi hlen;refine H1 (rl [3,2,2,6]) [3] (fun k xs=>xs=[.box 30 [.own 9 1 (((XS.take k).flatMap (·.1.tp)).map str)]]) (Axu 15) ?_ hi ?_ ?_ ?_
 ·exact Ho
 ·refine ⟨_,rfl,?_⟩;simp only[PU];simp only[AxI,List.flatMap_nil,Axv];exact jF
 ·rintro k args xs ⟨x,hk,rfl⟩ rfl;refine⟨rfl,rfl,?_⟩;have hlk:k<XS.length:=(List.getElem?_eq_some_iff.1 hk).1;have hfl:=Ow hXm k;have hxl:=hXm x (Axt hk);have hsn:((XS.take k).flatMap (·.1.tp)).map str++x.1.tp.map str=((XS.take (k+1)).flatMap (·.1.tp)).map str:=by rw[Ax9,hk];simp
  obtain⟨s,i⟩:=x;simp only at hsn hxl;obtain⟨F,hF⟩:∃F,(XS.take k).flatMap (·.1.tp)=F:=⟨_,rfl⟩;rw[hF]at hfl hsn⊢;simp only[qY,qst,num,str,Ai]at hsn⊢;simp only[PU];repeat' first|refine Aj.on (fun _=>?_) (fun _=>?_)|with_reducible refine gd ?_|simp only[go_sem,DT,Int.reduceEq,Int.cast_ofNat_Int,hsn,Axp]
  refine L6 _ rfl ?_;simp only[PU];exact jF
 ·rintro xs rfl;simp only[PU];simp only[Ay0,hXt];have hfl:=Ow hXm XS.length;rw[Ay0,hXt]at hfl;refine Z0 ?_;refine Zb (Ty ((L.filter D8).flatMap (·.tp)) om) ?_;rintro r rfl;rw[T3];exact Aaw
theorem W2 (L:List A2) (tm:List AV) (hl:L.length≤10000) (hs:∀s∈L,Ki s):Ab Tryz.prog 76 [stA L tm] (fun r=>r=.own 9 1 ((Cs L).map str)):=by
 have hlen:=F0 (p:=fun _ _=>true) L 0;simp only[stA];refine Fw [] [] [4,7,8,9,10,11,12,13] Bo Cq Tryz.func76 oD oK (by simp only[Tryz.f76,go_sem,reduceIte,reduceCtorEq];rfl) Tryz.ntmps76 Tryz.results76 ⟨_,rfl⟩ rfl ?_;skip;simp only[LS,Nat.reduceAdd,Nat.reduceSub];refine Z0 ?_;refine((Y5 L tm []).wk ?_).mono ?_
 ·simp only[stA,Axv];exact Zw
 rintro r rfl;refine Z0 ?_;have hi:=Y4 L tm [] om hs oS (fun c hc=>by simp at hc);rw[holds_nil]at hi;obtain⟨XS,hX⟩:∃XS,C6 (fun _ _=>true) 0 L=XS:=⟨_,rfl⟩;have hXt:XS.map (·.1.au)=(L.filter D8).map (·.au):=by rw[←Tz L 0,hX,Ay4];rfl
 have hYX:Agw (fun _ _=>true) L=fun k args=>∃x,XS[k]? =some x∧args=[qY x]:=by funext k args;simp only[Agw,hX]
 rw[hYX]at hi;rw[hX]at hi hlen;refine H1 (rl [3,2,2,7]) [3] (fun k xs=>xs=[.box 30 [.own 9 1 (((XS.take k).map (·.1.au)).map str)]]) (Axu 16) ?_ hi ?_ ?_ ?_
 ·exact Ho
 ·refine ⟨_,rfl,?_⟩;simp only[PU];simp only[AxI,Axv];exact jF
 ·rintro k args xs ⟨x,hk,rfl⟩ rfl;refine⟨rfl,rfl,?_⟩;have hlk:k<XS.length:=(List.getElem?_eq_some_iff.1 hk).1;have hsn:((XS.take k).map (·.1.au)).map str++[str x.1.au]=((XS.take (k+1)).map (·.1.au)).map str:=by rw[Ax9,hk];simp
  have hfl:((XS.take k).map (·.1.au)).length=k:=by simp;omega
  obtain⟨s,i⟩:=x;simp only at hsn;obtain⟨F,hF⟩:∃F,(XS.take k).map (·.1.au)=F:=⟨_,rfl⟩;rw[hF]at hfl hsn⊢;simp only[qY,qst,num,str,Ai]at hsn⊢;simp only[PU];repeat' first|refine Aj.on (fun _=>?_) (fun _=>?_)|with_reducible refine gd ?_|simp only[go_sem,DT,Int.reduceEq,Int.cast_ofNat_Int,hsn,Axp]
  refine L6 _ rfl ?_;simp only[PU];exact jF
 ·rintro xs rfl;simp only[PU];simp only[Ay0,hXt];refine Z0 ?_;refine Zb (Ty ((L.filter D8).map (·.au)) (by rw[←hXt,Axp];omega)) ?_;rintro r rfl;rw[T4];exact Aaw
end
section
open Go.RowKit Go.Proofs
theorem T5 {x y:A2}:∀{l:List A2},y∈Gf l x→y=x∨y∈l
 |[],h=>by simp [Gf]at h;exact .inl h
 |z::r,h=>by
  simp only[Gf]at h;split at h
  ·rcases Ax2.1 h with h|h
   ·exact .inl h
   ·exact .inr h
  ·rcases Ax2.1 h with h|h
   ·exact .inr (by simp [h])
   ·rcases T5 h with h|h
    ·exact .inl h
    ·exact .inr (by simp [h])
theorem gP (v:List UInt8):∀(L acc:List A2),∀y∈L.foldl (U8 v) acc,y∈acc∨y∈L
 |[],acc,y,h=>.inl h
 |s::L,acc,y,h=>by
  rcases gP v L _ y h with h|h
  ·unfold U8 at h;split at h
   ·rcases T5 h with h|h
    ·exact .inr (by simp [h])
    ·exact .inl h
   ·exact .inl h
  ·exact .inr (by simp [h])
theorem AgD (v:List UInt8) (L:List A2):∀y∈Cr v L,y∈L:=fun y h=>by
 rcases gP v L [] y h with h|h
 ·simp at h
 ·exact h
end
section
open Go.RowKit Go.Proofs
open Go.Shelf
end
section
open Go.RowKit Go.Proofs
open Go.Shelf
end
section
open Go.RowKit Go.Proofs
def edl (x:AV):Ac:=match x with
 |.agg (.raw (.string b)::_)=>b.data.toList
 |_=>[]
def Aly (s:A2):Prop:=∀e∈s.ed,∃l a b c d,e=.agg [str l,a,b,c,d]
def I5 (s:A2):List E5:=if s.tk then[]else s.ed.map fun e=>⟨2,[],s.id,edl e⟩
def oP (L:List A2) (t:Ac):Nat:=((Cr t L).length+4) / 5
def Uq (L:List A2) (t:Ac):List E5:=if B1 t=true then⟨5,t,0,[]⟩::(List.range (min (oP L t) 64)).map fun(p:Nat)=>(⟨3,t,(p:Int)+1,[]⟩:E5)else[]
def auF (t:Ac):E5:=⟨4,t,0,[]⟩
def yW:E5:=⟨1,[],0,[]⟩
def yX:E5:=⟨6,[],0,[]⟩
def Zj (L:List A2):List E5:=[yW,yX]++(L.flatMap I5++((Bp L).flatMap (Uq L)++(Cs L).map auF))
def adY (L:List A2) (k:Nat) (args:List AV):Prop:=∃a,(Zj L)[k]? =some a∧args=[Dk a]
section
variable {α β : Type} {f : α → List β} {l : List α} {i : Nat} {s : α}
theorem Ox (hx:l[i]? =some s):((l.take (i+1)).flatMap f).length=((l.take i).flatMap f).length+(f s).length:=by rw[Ax9,hx,AyL,Axs];simp
theorem AgE {j:Nat} {x:β} (hx:l[i]? =some s) (hj:(f s)[j]? =some x):(l.flatMap f)[((l.take i).flatMap f).length+j]? =some x:=by
 have hi:=(List.getElem?_eq_some_iff.1 hx).1;have hd:l.drop i=s::l.drop (i+1):=by exact An9
 have e:l.flatMap f=(l.take i).flatMap f++(f s++(l.drop (i+1)).flatMap f):=by
  conv=>lhs;rw[←AxR i l,hd,AyL,List.flatMap_cons]
 have hjl:=(List.getElem?_eq_some_iff.1 hj).1;rw[e,List.getElem?_append_right om,AyZ,List.getElem?_append_left hjl,hj]
end
theorem AuM {L:List A2} {k:Nat} {a:E5} (h:(L.flatMap I5)[k]? =some a):(Zj L)[2+k]? =some a:=by have:=(List.getElem?_eq_some_iff.1 h).1;unfold Zj;rw[List.getElem?_append_right (by simp only[Axr,Axq];omega),List.getElem?_append_left (by simp only[Axr,Axq];omega)];rw[←h];congr 1;simp only[Axr,Axq];omega
theorem Aop {L:List A2} {k:Nat} {a:E5} (h:((Bp L).flatMap (Uq L))[k]? =some a):(Zj L)[2+(L.flatMap I5).length+k]? =some a:=by have:=(List.getElem?_eq_some_iff.1 h).1;unfold Zj;rw[List.getElem?_append_right (by simp only[Axr,Axq];omega),List.getElem?_append_right (by simp only[Axr,Axq];omega),List.getElem?_append_left (by simp only[Axr,Axq];omega)];rw[←h];congr 1;simp only[Axr,Axq];omega
theorem AuN {L:List A2} {k:Nat} {a:Ac} (h:(Cs L)[k]? =some a):(Zj L)[2+(L.flatMap I5).length+((Bp L).flatMap (Uq L)).length+k]? =some (auF a):=by unfold Zj;rw[List.getElem?_append_right (by simp only[Axr,Axq];omega),List.getElem?_append_right (by simp only[Axr,Axq];omega),List.getElem?_append_right (by simp only[Axr,Axq];omega),List.getElem?_map];rw[show 2+(L.flatMap I5).length+((Bp L).flatMap (Uq L)).length+k-[yW,yX].length-(L.flatMap I5).length-((Bp L).flatMap (Uq L)).length=k by simp only[Axr,Axq];omega,h];rfl
theorem Zo {s:A2} (h:s.tk=false):(I5 s).length=s.ed.length:=by simp [I5,h]
theorem AgF {s:A2} {j:Nat} {l:Ac} {a b c d:AV} (h:s.tk=false) (hj:s.ed[j]? =some (.agg [str l,a,b,c,d])):(I5 s)[j]? =some ⟨2,[],s.id,l⟩:=by simp [I5,h,hj,edl,str]
theorem Alz {L:List A2} {t:Ac} (h:B1 t=true):(Uq L t).length=1+min (oP L t) 64:=by simp [Uq,h];omega
theorem ArR {L:List A2} {t:Ac} (h:B1 t=false):Uq L t=[]:=by simp [Uq,h]
theorem Al0 {L:List A2} {t:Ac} (h:B1 t=true):(Uq L t)[0]? =some ⟨5,t,0,[]⟩:=by simp [Uq,h]
theorem ArS {L:List A2} {t:Ac} {p:Nat} (h:B1 t=true) (hp:p<oP L t) (hp2:p<64):(Uq L t)[1+p]? =some ⟨3,t,((p+1:Nat):Int),[]⟩:=by rw[Uq,if_pos h,AyV,List.getElem?_cons_succ,List.getElem?_map,List.getElem?_range om];simp
theorem yY (L:List A2) (tm:List AV) (hl:L.length≤10000) (hs:∀s∈L,Ki s) (ht:∀s∈L,s.tp.length≤1000) (he:∀s∈L,Aly s) (hT:(Bp L).length≤1000000000) (hA:(Cs L).length≤1000000000):
 Qj Tryz.prog 71 [.elt (.agg [.sl 8 (L.map Dx),.sl 2 tm])] (Zj L).length (adY L):=by
 refine Na [] [(0,7002),(8,6),(15,3),(21,4),(26,3)] [] Bo Cq Tryz.func71 oD oK (by simp only[Tryz.f71,go_sem,reduceIte,reduceCtorEq];rfl) Tryz.ntmps71 Tryz.results71 rfl ?_;intro l;simp only[LS,Nat.reduceAdd,Nat.reduceSub];refine Zu ?_;refine J9 ⟨yW,rfl,rfl⟩ ?_ ?_
 ·refine Zu ?_;refine J9 ⟨yX,rfl,rfl⟩ ?_ ?_
  ·refine Zu ?_;refine Fo (rl [4,1,1,1,20,23]) [27] (fun n st xs=>∃i k:Nat,st=some k∧i≤L.length∧i+n=L.length∧k=2+((L.take i).flatMap I5).length∧xs=[num i]) ⟨L.length,_,⟨0,2,rfl,om,om,rfl,rfl⟩,?_⟩ ?_
   ·exact Zw
   ·rintro n st1 xs ⟨i,k,rfl,hi1,hi2,hk,rfl⟩;simp only[PU];rcases Axz i L.length with hlt|hge
    ·have ej:=eT i L.length;obtain⟨s,hx,hd⟩:=drop_at hlt;have hso:=hs s (Axt hx);have heo:=he s (Axt hx);have hed:=hso.2;have hgx:=Lf hx;simp only[num,str,Ai]at hgx;have hw:=wS i;cases htk:s.tk
     ·rw [htk]at hgx;refine Z3 ej hgx hw ?_;refine Fo [false,false,false,false,false,false,true,false,false,false,false,false,false,false,false,false,false,false,false,false,false,false,false,false,false,false,false,false,false,false,false,false,false,false,false,false,true,true,true,true,true,true,true,true,true,true,true,true,true,false,false,false,false,false,false,false,false,false,false,false,false,false,false,false,false,false,false,false,false,false,false,false,false,false,false,false,false,false,false,false,false,false,false,false,false,false,false,false,false,false,false,false,false,false,false,false,false,false,false] [36] (fun n st xs=>∃j k2:Nat,st=some k2∧j≤s.ed.length∧j+n=s.ed.length∧k2=2+((L.take i).flatMap I5).length+j∧xs=[num j]) ⟨s.ed.length,_,⟨0,k,rfl,om,om,om,rfl⟩,?_⟩ ?_
      ·exact Zw
      ·rintro n2 st2 xs ⟨j,k2,rfl,hj1,hj2,hk2,rfl⟩;simp only[PU];rcases Axz j s.ed.length with hjl|hjg
       ·have hwj:=wS j;have ek:=eT j s.ed.length;obtain⟨e,hjx,hjd⟩:=drop_at hjl;obtain⟨l,c1,c2,c3,c4,rfl⟩:=heo e (Axt hjx);have hge:s.ed.getD j .any=.agg [str l,c1,c2,c3,c4]:=by simp [hjx]
        simp only[str]at hge;have hyk:=AuM (AgE hx (AgF htk hjx));rw[←Nat.add_assoc,←hk2]at hyk;refine Z4 ek hge hwj hw ?_;refine J9 ⟨_,hyk,rfl⟩ ?_ ?_
        ·refine Z4 ek hge hwj hw ?_;refine Cn (n2-1) [num ((j+1:Nat):Int)] om ⟨j+1,k2+1,rfl,om,om,om,rfl⟩ ?_;exact Zw
        ·repeat' first|refine Aj.on (fun _=>?_) (fun _=>?_)|with_reducible refine gd ?_|simp only[go_sem,DT,Int.reduceEq,Int.cast_ofNat_Int,Ae,ne_eq,Nat.reduceEqDiff,not_false_eq_true,Axp,ek,hge,hwj,hw]
         exact Rv
       ·have ek:=eU j s.ed.length;refine Z2 ek hw ?_;refine Cn (n-1) [num ((i+1:Nat):Int)] om ⟨i+1,k2,rfl,om,om,by rw[Ox hx,Zo htk];omega,rfl⟩ ?_;exact Zw
     ·rw [htk]at hgx;refine Z3 ej hgx hw ?_;refine Cn (n-1) [num ((i+1:Nat):Int)] om ⟨i+1,k,rfl,om,om,by rw[Ox hx,I5,if_pos htk];simp only[Axq];omega,rfl⟩ ?_;exact Zw
    ·have ej:=eU i L.length;rw[Axw hge]at hk;refine Z1 ej ?_;refine((gO L tm hl hs ht).wk ?_).mono ?_
     ·try simp only[num,str]
      exact Df
     rintro r rfl;try simp only[Ai,num,str]
     repeat' first|refine Aj.on (fun _=>?_) (fun _=>?_)|with_reducible refine gd ?_|simp only[go_sem,DT,Int.reduceEq,Int.cast_ofNat_Int,Ae,ne_eq,Nat.reduceEqDiff,not_false_eq_true,Axp,ej]
     refine Fo [false,false,false,false,false,false,false,false,true,true,true,true,false,false,false,false,false,false,false,false,false,false,false,false,false,false,false,false,false,false,false,false,false,false,false,false,false,false,false,false,false,false,false,false,false,false,false,false,false,false,false,true,false,true,true,true,true,true,true,true,true,true,true,true,true,true,true,true,true,true,true,true,true,true,true,true,true,true,true,true,true,true,true,true,true,true,false,false,false,false,false,false,false,false,false,false,false,false,false] [51,53] (fun n st xs=>∃i k:Nat,st=some k∧i≤(Bp L).length∧i+n=(Bp L).length∧k=2+(L.flatMap I5).length+(((Bp L).take i).flatMap (Uq L)).length∧xs=[.sl 1 ((Bp L).map str),num i]) ⟨(Bp L).length,_,⟨0,k,rfl,om,om,by simp only[AxI,List.flatMap_nil,Axq];omega,rfl⟩,?_⟩ ?_
     ·exact Zw
     ·rintro n st3 xs ⟨i,k,rfl,hi1,hi2,hk,rfl⟩;simp only[PU];rcases Axz i (Bp L).length with hlt|hge
      ·have ej:=eq_true (show(i:Int)<((Bp L).length:Int) by omega);obtain⟨t,hx,hd⟩:=drop_at hlt;have hgx:=B8 hx;have hw:=wS i;refine Z3 ej hgx hw ?_;refine Zb (Ea Yy t) ?_;rintro r rfl;simp only[Ai];cases hnm:B1 t
       ·refine Z3 ej hgx hw ?_;refine Cn (n-1) [.sl 1 ((Bp L).map str),num ((i+1:Nat):Int)] om ⟨i+1,k,rfl,om,om,by rw[Ox hx,ArR hnm];simp only[Axq];omega,rfl⟩ ?_;exact Zw
       ·have hyk:=Aop (AgE hx (Al0 (L:=L) hnm));rw[AyT,←hk]at hyk;refine Z3 ej hgx hw ?_;refine J9 ⟨_,hyk,rfl⟩ ?_ ?_
        ·refine Z3 ej hgx hw ?_;refine Zb (ArQ L tm t 1 ⟨om,om⟩ om hs) ?_;rintro r rfl;try simp only[Ai,num,str]
         repeat' first|refine Aj.on (fun _=>?_) (fun _=>?_)|with_reducible refine gd ?_|simp only[go_sem,DT,Int.reduceEq,Int.cast_ofNat_Int,Ae,ne_eq,Nat.reduceEqDiff,not_false_eq_true,Axp,ej,hgx,hw]
         refine Fo [false,false,false,false,false,false,false,false,false,false,false,true,false,false,false,false,false,false,false,false,false,false,false,false,false,false,false,false,false,false,false,false,false,false,false,false,false,false,false,false,false,false,false,false,false,false,false,false,false,false,false,false,false,false,false,false,false,false,false,false,false,false,false,false,false,false,false,false,false,false,false,true,true,true,true,true,true,true,true,true,true,true,true,true,true,false,false,false,false,false,false,false,false,false,false,false,false,false,false] [11] (fun n st xs=>∃p k4:Nat,st=some k4∧p≤64∧p≤oP L t∧p+n=65∧k4=2+(L.flatMap I5).length+(((Bp L).take i).flatMap (Uq L)).length+1+p∧xs=[num ((p+1:Nat):Int)]) ⟨65,_,⟨0,k+1,rfl,om,om,om,om,rfl⟩,?_⟩ ?_
         ·exact Zw
         ·rintro n4 st4 xs ⟨p,k4,rfl,hp1,hp2,hpn,hk4,rfl⟩;simp only[PU];have hwp:IntKind.i64.wrap (((p+1:Nat):Int)+1)=((p+1+1:Nat):Int):=Eu om;rcases Axz p (oP L t)with hpl|hpg
          ·have hpl':p<((Cr t L).length+4) / 5:=hpl;have ep:=eq_true (show((p+1:Nat):Int)≤((((Cr t L).length+4) / 5:Nat):Int) by omega);refine Z3 ep hwp hw ?_;refine Zb (De ((p+1:Nat):Int)) ?_;rintro r rfl;rcases Axz p 64 with h64|h64
           ·have hnb:Kj ((p+1:Nat):Int)=true:=Lj.2 ⟨om,om⟩;simp only[Ai,hnb];have hyk:=Aop (AgE hx (ArS hnm hpl h64));rw[show 2+(L.flatMap I5).length+((((Bp L).take i).flatMap (Uq L)).length+(1+p))=k4 by omega]at hyk;refine Z3 ep hwp hw ?_;refine J9 ⟨_,hyk,rfl⟩ ?_ ?_
            ·refine Z3 ep hwp hw ?_;refine Cn (n4-1) [num ((p+1+1:Nat):Int)] om ⟨p+1,k4+1,rfl,om,om,om,om,rfl⟩ ?_;exact Zw
            ·repeat' first|refine Aj.on (fun _=>?_) (fun _=>?_)|with_reducible refine gd ?_|simp only[go_sem,DT,Int.reduceEq,Int.cast_ofNat_Int,Ae,ne_eq,Nat.reduceEqDiff,not_false_eq_true,Axp,ep,hwp,hw]
             exact Rv
           ·have hnb:Kj ((p+1:Nat):Int)=false:=by
             cases h:Kj ((p+1:Nat):Int)with
             |false=>rfl
             |true=>have:=Lj.1 h;omega
            simp only[Ai,hnb];exact Amo
          ·have hpg':p≥((Cr t L).length+4) / 5:=hpg;have ep:=eq_false (show¬((p+1:Nat):Int)≤((((Cr t L).length+4) / 5:Nat):Int) by omega);exact Amo
        ·repeat' first|refine Aj.on (fun _=>?_) (fun _=>?_)|with_reducible refine gd ?_|simp only[go_sem,DT,Int.reduceEq,Int.cast_ofNat_Int,Ae,ne_eq,Nat.reduceEqDiff,not_false_eq_true,Axp,ej,hgx,hw]
         exact Rv
      ·have ej:=eq_false (show¬(i:Int)<((Bp L).length:Int) by omega);rw[Axw hge]at hk;refine Z1 ej ?_;refine Zb (W2 L tm hl hs) ?_;rintro r rfl;try simp only[Ai,num,str]
       repeat' first|refine Aj.on (fun _=>?_) (fun _=>?_)|with_reducible refine gd ?_|simp only[go_sem,DT,Int.reduceEq,Int.cast_ofNat_Int,Ae,ne_eq,Nat.reduceEqDiff,not_false_eq_true,Axp,ej]
       refine Fo [false,false,false,false,false,false,false,false,false,false,false,false,false,true,false,false,false,false,false,false,false,false,false,false,false,false,false,false,false,false,false,false,false,false,false,false,false,false,false,false,false,false,false,false,false,false,false,false,false,false,false,false,false,false,false,false,false,false,false,false,false,false,false,false,false,false,false,false,false,false,false,false,false,false,false,false,false,false,false,false,false,false,false,false,false,false,false,true,false,true,true,true,true,true,true,true,true,true,true] [87,89] (fun n st xs=>∃q k5:Nat,st=some k5∧q≤(Cs L).length∧q+n=(Cs L).length∧k5=2+(L.flatMap I5).length+((Bp L).flatMap (Uq L)).length+q∧xs=[.sl 1 ((Cs L).map str),num q]) ⟨(Cs L).length,_,⟨0,k,rfl,om,om,om,rfl⟩,?_⟩ ?_
       ·exact Zw
       ·rintro n5 st5 xs ⟨q,k5,rfl,hq1,hq2,hk5,rfl⟩;simp only[PU];rcases Axz q (Cs L).length with hq|hq
        ·have ej:=eq_true (show(q:Int)<((Cs L).length:Int) by omega);obtain⟨u,hux,hud⟩:=drop_at hq;have hgx:=B8 hux;have hw:=wS q;have hyk:=AuN hux;rw[←hk5]at hyk;refine Z3 ej hgx hw ?_;refine J9 ⟨_,hyk,rfl⟩ ?_ ?_
         ·refine Z3 ej hgx hw ?_;refine Cn (n5-1) [.sl 1 ((Cs L).map str),num ((q+1:Nat):Int)] om ⟨q+1,k5+1,rfl,om,om,om,rfl⟩ ?_;exact Zw
         ·repeat' first|refine Aj.on (fun _=>?_) (fun _=>?_)|with_reducible refine gd ?_|simp only[go_sem,DT,Int.reduceEq,Int.cast_ofNat_Int,Ae,ne_eq,Nat.reduceEqDiff,not_false_eq_true,Axp,ej,hgx,hw]
          exact Rv
        ·have ej:=eq_false (show¬(q:Int)<((Cs L).length:Int) by omega);refine Z1 ej ?_;refine .inl ?_;have:(Zj L).length=2+((L.flatMap I5).length+(((Bp L).flatMap (Uq L)).length+(Cs L).length)):=by simp only[Zj,Axs,Axp,Axr,Axq]
         rw[this,hk5];first|omega|exact congrArg some om
  ·repeat' first|refine Aj.on (fun _=>?_) (fun _=>?_)|with_reducible refine gd ?_|simp only[go_sem,DT,Int.reduceEq,Int.cast_ofNat_Int,Ae,ne_eq,Nat.reduceEqDiff,not_false_eq_true,Axp]
   exact Rv
 ·repeat' first|refine Aj.on (fun _=>?_) (fun _=>?_)|with_reducible refine gd ?_|simp only[go_sem,DT,Int.reduceEq,Int.cast_ofNat_Int,Ae,ne_eq,Nat.reduceEqDiff,not_false_eq_true,Axp]
  exact Rv
end
end Go.Proofs.YtmophjggmekoeaaGreatDoor
