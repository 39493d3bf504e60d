/- How strings compare; how what has been read compares. -/
import Derived.Shelf.Utf8.RuneCount
import Derived.Shelf.Strings.SplitShaped
import Derived.Shelf.Unicode.Decode
import Derived.Shelf.Strings.RuneCount
import Derived.Shelf.Strings.Explode
import Derived.Shelf.Unicode.DecodeLast
import Derived.Shelf.SlSortCmp.Insertion
import Derived.Shelf.SlSortCmp.SiftDown1
import Derived.Shelf.SlSortCmp.HeapSort1
import Derived.Shelf.SlSortCmp.Insertion1
import Derived.Shelf.SlSortCmp.Median1
import Derived.Shelf.SlSortCmp.Pivot1
import Derived.Shelf.SlSortCmp.ReverseRange1
import Derived.Shelf.SlSortCmp.PartialInsertion1
import Derived.Shelf.SlSortCmp.PartitionEqual1
import Derived.Shelf.SlSortCmp.Partition1
import Derived.Shelf.SlSortCmp.Pdq1
import Derived.Shelf.SlSortCmp.Whole1
import Derived.Test.YtmophjggmekoeaaGreatDoorC30
set_option linter.all false
set_option maxRecDepth 100000
set_option maxHeartbeats 4000000
namespace Go.Proofs.YtmophjggmekoeaaGreatDoor
section
open Go.RowKit Go.Proofs
variable [Env]
def Ie (x y:Ac):Int:=if x<y then -1 else if y<x then 1 else 0
theorem E8 {x y:Ac}:Ie x y<0↔x<y:=by
 unfold Ie;by_cases h:x<y
 ·rw [if_pos h];exact⟨fun _=>h,fun _=>om⟩
 ·rw [if_neg h];split<;>exact⟨fun h=>om,fun h'=>absurd h' h⟩
theorem iD (x:Ac):Ab Tryz.prog 50 [str x] (fun r=>r=Ai false):=by refine Ir [] Tryz.func50 ⟨_,rfl⟩ ?_;have e:(x != x)=false:=oS;have e':(x==x)=true:=oS;exact Ze
theorem P8 (x y:Ac):Ab Tryz.prog 24 [str x,str y] (fun r=>r=num (Ie x y)):=by
 refine Zs [] Tryz.func24 ⟨_,rfl⟩ ?_;refine Za (iD x) ?_;refine(iD y).mono ?_;rintro r rfl;simp only[Ai];by_cases hbxy:x<y
 ·have bxy:Op.bytesLess x y=true:=by rw[bytesLess_eq];simpa using hbxy
  have e:Ie x y= -1:=by unfold Ie;rw[if_pos hbxy]
  exact Ze
 have bxy:Op.bytesLess x y=false:=by rw[bytesLess_eq];simpa using hbxy
 by_cases hbyx:y<x
 ·have byx:Op.bytesLess y x=true:=by rw[bytesLess_eq];simpa using hbyx
  have e:Ie x y=1:=by unfold Ie;rw[if_neg hbxy,if_pos hbyx]
  have q:(x==y)=false:=by rw[beq_eq_false_iff_ne];intro h;exact hbxy (h▸hbyx)
  exact Ze
 have byx:Op.bytesLess y x=false:=by rw[bytesLess_eq];simpa using hbyx
 have e:Ie x y=0:=by unfold Ie;rw[if_neg hbxy,if_neg hbyx]
 have q:(x==y)=true:=by
  rw[beq_iff_eq];rcases Std.lt_trichotomy x y with h|h|h
  ·exact absurd h hbxy
  ·exact h
  ·exact absurd h hbyx
 exact Ze
theorem AlJ (x y:Ac) (a b:Int):Ab Tryz.prog 63 [.agg [str x,num a],.agg [str y,num b]] (fun r=>r=num (Ie x y)):=by
 refine A9 [] Bo Cq Tryz.func63 oD oK (by simp only[Tryz.f63,go_sem,reduceIte];rfl) Tryz.ntmps63 Tryz.results63 ⟨_,rfl⟩ rfl ?_;simp only[LS,Nat.reduceAdd,Nat.reduceSub];repeat' first|refine Aj.on (fun _=>?_) (fun _=>?_)|with_reducible refine gd ?_|simp only[go_sem]
 refine(P8 x y).mono ?_;rintro r rfl;simp only[num];exact Aia
end
section
open Go.RowKit Go.Proofs Go.Sort Go.Shelf Go.Lib
variable [Env]
section
variable {α : Type} {enc : α → Value}
theorem aG [Inhabited α] {P:Program} {ρ:Ren} (L:SlLaysF.n6 P ρ) {e g:Nat} (hfn:Gn P (ρ.f 6)) (eg:∀args w,(callFunc g args).run P w=.ok (.enter g args) w) (ho:∀a,(enc a).oneCell'=true)
 (cf:α→α→Int) (hO:SWO (ltOf cf)) (hT:∀x y,(ltOf cf) x y=false→(ltOf cf) y x=false→x=y)
 (hcall:∀x y:α,@Ab ⟨True,Env.globs⟩ P g [.raw (enc x),.raw (enc y)] (fun r=>r=num (cf x y))) (zs:List α) (hl:zs.length≤1000000):
 B9 P (ρ.f 6) (.row e 1 (Dj enc zs)) [.raw (.func (.func g) #[] #[])] (fun r y=>r=.tup []∧y=.row e 1 (Dj enc (zs.mergeSort fun x y=> !(ltOf cf) y x))):=by
 refine⟨hfn,⟨_,_,rfl,rfl⟩,fun w S v vs c hz hr hc=> ?_⟩;obtain⟨v',us,d1,d2,he0,h1,h2,hd⟩:=hr.uncons;injection he0 with e1 e2;subst e1;subst e2;obtain⟨fv,us2,d3,d4,rfl,h3,h4,hd2⟩:=h2.uncons;obtain⟨rfl,hz4⟩:=h4.zero;have hfv:fv=.func (.func g) #[] #[]∧Zc d3:=by cases h3 with|raw ho h=>cases h with|nil hz=>exact⟨rfl,hz⟩
 obtain⟨rfl,hz3⟩:=hfv;have hd':∀b,c b=d1 b:=fun b=>by rw[hd,hd2,hz3 b,hz4 b];omega
 have h1c:Aa w S [.row e 1 (Dj enc zs)] [v] c:=h1.congr hd';by_cases hnz:zs=[]
 ·subst hnz;have hv:∃p cap,v=.slice p 0 cap:=by exact Aay
  obtain⟨p,cap,rfl⟩:=hv;refine(AnyF.slices_SortFunc_none {L with} p cap _ w).mono ?_;rintro e' w' ⟨rfl,rfl⟩;refine⟨_,_,_,S,c,rfl,⟨rfl,rfl⟩,rfl,.inr ⟨_,_,_,rfl⟩,?_,hc,hz,Stp.refl _ _ _⟩;rw[List.mergeSort_nil];exact Aa.tup (.nil Al) h1c (c1:=fun _=>0) (c2:=c) (fun b=>oS)
 ·have hne:Dj enc zs≠[]:=by simpa[Dj]using hnz
  clear h1 h2 h3 h4 hr hd hd2 hz3 hz4 hd' d1 d2 d3 d4;generalize hes:Dj enc zs=es at h1c
  cases h1c with
  |rowE h=>exact absurd hes hne
  |row hn hcap hk hb hs hS h1 h0 ho' hnil' hcc=>
   rename_i b cap cur c0 c2;obtain⟨_,hz2⟩:=hnil'.zero;subst hes;have hlen:=Gt (enc:=enc) zs;rw[Hm]at h1;have ht:=Ov h1;rw[hlen,Ay3]at ht;have hbs:b<w.heap.size:=(Array.getElem?_eq_some_iff.1 hb).1;rw[hlen];have hcb:0<c b:=by rw[hcc];simp;omega
   have hu:upd S b 0=S:=by
    funext x;unfold upd;split
    ·rename_i h;subst h;rw[hS]
    ·rfl
   have hcmp:CmpLays1 P g #[] enc cf b 0 zs.toArray.size w:=fun m os dk hdk x y=>by obtain⟨hst,hsz⟩:=Ro (enc:=enc) (n:=m) (os:=os) dk hz hb hcb hS 0;rw[hu]at hst hsz;have hargs:Aa (sortWorld enc w b 0 m dk os) S [.raw (enc x),.raw (enc y)] [enc x,enc y] (fun _=>0):=.raw (ho x) (.raw (ho y) (.nil Al));have hres:=sK (hcall x y) hsz hargs;rw[Array.append_empty];exact hres
   have hcon:=Any.slices_SortFunc_total L enc ho cf hO g #[] b 0 cap zs.toArray w eg hcmp (P4 hb ht) hbs (by simp;omega) hT;rw[List.size_toArray]at hcon;refine hcon.mono ?_;rintro e' w' ⟨rfl,n,os,rfl⟩;generalize hss:(zs.mergeSort fun x y=> !(ltOf cf) y x)=ss;have hsl':ss.length=zs.length:=by rw[←hss,AyD]
   obtain⟨hst,hsz⟩:=Ro (enc:=enc) (n:=n) (os:=os) ss.toArray hz hb hcb hS 0;exact AsW
end
section
abbrev Ln (XS:List (List UInt8)):={s:List UInt8 // s∈XS}
theorem Ve {P:Program} {ρ:Ren} (L:SlLaysF.n6 P ρ) {e g:Nat} (hfn:Gn P (ρ.f 6)) (eg:∀args w,(callFunc g args).run P w=.ok (.enter g args) w)
 (XS:List (List UInt8)) (hlen:XS.length≤1000000) (cmp:List UInt8→List UInt8→Int)
 (hir:∀x∈XS,¬cmp x x<0) (htr:∀x∈XS,∀y∈XS,∀z∈XS,cmp x y<0→cmp y z<0→cmp x z<0) (htri:∀x∈XS,∀y∈XS,cmp x y<0∨x=y∨cmp y x<0)
 (hcall:∀x∈XS,∀y∈XS,@Ab ⟨True,Env.globs⟩ P g [str x,str y] (fun r=>r=num (cmp x y))):
 B9 P (ρ.f 6) (.row e 1 (XS.map str)) [.raw (.func (.func g) #[] #[])] (fun r y=>r=.tup []∧∃D:List (List UInt8),D.Perm XS∧D.Pairwise (fun x y=>cmp x y<0∨x=y)∧y=.row e 1 (D.map str)):=by
 have key:∀(YS:List (List UInt8)) [Inhabited (Ln YS)],(∀x∈YS,¬cmp x x<0)→(∀x∈YS,∀y∈YS,∀z∈YS,cmp x y<0→cmp y z<0→cmp x z<0)→(∀x∈YS,∀y∈YS,cmp x y<0∨x=y∨cmp y x<0)→
  (∀x∈YS,∀y∈YS,@Ab ⟨True,Env.globs⟩ P g [str x,str y] (fun r=>r=num (cmp x y)))→∀zs:List (Ln YS),zs.length≤1000000→
  B9 P (ρ.f 6) (.row e 1 ((zs.map (·.1)).map str)) [.raw (.func (.func g) #[] #[])] (fun r y=>r=.tup []∧∃D:List (List UInt8),D.Perm (zs.map (·.1))∧D.Pairwise (fun x y=>cmp x y<0∨x=y)∧y=.row e 1 (D.map str)):=by
  intro YS _ hir htr htri hcall zs hlz;have hlt:∀x y:Ln YS,ltOf (fun x y:Ln YS=>cmp x.1 y.1) x y=true↔cmp x.1 y.1<0:=fun x y=>by simp [ltOf]
  have hnlt:∀x y:Ln YS,ltOf (fun x y:Ln YS=>cmp x.1 y.1) x y=false↔¬cmp x.1 y.1<0:=fun x y=>by rw[←hlt x y];simp
  have hO:SWO (ltOf (fun x y:Ln YS=>cmp x.1 y.1)):=by
   refine⟨fun i=>(hnlt i i).2 (hir _ i.2),fun i j k h1 h2=>(hlt i k).2 (htr _ i.2 _ j.2 _ k.2 ((hlt i j).1 h1) ((hlt j k).1 h2)),fun i j k h1 h2=>(hnlt i k).2 fun h3=> ?_⟩;have h1:=(hnlt i j).1 h1;have h2:=(hnlt j k).1 h2;rcases htri _ j.2 _ k.2 with h|h|h
   ·exact h2 h
   ·rw [←h]at h3;exact h1 h3
   ·exact h1 (htr _ i.2 _ k.2 _ j.2 h3 h)
  have hT:∀i j:Ln YS,ltOf (fun x y:Ln YS=>cmp x.1 y.1) i j=false→ltOf (fun x y:Ln YS=>cmp x.1 y.1) j i=false→i=j:=fun i j h1 h2=>by
   rcases htri _ i.2 _ j.2 with h|h|h
   ·exact absurd h ((hnlt i j).1 h1)
   ·exact Subtype.ext h
   ·exact absurd h ((hnlt j i).1 h2)
  have h:=aG (e:=e) (g:=g) (α:=Ln YS) (enc:=fun s=>.string ⟨s.1.toArray⟩) L hfn eg (fun _=>rfl) (fun x y=>cmp x.1 y.1) hO hT (fun x y=>hcall _ x.2 _ y.2) zs hlz;have hm:∀l:List (Ln YS),Dj (fun s:Ln YS=>Value.string ⟨s.1.toArray⟩) l=(l.map (·.1)).map str:=fun l=>by simp [Dj,str]
  rw[hm]at h;refine B9.mono h ?_;rintro r y ⟨rfl,rfl⟩;rw[hm];refine⟨rfl,_,(List.mergeSort_perm _ _).map _,?_,rfl⟩;have hle:∀i j:Ln YS,(!(ltOf (fun x y:Ln YS=>cmp x.1 y.1)) j i)=true↔¬cmp j.1 i.1<0:=fun i j=>by rw[←hnlt j i];simp
  have:=List.pairwise_mergeSort (le:=fun x y=> !(ltOf (fun x y:Ln YS=>cmp x.1 y.1)) y x) (fun i j k h1 h2=> ?_) (fun i j=> ?_) zs
  ·refine List.pairwise_map.2 (this.imp fun{a b} h=> ?_);have h1:=(hle a b).1 h;rcases htri _ a.2 _ b.2 with h|h|h
   ·exact .inl h
   ·exact .inr h
   ·exact absurd h h1
  ·have h1:=(hle i j).1 h1;have h2:=(hle j k).1 h2;refine(hle i k).2 fun h3=> ?_;rcases htri _ i.2 _ j.2 with h|h|h
   ·exact h2 (htr _ k.2 _ i.2 _ j.2 h3 h)
   ·rw [h]at h3;exact h2 h3
   ·exact h1 h
  ·rw [Ayk];by_cases h:cmp j.1 i.1<0
   ·exact .inr ((hle j i).2 fun h2=>hir _ i.2 (htr _ i.2 _ j.2 _ i.2 h2 h))
   ·exact .inl ((hle i j).2 h)
 cases hXS:XS with
 |nil=>
  refine⟨hfn,⟨_,_,rfl,[],.refl _,.nil,rfl⟩,fun w S v vs c hz hr hc=> ?_⟩;obtain⟨v',us,d1,d2,he0,h1,h2,hd⟩:=hr.uncons;injection he0 with e1 e2;subst e1;subst e2;obtain⟨fv,us2,d3,d4,rfl,h3,h4,hd2⟩:=h2.uncons;obtain⟨rfl,hz4⟩:=h4.zero;have hfv:fv=.func (.func g) #[] #[]∧Zc d3:=by cases h3 with|raw ho h=>cases h with|nil hz=>exact⟨rfl,hz⟩
  obtain⟨rfl,hz3⟩:=hfv;have hd':∀b,c b=d1 b:=fun b=>by rw[hd,hd2,hz3 b,hz4 b];omega
  have h1c:=h1.congr hd';have hv:∃p cap,v=.slice p 0 cap:=by exact Aay
  obtain⟨p,cap,rfl⟩:=hv;refine(AnyF.slices_SortFunc_none {L with} p cap _ w).mono ?_;rintro e' w' ⟨rfl,rfl⟩;exact⟨_,_,_,S,c,rfl,⟨rfl,[],.refl _,.nil,rfl⟩,rfl,.inr ⟨_,_,_,rfl⟩,Aa.tup (.nil Al) h1c (c1:=fun _=>0) (c2:=c) (fun b=>oS),hc,hz,Stp.refl _ _ _⟩
 |cons x0 xr=>
  rw[←hXS]
  haveI:Inhabited (Ln XS):=⟨⟨x0,by rw[hXS];simp⟩⟩
  have h:=key XS hir htr htri hcall XS.attach (by simpa using hlen);rw[List.attach_map_subtype_val]at h;exact h
end
end
end Go.Proofs.YtmophjggmekoeaaGreatDoor
namespace Go.Proofs
open Go.Shelf
def Tryz.laysSlF6_f47_ren:Go.Shelf.Ren:=⟨fun|6=>47|15=>80|14=>81|28=>145|29=>146|20=>147|21=>148|22=>149|23=>150|24=>151|25=>152|26=>153|27=>154|46=>218|47=>214|48=>215|49=>219|50=>220|57=>263|n=>n,fun|22=>30|24=>9|25=>59|3=>3|39=>134|0=>0|53=>133|55=>213|4=>4|46=>206|45=>205|50=>99|5=>5|9=>9|66=>271|70=>275|76=>320|77=>321|n=>n,fun|n=>n⟩
theorem Tryz.laysSlF6_f47:Go.Proofs.SlLaysF.n6 Tryz.prog Tryz.laysSlF6_f47_ren:={
 mixed:=by kernel_rfl
 f6:=⟨Tryz.f47.name,by decide,Tryz.func47.trans (congrArg some (by kernel_rfl))⟩
 f14:=⟨Tryz.f81.name,by decide,Tryz.func81.trans (congrArg some (by kernel_rfl))⟩
 f15:=Tryz.func80.trans (congrArg some (by kernel_rfl))
 f20:=⟨Tryz.f147.name,by decide,Tryz.func147.trans (congrArg some (by kernel_rfl))⟩
 f21:=⟨Tryz.f148.name,by decide,Tryz.func148.trans (congrArg some (by kernel_rfl))⟩
 f22:=⟨Tryz.f149.name,by decide,Tryz.func149.trans (congrArg some (by kernel_rfl))⟩
 f23:=⟨Tryz.f150.name,by decide,Tryz.func150.trans (congrArg some (by kernel_rfl))⟩
 f24:=⟨Tryz.f151.name,by decide,Tryz.func151.trans (congrArg some (by kernel_rfl))⟩
 f25:=⟨Tryz.f152.name,by decide,Tryz.func152.trans (congrArg some (by kernel_rfl))⟩
 f26:=⟨Tryz.f153.name,by decide,Tryz.func153.trans (congrArg some (by kernel_rfl))⟩
 f27:=⟨Tryz.f154.name,by decide,Tryz.func154.trans (congrArg some (by kernel_rfl))⟩
 f28:=Tryz.func145.trans (congrArg some (by kernel_rfl))
 f29:=Tryz.func146.trans (congrArg some (by kernel_rfl))
 f46:=⟨Tryz.f218.name,by decide,Tryz.func218.trans (congrArg some (by kernel_rfl))⟩
 f47:=Tryz.func214.trans (congrArg some (by kernel_rfl))
 f48:=Tryz.func215.trans (congrArg some (by kernel_rfl))
 f49:=⟨Tryz.f219.name,by decide,Tryz.func219.trans (congrArg some (by kernel_rfl))⟩
 f50:=⟨Tryz.f220.name,by decide,Tryz.func220.trans (congrArg some (by kernel_rfl))⟩
 f57:=⟨Tryz.f263.name,by decide,Tryz.func263.trans (congrArg some (by kernel_rfl))⟩
 t0:=Tryz.underlying0
 a0:=Tryz.isAgg0
 z0:=Tryz.sizeOf0
 v0:=Tryz.zeroValue0
 t3:=Tryz.underlying3
 a3:=Tryz.isAgg3
 z3:=Tryz.sizeOf3
 v3:=Tryz.zeroValue3
 t4:=Tryz.underlying4
 a4:=Tryz.isAgg4
 z4:=Tryz.sizeOf4
 v4:=Tryz.zeroValue4
 t5:=Tryz.underlying5
 a5:=Tryz.isAgg5
 z5:=Tryz.sizeOf5
 v5:=Tryz.zeroValue5
 t9:=Tryz.underlying9
 a9:=Tryz.isAgg9
 z9:=Tryz.sizeOf9
 v9:=Tryz.zeroValue9
 t22:=Tryz.underlying30
 a22:=Tryz.isAgg30
 z22:=Tryz.sizeOf30
 v22:=Tryz.zeroValue30
 a24:=Tryz.isAgg9
 z24:=Tryz.sizeOf9
 t25:=Tryz.underlying59
 a25:=Tryz.isAgg59
 z25:=Tryz.sizeOf59
 v25:=Tryz.zeroValue59
 t39:=Tryz.underlying134
 a39:=Tryz.isAgg134
 z39:=Tryz.sizeOf134
 v39:=Tryz.zeroValue134
 t45:=Tryz.underlying205
 a45:=Tryz.isAgg205
 z45:=Tryz.sizeOf205
 v45:=Tryz.zeroValue205
 t46:=Tryz.underlying206
 a46:=Tryz.isAgg206
 z46:=Tryz.sizeOf206
 v46:=Tryz.zeroValue206
 t50:=Tryz.underlying99
 a50:=Tryz.isAgg99
 z50:=Tryz.sizeOf99
 v50:=Tryz.zeroValue99
 t53:=Tryz.underlying133
 a53:=Tryz.isAgg133
 z53:=Tryz.sizeOf133
 v53:=Tryz.zeroValue133
 t55:=Tryz.underlying213
 a55:=Tryz.isAgg213
 z55:=Tryz.sizeOf213
 v55:=Tryz.zeroValue213
 t66:=Tryz.underlying271
 a66:=Tryz.isAgg271
 z66:=Tryz.sizeOf271
 v66:=Tryz.zeroValue271
 t70:=Tryz.underlying275
 a70:=Tryz.isAgg275
 z70:=Tryz.sizeOf275
 v70:=Tryz.zeroValue275
 t76:=Tryz.underlying320
 a76:=Tryz.isAgg320
 z76:=Tryz.sizeOf320
 v76:=Tryz.zeroValue320
 t77:=Tryz.underlying321
 a77:=Tryz.isAgg321
 z77:=Tryz.sizeOf321
 v77:=Tryz.zeroValue321}
end Go.Proofs
namespace Go.Proofs.YtmophjggmekoeaaGreatDoor
section
open Go.RowKit Go.Proofs
theorem W4 (a:E5):Ab Tryz.prog 49 [Dk a] (fun r=>r=num (if Aq a=true then Ag3 a else -1)):=by
 simp only[Dk];refine Ir [] Tryz.func49 ⟨_,rfl⟩ ?_;cases hv:Aq a
 ·refine Zu ?_;refine Zb (H4 a) ?_;rintro r rfl;try simp only[Ai,num,str]
  exact Atu
 ·refine Zu ?_;refine Zb (H4 a) ?_;rintro r rfl;try simp only[Ai,num,str]
  repeat' first|refine Aj.on (fun _=>?_) (fun _=>?_)|with_reducible refine gd ?_|simp only[go_sem,decide_true,decide_false,Int.reduceEq,Axq,hv]
  refine((Oq a hv).wk ?_).mono ?_
  ·exact qO
  rintro r rfl;simp only[num];exact Atu
def Kk (s:Ac):Int:=match D9 s with
 |some a=>if Aq a=true then Ag3 a else -1
 |none=> -1
theorem T9 (s:Ac) (hs:s.length≤1000000):Ab Tryz.prog 23 [str s] (fun r=>r=num (Kk s)):=by
 refine Zs [] Tryz.func23 ⟨_,rfl⟩ ?_;refine Zb (sP s hs) ?_;rintro r rfl;try simp only[P3]
 refine Zu ?_;have hv0:Aq I4=false:=oD;unfold Kk
 cases hp:D9 s with
 |none=>
  simp only[Dk,num,str];refine Zu ?_;refine((W4 I4).wk ?_).mono ?_
  ·simp only[Dk,num,str];exact Zw
  rintro r rfl;simp only[hv0,Ax0,if_false,num];exact Ze
 |some a=>
  simp only[Dk,num,str];refine Zu ?_;refine((W4 a).wk ?_).mono ?_
  ·simp only[Dk,num,str];exact Zw
  exact Ij
def Vf (x y:Ac):Int:=orI [Ld (Kk x) (Kk y),Ie x y]
theorem zU (x y:Ac) (hx:x.length≤1000000) (hy:y.length≤1000000):Ab Tryz.prog 20 [str x,str y] (fun r=>r=num (Vf x y)):=by
 refine Zs [] Tryz.func20 ⟨_,rfl⟩ ?_;refine Za (T9 x hx) ?_;refine Za (T9 y hy) ?_;refine Za (Ma (Kk x) (Kk y)) ?_;refine Za (P8 x y) ?_;refine((AuJ [Ld (Kk x) (Kk y),Ie x y] oS).wk ?_).mono ?_
 ·simp only[nums,Axx,Axv,num];exact Zw
 exact Ij
theorem O0 {x y:Ac}:Vf x y<0↔Kk x<Kk y∨Kk x=Kk y∧x<y:=by
 unfold Vf orI orI orI;by_cases h:Ld (Kk x) (Kk y)=0
 ·have h2:=J4.1 h;simp only[h,ne_eq,not_true_eq_false,if_false];rw[h2,←E8];simp only[Int.lt_irrefl,false_or,true_and];by_cases h3:Ie x y=0<;>simp [h3]
 ·have h2:Kk x≠Kk y:=fun e=>h (J4.2 e);simp only[ne_eq,h,not_false_eq_true,if_true,h2,false_and,or_false];exact Rm
theorem iE {cmp:Ac→Ac→Int} {XS D:List Ac} (htr:∀x∈XS,∀y∈XS,∀z∈XS,cmp x y<0→cmp y z<0→cmp x z<0) (hp:D.Perm XS) (hs:D.Pairwise fun x y=>cmp x y<0∨x=y):
 ((Lib.compact D).Pairwise fun x y=>cmp x y<0)∧∀x,x∈Lib.compact D↔x∈XS:=by
 have hm:∀x∈D,x∈XS:=fun x hx=>hp.mem_iff.1 hx
 obtain⟨h1,h2⟩:=Ka (R:=fun x y:Ac=>(x∈XS∧y∈XS)∧cmp x y<0) (zs:=D) (fun x y z h1 h2=>⟨⟨h1.1.1,h2.1.2⟩,htr x h1.1.1 y h1.1.2 z h2.1.2 h1.2 h2.2⟩)
  (hs.imp_of_mem fun{x y} hx hy h=>h.imp (fun h=>⟨⟨hm x hx,hm y hy⟩,h⟩) id)
 exact⟨h1.imp fun h=>h.2,fun x=>(h2 x).trans hp.mem_iff⟩
theorem iF (g:Nat) (cmp:Ac→Ac→Int) (XS:List Ac) (hl:XS.length≤1000000) (eg:∀args w,(callFunc g args).run Tryz.prog w=.ok (.enter g args) w)
 (hir:∀x∈XS,¬cmp x x<0) (htr:∀x∈XS,∀y∈XS,∀z∈XS,cmp x y<0→cmp y z<0→cmp x z<0) (htri:∀x∈XS,∀y∈XS,cmp x y<0∨x=y∨cmp y x<0)
 (hcall:∀x∈XS,∀y∈XS,Ab Tryz.prog g [str x,str y] (fun r=>r=num (cmp x y))):
 Ab Tryz.prog 19 [.mine 9 1 (XS.map str),.raw (.func (.func g) #[] #[])] (fun r=>∃D:List Ac,r=.own 9 1 (D.map str)∧(D.Pairwise fun x y=>cmp x y<0)∧∀x,x∈D↔x∈XS):=by
 have HS:=Ve (e:=9) Tryz.laysSlF6_f47 ⟨_,_,Tryz.func47,rfl,oD⟩ eg XS hl cmp hir htr htri hcall;obtain⟨_,_,_,D0,hp0,hs0,_⟩:=HS.2.1;refine Zs [(1,[100000],[]),(2,[5,100000],[])] Tryz.func19 ⟨_,Lib.compact D0,rfl,iE htr hp0 hs0⟩ ?_;refine B9.mono HS ?_;rintro r y ⟨rfl,D,hp,hs,rfl⟩;refine Zu ?_;refine Za (P6 D (by rw[hp.length_eq];omega)) ?_;exact⟨_,rfl,iE htr hp hs⟩
end
section
open Go.RowKit Go.Proofs
def Ua (m:Nat) (val:Ac→Ac) (ks:List Ac):List AV:=[.nmap m (ks.map Ic) (ks.map fun k=>num (Q6 (val k)))]
structure Pg where
 ad:Ac
 tx:Ac
 rd:List (Ac×Int)
def rpA (r:Ac×Int):AV:=.agg [str r.1,num r.2]
def Nk (p:Pg):AV:=.agg [str p.ad,str p.tx,.sl 2 (p.rd.map rpA)]
def C7 (val:Ac→Ac) (rd:List (Ac×Int)):Bool:=rd.all fun r=>decide (r.2=Q6 (val r.1))
theorem pG (val:Ac→Ac) (l:List (Ac×Int)) (x:Ac×Int):C7 val (l++[x])=(C7 val l&&decide (x.2=Q6 (val x.1))):=by simp [C7]
theorem Aot {l:List (Ac×Int)} {j:Nat} {x:Ac×Int} (h:l[j]? =some x):(l.map rpA).getD j .any=.agg [.raw (.string ⟨x.1.toArray⟩),.raw (.int .i64 x.2)]:=by rw[Axy,List.getElem?_map,h];rfl
theorem aH (i:Int):view (.raw (.int .i64 i))=.raw (.int .i64 i):=rfl
theorem O1 (i:Int):aconst (.int .i64 i)=.raw (.int .i64 i):=rfl
section
variable {L : List A2} {T : List (Ac × Ac)} {val : Ac → Ac} {m : Nat} (V : Jo L T val)
include V
theorem Aha (key:Ac) (hk:key∈K8) (ks:List Ac):HC Tryz.prog 40 [str key,.elt (.agg [.raw (.map (some m))]),.elt (.agg [.sl 8 (L.map Dx),.sl 2 (T.map Be)])] (Ua m val ks) (fun r γ=>r=num (Q6 (val key))∧γ=Ua m val (F4 ks key)) (fun _ _=>False):=by
 refine N7 [] [] [] Tryz.func40 ?_;have hm:(m=m)=True:=eq_true rfl;have k1:HH.mp 98=some (9,3):=rfl;have k2:HH.zr 3=some (.int .i64 0):=rfl;have k3:HH.kd 9=some .string:=rfl;have hky:=Jn key ks;rw[k3]at hky;simp only[Ic]at hky;rcases Hn key ks with⟨hi,j,hj,hf,he⟩|⟨hi,hf⟩
 ·have ha:F4 ks key=ks:=by simp [F4,hi]
  have hg:(ks.map fun k=>num (Q6 (val k))).getD j .any=num (Q6 (val key)):=by simp [Axy,hj,he]
  simp only[Ic]at hf;simp only[Ua,num,str,Ic]at hg⊢;repeat' first|refine Aj.on (fun _=>?_) (fun _=>?_)|with_reducible refine gd ?_|simp only[go_sem,hm,k1,k2,k3,hky,hf,hg,aH,O1]
  rw[ha];exact Zx
 have ha:F4 ks key=ks++[key]:=by simp [F4,hi]
 simp only[Ic]at hf;simp only[Ua,num,str,Ic];refine Z8 hm k1 k2 k3 hky hf @aH @O1 ?_;refine HC.old (V.call key hk) ?_;rintro r rfl;simp only[num,str];repeat' first|refine Aj.on (fun _=>?_) (fun _=>?_)|with_reducible refine gd ?_|simp only[go_sem,hm,k1,k2,k3,hky,hf,aH,O1]
 refine HC.old (Aos (val key) (V.len key)) ?_;rintro r rfl;simp only[num,str];repeat' first|refine Aj.on (fun _=>?_) (fun _=>?_)|with_reducible refine gd ?_|simp only[go_sem,hm,k1,k2,k3,hky,hf,aH,O1]
 rw[ha];simp only[AxJ,Axx,Axv];exact Zx
theorem sT (p:Pg) (hl:p.rd.length≤1000000) (hp:∀r∈p.rd,r.1∈K8) (ks:List Ac):HC Tryz.prog 18 [Nk p,.clo 40 [.elt (.agg [.raw (.map (some m))]),.elt (.agg [.sl 8 (L.map Dx),.sl 2 (T.map Be)])]] (Ua m val ks) (fun r γ=>r=Ai (C7 val p.rd)∧∃ks',γ=Ua m val ks') (fun _ _=>False):=by
 refine HC.weak ?_;simp only[Nk];refine B3 [] [] [(4,[14,17,10006],[0,2,3,1001,1004],[2005],[6])] Bo Dv Cq Tryz.func18 oD oK (by simp only[Tryz.f18,go_sem,reduceIte];rfl) Tryz.ntmps18 Tryz.results18 rfl ?_;simp only[LS,Nat.reduceAdd,Nat.reduceSub];refine Zu ?_;refine Ax (rl [0,1,1,6,3,11]) [10] (fun k xs γ=>∃j ks',j+k=p.rd.length∧C7 val (p.rd.take j)=true∧γ=Ua m val ks'∧xs=[num j]) ⟨p.rd.length,_,_,⟨0,ks,om,rfl,rfl,rfl⟩,hent (Gw.refl _) ?_⟩ ?_
 ·exact Zw
 ·rintro k xs γ ⟨j,ks,hm,hb,rfl,rfl⟩;simp only[PU];rcases Axz j p.rd.length with hlt|hge
  ·have ej:=eT j p.rd.length;obtain⟨x,hx,hd⟩:=drop_at hlt;have hgx:=Aot hx;have hw:=wS j;have hxk:=hp x (Axt hx);have htk:p.rd.take (j+1)=p.rd.take j++[x]:=by rw[Ax9,hx];rfl
   simp only[go_sem,ej,hgx,hw,Axp];refine Zu ?_;refine HC.mono (Aha V x.1 hxk ks) ?_ (fun _ _ h=>h.elim);rintro r γ ⟨rfl,rfl⟩;simp only[num];by_cases he:x.2=Q6 (val x.1)
   ·have h1:=eq_true he;refine Zu ?_;exact Zm (k-1) ⟨j+1,F4 ks x.1,om,by rw[htk,pG,hb];simp [he],rfl,rfl⟩
   have h1:=eq_false he;refine Zu ?_;have hf:C7 val p.rd=false:=by unfold C7;rw[List.all_eq_false];exact⟨x,Axt hx,by simpa using he⟩
   exact⟨_,_,W1.refl _,rfl,Gw.refl _,by rw[hf],_,rfl⟩
  have ej:=eU j p.rd.length;simp only[go_sem,ej,Axp];refine Zu ?_;have hf:C7 val p.rd=true:=by rw[Axw om]at hb;exact hb
  exact⟨_,_,W1.refl _,rfl,Gw.refl _,by rw[hf],_,rfl⟩
omit V in
theorem Ahb:HC Tryz.prog 16 [.agg [.sl 8 (L.map Dx),.sl 2 (T.map Be)]] [] (fun r γ=>∃m,r=.clo 40 [.elt (.agg [.raw (.map (some m))]),.elt (.agg [.sl 8 (L.map Dx),.sl 2 (T.map Be)])]∧γ=[.nmap m [] []]) (fun _ _=>False):=by refine N7 [(2,[1,3],[])] [] [] Tryz.func16 ?_;have k1:HH.mp 98=some (9,3):=rfl;refine Zu ?_;intro m hm;refine Zu ?_;exact⟨_,_,W1.refl _,rfl,Gw.refl _,m,rfl,rfl⟩
theorem sU (p:Pg) (hl:p.rd.length≤1000000) (hp:∀r∈p.rd,r.1∈K8):Ab Tryz.prog 12 [Nk p,.agg [.sl 8 (L.map Dx),.sl 2 (T.map Be)]] (fun r=>r=Ai (C7 val p.rd)):=by
 simp only[Nk];refine HC.plain (Zt [] [] [(1,[10002,10003],[1000,1001],[2002],[3003,4])] Tryz.func12 ?_) ⟨_,rfl⟩;refine HC.mono (Ahb (L:=L) (T:=T)) ?_ (fun _ _ h=>h.elim);rintro r γ ⟨m,rfl,rfl⟩;refine Zu ?_;refine HC.wk (HC.mono (sT V p hl hp [] (m:=m)) ?_ (fun _ _ h=>h.elim)) ?_;rotate_left
 ·simp only[Nk,str];exact Zw
 rintro r γ ⟨rfl,ks',rfl⟩;refine Zn ?_;exact⟨_,_,W1.refl _,rfl,Gw.none _,rfl,rfl⟩
end
end
section
open Go.RowKit Go.Proofs
theorem sV (XS:List Ac) (h1:XS.length≤1000000) (h2:∀x∈XS,x.length≤1000000):Ab Tryz.prog 19 [.mine 9 1 (XS.map str),.raw (.func (.func 20) #[] #[])] (fun r=>∃D:List Ac,r=.own 9 1 (D.map str)∧(D.Pairwise fun x y=>Vf x y<0)∧∀x,x∈D↔x∈XS):=
 iF 20 Vf XS h1 (enters_of Tryz.func20 (by kernel_rfl) rfl) (fun x _=>by rw[O0];exact fun h=>h.elim (Int.lt_irrefl _) fun h=>Ex x h.2)
  (fun x _ y _ z _ h h'=>by
   rw[O0]at h h'⊢;rcases h with h|⟨h,g⟩<;>rcases h' with h'|⟨h',g'⟩
   ·exact .inl om
   ·exact .inl om
   ·exact .inl om
   ·exact .inr ⟨om,Bw x y z g g'⟩)
  (fun x _ y _=>by
   rw[O0,O0];rcases Int.lt_trichotomy (Kk x) (Kk y)with h|h|h
   ·exact .inl (.inl h)
   ·rcases Std.lt_trichotomy x y with g|g|g
    ·exact .inl (.inr ⟨h,g⟩)
    ·exact .inr (.inl g)
    ·exact .inr (.inr (.inr ⟨h.symm,g⟩))
   ·exact .inr (.inr (.inl h)))
  (fun x hx y hy=>zU x y (h2 x hx) (h2 y hy))
theorem Rr (XS:List Ac) (h1:XS.length≤1000000):Ab Tryz.prog 19 [.mine 9 1 (XS.map str),.raw (.func (.func 24) #[] #[])] (fun r=>∃D:List Ac,r=.own 9 1 (D.map str)∧(D.Pairwise fun x y=>Ie x y<0)∧∀x,x∈D↔x∈XS):=
 iF 24 Ie XS h1 (enters_of Tryz.func24 (by kernel_rfl) rfl) (fun x _=>by rw[E8];exact Ex x)
  (fun x _ y _ z _ h h'=>by rw[E8]at h h'⊢;exact Bw x y z h h')
  (fun x _ y _=>by
   rw[E8,E8];rcases Std.lt_trichotomy x y with g|g|g
   ·exact .inl g
   ·exact .inr (.inl g)
   ·exact .inr (.inr g))
  (fun x _ y _=>P8 x y)
end
section
open Go.RowKit Go.Proofs
theorem Aou {l:List Pg} {j:Nat} {x:Pg} (h:l[j]? =some x):(l.map Nk).getD j .any=.agg [.raw (.string ⟨x.ad.toArray⟩),.raw (.string ⟨x.tx.toArray⟩),.sl 2 (x.rd.map rpA)]:=by rw[Axy,List.getElem?_map,h];rfl
theorem Ahc {α:Type} {l:List α} {j:Nat} {x:α} {p:α→Bool} (hx:l[j]? =some x):(l.take (j+1)).any p=((l.take j).any p||p x):=by rw[Ax9,hx];simp
theorem zV (R:List (Ac×Int)) (g:Nat) (cs:List AV) (p:Ac×Int→Bool) (hl:R.length≤1000000) (hc:∀s∈R,Ab Tryz.prog g (rpA s::cs) (fun r=>r=Ai (p s))):Ab Tryz.prog 55 [.sl 2 (R.map rpA),.clo g cs] (fun r=>∃i:Int,r=num i∧decide (0≤i)=R.any p):=by
 refine Zs [] Tryz.func55 ⟨num (if R.any p then 0 else -1),_,rfl,by cases R.any p<;>rfl⟩ ?_;refine Ap (rl [5,1,3,10]) [8] (fun n xs=>∃i:Nat,i≤R.length∧i+n=R.length∧(R.take i).any p=false∧xs=[num i]) ⟨R.length,_,⟨0,om,om,oS,rfl⟩,?_⟩ ?_
 ·exact Zw
 ·rintro n xs ⟨i,hil,hn,hno,rfl⟩;simp only[PU];rcases Axz i R.length with hlt|hge
  ·have ej:=eT i R.length;obtain⟨s,hx,hd⟩:=drop_at hlt;have hgs:=Aot hx;have hw:=wS i;refine Zu ?_;refine((hc s (Axt hx)).wk ?_).mono ?_
   ·simp only[rpA,num,str];exact Zw
   rintro r rfl;simp only[Ai];cases hp:p s
   ·refine Zu ?_;exact Zl (n-1) ⟨i+1,om,om,by rw[Ahc hx,hno,hp];rfl,rfl⟩
   refine Zu ?_;exact⟨(i:Int),rfl,by have:R.any p=true:=List.any_eq_true.2 ⟨s,Axt hx,hp⟩;rw[this];simp⟩
  have ej:=eU i R.length;rw[Axw hge]at hno;refine Z1 ej ?_;exact⟨-1,rfl,by rw[hno];rfl⟩
theorem AlK (R:List (Ac×Int)) (g:Nat) (cs:List AV) (p:Ac×Int→Bool) (hl:R.length≤1000000) (hc:∀s∈R,Ab Tryz.prog g (rpA s::cs) (fun r=>r=Ai (p s))):Ab Tryz.prog 29 [.sl 2 (R.map rpA),.clo g cs] (fun r=>r=Ai (R.any p)):=by
 refine A9 [] Bo Cq Tryz.func29 oD oK (by simp only[Tryz.f29,go_sem,reduceIte];rfl) Tryz.ntmps29 Tryz.results29 ⟨_,rfl⟩ rfl ?_;simp only[LS,Nat.reduceAdd,Nat.reduceSub];repeat' first|refine Aj.on (fun _=>?_) (fun _=>?_)|with_reducible refine gd ?_|simp only[go_sem]
 refine((zV R g cs p hl hc).wk ?_).mono ?_
 ·exact Df
 rintro r ⟨i,rfl,hi⟩;simp only[num];repeat' first|refine Aj.on (fun _=>?_) (fun _=>?_)|with_reducible refine gd ?_|simp only[go_sem]
 simp only[ge_iff_le,hi]
def Jp (key:Ac) (p:Pg):Bool:=p.rd.any fun r=>r.1==key
theorem zW (key:Ac) (r:Ac×Int):Ab Tryz.prog 30 [rpA r,.elt (.agg [str key])] (fun x=>x=Ai (r.1==key)):=by simp only[rpA];refine Ir [] Tryz.func30 ⟨_,rfl⟩ ?_;exact Ze
theorem Ahd (ps:List Pg) (key:Ac) (hp:ps.length≤1000) (hr:∀p∈ps,p.rd.length≤1000000):Ab Tryz.prog 9 [.sl 3 (ps.map Nk),str key] (fun r=>∃D:List Ac,r=.own 9 1 (D.map str)∧(D.Pairwise fun x y=>Ie x y<0)∧∀x,x∈D↔x∈(ps.filter (Jp key)).map (·.ad)):=by
 have hfl:∀j,((ps.take j).filter (Jp key)).length≤ps.length:=fun j=>Ax1 (AyE _ _) (by simp;omega);obtain⟨_,D0,_,hD1,hD2⟩:=(Rr ((ps.filter (Jp key)).map (·.ad)) (by have:=hfl ps.length;rw[Ay0]at this;simp;omega)).2.1;refine Zs [(2,[3],[])] Tryz.func9 ⟨_,D0,rfl,hD1,hD2⟩ ?_;refine Ap (rl [7,1,3,15]) [5,10] (fun n xs=>∃j:Nat,j+n=ps.length∧xs=[.mine 9 1 ((((ps.take j).filter (Jp key)).map (·.ad)).map str),num j]) ⟨ps.length,_,⟨0,om,rfl⟩,?_⟩ ?_
 ·simp only[PU];simp only[AxI,List.filter_nil,Axv];exact Zw
 ·rintro n xs ⟨j,hn,rfl⟩;simp only[PU];rcases Axz j ps.length with hlt|hge
  ·have ej:=eT j ps.length;obtain⟨x,hx,hd⟩:=drop_at hlt;have hgx:=Aou hx;have hw:=wS j;refine Zu ?_;refine Zb (AlK x.rd 30 [.elt (.agg [str key])] (fun r=>r.1==key) (hr x (Axt hx)) (fun s _=>zW key s)) ?_;rintro r rfl;simp only[Ai];have htk:ps.take (j+1)=ps.take j++[x]:=by rw[Ax9,hx];rfl
   cases hu:(x.rd.any fun r=>r.1==key)
   ·have hf:(ps.take (j+1)).filter (Jp key)=(ps.take j).filter (Jp key):=by rw[htk,AyP];simp [Jp,hu]
    exact Amw
   have hq:=hfl j;have hf:(((ps.take (j+1)).filter (Jp key)).map (·.ad)).map str=(((ps.take j).filter (Jp key)).map (·.ad)).map str++[.raw (.string ⟨x.ad.toArray⟩)]:=by rw[htk,AyP];simp [Jp,hu,str]
   exact Amw
  have ej:=eU j ps.length;rw[Axw hge];refine Z1 ej ?_;refine(Rr ((ps.filter (Jp key)).map (·.ad)) (by have:=hfl ps.length;rw[Ay0]at this;simp;omega)).mono ?_;rintro r ⟨D,rfl,h1,h2⟩;refine Z1 ej ?_;exact⟨D,rfl,h1,h2⟩
theorem Awe (l:List Ac) (s:Ac) (hl:l.length≤1000000):Ab Tryz.prog 8 [.sl 1 (l.map str),str s] (fun r=>r=Ai (decide (s∈l))):=by
 refine Zs [] Tryz.func8 ⟨_,rfl⟩ ?_;refine Ap (rl [6,12]) [5] (fun n xs=>∃j:Nat,j+n=l.length∧(∀x∈l.take j,x≠s)∧xs=[num j]) ⟨l.length,_,⟨0,om,oS,rfl⟩,?_⟩ ?_
 ·exact Zw
 ·rintro n xs ⟨j,hn,hno,rfl⟩;simp only[PU];rcases Axz j l.length with hlt|hge
  ·have ej:=eT j l.length;obtain⟨x,hx,hd⟩:=drop_at hlt;have hgx:=B8 hx;have hw:=wS j;cases hE:(x==s)
   ·have hne:x≠s:=fun e=>by rw[e]at hE;simp at hE
    refine Z4 ej hgx hw hE ?_
    refine Az (n-1) [num ((j+1:Nat):Int)] om ⟨j+1,om,fun y hy=>by
     rw[Ax9,hx]at hy;rcases Ax5.1 hy with hy|hy
     ·exact hno y hy
     ·simp at hy;subst hy;exact hne,rfl⟩ ?_
    exact Zw
   have he:x=s:=by simpa using hE
   subst he;have ht:decide (x∈l)=true:=decide_eq_true (Axt hx);refine Z4 ej hgx hw hE ?_;rw[ht]
  have ej:=eU j l.length;have hf:decide (s∈l)=false:=decide_eq_false fun h=>hno s (by rw[Axw hge];exact h) rfl;refine Z1 ej ?_;rw[hf]
theorem aI (a b:List Ac) (ha:a.length≤1000000) (hb:b.length≤1000000):Ab Tryz.prog 11 [.sl 1 (a.map str),.sl 1 (b.map str)] (fun r=>r=Ai (decide (a=b))):=by
 refine Ir [] Tryz.func11 ⟨_,rfl⟩ ?_;simp (decide:=true) only[En [5] [] [] [[17],[5],[17],[],[21],[5],[21],[],[]],AxE,AxX,AxY];rcases Nat.decEq a.length b.length with hlen|hlen
 ·have e0:=eq_false (show¬(a.length:Int)=(b.length:Int) by omega);refine Zu ?_;rw[decide_eq_false (show¬a=b from fun h=>hlen (by rw[h]))]
 have e0:=eq_true (show(a.length:Int)=(b.length:Int) by omega);refine Zu ?_;refine Ap (rl [6,20]) [5] (fun n xs=>∃j:Nat,j+n=a.length∧a.take j=b.take j∧xs=[num j]) ⟨a.length,_,⟨0,om,oS,rfl⟩,?_⟩ ?_
 ·exact Zw
 ·rintro n xs ⟨j,hn,hno,rfl⟩;simp only[PU];rcases Axz j a.length with hlt|hge
  ·have ej:=eT j a.length;obtain⟨x,hx,hd⟩:=drop_at hlt;have hgx:=B8 hx;have hw:=wS j;have ej2:=eT j b.length;obtain⟨y,hy,hdy⟩:=drop_at (show j<b.length by omega);have hgy:=B8 hy;cases hE:(x==y)
   ·have hne:x≠y:=fun e=>by rw[e]at hE;simp at hE
    have hf:decide (a=b)=false:=decide_eq_false fun h=>by subst h;rw[hx]at hy;injection hy with hy;exact hne hy
    refine Z6 ej ej2 hgx hgy hw hE ?_;rw[hf]
   have he:x=y:=by simpa using hE
   subst he;refine Z6 ej ej2 hgx hgy hw hE ?_;exact Zl (n-1) ⟨j+1,om,by rw[Ax9,Ax9,hx,hy,hno],rfl⟩
  have ej:=eU j a.length;have hf:decide (a=b)=true:=decide_eq_true (by rw[Axw hge,Axw om]at hno;exact hno);refine Z1 ej ?_;rw[hf]
end
section
open Go.RowKit Go.Proofs
def bM (b:Nat) (ks:List Ac) (f:Ac→Bool):AV:=.nmap b (ks.map Ic) (ks.map fun a=>Ai (f a))
theorem aJ (z:Value) (vs:List AV) (j:Nat):U4 false z vs (some j)=view (vs.getD j .any):=rfl
theorem O2 (b:Bool):aconst (.bool b)=.raw (.bool b):=rfl
theorem aK (b:Bool):view (.raw (.bool b))=.raw (.bool b):=rfl
def Ke (val:Ac→Ac) (all:List Ac) (s:(Ac→Bool)×List Ac) (p:Pg):(Ac→Bool)×List Ac:=
 if p.ad∈all then(if s.1 p.ad=true then s else(fun a=>if a=p.ad then C7 val p.rd else s.1 a,s.2))else(s.1,s.2++[p.ad])
def B4 (val:Ac→Ac) (all:List Ac) (ps:List Pg):(Ac→Bool)×List Ac:=ps.foldl (Ke val all) (fun _=>false,[])
theorem AuS {all:List Ac} (hn:all.Nodup) {j:Nat} (hj:j<all.length) (f:Ac→Bool) (v:Bool):(all.map fun a=>Ai (f a)).set j (.raw (.bool v))=all.map fun a=>Ai (if a=all[j]then v else f a):=by
 apply List.ext_getElem
 ·simp
 ·intro i h1 h2;rw[List.getElem_set];simp only[List.getElem_map];by_cases h:j=i
  ·subst h;simp [Ai]
  ·have:all[i]'(by simpa using h2)≠all[j]:=fun e=>h ((List.getElem_inj hn).1 e).symm;simp [h,this]
theorem Qq (val:Ac→Ac) (all:List Ac) (ps:List Pg) (p:Pg):B4 val all (ps++[p])=Ke val all (B4 val all ps) p:=by simp [B4]
section
variable {L : List A2} {T : List (Ac × Ac)} {val : Ac → Ac}
theorem Ahe (ps:List Pg) (hA:Ab Tryz.prog 17 [.agg [.sl 8 (L.map Dx),.sl 2 (T.map Be)]] (fun r=>r=.sl 1 ((Fa L).map str))) (hl:(Fa L).length≤1000000) (hs:∀a∈Fa L,a.length≤1000000) (hV:ps≠[]→Jo L T val)
 (hp:ps.length≤1000) (hpa:∀p∈ps,p.rd.length≤1000000∧∀r∈p.rd,r.1∈K8):
 Ab Tryz.prog 6 [.sl 3 (ps.map Nk),.agg [.sl 8 (L.map Dx),.sl 2 (T.map Be)]] (fun r=>∃D E:List Ac,r=.tup [.sl 1 (D.map str),.sl 1 (E.map str)]∧(D.Pairwise fun x y=>Vf x y<0)∧(∀x,x∈D↔x∈Fa L∧(B4 val (Fa L) ps).1 x=false)∧(E.Pairwise fun x y=>Ie x y<0)∧∀x,x∈E↔x∈(B4 val (Fa L) ps).2):=by
 obtain⟨all,hall⟩:∃all,Fa L=all:=⟨_,rfl⟩;have hn:all.Nodup:=by rw[←hall];unfold Fa;exact(Dw _).1.imp fun h e=>by subst e;exact Ex _ h
 rw[hall]at hA hl hs⊢
 have hgl:∀j,(B4 val all (ps.take j)).2.length≤j:=by
  intro j
  induction j with
  |zero=>simp [B4]
  |succ j ih=>
   cases hx:ps[j]? with
   |none=>have e:ps.take (j+1)=ps.take j:=by rw[Ax9,hx];simp
          rw[e];omega
   |some p=>
    have e:ps.take (j+1)=ps.take j++[p]:=by rw[Ax9,hx];rfl
    rw[e,Qq];unfold Ke;split
    ·split<;>simp<;>omega
    ·simp;omega
 have hfl:∀f:Ac→Bool,(all.filter fun a=> !f a).length≤1000000:=fun f=>Ax1 (AyE _ _) hl;have hgp:=hgl ps.length;rw[Ay0]at hgp;obtain⟨_,D0,_,hD1,hD2⟩:=(sV (all.filter fun a=> !(B4 val all ps).1 a) (hfl _) (fun x hx=>hs x (Ayj.1 hx).1)).2.1;obtain⟨_,E0,_,hE1,hE2⟩:=(Rr (B4 val all ps).2 om).2.1;refine HC.plain (N7 [(13,[14],[])] [] [(17,[],[0,1,4,1002,1003],[2005],[3006])] Tryz.func6 ?_) ⟨_,D0,E0,rfl,hD1,fun x=>by rw[hD2,Ayj];simp,hE1,hE2⟩;have k1:HH.mp 54=some (9,4):=rfl;have k2:HH.zr 4=some (.bool false):=rfl;have k3:HH.kd 9=some .string:=rfl;refine Zu ?_;refine HC.mono (Ahb (L:=L) (T:=T)) ?_ (fun _ _ h=>h.elim);rintro r γ ⟨m,rfl,rfl⟩;refine Zu ?_;refine Zh hA ?_;intro b hb;have hbb:(b=b)=True:=eq_true rfl;have hmm:(m=m)=True:=eq_true rfl;have hbm:(b=m)=False:=eq_false fun h=>hb _ (.head _) (congrArg some h.symm);have hmb:(m=b)=False:=eq_false fun h=>hb _ (.head _) (congrArg some h);refine Zu ?_;refine Ax (rl [1,3,5,15,3,57]) [26] (fun k xs γ=>∃j:Nat,j+k=all.length∧γ=bM b (all.take j) (fun _=>false)::Ua m val []∧xs=[num j]) ⟨all.length,_,_,⟨0,om,rfl,rfl⟩,hent (Gw.refl _) ?_⟩ ?_
 ·exact Zw
 ·rintro k xs γ ⟨j,hm,rfl,rfl⟩;simp only[PU];rcases Axz j all.length with hlt|hge
  ·have ej:=eT j all.length;obtain⟨x,hx,hd⟩:=drop_at hlt;have hgx:=B8 hx;have hw:=wS j;have htk:all.take (j+1)=all.take j++[x]:=by rw[Ax9,hx];rfl
   have hxm:x∉all.take j:=fun h=>by have h2:=hn.sublist (List.take_sublist (j+1) all);rw[htk,List.nodup_append]at h2;exact h2.2.2 x h x oS rfl
   have hky:=Jn x (all.take j);rw[k3]at hky
   have hf:B5 (Ic x) ((all.take j).map Ic)=none:=by
    rcases Hn x (all.take j)with⟨hi,_⟩|⟨_,hf⟩
    ·exact absurd hi hxm
    ·exact hf
   simp only[Ic]at hky hf;simp only[bM,Ua,num,str,Ic,Ai];refine Zu ?_;refine Au (k-1) _ _ om ⟨j+1,om,rfl,rfl⟩ (hent (by rw[htk];simp only[bM,Ua,AxJ,Axx,Axv,Ic,Ai,num];exact Gw.refl _) ?_);exact Zw
  rw[Axw hge];have ej:=eU j all.length;simp only[go_sem,ej,Axp];refine Zu ?_;refine Ax (rl [1,3,5,2,2,20,3,48]) [12,35] (fun k xs γ=>∃(j:Nat) (ks':List Ac),j+k=ps.length∧γ=bM b all (B4 val all (ps.take j)).1::Ua m val ks'∧xs=[.mine 9 1 ((B4 val all (ps.take j)).2.map str),num j]) ⟨ps.length,_,_,⟨0,[],om,rfl,rfl⟩,hent (Gw.refl _) ?_⟩ ?_
  ·simp only[AxI,B4,AyC,Axv];exact Zw
  ·clear hm;rintro k xs γ ⟨j,ks',hm,rfl,rfl⟩;simp only[PU];rcases Axz j ps.length with hlt|hge
   ·have ej:=eT j ps.length;obtain⟨x,hx,hd⟩:=drop_at hlt;have hgx:=Aou hx;have hw:=wS j;have htk:ps.take (j+1)=ps.take j++[x]:=by rw[Ax9,hx];rfl
    have hst:=Qq val all (ps.take j) x;rw[←htk]at hst;have hgj:=hgl j;obtain⟨⟨F,G⟩,hFG⟩:∃q,B4 val all (ps.take j)=q:=⟨_,rfl⟩;rw[hFG]at hst hgj⊢;simp only at hgj;have hxp:=hpa x (Axt hx);have hky:=Jn x.ad all;rw[k3]at hky;simp only[Ic]at hky;rcases Hn x.ad all with⟨hi,i,hil,hf,he⟩|⟨hi,hf⟩;rotate_left
    ·simp only[Ic]at hf;have hs1:B4 val all (ps.take (j+1))=(F,G++[x.ad]):=by rw[hst];simp [Ke,hi]
     have hga:(G++[x.ad]).map str=G.map str++[.raw (.string ⟨x.ad.toArray⟩)]:=by simp [str]
     simp only[bM,Ua,num,str,Ic,Ai];refine Zu ?_;refine Au (k-1) [.mine 9 1 ((G++[x.ad]).map str),num ((j+1:Nat):Int)] (bM b all F::Ua m val ks') om ⟨j+1,ks',om,by rw[hs1];rfl,by rw[hs1];rfl⟩ (hent (Gw.refl _) ?_);rw[hga];exact Zw
    simp only[Ic]at hf;have hg:(all.map fun a=>Ai (F a)).getD i .any=Ai (F x.ad):=by simp [Axy,hil,he]
    simp only[Ai]at hg;cases hF:F x.ad;rotate_left
    ·rw [hF]at hg;have hs1:B4 val all (ps.take (j+1))=(F,G):=by rw[hst];simp [Ke,hi,hF]
     simp only[bM,Ua,num,str,Ic,Ai];repeat' first|refine Aj.on (fun _=>?_) (fun _=>?_)|with_reducible refine gd ?_|simp only[go_sem,ej,hgx,hw,hky,hf,hg,hbb,hmm,hbm,hmb,k1,k2,k3,Axp,aJ,O2,aK]
     refine Au (k-1) [.mine 9 1 (G.map str),num ((j+1:Nat):Int)] (bM b all F::Ua m val ks') om ⟨j+1,ks',om,by rw[hs1];rfl,by rw[hs1];rfl⟩ (hent (Gw.refl _) ?_);exact Zw
    rw[hF]at hg;have hs1:B4 val all (ps.take (j+1))=(fun a=>if a=x.ad then C7 val x.rd else F a,G):=by rw[hst];simp [Ke,hi,hF]
    simp only[bM,Ua,num,str,Ic,Ai];repeat' first|refine Aj.on (fun _=>?_) (fun _=>?_)|with_reducible refine gd ?_|simp only[go_sem,ej,hgx,hw,hky,hf,hg,hbb,hmm,hbm,hmb,k1,k2,k3,Axp,aJ,O2,aK]
    have V:=hV (fun e=>by rw[e]at hlt;simp at hlt);have hfr:=sT V x hxp.1 hxp.2 ks' (m:=m);simp only[Nk,str]at hfr;refine HC.perm (γ':=Ua m val ks'++[bM b all F]) (HC.frame (HC.mono hfr ?_ (fun _ _ h=>h.elim))) (by simp only[bM,Ua,num,str,Ic,Ai,Ax4,Ax8];exact .swap _ _ _);rintro r γ ⟨rfl,ks2,rfl⟩;have hset:=AuS hn hil F (C7 val x.rd);rw[he]at hset;simp only[Ai]at hset;simp only[bM,Ua,num,str,Ic,Ai,Ax4,Ax8];repeat' first|refine Aj.on (fun _=>?_) (fun _=>?_)|with_reducible refine gd ?_|simp only[go_sem,ej,hgx,hw,hky,hf,hg,hset,hbb,hmm,hbm,hmb,k1,k2,k3,Axp,aJ,O2,aK]
    refine Au (k-1) [.mine 9 1 (G.map str),num ((j+1:Nat):Int)] (bM b all (fun a=>if a=x.ad then C7 val x.rd else F a)::Ua m val ks2) om ⟨j+1,ks2,om,by rw[hs1];rfl,by rw[hs1];rfl⟩ (hent (Gw.perm (.swap _ _ _)) ?_);exact Zw
   rw[Axw hge];have ej:=eU j ps.length;simp only[go_sem,ej,Axp];refine Zu ?_;obtain⟨⟨F,G⟩,hFG⟩:∃q,B4 val all ps=q:=⟨_,rfl⟩;rw[hFG]at hgp⊢;simp only at hgp;refine Ax (rl [0,4,2,1,2,2,2,51,3,17]) [11,66] (fun k xs γ=>∃j:Nat,j+k=all.length∧γ=bM b all F::Ua m val ks'∧xs=[.mine 9 1 (((all.take j).filter fun a=> !F a).map str),num j]) ⟨all.length,_,_,⟨0,om,rfl,rfl⟩,hent (Gw.refl _) ?_⟩ ?_
   ·simp only[AxI,List.filter_nil,Axv];exact Zw
   ·rintro k xs γ ⟨j,hm,rfl,rfl⟩;simp only[PU];rcases Axz j all.length with hlt|hge
    ·have ej:=eT j all.length;obtain⟨x,hx,hd⟩:=drop_at hlt;have hgx:=B8 hx;have hw:=wS j;have htk:all.take (j+1)=all.take j++[x]:=by rw[Ax9,hx];rfl
     have hky:=Jn x all;rw[k3]at hky;simp only[Ic]at hky;rcases Hn x all with⟨hi,i,hil,hf,he⟩|⟨hi,hf⟩;rotate_left
     ·exact absurd (Axt hx) hi
     simp only[Ic]at hf;have hg:(all.map fun a=>Ai (F a)).getD i .any=Ai (F x):=by simp [Axy,hil,he]
     simp only[Ai]at hg;have hq:((all.take j).filter fun a=> !F a).length≤all.length:=Ax1 (AyE _ _) (by simp;omega);cases hF:F x
     ·rw [hF]at hg;have hfl2:((all.take (j+1)).filter fun a=> !F a).map str=((all.take j).filter fun a=> !F a).map str++[.raw (.string ⟨x.toArray⟩)]:=by rw[htk,AyP];simp [hF,str]
      exact Atb
     rw[hF]at hg;have hfl2:(all.take (j+1)).filter (fun a=> !F a)=(all.take j).filter fun a=> !F a:=by rw[htk,AyP];simp [hF]
     exact Atb
    rw[Axw hge];have ej:=eU j all.length;simp only[go_sem,ej,Axp];refine Zu ?_;refine HC.old (sV (all.filter fun a=> !F a) (hfl _) (fun x hx=>hs x (Ayj.1 hx).1)) ?_;rintro r ⟨D,rfl,d1,d2⟩;refine Zu ?_;refine HC.old (Rr G om) ?_;rintro r ⟨E,rfl,e1,e2⟩;refine Zu ?_;exact⟨.tup [.sl 1 (D.map str),.sl 1 (E.map str)],_,W1.tup (Ba (Ba .nil)),rfl,Gw.none _,rfl,D,E,rfl,d1,fun x=>by rw[d2,Ayj];simp,e1,e2⟩
end
end
end Go.Proofs.YtmophjggmekoeaaGreatDoor
