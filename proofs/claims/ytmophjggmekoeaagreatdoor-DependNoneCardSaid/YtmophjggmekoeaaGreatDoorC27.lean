/- DERIVED: THE SHELF's CONTRACTS AT THIS DUMP, IN PLAIN WORDS (tools/lay-plain.mjs out of .. -/
import Derived.Ground.Names2Prog
import Derived.Shelf.Slices.Clone
import Derived.Ground.SlsfProg
import Derived.Shelf.SlGeneric
import Derived.Laws.RangeAny
import Derived.Lib.OthersKept
import Derived.Deep.LoopGhost
import Derived.Test.YtmophjggmekoeaaGreatDoorC26
set_option linter.all false
set_option maxRecDepth 100000
set_option maxHeartbeats 4000000
namespace Go.Proofs
open Go.Shelf
def Tryz.laysSlF06_f243_ren:Go.Shelf.Ren:=⟨fun|6=>211|15=>80|14=>261|28=>145|29=>146|20=>303|21=>304|22=>305|23=>306|24=>307|25=>308|26=>309|27=>310|46=>341|47=>214|48=>215|49=>342|50=>343|57=>352|n=>n,fun|22=>197|24=>195|25=>270|3=>3|39=>134|0=>0|53=>133|55=>213|4=>4|46=>206|45=>205|50=>99|5=>5|9=>9|66=>271|70=>275|76=>320|77=>321|n=>n,fun|n=>n⟩
theorem Tryz.laysSlF06_f211:Go.Proofs.SlLaysF0.n6 Tryz.prog Tryz.laysSlF06_f243_ren:={
 mixed:=by kernel_rfl
 f6:=⟨Tryz.f211.name,by decide,Tryz.func211.trans (congrArg some (by kernel_rfl))⟩
 f14:=⟨Tryz.f261.name,by decide,Tryz.func261.trans (congrArg some (by kernel_rfl))⟩
 f15:=Tryz.func80.trans (congrArg some (by kernel_rfl))
 f20:=⟨Tryz.f303.name,by decide,Tryz.func303.trans (congrArg some (by kernel_rfl))⟩
 f21:=⟨Tryz.f304.name,by decide,Tryz.func304.trans (congrArg some (by kernel_rfl))⟩
 f22:=⟨Tryz.f305.name,by decide,Tryz.func305.trans (congrArg some (by kernel_rfl))⟩
 f23:=⟨Tryz.f306.name,by decide,Tryz.func306.trans (congrArg some (by kernel_rfl))⟩
 f24:=⟨Tryz.f307.name,by decide,Tryz.func307.trans (congrArg some (by kernel_rfl))⟩
 f25:=⟨Tryz.f308.name,by decide,Tryz.func308.trans (congrArg some (by kernel_rfl))⟩
 f26:=⟨Tryz.f309.name,by decide,Tryz.func309.trans (congrArg some (by kernel_rfl))⟩
 f27:=⟨Tryz.f310.name,by decide,Tryz.func310.trans (congrArg some (by kernel_rfl))⟩
 f28:=Tryz.func145.trans (congrArg some (by kernel_rfl))
 f29:=Tryz.func146.trans (congrArg some (by kernel_rfl))
 f46:=⟨Tryz.f341.name,by decide,Tryz.func341.trans (congrArg some (by kernel_rfl))⟩
 f47:=Tryz.func214.trans (congrArg some (by kernel_rfl))
 f48:=Tryz.func215.trans (congrArg some (by kernel_rfl))
 f49:=⟨Tryz.f342.name,by decide,Tryz.func342.trans (congrArg some (by kernel_rfl))⟩
 f50:=⟨Tryz.f343.name,by decide,Tryz.func343.trans (congrArg some (by kernel_rfl))⟩
 f57:=⟨Tryz.f352.name,by decide,Tryz.func352.trans (congrArg some (by kernel_rfl))⟩
 t0:=Tryz.underlying0
 a0:=Tryz.isAgg0
 z0:=Tryz.sizeOf0
 v0:=Tryz.zeroValue0
 t3:=Tryz.underlying3
 a3:=Tryz.isAgg3
 z3:=Tryz.sizeOf3
 v3:=Tryz.zeroValue3
 t4:=Tryz.underlying4
 a4:=Tryz.isAgg4
 z4:=Tryz.sizeOf4
 v4:=Tryz.zeroValue4
 t5:=Tryz.underlying5
 a5:=Tryz.isAgg5
 z5:=Tryz.sizeOf5
 v5:=Tryz.zeroValue5
 t9:=Tryz.underlying9
 a9:=Tryz.isAgg9
 z9:=Tryz.sizeOf9
 v9:=Tryz.zeroValue9
 t22:=Tryz.underlying197
 a22:=Tryz.isAgg197
 z22:=Tryz.sizeOf197
 v22:=Tryz.zeroValue197
 t25:=Tryz.underlying270
 a25:=Tryz.isAgg270
 z25:=Tryz.sizeOf270
 v25:=Tryz.zeroValue270
 t39:=Tryz.underlying134
 a39:=Tryz.isAgg134
 z39:=Tryz.sizeOf134
 v39:=Tryz.zeroValue134
 t45:=Tryz.underlying205
 a45:=Tryz.isAgg205
 z45:=Tryz.sizeOf205
 v45:=Tryz.zeroValue205
 t46:=Tryz.underlying206
 a46:=Tryz.isAgg206
 z46:=Tryz.sizeOf206
 v46:=Tryz.zeroValue206
 t50:=Tryz.underlying99
 a50:=Tryz.isAgg99
 z50:=Tryz.sizeOf99
 v50:=Tryz.zeroValue99
 t53:=Tryz.underlying133
 a53:=Tryz.isAgg133
 z53:=Tryz.sizeOf133
 v53:=Tryz.zeroValue133
 t55:=Tryz.underlying213
 a55:=Tryz.isAgg213
 z55:=Tryz.sizeOf213
 v55:=Tryz.zeroValue213
 t66:=Tryz.underlying271
 a66:=Tryz.isAgg271
 z66:=Tryz.sizeOf271
 v66:=Tryz.zeroValue271
 t70:=Tryz.underlying275
 a70:=Tryz.isAgg275
 z70:=Tryz.sizeOf275
 v70:=Tryz.zeroValue275
 t76:=Tryz.underlying320
 a76:=Tryz.isAgg320
 z76:=Tryz.sizeOf320
 v76:=Tryz.zeroValue320
 t77:=Tryz.underlying321
 a77:=Tryz.isAgg321
 z77:=Tryz.sizeOf321
 v77:=Tryz.zeroValue321}
def Tryz.laysSlF06_f62_ren:Go.Shelf.Ren:=⟨fun|6=>62|15=>80|14=>96|28=>145|29=>146|20=>178|21=>179|22=>180|23=>181|24=>182|25=>183|26=>184|27=>185|46=>240|47=>214|48=>215|49=>241|50=>242|57=>287|n=>n,fun|22=>37|24=>45|25=>129|3=>3|39=>134|0=>0|53=>133|55=>213|4=>4|46=>206|45=>205|50=>99|5=>5|9=>9|66=>271|70=>275|76=>320|77=>321|n=>n,fun|n=>n⟩
theorem Tryz.laysSlF06_f62:Go.Proofs.SlLaysF0.n6 Tryz.prog Tryz.laysSlF06_f62_ren:={
 mixed:=by kernel_rfl
 f6:=⟨Tryz.f62.name,by decide,Tryz.func62.trans (congrArg some (by kernel_rfl))⟩
 f14:=⟨Tryz.f96.name,by decide,Tryz.func96.trans (congrArg some (by kernel_rfl))⟩
 f15:=Tryz.func80.trans (congrArg some (by kernel_rfl))
 f20:=⟨Tryz.f178.name,by decide,Tryz.func178.trans (congrArg some (by kernel_rfl))⟩
 f21:=⟨Tryz.f179.name,by decide,Tryz.func179.trans (congrArg some (by kernel_rfl))⟩
 f22:=⟨Tryz.f180.name,by decide,Tryz.func180.trans (congrArg some (by kernel_rfl))⟩
 f23:=⟨Tryz.f181.name,by decide,Tryz.func181.trans (congrArg some (by kernel_rfl))⟩
 f24:=⟨Tryz.f182.name,by decide,Tryz.func182.trans (congrArg some (by kernel_rfl))⟩
 f25:=⟨Tryz.f183.name,by decide,Tryz.func183.trans (congrArg some (by kernel_rfl))⟩
 f26:=⟨Tryz.f184.name,by decide,Tryz.func184.trans (congrArg some (by kernel_rfl))⟩
 f27:=⟨Tryz.f185.name,by decide,Tryz.func185.trans (congrArg some (by kernel_rfl))⟩
 f28:=Tryz.func145.trans (congrArg some (by kernel_rfl))
 f29:=Tryz.func146.trans (congrArg some (by kernel_rfl))
 f46:=⟨Tryz.f240.name,by decide,Tryz.func240.trans (congrArg some (by kernel_rfl))⟩
 f47:=Tryz.func214.trans (congrArg some (by kernel_rfl))
 f48:=Tryz.func215.trans (congrArg some (by kernel_rfl))
 f49:=⟨Tryz.f241.name,by decide,Tryz.func241.trans (congrArg some (by kernel_rfl))⟩
 f50:=⟨Tryz.f242.name,by decide,Tryz.func242.trans (congrArg some (by kernel_rfl))⟩
 f57:=⟨Tryz.f287.name,by decide,Tryz.func287.trans (congrArg some (by kernel_rfl))⟩
 t0:=Tryz.underlying0
 a0:=Tryz.isAgg0
 z0:=Tryz.sizeOf0
 v0:=Tryz.zeroValue0
 t3:=Tryz.underlying3
 a3:=Tryz.isAgg3
 z3:=Tryz.sizeOf3
 v3:=Tryz.zeroValue3
 t4:=Tryz.underlying4
 a4:=Tryz.isAgg4
 z4:=Tryz.sizeOf4
 v4:=Tryz.zeroValue4
 t5:=Tryz.underlying5
 a5:=Tryz.isAgg5
 z5:=Tryz.sizeOf5
 v5:=Tryz.zeroValue5
 t9:=Tryz.underlying9
 a9:=Tryz.isAgg9
 z9:=Tryz.sizeOf9
 v9:=Tryz.zeroValue9
 t22:=Tryz.underlying37
 a22:=Tryz.isAgg37
 z22:=Tryz.sizeOf37
 v22:=Tryz.zeroValue37
 t25:=Tryz.underlying129
 a25:=Tryz.isAgg129
 z25:=Tryz.sizeOf129
 v25:=Tryz.zeroValue129
 t39:=Tryz.underlying134
 a39:=Tryz.isAgg134
 z39:=Tryz.sizeOf134
 v39:=Tryz.zeroValue134
 t45:=Tryz.underlying205
 a45:=Tryz.isAgg205
 z45:=Tryz.sizeOf205
 v45:=Tryz.zeroValue205
 t46:=Tryz.underlying206
 a46:=Tryz.isAgg206
 z46:=Tryz.sizeOf206
 v46:=Tryz.zeroValue206
 t50:=Tryz.underlying99
 a50:=Tryz.isAgg99
 z50:=Tryz.sizeOf99
 v50:=Tryz.zeroValue99
 t53:=Tryz.underlying133
 a53:=Tryz.isAgg133
 z53:=Tryz.sizeOf133
 v53:=Tryz.zeroValue133
 t55:=Tryz.underlying213
 a55:=Tryz.isAgg213
 z55:=Tryz.sizeOf213
 v55:=Tryz.zeroValue213
 t66:=Tryz.underlying271
 a66:=Tryz.isAgg271
 z66:=Tryz.sizeOf271
 v66:=Tryz.zeroValue271
 t70:=Tryz.underlying275
 a70:=Tryz.isAgg275
 z70:=Tryz.sizeOf275
 v70:=Tryz.zeroValue275
 t76:=Tryz.underlying320
 a76:=Tryz.isAgg320
 z76:=Tryz.sizeOf320
 v76:=Tryz.zeroValue320
 t77:=Tryz.underlying321
 a77:=Tryz.isAgg321
 z77:=Tryz.sizeOf321
 v77:=Tryz.zeroValue321}
end Go.Proofs
namespace Go.Proofs.YtmophjggmekoeaaGreatDoor
section
open Go.RowKit Go.Proofs
open Go.Shelf
theorem Rm {x y:Int}:Ld x y<0↔x<y:=by unfold Ld;split<;>(try split)<;>omega
theorem J4 {x y:Int}:Ld x y=0↔x=y:=by unfold Ld;split<;>(try split)<;>omega
theorem Alq {s t:A2} {a b:Int}:Agq s a t b<0↔s.pu<t.pu∨s.pu=t.pu∧(s.id<t.id∨s.id=t.id∧a<b):=by
 unfold Agq;simp only[orI];split
 ·rename_i h1;have h1:=J4.1 h1;split
  ·rename_i h2;have h2:=J4.1 h2;split
   ·rename_i h3;have h3:=J4.1 h3;omega
   ·have:= @Rm a b;omega
  ·rename_i h2;have h2':¬s.id=t.id:=fun h=>h2 (J4.2 h);have:= @Rm s.id t.id;omega
 ·rename_i h1;have h1':¬s.pu=t.pu:=fun h=>h1 (J4.2 h);have:= @Rm s.pu t.pu;omega
def To (x y:A2×Nat):Int:=Agq y.1 y.2 x.1 x.2
theorem Oi {x y:A2×Nat}:To x y<0↔y.1.pu<x.1.pu∨y.1.pu=x.1.pu∧(y.1.id<x.1.id∨y.1.id=x.1.id∧y.2<x.2):=by unfold To;rw[Alq];omega
def P0:List (A2×Nat)→A2×Nat→List (A2×Nat)
 |[],x=>[x]
 |y::r,x=>if G2 y.1 x.1 then x::y::r else y::P0 r x
theorem fY:∀(l:List (A2×Nat)) (x:A2×Nat),(P0 l x).map (·.1)=Gf (l.map (·.1)) x.1
 |[],x=>rfl
 |y::r,x=>by
  have:=fY r x;simp only[P0,Axx,Gf];split
  ·rfl
  ·simp only[Axx,this]
theorem Mb:∀(l:List (A2×Nat)) (x:A2×Nat),(P0 l x).Perm (x::l)
 |[],x=>.refl _
 |y::r,x=>by
  have:=Mb r x;simp only[P0];split
  ·exact .refl _
  ·exact (this.cons y).trans (.swap x y r)
theorem Qo:∀(l:List (A2×Nat)) (x:A2×Nat),(∀y∈l,y.2<x.2)→(l.Pairwise fun a b=>To a b<0)→(P0 l x).Pairwise fun a b=>To a b<0
 |[],x,_,_=>by simp [P0]
 |y::r,x,h,hp=>by
  have hy:=h y oS;rw[AxN]at hp;simp only[P0];split
  ·rename_i ha;have hxy:To x y<0:=by exact An0
   refine AxN.2 ⟨fun z hz=> ?_,AxN.2 hp⟩;rcases Ax2.1 hz with rfl|hz
   ·exact hxy
   ·have h1:=hp.1 z hz;rw[Oi]at hxy h1⊢;omega
  ·rename_i ha;have hyx:To y x<0:=by exact An0
   refine AxN.2 ⟨fun z hz=> ?_,Qo r x (fun y hy=>h y (by simp [hy])) hp.2⟩;rcases Ax2.1 ((Mb r x).mem_iff.1 hz)with rfl|hz
   ·exact hyx
   ·exact hp.1 z hz
def Q5 (XS:List (A2×Nat)):List (A2×Nat):=XS.foldl P0 []
theorem Nf:∀(XS acc:List (A2×Nat)),(XS.foldl P0 acc).Perm (XS++acc)
 |[],acc=>.refl _
 |x::XS,acc=>by have h1:=Nf XS (P0 acc x);refine h1.trans (((Mb acc x).append_left XS).trans ?_);exact(List.perm_middle (a:=x) (l₁:=XS) (l₂:=acc))
theorem Oj:∀(XS acc:List (A2×Nat)),(∀y∈acc,∀x∈XS,y.2<x.2)→(XS.Pairwise fun a b=>a.2<b.2)→(acc.Pairwise fun a b=>To a b<0)→(XS.foldl P0 acc).Pairwise fun a b=>To a b<0
 |[],acc,_,_,h=>h
 |x::XS,acc,h1,h2,h3=>by
  rw[AxN]at h2;refine Oj XS _ (fun y hy z hz=> ?_) h2.2 (Qo acc x (fun y hy=>h1 y hy x oS) h3);rcases Ax2.1 ((Mb acc x).mem_iff.1 hy)with rfl|hy
  ·exact h2.1 z hz
  ·exact h1 y hy z (by simp [hz])
theorem Y8 {p:A2→Int→Bool}:∀(L:List A2) (i:Nat),∀x∈C6 p i L,i≤x.2∧x.1∈L
 |[],i,x,h=>by simp [C6]at h
 |s::L,i,x,h=>by
  have ih:=Y8 (p:=p) L (i+1) x;unfold C6 at h;split at h
  ·rcases Ax2.1 h with rfl|h
   ·exact ⟨Axu _,oS⟩
   ·have:=ih h;exact⟨om,by simp [this.2]⟩
  ·have:=ih h;exact⟨om,by simp [this.2]⟩
theorem Tp {p:A2→Int→Bool}:∀(L:List A2) (i:Nat),(C6 p i L).Pairwise fun a b=>a.2<b.2
 |[],i=>by simp [C6]
 |s::L,i=>by
  have ih:=Tp (p:=p) L (i+1);unfold C6;split
  ·refine AxN.2 ⟨fun y hy=> ?_,ih⟩;have:=(Y8 L (i+1) y hy).1;show i<y.2;omega
  ·exact ih
theorem F0 {p:A2→Int→Bool}:∀(L:List A2) (i:Nat),(C6 p i L).length≤L.length
 |[],i=>by simp [C6]
 |s::L,i=>by have ih:=F0 (p:=p) L (i+1);unfold C6;split<;>simp<;>omega
theorem fZ (XS:List (A2×Nat)):(Q5 XS).length=XS.length:=by have:=(Nf XS []).length_eq;simpa[Q5]using this
theorem sM:∀{l:List (A2×Nat)},(l.Pairwise fun a b=>a.2<b.2)→∀x∈l,∀y∈l,x.2=y.2→x=y
 |[],_,x,hx,_,_,_=>by simp at hx
 |a::l,hp,x,hx,y,hy,he=>by
  rw[AxN]at hp;rcases Ax2.1 hx with h1|h1<;>rcases Ax2.1 hy with h2|h2
  ·rw [h1,h2]
  ·have:=hp.1 y h2;rw[h1]at he;omega
  ·have:=hp.1 x h1;rw[h2]at he;omega
  ·exact sM hp.2 x h1 y h2 he
theorem yR {l:List (A2×Nat)} (h:l.Pairwise fun a b=>a.2<b.2):l.Nodup:=h.imp fun{a b} h hab=>by rw[hab]at h;omega
theorem P1 {v:List UInt8}:∀(L:List A2) (i:Nat) (acc:List (A2×Nat)),((C6 (fun s _=>hasB s v) i L).foldl P0 acc).map (·.1)=L.foldl (U8 v) (acc.map (·.1))
 |[],i,acc=>rfl
 |s::L,i,acc=>by
  unfold C6;simp only[Ayt,U8];by_cases h:(D8 s&&hasB s v)=true
  ·rw [if_pos h,if_pos h,Ayt,P1 L (i+1),fY]
  ·rw [if_neg h,if_neg h,P1 L (i+1)]
theorem gA (v:List UInt8) (L:List A2):(Q5 (C6 (fun s _=>hasB s v) 0 L)).map (·.1)=Cr v L:=P1 L 0 []
theorem Agz (XS:List (A2×Nat)) (hl:XS.length≤1000000) (ha:XS.Pairwise fun a b=>a.2<b.2):B9 Tryz.prog 211 (.row 195 9 (XS.map qY)) [.raw (.func (.func 212) #[] #[])] (fun r y=>r=.tup []∧y=.row 195 9 ((Q5 XS).map qY)):=by
 refine Mx Tryz.laysSlF06_f211 9 oD Tryz.isAgg195 Tryz.sizeOf195 ⟨_,_,Tryz.func211,rfl,oD⟩ (enters_of Tryz.func212 (by kernel_rfl) rfl) XS (Q5 XS) qY To (fun x _=>⟨_,rfl,rfl⟩) hl ?_ ?_ ?_ (yR ha) ?_ ?_ ?_
 ·intro x _;rw[Oi];omega
 ·intro x _ y _ z _ h1 h2;rw[Oi]at h1 h2⊢;omega
 ·intro x hx y hy;by_cases h1:To x y<0
  ·exact .inl h1
  by_cases h2:To y x<0
  ·exact .inr (.inr h2)
  refine .inr (.inl (sM ha x hx y hy ?_));rw[Oi]at h1 h2;omega
 ·intro x _ y _;exact @Agr ⟨True,Env.globs⟩ x.1 y.1 x.2 y.2
 ·have:=Nf XS [];simpa[Q5]using this
 ·exact Oj XS [] oS ha oS
theorem Ag0 (L:List A2) (tm:List AV) (cs:List Cnd) (hl:L.length≤1000000) (hs:∀s∈L,Ki s) (hcl:cs.length≤1000000) (hc:∀c∈cs,Agv c):Ab Tryz.prog 126 [stA L tm,.sl 1 (cs.map fU)] (fun r=>r=.own 195 9 ((Q5 (C6 (Di cs) 0 L)).map qY)):=by
 simp only[stA];refine Zs [(2,[100005],[]),(3,[5],[])] Tryz.func126 ⟨_,rfl⟩ ?_;refine((Y5 L tm cs).wk ?_).mono ?_
 ·simp only[stA];exact Zw
 rintro r rfl;simp only[stA];refine Zu ?_;refine Za (Wl (C6 (Di cs) 0 L) (by have:=F0 (p:=Di cs) L 0;omega) (Y4 L tm cs hl hs hcl hc)) ?_;refine B9.mono (Agz (C6 (Di cs) 0 L) (by have:=F0 (p:=Di cs) L 0;omega) (Tp L 0)) ?_;rintro r y ⟨rfl,rfl⟩;exact Ze
end
section
open Go.RowKit Go.Proofs
def Ag1 (v:List UInt8) (f:Nat):Cnd:=(f,[.elt (.agg [str v])],fun s _=>hasB s v)
def cBy (v:List UInt8):Cnd:=(194,[.elt (.agg [str v])],fun s _=>decide (s.au=v))
theorem Wq (v:List UInt8) (f:Nat):Di [Ag1 v f]=fun s _=>hasB s v:=by funext s a;simp [Di,Ag1]
theorem Alr (v:List UInt8) (L:List A2):(Q5 (C6 (fun s _=>hasB s v) 0 L)).map (·.1.id)=(Cr v L).map (·.id):=by rw[←gA,Ay4];rfl
theorem Ag2 (L:List A2) (tm:List AV) (v:List UInt8) (n:Int) (hl:L.length≤100000) (hs:∀s∈L,Ki s):Ab Tryz.prog 110 [stA L tm,str v,num n] (fun r=>r=.own 3 1 (nums (((Cr v L).map (·.id)).take n.toNat))):=by
 simp only[stA];refine Zs [(1,[4],[])] Tryz.func110 ⟨_,rfl⟩ ?_;refine((Ag0 L tm [Ag1 v 193] om hs oS (fun c hc s a ho=> ?_)).wk ?_).mono ?_
 ·rw [Ax6]at hc;subst hc;exact Ags s a v ho.1
 ·exact AnF
 rintro r rfl;rw[Wq];refine Zu ?_;refine Zb (Wo (Q5 (C6 (fun s _=>hasB s v) 0 L)) n (by rw[fZ];have:=F0 (p:=fun s _=>hasB s v) L 0;omega)) ?_;rintro r rfl;rw[Alr];exact Ze
end
section
open Go.RowKit Go.Proofs
structure E5 where
 kind:Int
 name:Ac
 n:Int
 lang:Ac
theorem E5.ext' {a b:E5} (h1:a.kind=b.kind) (h2:a.name=b.name) (h3:a.n=b.n) (h4:a.lang=b.lang):a=b:=by cases a;cases b;simp_all
def Dk (a:E5):AV:=.agg [num a.kind,str a.name,num a.n,str a.lang]
def I4:E5:=⟨0,[],0,[]⟩
def G7 (c:UInt8):Bool:=decide (97≤c.toNat)&&decide (c.toNat≤122)||(decide (48≤c.toNat)&&decide (c.toNat≤57)||decide (c.toNat=45))
def B1 (s:Ac):Bool:=decide (s≠[])&&(decide (s.length≤20)&&s.all G7)
def Kj (n:Int):Bool:=decide (1≤n)&&decide (n≤64)
def Aq (a:E5):Bool:=
 if a.kind=2 then Kj a.n&&(B1 a.lang&&decide (a.name=[]))
 else if a.kind=3 then Kj a.n&&(B1 a.name&&decide (a.lang=[]))
 else if a.kind=4∨a.kind=5 then B1 a.name&&(decide (a.n=0)&&decide (a.lang=[]))
 else if a.kind=1∨a.kind=6 then decide (a.name=[])&&(decide (a.n=0)&&decide (a.lang=[]))
 else false
def Bq:Ac:=[115,116,111,114,121]
def Bs:Ac:=[116,111,112,105,99]
def Nj:Ac:=[97,117,116,104,111,114]
def Dd:Ac:=[102,101,101,100]
def P2:Ac:=[109,97,112]
def dec (n:Int):Ac:=Lib.decDigits n.toNat
def Gg (a:E5):List Ac:=
 if a.kind=2 then[Bq,dec a.n,a.lang]
 else if a.kind=3 then[Bs,a.name,dec a.n]
 else if a.kind=4 then[Nj,a.name]
 else if a.kind=5 then[Dd,a.name]
 else if a.kind=6 then[P2]
 else[]
def B0 (a:E5):Ac:=47::Lib.join (Gg a) [47]
def Ag3 (a:E5):Int:=if a.kind=2 then 0 else if a.kind=1 then 1 else if a.kind=5 then 2 else if a.kind=3 then 3 else if a.kind=4 then 4 else 5
def Av (s:Ac):List Ac:=Lib.splitK [47] 0 (min 5 (s.length+1)-1) s
def Li (s:Ac):E5:=
 if s=[47]then⟨1,[],0,[]⟩
 else if s=47::P2 then⟨6,[],0,[]⟩
 else if(Av s).length=4∧(Av s).getD 1 []=Bq then⟨2,[],Bc ((Av s).getD 2 []),(Av s).getD 3 []⟩
 else if(Av s).length=4∧(Av s).getD 1 []=Bs then⟨3,(Av s).getD 2 [],Bc ((Av s).getD 3 []),[]⟩
 else if(Av s).length=3∧(Av s).getD 1 []=Nj then⟨4,(Av s).getD 2 [],0,[]⟩
 else if(Av s).length=3∧(Av s).getD 1 []=Dd then⟨5,(Av s).getD 2 [],0,[]⟩
 else I4
def D9 (s:Ac):Option E5:=if Aq (Li s)=true∧B0 (Li s)=s then some (Li s)else none
theorem Lj {n:Int}:Kj n=true↔1≤n∧n≤64:=by simp [Kj]
theorem Mc {s:Ac}:B1 s=true↔s≠[]∧s.length≤20∧∀c∈s,G7 c=true:=by simp [B1]
theorem Lk {a:E5} (h:Aq a=true):
 (a=⟨1,[],0,[]⟩∨a=⟨6,[],0,[]⟩)∨(∃n l,a=⟨2,[],n,l⟩∧1≤n∧n≤64∧B1 l=true)∨(∃n l,a=⟨3,l,n,[]⟩∧1≤n∧n≤64∧B1 l=true)∨(∃l,a=⟨4,l,0,[]⟩∧B1 l=true)∨(∃l,a=⟨5,l,0,[]⟩∧B1 l=true):=by
 obtain⟨k,nm,n,lg⟩:=a;unfold Aq at h;simp only at h;split at h
 ·rename_i hk;simp only[Ax3,Lj,decide_eq_true_eq]at h;exact .inr (.inl ⟨n,lg,E5.ext' hk h.2.2 rfl rfl,h.1.1,h.1.2,h.2.1⟩)
 ·split at h
  ·rename_i hk;simp only[Ax3,Lj,decide_eq_true_eq]at h;exact .inr (.inr (.inl ⟨n,nm,E5.ext' hk rfl rfl h.2.2,h.1.1,h.1.2,h.2.1⟩))
  ·split at h
   ·rename_i hk;simp only[Ax3,decide_eq_true_eq]at h;rcases hk with hk|hk
    ·exact .inr (.inr (.inr (.inl ⟨nm,E5.ext' hk rfl h.2.1 h.2.2,h.1⟩)))
    ·exact .inr (.inr (.inr (.inr ⟨nm,E5.ext' hk rfl h.2.1 h.2.2,h.1⟩)))
   ·split at h
    ·rename_i hk;simp only[Ax3,decide_eq_true_eq]at h;rcases hk with hk|hk
     ·exact .inl (.inl (E5.ext' hk h.1 h.2.1 h.2.2))
     ·exact .inl (.inr (E5.ext' hk h.1 h.2.1 h.2.2))
    ·cases h
theorem yS {n:Nat} (h:n<100):Lib.decDigits n=if n<10 then[UInt8.ofNat (48+n)]else[UInt8.ofNat (48+n / 10),UInt8.ofNat (48+n % 10)]:=by
 by_cases h1:n<10
 ·rw [Lib.decDigits,dif_pos h1,if_pos h1]
 ·rw [Lib.decDigits,dif_neg h1,if_neg h1,Lib.decDigits,dif_pos om];rfl
def Y9 (n:Nat):Ac:=if n<10 then[UInt8.ofNat (48+n)]else[UInt8.ofNat (48+n / 10),UInt8.ofNat (48+n % 10)]
theorem Tq {n:Int} (h1:0≤n) (h2:n<100):dec n=Y9 n.toNat:=yS om
theorem Als:∀n:Fin 100,Bc (Y9 n.1)=(n.1:Int)∧(∀c∈Y9 n.1,c≠47)∧Y9 n.1≠[]∧(Y9 n.1).length≤2:=oK
theorem Ol {n:Int} (h1:0≤n) (h2:n<100):(dec n).length≤2:=by rw[Tq h1 h2];exact(Als ⟨n.toNat,om⟩).2.2.2
theorem E6 (p q:Ac) (r:List Ac):Lib.join (p::q::r) [47]=p++47::Lib.join (q::r) [47]:=by rw[Lib.join_cons,Lib.join_cons];simp [Lib.joinTail]
end
section
open Go.RowKit Go.Proofs
theorem iterPos_of {w:World} {k:Nat} {s:ByteArray} {p:Nat} (h:w.heap[k]? =some (.stringIter s p)):w.iterPos k=p:=by simp [World.iterPos,h]
theorem width_pos (s:ByteArray) (pos:Nat) (h:pos<s.size):1≤(Utf8.decode s pos).2:=by
 by_cases ha:(s[pos]'h).toNat<128
 ·rw [decode_ascii s pos h ha];exact F6
 ·exact (decode_high s pos h om).2
def Kd (c:Int):Bool:=decide (97≤c)&&decide (c≤122)||(decide (48≤c)&&decide (c≤57)||decide (c=45))
theorem Zd (s:ByteArray) (pos:Nat) (h:pos<s.size):Kd ((Utf8.decode s pos).1:Int)=G7 (s[pos]'h)∧(G7 (s[pos]'h)=true→(Utf8.decode s pos).2=1):=by
 by_cases ha:(s[pos]'h).toNat<128
 ·rw [decode_ascii s pos h ha];refine⟨?_,fun _=>rfl⟩;unfold Kd G7;exact Am1
 ·have h1:=(decode_high s pos h om).1;have e1:Kd ((Utf8.decode s pos).1:Int)=false:=by unfold Kd;rw[decide_eq_false (show¬((Utf8.decode s pos).1:Int)≤122 by omega),decide_eq_false (show¬((Utf8.decode s pos).1:Int)≤57 by omega),decide_eq_false (show¬((Utf8.decode s pos).1:Int)=45 by omega)];simp
  have e2:G7 (s[pos]'h)=false:=by unfold G7;rw[decide_eq_false (show¬(s[pos]'h).toNat≤122 by omega),decide_eq_false (show¬(s[pos]'h).toNat≤57 by omega),decide_eq_false (show¬(s[pos]'h).toNat=45 by omega)];simp
  exact⟨by rw[e1,e2],fun h=>by rw[e2]at h;cases h⟩
theorem Alt (s:ByteArray) (pos:Nat) (h:pos<s.size):s.data.toList[pos]? =some (s[pos]'h):=by rw[Array.getElem?_toList,Array.getElem?_eq_getElem (show pos<s.data.size from h)];rfl
set_option maxRecDepth 1000000 in
set_option maxHeartbeats 2000000 in
theorem gB (s:ByteArray) (w:World):
 Calls Tryz.prog 73 #[.string s] w fun e w'=>e=.returned (.bool (B1 s.data.toList))∧Below w.heap.size w w':=by
 have hsz:s.data.toList.length=s.size:=Ay1;by_cases h0:s.size=0
 ·have hs:s=ByteArray.empty:=by
   cases s with
   |mk d=>simp [ByteArray.size]at h0;subst h0;rfl
  subst hs
  go_enter Tryz.func73,Tryz.ntmps73
  go_wp2
  go_ret
  exact⟨rfl,Below.refl _ _⟩
 have hE:s.toList.isEmpty=false:=by
  rw[Go.ByteArray.toList_eq]
  cases he:s.data.toList with
  |nil=>rw[he]at hsz;exact absurd hsz.symm h0
  |cons a l=>rfl
 by_cases h20:20<s.size
 ·have en:B1 s.data.toList=false:=by
   unfold B1;rw[decide_eq_false (show¬s.data.toList.length≤20 by omega),Bool.false_and,AxW]
  rw[en];have h20':(20:Int)<(s.size:Int):=om
  go_enter Tryz.func73,Tryz.ntmps73
  go_wp2
  go_ret
  exact⟨rfl,Below.refl _ _⟩
 ·have h20':¬(20:Int)<(s.size:Int):=om
  go_enter Tryz.func73,Tryz.ntmps73
  go_wp2
  go_loopw [4] (fun _ wr=>∃pos:Nat,wr.heap[w.heap.size]? =some (.stringIter s pos)∧Below w.heap.size w wr∧pos≤s.size∧Hid (∀j b,j<pos→s.data.toList[j]? =some b→G7 b=true)) (fun _ wr=>s.size-wr.iterPos w.heap.size)
  case atStart=>exact⟨0,World.iter_heap w s 0,(Below.refl _ _).alloc (Axu _) _,om,fun j b h=>om⟩
  case round=>
   obtain⟨pos,hit,hbw,hps,hok⟩:=hrel;have hpos0:=iterPos_of hit;by_cases hp:pos<s.size
   ·have hnx:∀ty,(Instr.next (.pointer (some ⟨w.heap.size,0,none⟩)) true ty).run Tryz.prog wr=_:=fun ty=>Lib.run_next_any_at wr w.heap.size s pos ty hit hp;have hwd:=width_pos s pos hp;have hit2:=Lib.iterAt_heap wr w.heap.size s pos (pos+(Utf8.decode s pos).2) hit;have hbw2:=Lib.below_iterAt hbw (k:=w.heap.size) (Axu _) s (pos+(Utf8.decode s pos).2);obtain⟨hc1,hc2⟩:=Zd s pos hp;have HC:Hid (G7 (s[pos]'hp)=true→(Utf8.decode s pos).2=1):=hc2;have HD:Hid (s.data.toList[pos]? =some (s[pos]'hp)):=Alt s pos hp;clear hc2
    cases hn:G7 (s[pos]'hp)with
    |true=>
     rw[hn]at hc1;have HN:Hid (Kd ((Utf8.decode s pos).1:Int)=true):=hc1;have HM:Hid (G7 (s[pos]'hp)=true):=hn;clear hc1 hn
     go_wp2
     all_goals first
      |(refine⟨⟨pos+(Utf8.decode s pos).2,hit2,hbw2,by have:=HC.out HM.out;omega,fun j b hj hb=> ?_⟩,by rw[iterPos_of hit2,hpos0];omega⟩
        have hw1:=HC.out HM.out;rcases Axz j pos with h|h
        ·exact hok.out j b h hb
        ·obtain rfl:j=pos:=om;rw[HD.out]at hb;injection hb with hb;rw[←hb];exact HM.out)
      |(exfalso
        have hh:=HN.out;simp only[Kd,Ayk,Ax3,decide_eq_true_eq]at hh;try simp only[beq_iff_eq,beq_eq_false_iff_ne,ne_eq,decide_eq_true_eq,decide_eq_false_iff_not,Bool.not_eq_eq_eq_not,AxP,AxU]at *
        omega)
    |false=>
     rw[hn]at hc1;have HN:Hid (Kd ((Utf8.decode s pos).1:Int)=false):=hc1;have HM:Hid (G7 (s[pos]'hp)=false):=hn;clear hc1 hn
     go_wp2
     all_goals first
      |(go_ret
        refine⟨?_,hbw2⟩
        have hf:B1 s.data.toList=false:=by
         cases hh:B1 s.data.toList with
         |false=>rfl
         |true=>have:=(Mc.1 hh).2.2 _ (Axt HD.out);rw[HM.out]at this;cases this
        rw[hf];rfl)
      |(exfalso
        have hh:=HN.out;simp only[Kd,Bool.or_eq_false_iff,Bool.and_eq_false_iff,decide_eq_false_iff_not]at hh;try simp only[beq_iff_eq,beq_eq_false_iff_ne,ne_eq,decide_eq_true_eq,decide_eq_false_iff_not,Bool.not_eq_eq_eq_not,AxP,AxU]at *
        omega)
   ·have hnx:∀ty,(Instr.next (.pointer (some ⟨w.heap.size,0,none⟩)) true ty).run Tryz.prog wr=_:=fun ty=>Lib.run_next_end_at wr w.heap.size s pos ty hit hp
    go_wp2
    go_ret
    refine⟨?_,hbw⟩
    have hf:B1 s.data.toList=true:=by
     refine Mc.2 ⟨fun h=> ?_,om,fun c hc=> ?_⟩
     ·rw [h]at hsz;exact h0 hsz.symm
     ·obtain ⟨j,hj⟩:=List.mem_iff_getElem?.1 hc;have:=(List.getElem?_eq_some_iff.1 hj).1;exact hok.out j c om hj
    rw[hf];rfl
theorem Ea [hE:Env] (hd:True) (s:Ac):Ab Tryz.prog 73 [str s] (fun r=>r=Ai (B1 s)):=by refine D6 hd ⟨_,_,Tryz.func73,rfl,oD⟩ _ rfl fun w S vs c hz hv=> ?_;obtain⟨us,rfl,h⟩:=D7 hv;obtain⟨rfl,_⟩:=h.zero;refine(gB (Cy s) w).mono ?_;exact AnM
end
section
open Go.RowKit Go.Proofs
theorem ie (s:Ac):List.isEmpty s=decide (s=[]):=by cases s<;>simp
theorem De (n:Int):Ab Tryz.prog 75 [num n] (fun r=>r=Ai (Kj n)):=by
 refine Ir [] Tryz.func75 ⟨_,rfl⟩ ?_;repeat' first|refine Aj.on (fun _=>?_) (fun _=>?_)|with_reducible refine gd ?_|simp only[go_sem,DT,Int.reduceEq,Axq]
 all_goals (simp_all [Kj,Ai];try omega)
theorem H4 (a:E5):Ab Tryz.prog 77 [Dk a] (fun r=>r=Ai (Aq a)):=by
 simp only[Dk];refine Ir [] Tryz.func77 ⟨_,rfl⟩ ?_;by_cases hk2:a.kind=2
 ·have e2:=eE a.kind 2;have e3:=eN a.kind 3;have e4:=eN a.kind 4;have e5:=eN a.kind 5;have e1:=eN a.kind 1;have e6:=eN a.kind 6;cases h1:Kj a.n
  ·cases h2:B1 a.lang
   ·refine Zu ?_;refine Za (De a.n) ?_;exact Mz
   ·refine Zu ?_;refine Za (De a.n) ?_;exact Mz
  ·cases h2:B1 a.lang
   ·refine Zu ?_;refine Za (De a.n) ?_;refine Za (Ea Yy a.lang) ?_;exact Mz
   ·refine Zu ?_;refine Za (De a.n) ?_;refine Za (Ea Yy a.lang) ?_;exact Mz
 ·by_cases hk3:a.kind=3
  ·have e2:=eN a.kind 2;have e3:=eE a.kind 3;have e4:=eN a.kind 4;have e5:=eN a.kind 5;have e1:=eN a.kind 1;have e6:=eN a.kind 6;cases h1:Kj a.n
   ·cases h2:B1 a.name
    ·refine Zu ?_;refine Za (De a.n) ?_;exact Mz
    ·refine Zu ?_;refine Za (De a.n) ?_;exact Mz
   ·cases h2:B1 a.name
    ·refine Zu ?_;refine Za (De a.n) ?_;refine Za (Ea Yy a.name) ?_;exact Mz
    ·refine Zu ?_;refine Za (De a.n) ?_;refine Za (Ea Yy a.name) ?_;exact Mz
  ·by_cases hk4:a.kind=4
   ·have e2:=eN a.kind 2;have e3:=eN a.kind 3;have e4:=eE a.kind 4;have e5:=eN a.kind 5;have e1:=eN a.kind 1;have e6:=eN a.kind 6;cases h2:B1 a.name
    ·refine Zu ?_;refine Za (Ea Yy a.name) ?_;exact Mz
    ·refine Zu ?_;refine Za (Ea Yy a.name) ?_;exact Mz
   ·by_cases hk5:a.kind=5
    ·have e2:=eN a.kind 2;have e3:=eN a.kind 3;have e4:=eN a.kind 4;have e5:=eE a.kind 5;have e1:=eN a.kind 1;have e6:=eN a.kind 6;cases h2:B1 a.name
     ·refine Zu ?_;refine Za (Ea Yy a.name) ?_;exact Mz
     ·refine Zu ?_;refine Za (Ea Yy a.name) ?_;exact Mz
    ·by_cases hk1:a.kind=1
     ·have e2:=eN a.kind 2;have e3:=eN a.kind 3;have e4:=eN a.kind 4;have e5:=eN a.kind 5;have e1:=eE a.kind 1;have e6:=eN a.kind 6;repeat' first|refine Aj.on (fun _=>?_) (fun _=>?_)|with_reducible refine gd ?_|simp only[go_sem,DT,Int.reduceEq,Axq,e2,e3,e4,e5,e1,e6]
      exact Mz
     ·by_cases hk6:a.kind=6
      ·have e2:=eN a.kind 2;have e3:=eN a.kind 3;have e4:=eN a.kind 4;have e5:=eN a.kind 5;have e1:=eN a.kind 1;have e6:=eE a.kind 6;repeat' first|refine Aj.on (fun _=>?_) (fun _=>?_)|with_reducible refine gd ?_|simp only[go_sem,DT,Int.reduceEq,Axq,e2,e3,e4,e5,e1,e6]
       exact Mz
      ·have e2:=eN a.kind 2;have e3:=eN a.kind 3;have e4:=eN a.kind 4;have e5:=eN a.kind 5;have e1:=eN a.kind 1;have e6:=eN a.kind 6;repeat' first|refine Aj.on (fun _=>?_) (fun _=>?_)|with_reducible refine gd ?_|simp only[go_sem,DT,Int.reduceEq,Axq,e2,e3,e4,e5,e1,e6]
       exact Mz
end
section
open Go.RowKit Go.Proofs
theorem Zg {a:E5} (h:Aq a=true):a.kind=1∨a.kind=2∨a.kind=3∨a.kind=4∨a.kind=5∨a.kind=6:=by rcases Lk h with(rfl|rfl)|⟨n,l,rfl,h1,h2,h3⟩|⟨n,l,rfl,h1,h2,h3⟩|⟨l,rfl,h3⟩|⟨l,rfl,h3⟩<;>simp
theorem sN {a:E5} (h:Aq a=true):0≤a.n∧a.n≤64:=by rcases Lk h with(rfl|rfl)|⟨n,l,rfl,h1,h2,h3⟩|⟨n,l,rfl,h1,h2,h3⟩|⟨l,rfl,h3⟩|⟨l,rfl,h3⟩<;>simp<;>omega
theorem gC {a:E5} (h:Aq a=true):(Gg a).length≤3:=by
 unfold Gg;repeat' split
 all_goals simp
theorem Om {s:Ac} (h:B1 s=true):s.length≤20:=(Mc.1 h).2.1
theorem Wr {a:E5} (h:Aq a=true):(B0 a).length≤100:=by
 rcases Lk h with(rfl|rfl)|⟨n,l,rfl,h1,h2,h3⟩|⟨n,l,rfl,h1,h2,h3⟩|⟨l,rfl,h3⟩|⟨l,rfl,h3⟩
 ·decide+kernel
 ·decide+kernel
 ·have:=Om h3;have h4:=Ol (n:=n) om om;have e:B0 ⟨2,[],n,l⟩=47::Lib.join [Bq,dec n,l] [47]:=rfl;rw[e,E6,E6,Lib.join_one];simp [Bq];omega
 ·have:=Om h3;have h4:=Ol (n:=n) om om;have e:B0 ⟨3,l,n,[]⟩=47::Lib.join [Bs,l,dec n] [47]:=rfl;rw[e,E6,E6,Lib.join_one];simp [Bs];omega
 ·have:=Om h3;have e:B0 ⟨4,l,0,[]⟩=47::Lib.join [Nj,l] [47]:=rfl;rw[e,E6,Lib.join_one];simp [Nj];omega
 ·have:=Om h3;have e:B0 ⟨5,l,0,[]⟩=47::Lib.join [Dd,l] [47]:=rfl;rw[e,E6,Lib.join_one];simp [Dd];omega
def shp (a:E5):AV:=if a.kind=1 then .raw (.func (.func 134) #[] #[])else if a.kind=6 then .raw (.func (.func 135) #[] #[])else .clo 133 [.elt (.agg [.sl 1 ((Gg a).map str)])]
def Er (a:E5):AV:=if Aq a=true then .tup [str (B0 a),num 0]else .tup [str [],num 120]
theorem ArO (zs:List Ac) (sep:Ac) (hn:zs.length≤140737488355328) (hl:(Lib.join zs sep).length≤140737488355328):Ab Tryz.prog 120 [.sl 1 (zs.map str),str sep] (fun r=>r=str (Lib.join zs sep)):=
 fI Tryz.lays156 Tryz.Builder_Extra_156 Yy ⟨_,_,Tryz.func120,rfl,oD⟩ zs sep hn hl
theorem Oo (n:Int) (h1:0≤n) (h2:n<100):Ab Tryz.prog 61 [num n] (fun r=>r=str (dec n)):=by obtain⟨k,rfl⟩:=Ayy h1;refine(Lb (k:Int) ⟨om,om⟩).mono ?_;rintro r rfl;simp only[Lib.itoa,dec];rw[if_neg om]
theorem Rn (ps:List Ac):Ab Tryz.prog 132 [.sl 1 (ps.map str)] (fun r=>r=.clo 133 [.elt (.agg [.sl 1 (ps.map str)])]):=by refine A9 [(1,[1],[])] Bo Cq Tryz.func132 oD oK (by simp only[Tryz.f132,go_sem,reduceIte];rfl) Tryz.ntmps132 Tryz.results132 ⟨_,rfl⟩ rfl ?_;exact Amq
theorem Alu (ps:List Ac) (hn:ps.length≤1000) (hl:(Lib.join ps [47]).length≤1000):Ab Tryz.prog 133 [.elt (.agg [.sl 1 (ps.map str)])] (fun r=>r=str (47::Lib.join ps [47])):=by refine Zs [] Tryz.func133 ⟨_,rfl⟩ ?_;refine Za (ArO ps [47] om om) ?_;all_goals first|rfl|omega
theorem Ag4:Ab Tryz.prog 134 [] (fun r=>r=str [47]):=by refine A9 [] Bo Cq Tryz.func134 oD oK (by simp only[Tryz.f134,go_sem,reduceIte];rfl) Tryz.ntmps134 Tryz.results134 ⟨_,rfl⟩ rfl ?_;exact Amq
theorem ArP:Ab Tryz.prog 135 [] (fun r=>r=str (47::P2)):=by refine Zs [] Tryz.func135 ⟨_,rfl⟩ ?_;all_goals rfl
theorem Oq (a:E5) (hv:Aq a=true):Ab Tryz.prog 78 [Dk a] (fun r=>r=.agg [num (Ag3 a),shp a]):=by
 have hk:=Zg hv;have hn:=sN hv;simp only[Dk];refine Ir [] Tryz.func78 ⟨_,rfl⟩ ?_;by_cases hk2:a.kind=2
 ·have e2:=eE a.kind 2;have e3:=eN a.kind 3;have e4:=eN a.kind 4;have e5:=eN a.kind 5;have e1:=eN a.kind 1;have e6:=eN a.kind 6;refine Zu ?_;refine Za (Oo a.n hn.1 om) ?_;refine((Rn [Bq,dec a.n,a.lang]).wk ?_).mono ?_
  ·exact Aid
  exact AhQ
 ·by_cases hk3:a.kind=3
  ·have e2:=eN a.kind 2;have e3:=eE a.kind 3;have e4:=eN a.kind 4;have e5:=eN a.kind 5;have e1:=eN a.kind 1;have e6:=eN a.kind 6;refine Zu ?_;refine Za (Oo a.n hn.1 om) ?_;refine((Rn [Bs,a.name,dec a.n]).wk ?_).mono ?_
   ·exact Aid
   exact AhQ
  ·by_cases hk4:a.kind=4
   ·have e2:=eN a.kind 2;have e3:=eN a.kind 3;have e4:=eE a.kind 4;have e5:=eN a.kind 5;have e1:=eN a.kind 1;have e6:=eN a.kind 6;refine Zu ?_;refine Za (Oo a.n hn.1 om) ?_;refine((Rn [Nj,a.name]).wk ?_).mono ?_
    ·exact Aid
    exact AhQ
   ·by_cases hk5:a.kind=5
    ·have e2:=eN a.kind 2;have e3:=eN a.kind 3;have e4:=eN a.kind 4;have e5:=eE a.kind 5;have e1:=eN a.kind 1;have e6:=eN a.kind 6;refine Zu ?_;refine Za (Oo a.n hn.1 om) ?_;refine((Rn [Dd,a.name]).wk ?_).mono ?_
     ·exact Aid
     exact AhQ
    ·by_cases hk1:a.kind=1
     ·have e2:=eN a.kind 2;have e3:=eN a.kind 3;have e4:=eN a.kind 4;have e5:=eN a.kind 5;have e1:=eE a.kind 1;have e6:=eN a.kind 6;exact AmA
     ·by_cases hk6:a.kind=6
      ·have e2:=eN a.kind 2;have e3:=eN a.kind 3;have e4:=eN a.kind 4;have e5:=eN a.kind 5;have e1:=eN a.kind 1;have e6:=eE a.kind 6;exact AmA
      ·exact AoA
theorem Gr (a:E5):Ab Tryz.prog 44 [Dk a] (fun r=>r=Er a):=by
 simp only[Dk];refine Ir [] Tryz.func44 ⟨_,rfl⟩ ?_;cases hv:Aq a
 ·refine Zu ?_;refine Za (H4 a) ?_;all_goals first|rfl|(simp [Er,hv,str,num];done)
 ·have hk:=Zg hv;by_cases hk2:a.kind=2
  ·have e2:=eE a.kind 2;have e3:=eN a.kind 3;have e4:=eN a.kind 4;have e5:=eN a.kind 5;exact qz3
  ·by_cases hk3:a.kind=3
   ·have e2:=eN a.kind 2;have e3:=eE a.kind 3;have e4:=eN a.kind 4;have e5:=eN a.kind 5;exact qz3
   ·by_cases hk4:a.kind=4
    ·have e2:=eN a.kind 2;have e3:=eN a.kind 3;have e4:=eE a.kind 4;have e5:=eN a.kind 5;exact qz3
    ·by_cases hk5:a.kind=5
     ·have e2:=eN a.kind 2;have e3:=eN a.kind 3;have e4:=eN a.kind 4;have e5:=eE a.kind 5;exact qz3
     ·by_cases hk1:a.kind=1
      ·have e2:=eN a.kind 2;have e3:=eN a.kind 3;have e4:=eN a.kind 4;have e5:=eN a.kind 5;have e1:=eE a.kind 1;have e6:=eN a.kind 6;refine Z7 e2 e3 e4 e5 e1 e6 hv ?_;refine((H4 a).wk ?_).mono ?_
       ·try simp only[num,str]
        exact Df
       rintro r rfl;try simp only[Ai,num,str]
       repeat' first|refine Aj.on (fun _=>?_) (fun _=>?_)|with_reducible refine gd ?_|simp only[go_sem,DT,Int.reduceEq,Axq,e2,e3,e4,e5,e1,e6,hv]
       refine((Oq a hv).wk ?_).mono ?_
       ·exact qO
       rintro r rfl;simp only[shp,e2,e3,e4,e5,e1,e6,num,if_true,if_false];refine Zu ?_;refine Za Ag4 ?_;exact AnD
      ·by_cases hk6:a.kind=6
       ·have e2:=eN a.kind 2;have e3:=eN a.kind 3;have e4:=eN a.kind 4;have e5:=eN a.kind 5;have e1:=eN a.kind 1;have e6:=eE a.kind 6;refine Z7 e2 e3 e4 e5 e1 e6 hv ?_;refine((H4 a).wk ?_).mono ?_
        ·try simp only[num,str]
         exact Df
        rintro r rfl;try simp only[Ai,num,str]
        repeat' first|refine Aj.on (fun _=>?_) (fun _=>?_)|with_reducible refine gd ?_|simp only[go_sem,DT,Int.reduceEq,Axq,e2,e3,e4,e5,e1,e6,hv]
        refine((Oq a hv).wk ?_).mono ?_
        ·exact qO
        rintro r rfl;simp only[shp,e2,e3,e4,e5,e1,e6,num,if_true,if_false];refine Zu ?_;refine Za ArP ?_;exact AnD
       ·exact AoA
end
section
open Go.RowKit Go.Proofs
section
variable {T : Bd} {K : AV → Prop}
def uel (o:Option Nat) (T:Bd):Prop:=match o with
 |some e=>(match T e with
  |some j=>j.td.ik=some .u8
  |none=>False)
 |none=>False
def uel2 (o:Option TI):Prop:=match o with
 |some j=>j.td.ik=some .u8
 |none=>False
theorem uel_some (e:Nat):uel (some e) T=uel2 (T e):=(rfl)
theorem uel2_some (j:TI):uel2 (some j)=(j.td.ik=some .u8):=(rfl)
theorem aconv2_bytes (s d:TI) (e:Nat) (l:List UInt8):Iz T s d (.own e 1 (A5 l)) K=(d.td.str=true∧uel s.td.elem T∧K (.raw (.string ⟨l.toArray⟩))):=by exact Atv
end
attribute [go_sem] uel_some uel2_some aconv2_bytes Kt
theorem Ws (c:UInt8):G7 c=Kd (c.toNat:Int):=by unfold G7 Kd;exact Am1
theorem Ll (s:Ac) (hs:s.length≤1000000000):Ab Tryz.prog 155 [str s] (fun r=>r=Ai (B1 s)):=by
 refine Zs [] Tryz.func155 ⟨_,rfl⟩ ?_;refine Ap (rl [3,32]) [3] (fun n xs=>∃j:Nat,j≤s.length∧j+n=s.length∧xs=[num j]∧(s.take j).all G7=true) ⟨s.length,_,⟨0,om,om,rfl,rfl⟩,?_⟩ ?_
 ·exact Zw
 ·rintro n xs ⟨j,hjl,hn,rfl,he⟩;simp only[PU];rcases Axz j s.length with hlt|hge
  ·have ej:=eT j s.length;have hw:=wS j;have htk:s.take (j+1)=s.take j++[s.getD j 0]:=by rw[Ax9];simp [List.getElem?_eq_getElem hlt]
   have hin:s.getD j 0∈s:=by simp [List.getElem?_eq_getElem hlt]
   cases hn:G7 (s.getD j 0)
   ·have hf:B1 s=false:=by
     cases hh:B1 s with
     |false=>rfl
     |true=>rw[(Mc.1 hh).2.2 _ hin]at hn;cases hn
    rw[Ws]at hn;obtain⟨c,hc⟩:∃c,s.getD j 0=c:=⟨_,rfl⟩;rw[hc]at hn;simp only[Kd,Bool.or_eq_false_iff,Bool.and_eq_false_iff,decide_eq_false_iff_not]at hn;simp only[hf];repeat' first|refine Aj.on (fun _=>?_) (fun _=>?_)|with_reducible refine gd ?_|simp only[go_sem,DT,Int.reduceEq,Axq,ej,hw,hc,AyI]
    all_goals first|rfl|(exfalso;omega)
   ·have hn':=hn;rw[Ws]at hn;obtain⟨c,hc⟩:∃c,s.getD j 0=c:=⟨_,rfl⟩;rw[hc]at hn htk hn';simp only[Kd,Ayk,Ax3,decide_eq_true_eq]at hn;repeat' first|refine Aj.on (fun _=>?_) (fun _=>?_)|with_reducible refine gd ?_|simp only[go_sem,DT,Int.reduceEq,Axq,ej,hw,hc,AyI]
    all_goals first
     |(refine Az (n-1) [num ((j+1:Nat):Int)] om ⟨j+1,om,om,rfl,by rw[htk,List.all_append,he];simp [hn']⟩ ?_
       simp only[PU];repeat first|exact Wk.nil|refine Wk.same ?_|refine B7 ?_)
     |(exfalso;omega)
  ·have ej:=eU j s.length;rw[Axw hge]at he;by_cases h1:1≤s.length
   ·have e1:=eq_true (show(1:Int)≤(s.length:Int) by omega);refine Zu ?_;have hf:B1 s=decide (s.length≤20):=by unfold B1;rw[he,decide_eq_true (show s≠[] by rintro rfl;simp at h1)];simp
    rw[hf];exact congrArg (fun b=>AV.raw (Value.bool b)) (decide_eq_decide.2 om)
   ·have e1:=eq_false (show¬(1:Int)≤(s.length:Int) by omega);refine Zu ?_;have hf:B1 s=false:=by have:s=[]:=AxA om;subst this;rfl
    rw[hf];try rfl
theorem wU8 {n:Int} (h1:0≤n) (h2:n<10):IntKind.u8.wrap (48+n)=(((UInt8.ofNat (48+n.toNat)).toNat:Nat):Int):=by obtain⟨k,rfl⟩:=Ayy h1;have hk:k<10:=om;have:∀k:Fin 10,IntKind.u8.wrap (48+((k.1:Nat):Int))=(((UInt8.ofNat (48+((k.1:Nat):Int).toNat)).toNat:Nat):Int):=oK;exact this ⟨k,hk⟩
theorem Ng (n:Int) (h1:0≤n) (h2:n<10):Ab Tryz.prog 83 [num n] (fun r=>r=str (dec n)):=by
 have e:=eq_true h2;have hw:IntKind.i64.wrap (48+n)=48+n:=Cj om om;have hb:=wU8 h1 h2;have hb1:∀b:UInt8,[AV.raw (.int .u8 ((b.toNat:Nat):Int))]=A5 [b]:=fun _=>rfl;have hbv:∀b:UInt8,List.map view (A5 [b])=A5 [b]:=fun _=>rfl;have hd:dec n=[UInt8.ofNat (48+n.toNat)]:=by rw[Tq h1 om,Y9,if_pos om]
 rw[hd];refine Zs [] Tryz.func83 ⟨_,rfl⟩ ?_;all_goals rfl
theorem yT (n:Int) (h1:0≤n) (h2:n<100):Ab Tryz.prog 83 [num n] (fun r=>r=str (dec n)):=by
 rcases Int.lt_or_le n 10 with h|h
 ·exact Ng n h1 h
 have e:=eq_false (show¬n<10 by omega);have hq:IntKind.i64.wrap (n.tdiv 10)=n / 10:=by rw[Int.tdiv_eq_ediv_of_nonneg h1,Cj om om]
 have hr:n.tmod 10=n % 10:=AyQ h1;have hd:dec n=dec (n / 10)++dec (n % 10):=by rw[Tq h1 h2,Tq om om,Tq om om];obtain⟨k,rfl⟩:=Ayy h1;have hk:k<100:=om;have:∀k:Fin 100,10≤k.1→Y9 ((k.1:Nat):Int).toNat=Y9 (((k.1:Nat):Int) / 10).toNat++Y9 (((k.1:Nat):Int) % 10).toNat:=oK;exact this ⟨k,hk⟩ (by simp only;omega)
 have hl1:=Ol (n:=n / 10) om om;have hl2:=Ol (n:=n % 10) om om;rw[hd];refine Zs [] Tryz.func83 ⟨_,rfl⟩ ?_;refine Za (Ng (n / 10) om om) ?_;refine Za (Ng (n % 10) om om) ?_;all_goals first|omega|(simp [str];done)
theorem Md (a:E5) (ha:a.name.length≤1000000000) (hb:a.lang.length≤1000000000):Ab Tryz.prog 82 [Dk a] (fun r=>r=Ai (Aq a)):=by
 simp only[Dk];refine Ir [] Tryz.func82 ⟨_,rfl⟩ ?_;by_cases hk2:a.kind=2
 ·have e2:=eE a.kind 2;have e3:=eN a.kind 3;have e4:=eN a.kind 4;have e5:=eN a.kind 5;have e1:=eN a.kind 1;have e6:=eN a.kind 6;exact qz6
 ·by_cases hk3:a.kind=3
  ·have e2:=eN a.kind 2;have e3:=eE a.kind 3;have e4:=eN a.kind 4;have e5:=eN a.kind 5;have e1:=eN a.kind 1;have e6:=eN a.kind 6;exact qz6
  ·by_cases hk4:a.kind=4
   ·have e2:=eN a.kind 2;have e3:=eN a.kind 3;have e4:=eE a.kind 4;have e5:=eN a.kind 5;have e1:=eN a.kind 1;have e6:=eN a.kind 6;exact qz6
   ·by_cases hk5:a.kind=5
    ·have e2:=eN a.kind 2;have e3:=eN a.kind 3;have e4:=eN a.kind 4;have e5:=eE a.kind 5;have e1:=eN a.kind 1;have e6:=eN a.kind 6;exact qz6
    ·by_cases hk1:a.kind=1
     ·have e2:=eN a.kind 2;have e3:=eN a.kind 3;have e4:=eN a.kind 4;have e5:=eN a.kind 5;have e1:=eE a.kind 1;have e6:=eN a.kind 6;exact qz6
     ·by_cases hk6:a.kind=6
      ·have e2:=eN a.kind 2;have e3:=eN a.kind 3;have e4:=eN a.kind 4;have e5:=eN a.kind 5;have e1:=eN a.kind 1;have e6:=eE a.kind 6;exact qz6
      ·have e2:=eN a.kind 2;have e3:=eN a.kind 3;have e4:=eN a.kind 4;have e5:=eN a.kind 5;have e1:=eN a.kind 1;have e6:=eN a.kind 6;refine Zu ?_;refine Za (Ll a.name ha) ?_;refine Za (Ll a.lang hb) ?_;all_goals first|rfl|(simp [Aq,Kj,Ai,ie, *];done)|(simp_all [Aq,Kj,Ai,ie];done)|(simp_all [Aq,Kj,Ai,ie];omega)
end
section
open Go.RowKit Go.Proofs
theorem Wt (a:E5) (ha:a.name.length≤1000000000) (hb:a.lang.length≤1000000000):Ab Tryz.prog 51 [Dk a] (fun r=>r=Er a):=by
 simp only[Dk];refine Ir [] Tryz.func51 ⟨_,rfl⟩ ?_;simp (decide:=true) only[En [1] [2000001,1500001] [] [[1],[1],[],[],[],[1],[1],[],[],[]],AxE,AxX,AxY];simp (decide:=true) only[En [1] [2900001,2500001] [] [[1],[1],[],[],[1],[1],[],[],[],[]],AxE,AxX,AxY];cases hv:Aq a
 ·refine Zu ?_;refine Za (Md a ha hb) ?_;all_goals first|rfl|(simp [Er,hv,str,num];done)
 ·have hk:=Zg hv;have hn:=sN hv;have hdl:=Ol hn.1 (show a.n<100 by omega);by_cases hk2:a.kind=2
  ·have e2:=eE a.kind 2;have e3:=eN a.kind 3;have e4:=eN a.kind 4;have e5:=eN a.kind 5;have e1:=eN a.kind 1;have e6:=eN a.kind 6;refine Z7 e2 e3 e4 e5 e1 e6 hv ?_;refine((Md a ha hb).wk ?_).mono ?_
   ·try simp only[num,str]
    exact Df
   exact AsY
  ·by_cases hk3:a.kind=3
   ·have e2:=eN a.kind 2;have e3:=eE a.kind 3;have e4:=eN a.kind 4;have e5:=eN a.kind 5;have e1:=eN a.kind 1;have e6:=eN a.kind 6;refine Z7 e2 e3 e4 e5 e1 e6 hv ?_;refine((Md a ha hb).wk ?_).mono ?_
    ·try simp only[num,str]
     exact Df
    exact AsY
   ·by_cases hk4:a.kind=4
    ·have e2:=eN a.kind 2;have e3:=eN a.kind 3;have e4:=eE a.kind 4;have e5:=eN a.kind 5;have e1:=eN a.kind 1;have e6:=eN a.kind 6;exact qz7
    ·by_cases hk5:a.kind=5
     ·have e2:=eN a.kind 2;have e3:=eN a.kind 3;have e4:=eN a.kind 4;have e5:=eE a.kind 5;have e1:=eN a.kind 1;have e6:=eN a.kind 6;exact qz7
     ·by_cases hk1:a.kind=1
      ·have e2:=eN a.kind 2;have e3:=eN a.kind 3;have e4:=eN a.kind 4;have e5:=eN a.kind 5;have e1:=eE a.kind 1;have e6:=eN a.kind 6;exact qz7
      ·by_cases hk6:a.kind=6
       ·have e2:=eN a.kind 2;have e3:=eN a.kind 3;have e4:=eN a.kind 4;have e5:=eN a.kind 5;have e1:=eN a.kind 1;have e6:=eE a.kind 6;exact qz7
       ·exact AoA
end
end Go.Proofs.YtmophjggmekoeaaGreatDoor
