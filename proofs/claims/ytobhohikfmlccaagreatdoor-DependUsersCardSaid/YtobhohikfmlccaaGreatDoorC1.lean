/- A logic without worlds for Go functions that compute on data: values, what they stand for in .. -/
import Derived.Below
import Derived.Lib.Hide
import Derived.Laws.OwnMore
import Derived.Laws.IdiomStrings
import Derived.Laws.BytesArg
import Derived.Shelf.Abstract
import Derived.Deep.MidRow
import Derived.Test.YtobhohikfmlccaaGreatDoorC0
set_option linter.all false
open Go.RowKit
namespace Go.Proofs.YtobhohikfmlccaaGreatDoor
inductive AV where
 |any
 |raw (v:Value)
 |agg (cs:List AV)
 |a6 (cs:List AV)
 |nil
 |sl (k:Nat) (es:List AV)
 |own (e k:Nat) (es:List AV)
 |box (T:Nat) (cs:List AV)
 |ref (s off:Nat)
 |elt (x:AV)
 |row (e k:Nat) (es:List AV)
 |alias (s:Nat)
 |mine (e k:Nat) (es:List AV)
 |ee (g:Nat) (cs:List AV)
 |mm (l:Nat) (st:Option Nat)
 |pref (s k j o:Nat)
 |ls (k:Nat) (es zs:List AV)
 |bp (b T:Nat) (cs:List AV)
 |bw (b:Nat) (ks:List Value) (vs:List AV)
 |fu (ad:Addr) (x:AV)
def cellsOf:AV->List AV
 |.agg cs=>cs
 |x=>[x]
def flat:List AV->List AV
 |[]=>[]
 |x::xs=>cellsOf x++flat xs
def Zc(c:Nat->Nat):Prop:=∀b,c b=0
inductive Ac (w:World) (S:Nat->Nat):List AV->List Value->(Nat->Nat)->Prop
 |nil {c} (hc:Zc c):Ac w S [] [] c
 |any {v xs us c} (h:Ac w S xs us c):Ac w S (.any::xs) (v::us) c
 |raw {v xs us c} (h1:v.oneCell'=true) (h:Ac w S xs us c):Ac w S (.raw v::xs) (v::us) c
 |agg {cs vs xs us c c1 c2} (h1:Ac w S cs vs c1) (ho:∀u∈vs,u.oneCell'=true) (h:Ac w S xs us c2) (hc:∀b,c b=c1 b+c2 b):Ac w S (.agg cs::xs) (.agg vs.toArray::us) c
 |a6 {cs vs xs us c c1 c2} (h1:Ac w S cs vs c1) (h:Ac w S xs us c2) (hc:∀b,c b=c1 b+c2 b):Ac w S (.a6 cs::xs) (.tuple vs.toArray::us) c
 |gn {xs us c} (h:Ac w S xs us c):Ac w S (.nil::xs) (.slice none 0 0::us) c
 |j4 {k a cap xs us c} (hcap:cap<=maxLen) (h:Ac w S xs us c):Ac w S (.sl k []::xs) (.slice a 0 cap::us) c
 |sl {k es ad cap cv xs us c c0} (hn:es.length<=cap) (hcap:cap<=maxLen) (hsp:ad.spot=none) (hk:∀x∈es,(cellsOf x).length=k) (h1:Ac w S (flat es) cv c0) (h0:Zc c0)
  (hcell:∀j u,cv[j]? =some u->w.cell? ⟨ad.block,ad.off+j,none⟩=some u/\u.oneCell'=true) (hst:ad.off+cv.length<=S ad.block) (h:Ac w S xs us c):
  Ac w S (.sl k es::xs) (.slice (some ad) es.length cap::us) c
 |g9 {e k xs us c} (h:Ac w S xs us c):Ac w S (.own e k []::xs) (.slice none 0 0::us) c
 |own {e k es b cap cur xs us c c0 c2} (hn:es.length<=cap) (hcap:cap<=maxLen) (hk:∀x∈es,(cellsOf x).length=k) (hb:w.heap[b]? =some (.cells cur e (0,0))) (hs:cur.size=cap*k)
  (hS:S b=es.length*k) (h1:Ac w S (flat es) (cur.toList.take (es.length*k)) c0) (h0:Zc c0) (ho:∀u∈cur.toList.take (es.length*k),u.oneCell'=true) (h:Ac w S xs us c2) (hc:∀x,c x=(if x=b then 1 else 0)+c2 x):
  Ac w S (.own e k es::xs) (.slice (some ⟨b,0,none⟩) es.length cap::us) c
 |box {b T cs cur xs us c c1 c2} (hb:w.heap[b]? =some (.cells cur T (0,0))) (hS:S b=0) (h1:Ac w S cs cur.toList c1) (ho:∀u∈cur.toList,u.oneCell'=true) (h:Ac w S xs us c2) (hc:∀x,c x=(if x=b then 1 else 0)+(c1 x+c2 x)):
  Ac w S (.box T cs::xs) (.pointer (some ⟨b,0,none⟩)::us) c
 |ref {s off v xs us c} (h:Ac w S xs us c):Ac w S (.ref s off::xs) (v::us) c
 |elt {x ad cv xs us c c0} (hsp:ad.spot=none) (h1:Ac w S (cellsOf x) cv c0) (h0:Zc c0)
  (hcell:∀j u,cv[j]? =some u->w.cell? ⟨ad.block,ad.off+j,none⟩=some u/\u.oneCell'=true) (hst:ad.off+cv.length<=S ad.block) (h:Ac w S xs us c):
  Ac w S (.elt x::xs) (.pointer (some ad)::us) c
 |ge {e k xs us c} (h:Ac w S xs us c):Ac w S (.row e k []::xs) (.slice none 0 0::us) c
 |row {e k es b cap cur xs us c c0 c2} (hn:es.length<=cap) (hcap:cap<=maxLen) (hk:∀x∈es,(cellsOf x).length=k) (hb:w.heap[b]? =some (.cells cur e (0,0))) (hs:cur.size=cap*k)
  (hS:S b=0) (h1:Ac w S (flat es) (cur.toList.take (es.length*k)) c0) (h0:Zc c0) (ho:∀u∈cur.toList.take (es.length*k),u.oneCell'=true) (h:Ac w S xs us c2) (hc:∀x,c x=(if x=b then 1 else 0)+c2 x):
  Ac w S (.row e k es::xs) (.slice (some ⟨b,0,none⟩) es.length cap::us) c
 |alias {s v xs us c} (h:Ac w S xs us c):Ac w S (.alias s::xs) (v::us) c
 |dt {e k xs us c} (h:Ac w S xs us c):Ac w S (.mine e k []::xs) (.slice none 0 0::us) c
 |mine {e k es b cap cur xs us c c0 c2} (hn:es.length<=cap) (hcap:cap<=maxLen) (hk:∀x∈es,(cellsOf x).length=k) (hb:w.heap[b]? =some (.cells cur e (0,0))) (hs:cur.size=cap*k)
  (hS:S b=0) (h1:Ac w S (flat es) (cur.toList.take (es.length*k)) c0) (h0:Zc c0) (ho:∀u∈cur.toList.take (es.length*k),u.oneCell'=true) (h:Ac w S xs us c2) (hc:∀x,c x=(if x=b then 1 else 0)+c2 x):
  Ac w S (.mine e k es::xs) (.slice (some ⟨b,0,none⟩) es.length cap::us) c
 |ee {g cs vs xs us c c0} (h1:Ac w S cs vs c0) (h0:Zc c0) (h:Ac w S xs us c):Ac w S (.ee g cs::xs) (.func (.func g) #[] vs.toArray::us) c
 |mm {l st xs us c} (h:Ac w S xs us c):Ac w S (.mm l st::xs) (.func (.yield l) #[] #[]::us) c
 |pref {s k j o v xs us c} (h:Ac w S xs us c):Ac w S (.pref s k j o::xs) (v::us) c
 |ls {k es zs ad cv xs us c c0} (hcap:es.length+zs.length<=maxLen) (hsp:ad.spot=none) (hk:∀x∈es++zs,(cellsOf x).length=k) (h1:Ac w S (flat (es++zs)) cv c0) (h0:Zc c0)
  (hcell:∀j u,cv[j]? =some u->w.cell? ⟨ad.block,ad.off+j,none⟩=some u/\u.oneCell'=true) (hst:ad.off+cv.length<=S ad.block) (h:Ac w S xs us c):
  Ac w S (.ls k es zs::xs) (.slice (some ad) es.length (es.length+zs.length)::us) c
 |bp {b T cs cur v xs us c c1 c2} (hb:w.heap[b]? =some (.cells cur T (0,0))) (hS:S b=0) (h1:Ac w S cs cur.toList c1) (ho:∀u∈cur.toList,u.oneCell'=true) (h:Ac w S xs us c2) (hc:∀x,c x=(if x=b then 1 else 0)+(c1 x+c2 x)):
  Ac w S (.bp b T cs::xs) (v::us) c
 |bw {b ks vs es k v xs us c c1 c2} (hb:w.heap[b]? =some (.map es k)) (hS:S b=0) (hks:es.toList.map (·.key)=ks) (hbn:(es.toList.map (·.born)).Pairwise (·< ·)/\∀e∈es.toList,e.born<k) (h1:Ac w S vs (es.toList.map (·.val)) c1) (h:Ac w S xs us c2) (hc:∀x,c x=(if x=b then 1 else 0)+(c1 x+c2 x)):
  Ac w S (.bw b ks vs::xs) (v::us) c
 |fu {ad x cv v xs us c c0} (hsp:ad.spot=none) (h1:Ac w S (cellsOf x) cv c0) (h0:Zc c0)
  (hcell:∀j u,cv[j]? =some u->w.cell? ⟨ad.block,ad.off+j,none⟩=some u/\u.oneCell'=true) (hst:ad.off+cv.length<=S ad.block) (h:Ac w S xs us c):
  Ac w S (.fu ad x::xs) (v::us) c
abbrev fh:=@Ac.a6
section
variable{w w':World}{S S':Nat->Nat}
def Ac.congr{xs vs c c'}(h:Ac w S xs vs c)(a:∀b,c' b=c b):Ac w S xs vs c':=by
 have:c'=c:=funext a
 grind
def Ac.length{xs vs c}(h:Ac w S xs vs c):vs.length=xs.length:=by induction h<;>simp_all
def Ac.keep {xs vs c} (h:Ac w S xs vs c) (n:∀b o,o<S b->w'.cell? ⟨b,o,none⟩=w.cell? ⟨b,o,none⟩) (i:∀b,S b<=S' b)
 (a:∀b,0<c b->w'.heap[b]? =w.heap[b]?/\S' b=S b):Ac w' S' xs vs c:=by
 induction h with
 |nil hc=>exact .nil hc
 |any h ih=>exact .any (ih a)
 |raw h1 h ih=>exact .raw h1 (ih a)
 |agg h1 hoc h hc ih1 ih=>exact .agg (ih1 λb f=>a b (by rw[hc];omega)) hoc (ih λb f=>a b (by rw[hc];omega)) hc
 |a6 h1 h hc ih1 ih=>exact .a6 (ih1 λb f=>a b (by rw[hc];omega)) (ih λb f=>a b (by rw[hc];omega)) hc
 |gn h ih=>exact .gn (ih a)
 |j4 hcap h ih=>exact .j4 hcap (ih a)
 |sl hn hcap hsp hk h1 h0 hcell hst h ih1 ih=>
  refine .sl hn hcap hsp hk (ih1 λb f=>cw (h0 b) om) h0 (λj u l=> ?_) (cp hst (i _)) (ih a)
  grind
 |g9 h ih=>exact .g9 (ih a)
 |own hn hcap hk f hs' hS' h1 h0 hoc h hc ih1 ih=>rename_i e k es b cap cur xs us c c0 c2;have d:=a b (by grind);exact .own hn hcap hk (d.1.trans f) hs' (d.2.trans hS') (ih1 λb f=>cw (h0 b) om) h0 hoc (ih λx g=>a x (by rw[hc];omega)) hc
 |box f hS' h1 hoc h hc ih1 ih=>rename_i b T m cur xs us c c1 c2;have d:=a b (by grind);exact .box (d.1.trans f) (d.2.trans hS') (ih1 λx g=>a x (by rw[hc];omega)) hoc (ih λx g=>a x (by rw[hc];omega)) hc
 |ref h ih=>exact .ref (ih a)
 |alias h ih=>exact .alias (ih a)
 |ge h ih=>exact .ge (ih a)
 |dt h ih=>exact .dt (ih a)
 |ee h1 h0 h ih1 ih=>exact .ee (ih1 λb f=>cw (h0 b) om) h0 (ih a)
 |mm h ih=>exact .mm (ih a)
 |pref h ih=>exact .pref (ih a)
 |bp f hS' h1 hoc h hc ih1 ih=>rename_i b T m cur v xs us c c1 c2;have d:=a b (by grind);exact .bp (d.1.trans f) (d.2.trans hS') (ih1 λx g=>a x (by rw[hc];omega)) hoc (ih λx g=>a x (by rw[hc];omega)) hc
 |bw f hS' hks hbn h1 h hc ih1 ih=>rename_i b p vs es k v xs us c c1 c2;have d:=a b (by grind);exact .bw (d.1.trans f) (d.2.trans hS') hks hbn (ih1 λx g=>a x (by rw[hc];omega)) (ih λx g=>a x (by rw[hc];omega)) hc
 |ls hcap hsp hk h1 h0 hcell hst h ih1 ih=>
  refine .ls hcap hsp hk (ih1 λb f=>cw (h0 b) om) h0 (λj u l=> ?_) (cp hst (i _)) (ih a)
  grind
 |row hn hcap hk f hs' hS' h1 h0 hoc h hc ih1 ih=>rename_i e k es b cap cur xs us c c0 c2;have d:=a b (by grind);exact .row hn hcap hk (d.1.trans f) hs' (d.2.trans hS') (ih1 λb f=>cw (h0 b) om) h0 hoc (ih λx g=>a x (by rw[hc];omega)) hc
 |mine hn hcap hk f hs' hS' h1 h0 hoc h hc ih1 ih=>rename_i e k es b cap cur xs us c c0 c2;have d:=a b (by grind);exact .mine hn hcap hk (d.1.trans f) hs' (d.2.trans hS') (ih1 λb f=>cw (h0 b) om) h0 hoc (ih λx g=>a x (by rw[hc];omega)) hc
 |elt hsp h1 h0 hcell hst h ih1 ih=>
  refine .elt hsp (ih1 λb f=>cw (h0 b) om) h0 (λj u l=> ?_) (cp hst (i _)) (ih a)
  grind
 |fu hsp h1 h0 hcell hst h ih1 ih=>
  refine .fu hsp (ih1 λb f=>cw (h0 b) om) h0 (λj u l=> ?_) (cp hst (i _)) (ih a)
  grind
def Ac.cons{x v c1 xs us c2 c}(h1:Ac w S [x] [v] c1)(a:Ac w S xs us c2)(d:∀b,c b=c1 b+c2 b):Ac w S (x::xs) (v::us) c:=by
 cases h1 with
 |any h=>cases h with|nil hz=>exact .any (a.congr λb=>by rw[d,hz b];omega)
 |raw h1 h=>cases h with|nil hz=>exact .raw h1 (a.congr λb=>by rw[d,hz b];omega)
 |agg h1 hoc h hcc=>cases h with|nil hz=>exact .agg h1 hoc a λb=>by rw[d,hcc,hz b];omega
 |a6 h1 h hcc=>cases h with|nil hz=>exact .a6 h1 a λb=>by rw[d,hcc,hz b];omega
 |gn h=>cases h with|nil hz=>exact .gn (a.congr λb=>by rw[d,hz b];omega)
 |j4 hcap h=>cases h with|nil hz=>exact .j4 hcap (a.congr λb=>by rw[d,hz b];omega)
 |sl hn hcap hsp hk h1 h0 hcell hst h=>cases h with|nil hz=>exact .sl hn hcap hsp hk h1 h0 hcell hst (a.congr λb=>by rw[d,hz b];omega)
 |g9 h=>cases h with|nil hz=>exact .g9 (a.congr λb=>by rw[d,hz b];omega)
 |own hn hcap hk hb hs' hS' h1 h0 hoc h hcc=>cases h with|nil hz=>exact .own hn hcap hk hb hs' hS' h1 h0 hoc a λx=>by rw[d,hcc,hz x];omega
 |box hb hS' h1 hoc h hcc=>cases h with|nil hz=>exact .box hb hS' h1 hoc a λx=>by rw[d,hcc,hz x];omega
 |ref h=>cases h with|nil hz=>exact .ref (a.congr λb=>by rw[d,hz b];omega)
 |alias h=>cases h with|nil hz=>exact .alias (a.congr λb=>by rw[d,hz b];omega)
 |ge h=>cases h with|nil hz=>exact .ge (a.congr λb=>by rw[d,hz b];omega)
 |dt h=>cases h with|nil hz=>exact .dt (a.congr λb=>by rw[d,hz b];omega)
 |ee h1 h0 h=>cases h with|nil hz=>exact .ee h1 h0 (a.congr λb=>by rw[d,hz b];omega)
 |mm h=>cases h with|nil hz=>exact .mm (a.congr λb=>by rw[d,hz b];omega)
 |pref h=>cases h with|nil hz=>exact .pref (a.congr λb=>by rw[d,hz b];omega)
 |bp hb hS h1 hoc h hcc=>cases h with|nil hz=>exact .bp hb hS h1 hoc a λx=>by rw[d,hcc,hz x];omega
 |bw hb hS hks hbn h1 h hcc=>cases h with|nil hz=>exact .bw hb hS hks hbn h1 a λx=>by rw[d,hcc,hz x];omega
 |ls hcap hsp hk h1 h0 hcell hst h=>cases h with|nil hz=>exact .ls hcap hsp hk h1 h0 hcell hst (a.congr λb=>by rw[d,hz b];omega)
 |row hn hcap hk hb hs' hS' h1 h0 hoc h hcc=>cases h with|nil hz=>exact .row hn hcap hk hb hs' hS' h1 h0 hoc a λx=>by rw[d,hcc,hz x];omega
 |mine hn hcap hk hb hs' hS' h1 h0 hoc h hcc=>cases h with|nil hz=>exact .mine hn hcap hk hb hs' hS' h1 h0 hoc a λx=>by rw[d,hcc,hz x];omega
 |elt hsp h1 h0 hcell hst h=>cases h with|nil hz=>exact .elt hsp h1 h0 hcell hst (a.congr λb=>by rw[d,hz b];omega)
 |fu hsp h1 h0 hcell hst h=>cases h with|nil hz=>exact .fu hsp h1 h0 hcell hst (a.congr λb=>by rw[d,hz b];omega)
abbrev b4:=@Ac.cons
def Al:Zc (λ_=>0):=λ_=>rfl
def Ac.bu{x xs vs c}(h:Ac w S (x::xs) vs c):∃v us c1 c2,vs=v::us/\Ac w S [x] [v] c1/\Ac w S xs us c2/\∀b,c b=c1 b+c2 b:=by
 cases h with
 |any h=>exact⟨_,_,λ_=>0,c,rfl,.any (.nil Al),h,λb=>oS⟩
 |raw h1 h=>exact⟨_,_,λ_=>0,c,rfl,.raw h1 (.nil Al),h,λb=>oS⟩
 |agg h1 hoc h hcc=>exact⟨_,_,_,_,rfl,.agg h1 hoc (.nil Al) (λb=>oS),h,hcc⟩
 |a6 h1 h hcc=>exact⟨_,_,_,_,rfl,.a6 h1 (.nil Al) (λb=>oS),h,hcc⟩
 |gn h=>exact⟨_,_,λ_=>0,c,rfl,.gn (.nil Al),h,λb=>oS⟩
 |j4 hcap h=>exact⟨_,_,λ_=>0,c,rfl,.j4 hcap (.nil Al),h,λb=>oS⟩
 |sl hn hcap hsp hk h1 h0 hcell hst h=>exact⟨_,_,λ_=>0,c,rfl,.sl hn hcap hsp hk h1 h0 hcell hst (.nil Al),h,λb=>oS⟩
 |g9 h=>exact⟨_,_,λ_=>0,c,rfl,.g9 (.nil Al),h,λb=>oS⟩
 |own hn hcap hk hb hs' hS' h1 h0 hoc h hcc=>exact⟨_,_,_,_,rfl,.own hn hcap hk hb hs' hS' h1 h0 hoc (.nil Al) (λx=>rfl),h,λx=>by rw[hcc];simp⟩
 |box hb hS' h1 hoc h hcc=>exact⟨_,_,_,_,rfl,.box hb hS' h1 hoc (.nil Al) (λx=>rfl),h,λx=>by rw[hcc];simp;omega⟩
 |ref h=>exact⟨_,_,λ_=>0,c,rfl,.ref (.nil Al),h,λb=>oS⟩
 |alias h=>exact⟨_,_,λ_=>0,c,rfl,.alias (.nil Al),h,λb=>oS⟩
 |ge h=>exact⟨_,_,λ_=>0,c,rfl,.ge (.nil Al),h,λb=>oS⟩
 |dt h=>exact⟨_,_,λ_=>0,c,rfl,.dt (.nil Al),h,λb=>oS⟩
 |ee h1 h0 h=>exact⟨_,_,λ_=>0,c,rfl,.ee h1 h0 (.nil Al),h,λb=>oS⟩
 |mm h=>exact⟨_,_,λ_=>0,c,rfl,.mm (.nil Al),h,λb=>oS⟩
 |pref h=>exact⟨_,_,λ_=>0,c,rfl,.pref (.nil Al),h,λb=>oS⟩
 |bp hb hS h1 hoc h hcc=>exact⟨_,_,_,_,rfl,.bp hb hS h1 hoc (.nil Al) (λx=>rfl),h,λx=>by rw[hcc];simp;omega⟩
 |bw hb hS hks hbn h1 h hcc=>exact⟨_,_,_,_,rfl,.bw hb hS hks hbn h1 (.nil Al) (λx=>rfl),h,λx=>by rw[hcc];simp;omega⟩
 |ls hcap hsp hk h1 h0 hcell hst h=>exact⟨_,_,λ_=>0,c,rfl,.ls hcap hsp hk h1 h0 hcell hst (.nil Al),h,λb=>oS⟩
 |row hn hcap hk hb hs' hS' h1 h0 hoc h hcc=>exact⟨_,_,_,_,rfl,.row hn hcap hk hb hs' hS' h1 h0 hoc (.nil Al) (λx=>rfl),h,λx=>by rw[hcc];simp⟩
 |mine hn hcap hk hb hs' hS' h1 h0 hoc h hcc=>exact⟨_,_,_,_,rfl,.mine hn hcap hk hb hs' hS' h1 h0 hoc (.nil Al) (λx=>rfl),h,λx=>by rw[hcc];simp⟩
 |elt hsp h1 h0 hcell hst h=>exact⟨_,_,λ_=>0,c,rfl,.elt hsp h1 h0 hcell hst (.nil Al),h,λb=>oS⟩
 |fu hsp h1 h0 hcell hst h=>exact⟨_,_,λ_=>0,c,rfl,.fu hsp h1 h0 hcell hst (.nil Al),h,λb=>oS⟩
def Ac.zero{vs c}(h:Ac w S [] vs c):vs=[]/\Zc c:=by cases h with|nil hc=>exact⟨rfl,hc⟩
theorem Ac.app{xs vs c1}(h:Ac w S xs vs c1):∀{ys us c2 c},Ac w S ys us c2->(∀b,c b=c1 b+c2 b)->Ac w S (xs++ys) (vs++us) c:=by
 induction xs generalizing vs c1 with
 |nil=>intro ys us c2 c a d;obtain⟨rfl,e⟩:=h.zero;exact a.congr λb=>by rw[d,e b];omega
 |cons x xs ih=>intro ys us c2 c a d;obtain⟨v,u,i,j,rfl,h1,f,g⟩:=h.bu;exact b4 h1 (ih f a (λb=>rfl)) (λb=>by rw[d,g];omega)
abbrev du:=@Ac.app
def Ac.ku{xs ys:List AV}{vs c}(h:Ac w S (xs++ys) vs c):∃u a c1 c2,vs=u++a/\Ac w S xs u c1/\Ac w S ys a c2/\∀b,c b=c1 b+c2 b:=by
 induction xs generalizing vs c with
 |nil=>exact⟨[],vs,λ_=>0,c,rfl,.nil Al,h,λb=>oS⟩
 |cons x xs ih=>obtain⟨v,d,m,n,rfl,h1,e,f⟩:=Ac.bu (xs:=xs++ys) h;obtain⟨g,i,e1,e2,rfl,j,k,l⟩:=ih e;exact⟨v::g,i,_,e2,rfl,b4 h1 j (λb=>rfl),k,λb=>by rw[f,l];omega⟩
theorem Ac.take{xs vs c}(h:Ac w S xs vs c):∀(i:Nat) {x:AV},xs[i]? =some x->∃v c1 c2,vs[i]? =some v/\Ac w S [x] [v] c1/\Ac w S (xs.set i .any) vs c2/\∀b,c b=c1 b+c2 b:=by
 induction xs generalizing vs c with
 |nil=>intro i x a;simp at a
 |cons y xs ih=>
  intro i x a;obtain⟨v,u,f,g,rfl,h1,d,e⟩:=h.bu
  cases i with
  |zero=>simp at a;subst a;exact⟨v,f,g,rfl,h1,.any d,e⟩
  |succ i=>obtain⟨j,e1,e2,k,l,m,n⟩:=ih d i (by simpa using a);exact⟨j,e1,_,by simpa using k,l,b4 h1 m (λb=>rfl),λb=>by rw[e,n];omega⟩
theorem Ac.put{xs vs c}(h:Ac w S xs vs c){y:AV}{u:Value}{cy:Nat->Nat}(g:Ac w S [y] [u] cy):∀(i:Nat),i<xs.length->
 ∃a,Ac w S (xs.set i y) (vs.set i u) a/\∀b,a b<=cy b+c b:=by
 induction xs generalizing vs c with
 |nil=>intro i d;simp at d
 |cons x xs ih=>
  intro i d;obtain⟨v,j,m,n,rfl,h1,e,f⟩:=h.bu
  cases i with
  |zero=>exact⟨_,b4 g e (λb=>rfl),λb=>by rw[f];omega⟩
  |succ i=>obtain⟨a,k,l⟩:=ih e i (by simpa using d);exact⟨_,b4 h1 k (λb=>rfl),λb=>by have:=l b;rw[f];omega⟩
theorem Ac.fill{xs vs c}(h:Ac w S xs vs c){y:AV}{u:Value}{cy:Nat->Nat}(g:Ac w S [y] [u] cy):∀(i:Nat),xs[i]? =some .any->
 Ac w S (xs.set i y) (vs.set i u) (λb=>cy b+c b):=by
 induction xs generalizing vs c with
 |nil=>intro i a;simp at a
 |cons x xs ih=>
  intro i a;obtain⟨v,j,k,l,rfl,h1,e,f⟩:=h.bu
  cases i with
  |zero=>
   simp at a;subst a;have d:Zc k:=by cases h1 with|any h=>cases h with|nil d=>exact d
   exact b4 g e (λb=>by rw[f,d b];omega)
  |succ i=>exact b4 h1 (ih e i (by simpa using a)) (λb=>by rw[f];omega)
def v1:AV->AV
 |.own _ k es=>.sl k es
 |.box _ _=>.any
 |.ref _ _=>.any
 |.row _ _ _=>.any
 |.alias _=>.any
 |.pref _ _ _ _=>.any
 |.bp _ _ _=>.any
 |.bw _ _ _=>.any
 |.mine _ _ _=>.any
 |.agg _=>.any
 |.a6 _=>.any
 |x=>x
def v2:AV->AV
 |.agg cs=>.agg (cs.map v1)
 |x=>v1 x
def view:AV->AV
 |.a6 cs=>.a6 (cs.map v2)
 |x=>v2 x
def Ac.v1{x v c}(h:Ac w S [x] [v] c):Ac w S [v1 x] [v] (λ_=>0):=by
 cases h with
 |any h=>exact .any (.nil Al)
 |raw h1 h=>exact .raw h1 (.nil Al)
 |agg h1 hoc h hcc=>exact .any (.nil Al)
 |a6 h1 h hcc=>exact .any (.nil Al)
 |gn h=>exact .gn (.nil Al)
 |j4 hcap h=>exact .j4 hcap (.nil Al)
 |sl hn hcap hsp hk h1 h0 hcell hst h=>exact .sl hn hcap hsp hk h1 h0 hcell hst (.nil Al)
 |g9 h=>exact .j4 oD (.nil Al)
 |own hn hcap hk hb hs' hS' h1 h0 hoc h hcc=>
  rename_i e k es b cap cur c0 c2;refine .sl (c0:=c0) (ad:=⟨b,0,none⟩) hn hcap rfl hk h1 h0 (λj u d=> ?_) ?_ (.nil Al)
  .refine⟨?_,hoc u (cu d)⟩;have a:=d;rw[b9]at a;split at a
   simp only[jp];rw[cell_of_row w b j cur e (0,0) hb];simpa using a
   .cases a
  have f:=h1.length;have:(cur.toList.take (es.length*k)).length<=es.length*k:=by simp;omega
  simp only[hS'];omega
 |box hb hS' h1 hoc h hcc=>exact .any (.nil Al)
 |ref h=>exact .any (.nil Al)
 |alias h=>exact .any (.nil Al)
 |ge h=>exact .any (.nil Al)
 |dt h=>exact .any (.nil Al)
 |ee h1 h0 h=>exact .ee h1 h0 (.nil Al)
 |mm h=>exact .mm (.nil Al)
 |pref h=>exact .any (.nil Al)
 |ls hcap hsp hk h1 h0 hcell hst h=>exact .ls hcap hsp hk h1 h0 hcell hst (.nil Al)
 |bp hb hS' h1 hoc h hcc=>exact .any (.nil Al)
 |bw hb hS' hks hbn h1 h hcc=>exact .any (.nil Al)
 |row hn hcap hk hb hs' hS' h1 h0 hoc h hcc=>exact .any (.nil Al)
 |mine hn hcap hk hb hs' hS' h1 h0 hoc h hcc=>exact .any (.nil Al)
 |elt hsp h1 h0 hcell hst h=>exact .elt hsp h1 h0 hcell hst (.nil Al)
 |fu hsp h1 h0 hcell hst h=>exact .fu hsp h1 h0 hcell hst (.nil Al)
def pl:AV->AV
 |.box _ _=>.any
 |.ref _ _=>.any
 |.row _ _ _=>.any
 |.alias _=>.any
 |.pref _ _ _ _=>.any
 |.bp _ _ _=>.any
 |.bw _ _ _=>.any
 |x=>x
def pb:AV->Bool
 |.box _ _=>false
 |.ref _ _=>false
 |.row _ _ _=>false
 |.alias _=>false
 |.pref _ _ _ _=>false
 |.bp _ _ _=>false
 |.bw _ _ _=>false
 |_=>true
def N7(x):pb (pl x)=true:=by cases x<;>rfl
def AmL(x):pb (v1 x)=true:=by cases x<;>rfl
def Ac.pl{x v c}(h:Ac w S [x] [v] c):∃a,Ac w S [pl x] [v] a/\∀b,a b<=c b:=by
 cases x with
 |box T cs=>exact⟨_,.any (.nil Al),λ_=>gu _⟩
 |ref s off=>exact⟨_,.any (.nil Al),λ_=>gu _⟩
 |row e k es=>exact⟨_,.any (.nil Al),λ_=>gu _⟩
 |alias s=>exact⟨_,.any (.nil Al),λ_=>gu _⟩
 |pref s k j o=>exact⟨_,.any (.nil Al),λ_=>gu _⟩
 |bp b T cs=>exact⟨_,.any (.nil Al),λ_=>gu _⟩
 |bw b ks vs=>exact⟨_,.any (.nil Al),λ_=>gu _⟩
 |_=>exact⟨c,by simpa only[YtobhohikfmlccaaGreatDoor.pl]using h,λ_=>bx _⟩
def Ac.iv{f:AV->AV}(a:∀{x v c},Ac w S [x] [v] c->Ac w S [f x] [v] (λ_=>0)){xs vs c}(h:Ac w S xs vs c):Ac w S (xs.map f) vs (λ_=>0):=by
 induction xs generalizing vs c with
 |nil=>obtain⟨rfl,_⟩:=h.zero;exact .nil Al
 |cons x xs ih=>obtain⟨v,u,e,g,rfl,h1,d,i⟩:=h.bu;exact b4 (a h1) (ih d) (λb=>oS)
theorem Ac.v2{x v c}(h:Ac w S [x] [v] c):Ac w S [v2 x] [v] (λ_=>0):=by
 cases x with
 |agg cs=>
  cases h with
  |agg h1 hoc h hcc=>exact .agg (Ac.iv Ac.v1 h1) hoc (.nil Al) (λb=>oS)
 |_=>exact h.v1
def Ac.view{x v c}(h:Ac w S [x] [v] c):Ac w S [view x] [v] (λ_=>0):=by
 cases x with
 |a6 cs=>
  cases h with
  |a6 h1 h hcc=>exact .a6 (Ac.iv Ac.v2 h1) (.nil Al) (λb=>oS)
 |_=>exact h.v2
end
abbrev Ω:=List AV->List AV->Prop
abbrev Ψ:=List AV->Prop
abbrev Ϩ:=List (List AV)
abbrev Φ:=List AV
abbrev Ϫ:=Option (Nat×Bool)
abbrev Ϥ:=List (Nat×Nat)
abbrev Θ:=List Nat
abbrev ϴ:=List Value
abbrev Ξ:=List (List UInt8)
abbrev Γ:=Option Nat
abbrev Δ:=Nat->Nat
abbrev Ϧ:=Option AV
abbrev Ϡ:=Array Oper
abbrev Ϟ:=List UInt8
abbrev Ϙ:=List Deferred
abbrev Ϣ:=Act->World->Prop
section
variable{bg:Ϙ}
class Env where
 drawn:Prop
 globs:List (Nat×Nat×(Option Value->Prop))
variable[Env]
def Gs(w:World)(S:Δ):Prop:=∀g∈Env.globs,g.2.1<S g.1/\g.2.2 (w.cell? ⟨g.1,g.2.1,none⟩)
structure Sz (w:World) (S:Δ):Prop where
 z:∀b,w.heap.size<=b->S b=0
 g:Gs w S
instance {w:World} {S:Δ}:CoeFun (Sz w S) (λ_=>∀b,w.heap.size<=b->S b=0):=⟨Sz.z⟩
structure Stp (w:World) (S c:Δ) (w':World) (S' c':Δ):Prop where
 os:w'.os=w.os
 tape:w'.tape=w.tape
 output:w'.output=w.output/\(Env.drawn->w.drawn<=w'.drawn)
 size:w.heap.size<=w'.heap.size
 keep:∀b,b<w.heap.size->c b=0->w'.heap[b]? =w.heap[b]?/\S' b=S b
 cell:∀b o,o<S b->w'.cell? ⟨b,o,none⟩=w.cell? ⟨b,o,none⟩
 le:∀b,S b<=S' b
 own:∀b,b<w.heap.size->c' b<=c b
def Gs.nn{w a S s c b}(h:Gs w S)(k:Stp w S c a s b):Gs a s:=λg d=>by obtain⟨h1,e⟩:=h g d;exact⟨og h1 (k.le g.1),by rw[k.cell g.1 g.2.1 h1];exact e⟩
def Sz.nn{w w' S S' c a}(h:Sz w S)(k:Stp w S c w' S' a)(d:∀b,w'.heap.size<=b->S' b=0):Sz w' S':=⟨d,h.g.nn k⟩
def jL{w a S s c d}(h:Sz w S)(k:Stp w S c a s d)(e:∀b,a.heap.size<=b->s b=0):Stp w S c a s d/\Sz a s:=⟨k,h.nn k e⟩
structure bm (σ:Φ) (vs:ϴ):Prop where
 ref:∀(i s off T:Nat) (cs:Φ),σ[i]? =some (.ref s off)->σ[s]? =some (.box T cs)->
  ∃b,vs[s]? =some (.pointer (some ⟨b,0,none⟩))/\vs[i]? =some (.pointer (some ⟨b,off,none⟩))
 al:∀(i s e k:Nat) (es:Φ),σ[i]? =some (.alias s)->σ[s]? =some (.row e k es)->vs[i]? =vs[s]?
 pr:∀(i s k j o e k':Nat) (es:Φ),σ[i]? =some (.pref s k j o)->σ[s]? =some (.row e k' es)->
  ∃b n cap,vs[s]? =some (.slice (some ⟨b,0,none⟩) n cap)/\vs[i]? =some (.pointer (some ⟨b,j*k+o,none⟩))
def Bc(bg:Ϙ)(w0:World)(S0 c0:Δ)(σ:Φ)(a:Act)(w:World):Prop:=
 bm σ a.tmps.toList/\∃S c,Ac w S σ a.tmps.toList c/\(∀b,c b<=1)/\a.defers=bg/\Sz w S/\Stp w0 S0 c0 w S c
def Ai{a}{l:List a}{d i:Nat}{y x:a}(h:(l.set d y)[i]? =some x)(b:y≠x):d≠i/\l[i]? =some x:=by grind
def Bf{a}{l:List a}{d i:Nat}{y:a}(h:d≠i):(l.set d y)[i]? =l[i]? :=by grind
def bm.set{σ:Φ}{g:ϴ}(h:bm σ g)(d:Nat){y}(v)(m:pb y=true):bm (σ.set d y) (g.set d v):=by
 refine⟨λi s off T l a c=> ?_,λi s e k es a c=> ?_,λi s k j o e k' es a c=> ?_⟩;obtain⟨n,h1⟩:=Ai a (by grind [pb]);obtain⟨f,h2⟩:=Ai c (by grind [pb]);obtain⟨b,g1,g2⟩:=h.ref i s off T l h1 h2
 grind
 obtain⟨n,h1⟩:=Ai a (by grind [pb]);obtain⟨f,h2⟩:=Ai c (by grind [pb]);rw[Bf n,Bf f];exact oA;obtain⟨n,h1⟩:=Ai a (by grind [pb]);obtain⟨f,h2⟩:=Ai c (by grind [pb]);exact PT
def bm.less{σ:Φ}{v}(h:bm σ v)(d:Nat){y}(l:pb y=true):bm (σ.set d y) v:=by refine⟨λi s off T f a b=> ?_,λi s e k es a b=> ?_,λi s k j o e g es a b=> ?_⟩;obtain⟨n,h1⟩:=Ai a (by grind [pb]);obtain⟨c,h2⟩:=Ai b (by grind [pb]);exact h.ref i s off T f h1 h2;obtain⟨n,h1⟩:=Ai a (by grind [pb]);obtain⟨c,h2⟩:=Ai b (by grind [pb]);exact oA;obtain⟨n,h1⟩:=Ai a (by grind [pb]);obtain⟨c,h2⟩:=Ai b (by grind [pb]);exact h.pr i s k j o e g es h1 h2
def bm.o0{σ:Φ}{v}(h:bm σ v){d T:Nat}{l}(t:Nat)(c)(m:σ[d]? =some (.box T l)):bm (σ.set d (.box t c)) v:=by refine⟨λi s off p f b a=> ?_,λi s e k es b a=> ?_,λi s k j o e q es b a=> ?_⟩;obtain⟨n,h1⟩:=Ai b (by grind);rw[bq]at a;split at a;rename_i g;subst g;exact h.ref i d off T l h1 m;exact h.ref i s off p f h1 a;obtain⟨n,h1⟩:=Ai b (by grind);obtain⟨r,h2⟩:=Ai a (by grind);exact oA;obtain⟨n,h1⟩:=Ai b (by grind);obtain⟨r,h2⟩:=Ai a (by grind);exact h.pr i s k j o e q es h1 h2
def bm.ua{σ:Φ}{v}(h:bm σ v){d e k:Nat}{es}(g l:Nat)(c)(f:σ[d]? =some (.row e k es)):bm (σ.set d (.row g l c)) v:=by refine⟨λi s off T2 cs2 hi hs=> Ahn,λi s e2 k2 a hi hs=> ?_,λi s k3 j o e2 k2 a hi hs=> ?_⟩;obtain⟨n1,h1⟩:=Ai hi (by grind);rw[bq]at hs;split at hs;rename_i b;subst b;exact h.al i d e k es h1 f;exact h.al i s e2 k2 a h1 hs;obtain⟨n1,h1⟩:=Ai hi (by grind);rw[bq]at hs;split at hs;rename_i b;subst b;exact h.pr i d k3 j o e k es h1 f;exact h.pr i s k3 j o e2 k2 a h1 hs
def Lj(d:Nat):AV->Bool
 |.ref s _=>s != d
 |.alias s=>s != d
 |.pref s _ _ _=>s != d
 |_=>true
def Yd{a:Φ}{d i:Nat}{x}(h:a.all (Lj d)=true)(b:a[i]? =some x):Lj d x=true:=ib.1 h _ (cu b)
def bm.jd{σ l}(h:bm σ l){d}(T p v)(q:σ.all (Lj d)=true):bm (σ.set d (.box T p)) (l.set d v):=by
 refine⟨λi s off t f c a=> ?_,λi s e k es c a=> ?_,λi s k j o e k' es c a=> ?_⟩
 .obtain⟨n,h1⟩:=Ai c (by grind);have g:d≠s:=by have:=Yd q h1;simp[Lj]at this;exact λh=>this h.symm
  rw[Bf g]at a;obtain⟨b,g1,g2⟩:=h.ref i s off t f h1 a
  grind
 .obtain⟨n,h1⟩:=Ai c (by grind);obtain⟨m,h2⟩:=Ai a (by grind);rw[Bf n,Bf m];exact oA
 .obtain⟨n,h1⟩:=Ai c (by grind);obtain⟨m,h2⟩:=Ai a (by grind);exact PT
def bm.j5{σ p}(h:bm σ p){d}(e k es v)(q:σ.all (Lj d)=true):bm (σ.set d (.row e k es)) (p.set d v):=by
 refine⟨λi s off t l g a=> ?_,λi s e2 k2 c g a=> ?_,λi s k3 j o e2 k2 c g a=> ?_⟩
 .obtain⟨m,h1⟩:=Ai g (by grind);obtain⟨u,r⟩:=Ai a (by grind);obtain⟨b,g1,g2⟩:=h.ref i s off t l h1 r
  grind
 .obtain⟨m,h1⟩:=Ai g (by grind);have f:d≠s:=by have:=Yd q h1;simp[Lj]at this;exact λh=>this h.symm
  rw[Bf f]at a⊢;rw[Bf m];exact h.al i s e2 k2 c h1 a
 .obtain⟨m,h1⟩:=Ai g (by grind);have f:d≠s:=by have:=Yd q h1;simp[Lj]at this;exact λh=>this h.symm
  rw[Bf f]at a;obtain⟨b,n,cap,g1,g2⟩:=h.pr i s k3 j o e2 k2 c h1 a
  grind
def bm.o5{σ:Φ}{v:ϴ}(h:bm σ v){d s off b T:Nat}{f}(q:σ[s]? =some (.box T f))(g:s≠d)(r:v[s]? =some (.pointer (some ⟨b,0,none⟩)))(u:v.length=σ.length):
 bm (σ.set d (.ref s off)) (v.set d (.pointer (some ⟨b,off,none⟩))):=by
 refine⟨λi s2 a t c hi hs2=> ?_,λi s2 e k es hi hs2=> ?_,λi s2 k j o e l es hi hs2=> ?_⟩;obtain⟨n2,h2⟩:=Ai hs2 (by grind);rw[bq]at hi;split at hi
 grind
 rename_i m;obtain⟨p,g1,g2⟩:=h.ref i s2 a t c hi h2
 grind
 exact AgP;obtain⟨n1,h1⟩:=Ai hi (by grind);obtain⟨n2,h2⟩:=Ai hs2 (by grind);obtain⟨p,n,cap,g1,g2⟩:=h.pr i s2 k j o e l es h1 h2
 grind
def bm.uc{σ a}(h:bm σ a){d s v}(f:s≠d)(l:a[s]? =some v)(m:a.length=σ.length):bm (σ.set d (.alias s)) (a.set d v):=by
 refine⟨λi s2 off2 T2 cs2 hi hs2=> AgS,λi s2 e k es hi hs2=> ?_,λi s2 k j o e g es hi hs2=> ?_⟩;obtain⟨n2,h2⟩:=Ai hs2 (by grind);rw[bq]at hi;split at hi
 grind
 rename_i c;rw[Bf c,Bf n2];exact h.al i s2 e k es hi h2;obtain⟨n1,h1⟩:=Ai hi (by grind);obtain⟨n2,h2⟩:=Ai hs2 (by grind);obtain⟨b,n,cap,g1,g2⟩:=h.pr i s2 k j o e g es h1 h2
 grind
def bm.m6{σ v}(h:bm σ v){d s k j o b n cap}(a:s≠d)(p:v[s]? =some (.slice (some ⟨b,0,none⟩) n cap))(q:v.length=σ.length):
 bm (σ.set d (.pref s k j o)) (v.set d (.pointer (some ⟨b,j*k+o,none⟩))):=by
 refine⟨λi s2 off2 T2 cs2 hi hs2=> AgS,λi s2 e k es hi hs2=> AgP,λi s2 k2 f g e l es hi hs2=> ?_⟩;obtain⟨n2,h2⟩:=Ai hs2 (by grind);rw[bq]at hi;split at hi
 grind
 rename_i m;obtain⟨r,t,c,g1,g2⟩:=h.pr i s2 k2 f g e l es hi h2
 grind
def upd(S:Δ)(b s:Nat):Δ:=λx=>if x=b then s else S x
def Gs.p5{w S}(h:Gs w S){b}(c:S b=0)(n):Gs w (upd S b n):=λg a=>by
 obtain⟨h1,d⟩:=h g a
 grind [upd]
section
variable{w w' i:World}{S S' f c g c'':Nat->Nat}
def Stp.refl(w S c):Stp w S c w S c:=
 ⟨rfl,rfl,⟨rfl,λ_=>bx _⟩,bx _,λ_ _ _=>⟨rfl,rfl⟩,λ_ _ _=>rfl,λ_=>bx _,λ_ _=>bx _⟩
abbrev bt:=@Stp.refl
def Stp.trans(h:Stp w S c w' S' g)(k:Stp w' S' g i f c''):Stp w S c i f c'' where
 os:=k.os.trans h.os
 tape:=k.tape.trans h.tape
 output:=⟨k.output.1.trans h.output.1,λe=>cp (h.output.2 e) (k.output.2 e)⟩
 size:=cp h.size k.size
 keep b hb hc:=by
  have h1:=h.keep b hb hc;have a:=k.keep b (og hb h.size) (by have:=h.own b hb;omega)
  grind
 cell b o ho:=(k.cell b o (og ho (h.le b))).trans (h.cell b o ho)
 le b:=cp (h.le b) (k.le b)
 own b hb:=cp (k.own b (og hb h.size)) (h.own b hb)
def Stp.drop(h:Stp w S c w' S' g)(a:∀b,c'' b<=g b):Stp w S c w' S' c'':=
 ⟨h.os,h.tape,h.output,h.size,h.keep,h.cell,h.le,λb d=>cp (a b) (h.own b d)⟩
def Ac.lt{xs vs c}(h:Ac w S xs vs c):∀b,0<c b->b<w.heap.size:=by
 induction h with
 |nil hc=>intro b a;have:=hc b;omega
 |any h ih=>exact ih
 |raw h1 h ih=>exact ih
 |agg h1 hoc h hc ih1 ih=>
  grind
 |a6 h1 h hc ih1 ih=>
  grind
 |gn h ih=>exact ih
 |j4 hcap h ih=>exact ih
 |sl hn hcap hsp hk h1 h0 hcell hst h ih1 ih=>exact ih
 |g9 h ih=>exact ih
 |own hn hcap hk a hs' hS' h1 h0 hoc h hc ih1 ih=>
  grind
 |box a hS' h1 hoc h hc ih1 ih=>
  grind
 |ref h ih=>exact ih
 |alias h ih=>exact ih
 |pref h ih=>exact ih
 |ls hcap hsp hk h1 h0 hcell hst h ih1 ih=>exact ih
 |bp a hS h1 hoc h hc ih1 ih=>
  grind
 |bw a hS hks hbn h1 h hc ih1 ih=>
  grind
 |ge h ih=>exact ih
 |dt h ih=>exact ih
 |ee h1 h0 h ih1 ih=>exact ih
 |mm h ih=>exact ih
 |row hn hcap hk a hs' hS' h1 h0 hoc h hc ih1 ih=>
  grind
 |mine hn hcap hk a hs' hS' h1 h0 hoc h hc ih1 ih=>
  grind
 |elt hsp h1 h0 hcell hst h ih1 ih=>exact ih
 |fu hsp h1 h0 hcell hst h ih1 ih=>exact ih
def Ac.step{xs vs d}(h:Ac w S xs vs d)(k:Stp w S c w' S' g)(a:∀b,d b+c b<=1):Ac w' S' xs vs d:=
 h.keep k.cell k.le λb e=>k.keep b (h.lt b e) (by have:=a b;omega)
theorem Stp.alloc(d:Sz w S)(o:Obj)(s:Nat):Stp w S c (w.alloc o) (upd S w.heap.size s) (λx=>(if x=w.heap.size then 1 else 0)+c x) where
 os:=rfl
 tape:=rfl
 output:=⟨rfl,λ_=>bx _⟩
 size:=oS
 keep b a _:=⟨Below.heap_alloc w o b a,by simp [upd,Nat.ne_of_lt a]⟩
 cell b o' ho:=by
  have a:b<w.heap.size:=by
   rcases cq b w.heap.size with h|h
   ·exact h
   ·rw [d b h]at ho;omega
  exact World.cell?_of_block (Below.heap_alloc w o b a)
 le b:=by
  unfold upd;split
  ·rename_i h;subst h;rw[d _ (bx _)];omega
  grind
 own b a:=by grind
abbrev b6:=@Stp.alloc
def Sz.alloc(h:Sz w S)(o s):Sz (w.alloc o) (upd S w.heap.size s):=by refine h.nn (b6 (c:=λ_=>0) h o s) λb a=> ?_;simp at a;simp[upd,show b≠w.heap.size by omega,h b om]
def Stp.drew:Stp w S c w.drew S c:=⟨rfl,rfl,⟨rfl,λ_=>Nat.le_succ _⟩,bx _,λ_ _ _=>⟨rfl,rfl⟩,λ_ _ _=>rfl,λ_=>bx _,λ_ _=>bx _⟩
def Sz.drew(h:Sz w S):Sz w.drew S:=h.nn (Stp.drew (c:=λ_=>0)) h.z
def Bc.drew{w0 S0 c0 σ a}(h:Bc bg w0 S0 c0 σ a w):Bc bg w0 S0 c0 σ a w.drew:=by obtain⟨b,S,c,d,h1,e,j,k⟩:=h;exact⟨b,S,c,(d.keep (λ_ _ _=>rfl) (λ_=>bx _) (λ_ _=>⟨rfl,rfl⟩)),h1,e,j.drew,k.trans Stp.drew⟩
end
def R5:Value->AV
 |.slice none 0 0=>.nil
 |.agg _=>.any
 |.tuple _=>.any
 |v=>.raw v
def B8:Value->AV
 |.agg cs=>if cs.toList.all Value.oneCell' then .agg (cs.toList.map R5)else .any
 |v=>R5 v
def bj(σ:Φ):Operand->AV
 |.tmp t=>pl (σ.getD t .any)
 |.const v=>B8 v
 |.global _=>.any
 |.func f=>.raw (.func (.func f) #[] #[])
def Qj(σ:Φ)(t:Nat):AV->Φ
 |.own e k es=>σ.set t (view (.own e k es))
 |.agg cs=>σ.set t (view (.agg cs))
 |.a6 cs=>σ.set t (view (.a6 cs))
 |.mine e k es=>σ.set t (view (.mine e k es))
 |_=>σ
def d7(σ:Φ):Operand->Φ
 |.tmp t=>Qj σ t (σ.getD t .any)
 |_=>σ
def bi(σ:Φ):List Operand->List AV×List AV
 |[]=>([],σ)
 |x::xs=>(bj σ x::(bi (d7 σ x) xs).1,(bi (d7 σ x) xs).2)
def am(a:Φ)(d:Γ)(v:AV):Φ:=
 match d with
 |some d=>a.set d v
 |none=>a
section
variable{w:World}{S:Nat->Nat}
theorem jM(v:Value):Ac w S [R5 v] [v] (λ_=>0):=by
 unfold R5;split
 ·exact .gn (.nil Al)
 ·exact .any (.nil Al)
 ·exact .any (.nil Al)
 ·rename_i h1 h a;refine .raw ?_ (.nil Al);cases v<;>first|rfl|exact cw rfl (h _)|exact cw rfl (a _)
theorem N8(a:ϴ):Ac w S (a.map R5) a (λ_=>0):=by
 induction a with
 |nil=>exact .nil Al
 |cons v a ih=>exact b4 (jM v) ih (λb=>oS)
theorem Hy(v:Value):Ac w S [B8 v] [v] (λ_=>0):=by
 cases v with
 |agg cs=>
  simp only[B8];split
  ·rename_i h;have:=Ac.agg (w:=w) (S:=S) (N8 cs.toList) (λu a=>by grind) (.nil Al) (c:=λ_=>0) (λb=>oS);omega
  ·exact .any (.nil Al)
 |_=>grind [B8,jM]
theorem set_self{a:Φ}{t:Nat}(h:t<a.length){x:AV}(b:a.getD t .any=x):a.set t x=a:=by subst b;simp [h]
theorem jN(a:Φ)(t:Nat)(b:t<a.length)(h:pb (a.getD t .any)=true):d7 a (.tmp t)=a.set t (view (a.getD t .any)):=by simp only[d7];revert h;generalize c:a.getD t .any=x;intro h;cases x<;>first|rfl|(simp [view,v2,v1];exact(set_self b c).symm)|(simp [pb]at h)
theorem jO(a:Φ)(t:Nat)(h:pb (a.getD t .any)=false):d7 a (.tmp t)=a/\pl (a.getD t .any)=.any:=by simp only[d7];revert h;generalize a.getD t .any=x;intro h;cases x<;>simp [pb]at h<;>exact⟨rfl,rfl⟩
theorem AcI{x:AV}(h:pb x=true):pl x=x:=by cases x<;>simp [pb]at h<;>rfl
theorem Xh{x:AV}:pb (view x)=true:=by cases x<;>simp [view,v2,v1,pb]
theorem bm.d7{σ:Φ}{v:ϴ}(h:bm σ v)(x:Operand):bm (d7 σ x) v:=by
 cases x with
 |tmp t=>
  by_cases a:t<σ.length
  ·by_cases b:pb (σ.getD t .any)=true
   ·rw [jN σ t a b];exact h.less t Xh
   grind [jO]
  grind [Nat.le_of_not_lt,YtobhohikfmlccaaGreatDoor.d7,Qj]
 |_=>exact h
theorem bm.bi{v:ϴ}:∀(a:List Operand) {σ:Φ},bm σ v->bm (bi σ a).2 v
 |[],σ,h=>h
 |x::a,σ,h=>bm.bi a (h.d7 x)
theorem Ag{a:Type}{l:List a}{t:Nat}{v:a}(h:l[t]? =some v):l.set t v=l:=by exact Yb
theorem Lm{d:Φ}{a:Act}{c:Δ}(h:Ac w S d a.tmps.toList c)(x:Operand):
 ∃c1 c2,Ac w S [bj d x] [a.eval x] c1/\Ac w S (d7 d x) a.tmps.toList c2/\∀b,c b=c1 b+c2 b:=by
 cases x with
 |const v=>exact⟨_,c,Hy v,h,λb=>oS⟩
 |func f=>exact⟨_,c,.raw rfl (.nil Al),h,λb=>oS⟩
 |global g=>exact⟨_,c,.any (.nil Al),h,λb=>oS⟩
 |tmp t=>
  by_cases e:t<d.length
  ·have i:d[t]? =some (d.getD t .any):=by simp [e]
   obtain⟨v,c1,c2,m,h1,k,n⟩:=h.take t i
   have l:a.eval (.tmp t)=v:=by
    simp [Act.eval]
    grind
   by_cases j:pb (d.getD t .any)=true
   ·rw [jN d t e j];have:=k.fill h1.view t (by simp [e])
    grind [List.set_set,Ag,bj,AcI]
   ·obtain ⟨e1,e2⟩:=jO d t (by simpa using j);rw[e1];simp only[bj];rw[e2];exact⟨_,c,.any (.nil Al),h,λb=>oS⟩
  ·have i:d.getD t .any=.any:=by simp [show d.length<=t from Nat.le_of_not_lt e]
   simp only[bj,d7,i,pl];exact⟨_,c,.any (.nil Al),h,λb=>oS⟩
theorem R8:∀(d:List Operand) {e:Φ} {a:Act} {c:Δ},Ac w S e a.tmps.toList c->
 ∃c1 c2,Ac w S (bi e d).1 (d.map a.eval) c1/\Ac w S (bi e d).2 a.tmps.toList c2/\∀b,c b=c1 b+c2 b
 |[],e,a,c,h=>⟨λ_=>0,c,.nil Al,h,λb=>oS⟩
 |x::d,e,a,c,h=>by obtain⟨c1,c2,h1,f,k⟩:=Lm h x;obtain⟨l,g,i,j,m⟩:=R8 d f;exact⟨_,g,b4 h1 i (λb=>rfl),j,λb=>by grind⟩
def E4(a:Act)(d:Option Tmp)(v):(a.put d v).tmps.toList=match d with|some d=>a.tmps.toList.set d v|none=>a.tmps.toList:=by grind [Act.put]
def G5(a:Act)(d:Option Tmp)(v):(a.put d v).defers=a.defers:=by cases d<;>rfl
def Ac.am{σ:Φ}{a:Act}{c c1:Δ}(h:Ac w S σ a.tmps.toList c){y:AV}{u:Value}(f:Ac w S [y] [u] c1)(d:Option Tmp):
 ∃e,Ac w S (am σ d y) (a.put d u).tmps.toList e/\∀b,e b<=c1 b+c b:=by
 rw[E4]
 cases d with
 |none=>exact⟨c,h,λb=>om⟩
 |some d=>
  by_cases g:d<σ.length;exact h.put f d g;have i:=h.length
  grind [YtobhohikfmlccaaGreatDoor.am,Nat.le_of_not_lt,List.set_eq_of_length_le]
end
def bm.am{σ:Φ}{a:Act}(h:bm σ a.tmps.toList)(d:Option Tmp){y}(v)(b:pb y=true):bm (am σ d y) (a.put d v).tmps.toList:=by
 rw[E4]
 cases d with
 |none=>exact h
 |some d=>exact h.set d v b
def QK(a x):pb (bj a x)=true:=by
 cases x with
 |tmp t=>exact N7 _
 |const v=>simp[bj];cases v<;>simp[B8]<;>first|(split<;>rfl)|(unfold R5;split<;>rfl)
 |_=>rfl
theorem Bc.value {w0 S0 c0} {w:World} {S c} {e:Φ} {a:Act} {c1 c2:Δ} {y:AV} {u:Value} (h:bm e a.tmps.toList) (f:pb y=true) (h1:∀b,c b<=1) (g:a.defers=bg) (i:Sz w S) (j:Stp w0 S0 c0 w S c)
 (k:Ac w S e a.tmps.toList c2) (l:Ac w S [y] [u] c1) (o:∀b,c1 b+c2 b<=c b) (d:Γ):Bc bg w0 S0 c0 (am e d y) (a.put d u) w:=by
 obtain⟨m,n,p⟩:=k.am l d;exact⟨h.am d u f,S,m,n,λb=>by grind,by rw[G5];exact g,i,j.drop λb=>by grind⟩
end
section
variable[Env]
structure TD where
 agg:Bool:=false
 struct:Bool:=false
 str:Bool:=false
 elem:Γ:=none
 arr:Option (Nat×Nat):=none
 ik:Option IntKind:=none
 ig:List (Nat×Option Nat×Option Bool):=[]
 bl:Bool:=false
structure TI where
 zero:ϴ
 size:Nat
 bytes:Nat
 td:TD
 eqs:Option Ϥ:=none
def fI:TypeDesc->Γ
 |.int _=>some 0
 |.string=>some 1
 |.bool=>some 2
 |_=>none
def vD(P:Program):List Field->Option Ϥ
 |[]=>some []
 |f::r=>if f.name= "_" then none else match(P.underlying f.type).bind fI,vD P r with
  |some k,some l=>some ((f.offset,k)::l)
  |_,_=>none
def WD(P:Program)(t:Nat):Option Ϥ->Bool
 |none=>true
 |some q=> !P.stoodInHeld t&& !P.eqGuardType P.depth t&&(match P.underlying t with
  |some (.struct fs)=>vD P fs.toList==some q
  |_=>false)
def Uo:TypeDesc->Bool
 |.struct _|.array _ _=>true
 |_=>false
def Gy(P:Program):TypeDesc->TD
 |.struct fs=>{agg:=true,struct:=true,ig:=fs.toList.map λf=>(f.offset,(P.info? f.type).map (·.size),(P.underlying f.type).map Uo)}
 |.array n e=>{agg:=true,arr:=some (n,e)}
 |.string=>{str:=true}
 |.slice e=>{elem:=some e}
 |.int k=>{ik:=some k}
 |.bool=>{bl:=true}
 |_=>{}
structure Df (P:Program) (t:Nat) (i:TI):Prop where
 info:(P.info? t).map (λx=>(x.zero.map (·.cells.toList),x.size,x.bytes))=some (some i.zero,i.size,i.bytes)
 desc:(P.underlying t).map (Gy P)=some i.td
 z4:WD P t i.eqs=true
abbrev Br:=Nat->Option TI
def Ax(P:Program)(T:Br):Prop:=∀t i,T t=some i->Df P t i
section
variable{P:Program}{t:Nat}{i:TI}
def Df.get(h:Df P t i):∃a z d,P.info? t=some a/\a.zero=some z/\z.cells.toList=i.zero/\a.size=i.size/\a.bytes=i.bytes/\P.underlying t=some d/\Gy P d=i.td:=by
 have h1:=h.info;have b:=h.desc
 cases c:P.info? t with
 |none=>grind
 |some a=>simp_all
def D7{d:TypeDesc}{e}(h:(Gy P d).elem=some e):d=.slice e:=by cases d<;>simp[Gy]at h<;>simp[h]
def Up{d:TypeDesc}(h:(Gy P d).str=true):d=.string:=by cases d<;>simp[Gy]at h<;>rfl
def AmM{d:TypeDesc}(h:(Gy P d).bl=true):d=.bool:=by cases d<;>simp[Gy]at h<;>rfl
def Aio{d:TypeDesc}{k}(h:(Gy P d).ik=some k):d=.int k:=by cases d<;>simp[Gy]at h<;>simp[h]
def Ra{d:TypeDesc}:Uo d=(Gy P d).agg:=by cases d<;>rfl
end
def Hr(P:Program)(f:Nat):Prop:=∃a c,P.funcs[f]? =some a/\a.body=some c/\(a.name== "runtime.NumGoroutine")=false
def Aa(P:Program)(f:Nat)(a:Φ)(R:AV->Prop):Prop:=
 Hr P f/\(∃r,R r)/\∀w S h c,Sz w S->Ac w S a h c->(∀b,c b<=1)->Calls P f h.toArray w λe d=>
  ∃v r s g,e=.returned v/\R r/\pb r=true/\Ac d s [r] [v] g/\(∀b,g b<=1)/\Sz d s/\Stp w S c d s g
def Aa.mono{P f a}{R b:AV->Prop}(h:Aa P f a R)(d:∀r,R r->b r):Aa P f a b:=by obtain⟨g,⟨r,h1⟩,i⟩:=h;exact⟨g,⟨r,d r h1⟩,λw S j c k l m=>(i w S j c k l m).mono λe t ⟨v,r,s,n,o,p,q⟩=>⟨v,r,s,n,o,d r p,q⟩⟩
def Dx(e:Bool)(A B:Prop):Prop:=(e=true->A)/\(e=false->B)
def Lb:AV->Bool
 |.any|.a6 _|.box _ _|.ref _ _|.row _ _ _|.alias _|.mm _ _|.pref _ _ _ _|.bp _ _ _|.bw _ _ _|.fu _ _=>false
 |_=>true
def Hs(o:BinOp):AV->AV->(AV->Prop)->Prop
 |.raw (.int k a),.raw (.int k' b),K=>
  match o with
  |.add=>k=k'/\K (.raw (.int k (k.wrap (a+b))))
  |.sub=>k=k'/\K (.raw (.int k (k.wrap (a-b))))
  |.mul=>k=k'/\K (.raw (.int k (k.wrap (a*b))))
  |.quo=>k=k'/\b≠0/\K (.raw (.int k (k.wrap (a.tdiv b))))
  |.rem=>k=k'/\b≠0/\K (.raw (.int k (a.tmod b)))
  |.and=>k=k'/\K (.raw (.int k (k.wrap (BitVec.ofInt k.bits a &&& BitVec.ofInt k.bits b).toNat)))
  |.or=>k=k'/\K (.raw (.int k (k.wrap (BitVec.ofInt k.bits a ||| BitVec.ofInt k.bits b).toNat)))
  |.andNot=>k=k'/\K (.raw (.int k (k.wrap (BitVec.ofInt k.bits a &&& ~~~ (BitVec.ofInt k.bits b)).toNat)))
  |.xor=>k=k'/\K (.raw (.int k (k.wrap (BitVec.ofInt k.bits a ^^^ BitVec.ofInt k.bits b).toNat)))
  |.eql=>k=k'/\K (.raw (.bool (a==b)))
  |.neq=>k=k'/\K (.raw (.bool (a != b)))
  |.lss=>k=k'/\K (.raw (.bool (decide (a<b))))
  |.leq=>k=k'/\K (.raw (.bool (decide (a<=b))))
  |.gtr=>k=k'/\K (.raw (.bool (decide (b<a))))
  |.geq=>k=k'/\K (.raw (.bool (decide (b<=a))))
  |.shl=>0<=b/\K (.raw (.int k (k.wrap (a*2 ^ (min b.toNat k.bits)))))
  |.shr=>0<=b/\K (.raw (.int k (a.fdiv (2 ^ (min b.toNat k.bits)))))
 |.raw (.string s),.raw (.string t),K=>
  match o with
  |.add=>s.data.toList.length+t.data.toList.length<=9223372036854775807/\K (.raw (.string ⟨(s.data.toList++t.data.toList).toArray⟩))
  |.eql=>K (.raw (.bool (s.data.toList==t.data.toList)))
  |.neq=>K (.raw (.bool (!(s.data.toList==t.data.toList))))
  |.lss=>K (.raw (.bool (Op.bytesLess s.data.toList t.data.toList)))
  |.leq=>K (.raw (.bool (Op.bytesLess s.data.toList t.data.toList||s.data.toList==t.data.toList)))
  |.gtr=>K (.raw (.bool (!(Op.bytesLess s.data.toList t.data.toList||s.data.toList==t.data.toList))))
  |.geq=>K (.raw (.bool (!(Op.bytesLess s.data.toList t.data.toList))))
  |_=>False
 |_,_,_=>False
def oB:AV->AV->Nat->Option Bool
 |.raw (.int k a),.raw (.int k' b),0=>if k=k' then some (a==b)else none
 |.raw (.string s),.raw (.string t),1=>some (s.data.toList==t.data.toList)
 |.raw (.bool a),.raw (.bool b),2=>some (a==b)
 |_,_,_=>none
def x9:Option Bool->Option Bool->Option Bool
 |some a,some b=>some (a&&b)
 |_,_=>none
def Uq(x y:Φ):Ϥ->Option Bool
 |[]=>some true
 |(o,k)::r=>x9 (oB (x.getD o .any) (y.getD o .any) k) (Uq x y r)
def vE(o:Option Bool)(K:AV->Prop)(neg:Bool):Prop:=match o with
 |some b=>K (.raw (.bool (b != neg)))
 |none=>False
def GU(o:Option Ϥ)(x y:Φ)(K:AV->Prop)(neg:Bool):Prop:=match o with
 |some q=>vE (Uq x y q) K neg
 |none=>False
def vF(o:Option TI)(x y:Φ)(K:AV->Prop)(neg:Bool):Prop:=match o with
 |some i=>GU i.eqs x y K neg
 |none=>False
def Ln(T:Nat->Option TI)(o:BinOp)(t:Nat):AV->AV->(AV->Prop)->Prop
 |.raw (.bool a),.raw (.bool b),K=>
  match o with
  |.eql=>(T t).map (·.td.bl)=some true/\K (.raw (.bool (a==b)))
  |.neq=>(T t).map (·.td.bl)=some true/\K (.raw (.bool (a != b)))
  |_=>False
 |.agg xs,.agg ys,K=>
  match o with
  |.eql=>vF (T t) xs ys K false
  |.neq=>vF (T t) xs ys K true
  |_=>False
 |x,y,K=>Hs o x y K
def oZ:AV->(AV->Prop)->Prop
 |.elt y,K=>K (.elt y)
 |_,_=>False
def WE(o:UnOp):AV->(AV->Prop)->Prop
 |.raw (.bool b),K=>match o with
  |.not=>K (.raw (.bool (!b)))
  |_=>False
 |.raw (.int k n),K=>match o with
  |.neg=>K (.raw (.int k (k.wrap (0-n))))
  |_=>False
 |_,_=>False
def aq(c:Φ)(off n:Nat):Φ:=(c.drop off).take n
def bv(c:Φ)(off n:Nat)(x:Φ):Φ:=c.take off++x++c.drop (off+n)
def em(agg:Bool)(c:Φ):AV:=if agg then .agg c else c.headD .any
def G8(f:List (Nat×Option Nat×Option Bool)):List (Nat×AV)->Φ->Ψ->Prop
 |[],cs,K=>K cs
 |(i,x)::r,cs,K=>match f[i]? with
  |some (off,some size,_)=>Lb x=true/\(cellsOf x).length=size/\off+size<=cs.length/\G8 f r (bv cs off size (cellsOf x)) K
  |_=>False
section
variable{P:Program}{w:World}{S:Nat->Nat}
def Az{x:Value}{v c}(h:Ac w S [.raw x] [v] c):v=x/\x.oneCell'=true/\Zc c:=by cases h with|raw h1 h=>cases h with|nil hz=>exact⟨rfl,h1,hz⟩
def C2{x}(h:x.oneCell'=true){c}(a:Zc c):Ac w S [.raw x] [x] c:=.raw h (.nil a)
def AcK{o:BinOp}{x y:AV}{u v:Value}{c1 c2:Δ}{K:AV->Prop}(f:Ac w S [x] [u] c1)(g:Ac w S [y] [v] c2)(h:Hs o x y K)(t:TypeId):
 ∃r z,(binOp o t u v).run P w=.ok r w/\K z/\pb z=true/\Ac w S [z] [r] (λ_=>0)/\(∀(a b:Operand),(eqGuard o t a b u v).run P w=.ok () w):=by
 unfold Hs at h;split at h
 .rename_i K k a j b;obtain⟨rfl,_,_⟩:=Az f;obtain⟨rfl,_,_⟩:=Az g;have e:∀(p q:Operand),(eqGuard o t p q (.int k a) (.int j b)).run P w=.ok () w:=by intro p q;unfold eqGuard;split<;>simp
  cases o<;>simp only[]at h<;>first
   |exact h.elim
   |(obtain⟨rfl,c⟩:=h;exact⟨_,_,by simp[binOp,Op.intArith,Op.intCmp,Op.intBits],c,rfl,C2 rfl Al,e⟩)
   |(obtain⟨rfl,i,c⟩:=h;exact⟨_,_,by simp[binOp,Op.intDiv,i],c,rfl,C2 rfl Al,e⟩)
   |(obtain⟨i,c⟩:=h;exact⟨_,_,by simp[binOp,Op.shift,show¬b<0 by omega],c,rfl,C2 rfl Al,e⟩)
 .rename_i K s d;obtain⟨rfl,_,_⟩:=Az f;obtain⟨rfl,_,_⟩:=Az g;have e:∀(p q:Operand),(eqGuard o t p q (.string s) (.string d)).run P w=.ok () w:=by intro p q;unfold eqGuard;split<;>simp
  cases o<;>simp only[]at h<;>first
   |exact h.elim
   |(obtain⟨n,c⟩:=h
     refine⟨_,_,?_,c,rfl,C2 rfl Al,e⟩;have l:¬IntKind.i64.max<((s.size+d.size:Nat):Int):=by have:(IntKind.i64.max:Int)=9223372036854775807:=rfl;have e1:s.data.toList.length=s.size:=rfl;have e2:d.data.toList.length=d.size:=rfl;omega
     have m:s++d=⟨(s.data.toList++d.data.toList).toArray⟩:=by cases s;cases d;simp;rfl
     simp only[binOp,Op.stringOp];rw[Sem.run_ite,ar l,m];rfl)
   |exact⟨_,_,by simp[binOp,Op.stringOp,ByteArray.toList_eq],h,rfl,C2 rfl Al,e⟩
 grind
def Ajh{o:UnOp}{x:AV}{u:Value}{c1:Δ}{K:AV->Prop}(a:Ac w S [x] [u] c1)(h:WE o x K):
 ∃r z,(Op.unary o u).run P w=.ok r w/\K z/\pb z=true/\Ac w S [z] [r] (λ_=>0):=by
 unfold WE at h;split at h
 .obtain⟨rfl,_,_⟩:=Az a
  cases o<;>simp only[]at h<;>first
   |exact h.elim
   |exact⟨_,_,by simp[Op.unary],h,rfl,C2 rfl Al⟩
 .obtain⟨rfl,_,_⟩:=Az a
  cases o<;>simp only[]at h<;>first
   |exact h.elim
   |exact⟨_,_,by simp[Op.unary,Op.intArith],h,rfl,C2 rfl Al⟩
 grind
def Jr{x:AV}{v c}(h:Ac w S [x] [v] c)(a:Lb x=true):Ac w S (cellsOf x) v.cells.toList c/\(∀u∈v.cells.toList,u.oneCell'=true)/\v.cells.size=(cellsOf x).length:=by
 cases h with
 |any h=>simp[Lb]at a
 |raw h1 h=>
  have d:v.cells= #[v]:=by cases v<;>simp_all [Value.cells,Value.oneCell']
  rw[d];exact⟨.raw h1 h,by simpa using h1,rfl⟩
 |agg h1 hoc h hcc=>
  cases h with|nil hz=>
  refine⟨?_,by simpa[Value.cells]using hoc,by have:=h1.length;simpa[Value.cells,cellsOf]using this⟩;simpa[Value.cells,cellsOf]using h1.congr λb=>by rw[hcc,hz b];omega
 |a6 h1 h hcc=>simp[Lb]at a
 |gn h=>exact⟨.gn h,by simp[Value.cells,Value.oneCell'],rfl⟩
 |j4 hcap h=>exact⟨.j4 hcap h,by simp[Value.cells,Value.oneCell'],rfl⟩
 |sl hn hcap hsp hk h1 h0 hcell hst h=>exact⟨.sl hn hcap hsp hk h1 h0 hcell hst h,by simp[Value.cells,Value.oneCell'],rfl⟩
 |g9 h=>exact⟨.g9 h,by simp[Value.cells,Value.oneCell'],rfl⟩
 |own hn hcap hk hb hs' hS' h1 h0 hoc h hcc=>exact⟨.own hn hcap hk hb hs' hS' h1 h0 hoc h hcc,by simp[Value.cells,Value.oneCell'],rfl⟩
 |box hb hS' h1 hoc h hcc=>simp[Lb]at a
 |ref h=>simp[Lb]at a
 |alias h=>simp[Lb]at a
 |pref h=>simp[Lb]at a
 |bp hb hS' h1 hoc h hcc=>simp[Lb]at a
 |bw hb hS' hks hbn h1 h hcc=>simp[Lb]at a
 |fu hsp h1 h0 hcell hst h=>simp[Lb]at a
 |ls hcap hsp hk h1 h0 hcell hst h=>exact⟨.ls hcap hsp hk h1 h0 hcell hst h,by simp[Value.cells,Value.oneCell'],rfl⟩
 |ge h=>simp[Lb]at a
 |dt h=>exact⟨.dt h,by simp[Value.cells,Value.oneCell'],rfl⟩
 |ee h1 h0 h=>exact⟨.ee h1 h0 h,by simp[Value.cells,Value.oneCell'],rfl⟩
 |mm h=>simp[Lb]at a
 |row hn hcap hk hb hs' hS' h1 h0 hoc h hcc=>simp[Lb]at a
 |mine hn hcap hk hb hs' hS' h1 h0 hoc h hcc=>exact⟨.mine hn hcap hk hb hs' hS' h1 h0 hoc h hcc,by simp[Value.cells,Value.oneCell'],rfl⟩
 |elt hsp h1 h0 hcell hst h=>exact⟨.elt hsp h1 h0 hcell hst h,by simp[Value.cells,Value.oneCell'],rfl⟩
def Ac.part{d:Φ}{vs:ϴ}{c}(h:Ac w S d vs c)(off n:Nat):
 ∃c1 c2:Δ,Ac w S (aq d off n) ((vs.drop off).take n) c1/\(∀ys us (cy:Δ),Ac w S ys us cy->∃i,Ac w S (bv d off n ys) (vs.take off++us++vs.drop (off+n)) i/\∀b,i b=cy b+c2 b)/\∀b,c b=c1 b+c2 b:=by
 have e1:d=d.take off++(aq d off n++d.drop (off+n)):=by rw[aq,<-ob,ki,ki]
 have l:=h.length;rw[e1]at h;obtain⟨f,B,m,C,rfl,h1,o,D⟩:=h.ku;obtain⟨e,u,p,q,rfl,r,j,s⟩:=o.ku;have t:=h1.length;have v:=r.length;have x:=j.length;simp only[dc]at l;simp only[aq,fw,jb]at t v x;refine⟨p,λb=>m b+q b,?_,?_,λb=>by grind⟩
 have:((f++(e++u)).drop off).take n=e:=by
  by_cases k:off<=d.length;rw[sv om];have:f.drop off=[]:=n9 om;rw[this,fm];by_cases E:n<=d.length-off
  grind
  have a:u=[]:=kq om;rw[a,gy];exact Are om;have g:e=[]:=kq om;have a:u=[]:=kq om
  grind
 grind
 intro ys us cy y
 have z:(f++(e++u)).take off=f:=by
  by_cases k:off<=d.length
  grind
  have g:e=[]:=kq om;have a:u=[]:=kq om;rw[g,a,gy,gy];exact Are om
 have A:(f++(e++u)).drop (off+n)=u:=by
  rw[<-ir];by_cases k:off+n<=d.length;have:(f++e).length=off+n:=by simp;omega
  grind
  have a:u=[]:=kq om;rw[a,gy];exact n9 (by simp;omega)
 rw[z,A];refine⟨_,du (du h1 y (λb=>rfl)) j (λb=>rfl),λb=>by grind⟩
theorem Ac.nl{a:Φ}{vs:ϴ}{c}(h:Ac w S a vs c)(off n:Nat):∃c1:Δ,Ac w S (aq a off n) ((vs.drop off).take n) c1/\∀b,c1 b<=c b:=by
 obtain⟨c1,c2,h1,_,d⟩:=h.part off n
 grind
def G9{d:Φ}{a:ϴ}{c}(h:Ac w S d a c)(f:∀u∈a,u.oneCell'=true)(agg:Bool)(g:agg=false->d.length=1):
 Ac w S [em agg d] [if agg then .agg a.toArray else a.headD undef] c:=by
 cases agg with
 |true=>exact .agg h f (.nil Al) (λb=>oS)
 |false=>
  have i:=g rfl;have e:=h.length
  match d,a,i,e with
  |[x],[v],_,_=>exact h
end
end
end Go.Proofs.YtobhohikfmlccaaGreatDoor
