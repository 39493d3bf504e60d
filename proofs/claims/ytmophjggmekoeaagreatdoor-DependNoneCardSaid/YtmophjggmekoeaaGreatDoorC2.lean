/- A logic without worlds for Go functions that compute on data: values, what they stand for in .. -/
import Derived.Below
import Derived.Lib.Hide
import Derived.Laws.OwnMore
import Derived.Laws.IdiomStrings
import Derived.Laws.BytesArg
import Derived.Shelf.Abstract
import Derived.Test.YtmophjggmekoeaaGreatDoorC1
set_option linter.all false
namespace Go.Proofs.YtmophjggmekoeaaGreatDoor
section
open Go.RowKit
inductive AV where
 |any
 |raw (v:Value)
 |agg (cs:List AV)
 |tup (cs:List AV)
 |nil
 |sl (k:Nat) (es:List AV)
 |own (e k:Nat) (es:List AV)
 |box (T:Nat) (cs:List AV)
 |ref (s off:Nat)
 |elt (x:AV)
 |row (e k:Nat) (es:List AV)
 |alias (s:Nat)
 |mine (e k:Nat) (es:List AV)
 |clo (g:Nat) (cs:List AV)
 |yld (l:Nat) (st:Option Nat)
 |pref (s k j o:Nat)
 |slx (k:Nat) (es zs:List AV)
 |nbox (b T:Nat) (cs:List AV)
 |nmap (b:Nat) (ks:List Value) (vs:List AV)
 |nelt (ad:Addr) (x:AV)
def cellsOf:AV→List AV
 |.agg cs=>cs
 |x=>[x]
def flat:List AV→List AV
 |[]=>[]
 |x::xs=>cellsOf x++flat xs
def Zc (c:Nat→Nat):Prop:=∀b,c b=0
inductive Aa (w:World) (S:Nat→Nat):List AV→List Value→(Nat→Nat)→Prop
 |nil {c} (hc:Zc c):Aa w S [] [] c
 |any {v xs us c} (h:Aa w S xs us c):Aa w S (.any::xs) (v::us) c
 |raw {v xs us c} (h1:v.oneCell'=true) (h:Aa w S xs us c):Aa w S (.raw v::xs) (v::us) c
 |agg {cs vs xs us c c1 c2} (h1:Aa w S cs vs c1) (ho:∀u∈vs,u.oneCell'=true) (h:Aa w S xs us c2) (hc:∀b,c b=c1 b+c2 b):Aa w S (.agg cs::xs) (.agg vs.toArray::us) c
 |tup {cs vs xs us c c1 c2} (h1:Aa w S cs vs c1) (h:Aa w S xs us c2) (hc:∀b,c b=c1 b+c2 b):Aa w S (.tup cs::xs) (.tuple vs.toArray::us) c
 |nilS {xs us c} (h:Aa w S xs us c):Aa w S (.nil::xs) (.slice none 0 0::us) c
 |slE {k a cap xs us c} (hcap:cap≤maxLen) (h:Aa w S xs us c):Aa w S (.sl k []::xs) (.slice a 0 cap::us) c
 |sl {k es ad cap cv xs us c c0} (hn:es.length≤cap) (hcap:cap≤maxLen) (hsp:ad.spot=none) (hk:∀x∈es,(cellsOf x).length=k) (h1:Aa w S (flat es) cv c0) (h0:Zc c0)
  (hcell:∀j u,cv[j]? =some u→w.cell? ⟨ad.block,ad.off+j,none⟩=some u∧u.oneCell'=true) (hst:ad.off+cv.length≤S ad.block) (h:Aa w S xs us c):
  Aa w S (.sl k es::xs) (.slice (some ad) es.length cap::us) c
 |ownE {e k xs us c} (h:Aa w S xs us c):Aa w S (.own e k []::xs) (.slice none 0 0::us) c
 |own {e k es b cap cur xs us c c0 c2} (hn:es.length≤cap) (hcap:cap≤maxLen) (hk:∀x∈es,(cellsOf x).length=k) (hb:w.heap[b]? =some (.cells cur e (0,0))) (hs:cur.size=cap*k)
  (hS:S b=es.length*k) (h1:Aa w S (flat es) (cur.toList.take (es.length*k)) c0) (h0:Zc c0) (ho:∀u∈cur.toList.take (es.length*k),u.oneCell'=true) (h:Aa w S xs us c2) (hc:∀x,c x=(if x=b then 1 else 0)+c2 x):
  Aa w S (.own e k es::xs) (.slice (some ⟨b,0,none⟩) es.length cap::us) c
 |box {b T cs cur xs us c c1 c2} (hb:w.heap[b]? =some (.cells cur T (0,0))) (hS:S b=0) (h1:Aa w S cs cur.toList c1) (ho:∀u∈cur.toList,u.oneCell'=true) (h:Aa w S xs us c2) (hc:∀x,c x=(if x=b then 1 else 0)+(c1 x+c2 x)):
  Aa w S (.box T cs::xs) (.pointer (some ⟨b,0,none⟩)::us) c
 |ref {s off v xs us c} (h:Aa w S xs us c):Aa w S (.ref s off::xs) (v::us) c
 |elt {x ad cv xs us c c0} (hsp:ad.spot=none) (h1:Aa w S (cellsOf x) cv c0) (h0:Zc c0)
  (hcell:∀j u,cv[j]? =some u→w.cell? ⟨ad.block,ad.off+j,none⟩=some u∧u.oneCell'=true) (hst:ad.off+cv.length≤S ad.block) (h:Aa w S xs us c):
  Aa w S (.elt x::xs) (.pointer (some ad)::us) c
 |rowE {e k xs us c} (h:Aa w S xs us c):Aa w S (.row e k []::xs) (.slice none 0 0::us) c
 |row {e k es b cap cur xs us c c0 c2} (hn:es.length≤cap) (hcap:cap≤maxLen) (hk:∀x∈es,(cellsOf x).length=k) (hb:w.heap[b]? =some (.cells cur e (0,0))) (hs:cur.size=cap*k)
  (hS:S b=0) (h1:Aa w S (flat es) (cur.toList.take (es.length*k)) c0) (h0:Zc c0) (ho:∀u∈cur.toList.take (es.length*k),u.oneCell'=true) (h:Aa w S xs us c2) (hc:∀x,c x=(if x=b then 1 else 0)+c2 x):
  Aa w S (.row e k es::xs) (.slice (some ⟨b,0,none⟩) es.length cap::us) c
 |alias {s v xs us c} (h:Aa w S xs us c):Aa w S (.alias s::xs) (v::us) c
 |mineE {e k xs us c} (h:Aa w S xs us c):Aa w S (.mine e k []::xs) (.slice none 0 0::us) c
 |mine {e k es b cap cur xs us c c0 c2} (hn:es.length≤cap) (hcap:cap≤maxLen) (hk:∀x∈es,(cellsOf x).length=k) (hb:w.heap[b]? =some (.cells cur e (0,0))) (hs:cur.size=cap*k)
  (hS:S b=0) (h1:Aa w S (flat es) (cur.toList.take (es.length*k)) c0) (h0:Zc c0) (ho:∀u∈cur.toList.take (es.length*k),u.oneCell'=true) (h:Aa w S xs us c2) (hc:∀x,c x=(if x=b then 1 else 0)+c2 x):
  Aa w S (.mine e k es::xs) (.slice (some ⟨b,0,none⟩) es.length cap::us) c
 |clo {g cs vs xs us c c0} (h1:Aa w S cs vs c0) (h0:Zc c0) (h:Aa w S xs us c):Aa w S (.clo g cs::xs) (.func (.func g) #[] vs.toArray::us) c
 |yld {l st xs us c} (h:Aa w S xs us c):Aa w S (.yld l st::xs) (.func (.yield l) #[] #[]::us) c
 |pref {s k j o v xs us c} (h:Aa w S xs us c):Aa w S (.pref s k j o::xs) (v::us) c
 |slx {k es zs ad cv xs us c c0} (hcap:es.length+zs.length≤maxLen) (hsp:ad.spot=none) (hk:∀x∈es++zs,(cellsOf x).length=k) (h1:Aa w S (flat (es++zs)) cv c0) (h0:Zc c0)
  (hcell:∀j u,cv[j]? =some u→w.cell? ⟨ad.block,ad.off+j,none⟩=some u∧u.oneCell'=true) (hst:ad.off+cv.length≤S ad.block) (h:Aa w S xs us c):
  Aa w S (.slx k es zs::xs) (.slice (some ad) es.length (es.length+zs.length)::us) c
 |nbox {b T cs cur v xs us c c1 c2} (hb:w.heap[b]? =some (.cells cur T (0,0))) (hS:S b=0) (h1:Aa w S cs cur.toList c1) (ho:∀u∈cur.toList,u.oneCell'=true) (h:Aa w S xs us c2) (hc:∀x,c x=(if x=b then 1 else 0)+(c1 x+c2 x)):
  Aa w S (.nbox b T cs::xs) (v::us) c
 |nmap {b ks vs es k v xs us c c1 c2} (hb:w.heap[b]? =some (.map es k)) (hS:S b=0) (hks:es.toList.map (·.key)=ks) (hbn:(es.toList.map (·.born)).Pairwise (·< ·)∧∀e∈es.toList,e.born<k) (h1:Aa w S vs (es.toList.map (·.val)) c1) (h:Aa w S xs us c2) (hc:∀x,c x=(if x=b then 1 else 0)+(c1 x+c2 x)):
  Aa w S (.nmap b ks vs::xs) (v::us) c
 |nelt {ad x cv v xs us c c0} (hsp:ad.spot=none) (h1:Aa w S (cellsOf x) cv c0) (h0:Zc c0)
  (hcell:∀j u,cv[j]? =some u→w.cell? ⟨ad.block,ad.off+j,none⟩=some u∧u.oneCell'=true) (hst:ad.off+cv.length≤S ad.block) (h:Aa w S xs us c):
  Aa w S (.nelt ad x::xs) (v::us) c
section
variable {w w' : World} {S S' : Nat → Nat}
theorem Aa.congr {xs vs c c'} (h:Aa w S xs vs c) (hc:∀b,c' b=c b):Aa w S xs vs c':=by have:c'=c:=funext hc;rw[this];exact h
theorem Aa.length {xs vs c} (h:Aa w S xs vs c):vs.length=xs.length:=by induction h<;>simp_all
theorem Aa.keep {xs vs c} (h:Aa w S xs vs c) (hs:∀b o,o<S b→w'.cell? ⟨b,o,none⟩=w.cell? ⟨b,o,none⟩) (hS:∀b,S b≤S' b)
 (ho:∀b,0<c b→w'.heap[b]? =w.heap[b]?∧S' b=S b):Aa w' S' xs vs c:=by
 induction h with
 |nil hc=>exact .nil hc
 |any h ih=>exact .any (ih ho)
 |raw h1 h ih=>exact .raw h1 (ih ho)
 |agg h1 hoc h hc ih1 ih=>exact .agg (ih1 fun b hb=>ho b (by rw[hc];omega)) hoc (ih fun b hb=>ho b (by rw[hc];omega)) hc
 |tup h1 h hc ih1 ih=>exact .tup (ih1 fun b hb=>ho b (by rw[hc];omega)) (ih fun b hb=>ho b (by rw[hc];omega)) hc
 |nilS h ih=>exact .nilS (ih ho)
 |slE hcap h ih=>exact .slE hcap (ih ho)
 |sl hn hcap hsp hk h1 h0 hcell hst h ih1 ih=>refine .sl hn hcap hsp hk (ih1 fun b hb=>absurd (h0 b) om) h0 (fun j u hj=> ?_) (Ax1 hst (hS _)) (ih ho);exact AhW
 |ownE h ih=>exact .ownE (ih ho)
 |own hn hcap hk hb hs' hS' h1 h0 hoc h hc ih1 ih=>rename_i e k es b cap cur xs us c c0 c2;have hob:=ho b (by rw[hc];simp;omega);exact .own hn hcap hk (hob.1.trans hb) hs' (hob.2.trans hS') (ih1 fun b hb=>absurd (h0 b) om) h0 hoc (ih fun x hx=>ho x (by rw[hc];omega)) hc
 |box hb hS' h1 hoc h hc ih1 ih=>rename_i b T cs cur xs us c c1 c2;have hob:=ho b (by rw[hc];simp;omega);exact .box (hob.1.trans hb) (hob.2.trans hS') (ih1 fun x hx=>ho x (by rw[hc];omega)) hoc (ih fun x hx=>ho x (by rw[hc];omega)) hc
 |ref h ih=>exact .ref (ih ho)
 |alias h ih=>exact .alias (ih ho)
 |rowE h ih=>exact .rowE (ih ho)
 |mineE h ih=>exact .mineE (ih ho)
 |clo h1 h0 h ih1 ih=>exact .clo (ih1 fun b hb=>absurd (h0 b) om) h0 (ih ho)
 |yld h ih=>exact .yld (ih ho)
 |pref h ih=>exact .pref (ih ho)
 |nbox hb hS' h1 hoc h hc ih1 ih=>rename_i b T cs cur v xs us c c1 c2;have hob:=ho b (by rw[hc];simp;omega);exact .nbox (hob.1.trans hb) (hob.2.trans hS') (ih1 fun x hx=>ho x (by rw[hc];omega)) hoc (ih fun x hx=>ho x (by rw[hc];omega)) hc
 |nmap hb hS' hks hbn h1 h hc ih1 ih=>rename_i b ks vs es k v xs us c c1 c2;have hob:=ho b (by rw[hc];simp;omega);exact .nmap (hob.1.trans hb) (hob.2.trans hS') hks hbn (ih1 fun x hx=>ho x (by rw[hc];omega)) (ih fun x hx=>ho x (by rw[hc];omega)) hc
 |slx hcap hsp hk h1 h0 hcell hst h ih1 ih=>refine .slx hcap hsp hk (ih1 fun b hb=>absurd (h0 b) om) h0 (fun j u hj=> ?_) (Ax1 hst (hS _)) (ih ho);exact AhW
 |row hn hcap hk hb hs' hS' h1 h0 hoc h hc ih1 ih=>rename_i e k es b cap cur xs us c c0 c2;have hob:=ho b (by rw[hc];simp;omega);exact .row hn hcap hk (hob.1.trans hb) hs' (hob.2.trans hS') (ih1 fun b hb=>absurd (h0 b) om) h0 hoc (ih fun x hx=>ho x (by rw[hc];omega)) hc
 |mine hn hcap hk hb hs' hS' h1 h0 hoc h hc ih1 ih=>rename_i e k es b cap cur xs us c c0 c2;have hob:=ho b (by rw[hc];simp;omega);exact .mine hn hcap hk (hob.1.trans hb) hs' (hob.2.trans hS') (ih1 fun b hb=>absurd (h0 b) om) h0 hoc (ih fun x hx=>ho x (by rw[hc];omega)) hc
 |elt hsp h1 h0 hcell hst h ih1 ih=>refine .elt hsp (ih1 fun b hb=>absurd (h0 b) om) h0 (fun j u hj=> ?_) (Ax1 hst (hS _)) (ih ho);exact AhW
 |nelt hsp h1 h0 hcell hst h ih1 ih=>refine .nelt hsp (ih1 fun b hb=>absurd (h0 b) om) h0 (fun j u hj=> ?_) (Ax1 hst (hS _)) (ih ho);exact AhW
theorem Aa.cons {x v c1 xs us c2 c} (h1:Aa w S [x] [v] c1) (h2:Aa w S xs us c2) (hc:∀b,c b=c1 b+c2 b):Aa w S (x::xs) (v::us) c:=by
 cases h1 with
 |any h=>cases h with|nil hz=>exact .any (h2.congr fun b=>by rw[hc,hz b];omega)
 |raw h1 h=>cases h with|nil hz=>exact .raw h1 (h2.congr fun b=>by rw[hc,hz b];omega)
 |agg h1 hoc h hcc=>cases h with|nil hz=>exact .agg h1 hoc h2 fun b=>by rw[hc,hcc,hz b];omega
 |tup h1 h hcc=>cases h with|nil hz=>exact .tup h1 h2 fun b=>by rw[hc,hcc,hz b];omega
 |nilS h=>cases h with|nil hz=>exact .nilS (h2.congr fun b=>by rw[hc,hz b];omega)
 |slE hcap h=>cases h with|nil hz=>exact .slE hcap (h2.congr fun b=>by rw[hc,hz b];omega)
 |sl hn hcap hsp hk h1 h0 hcell hst h=>cases h with|nil hz=>exact .sl hn hcap hsp hk h1 h0 hcell hst (h2.congr fun b=>by rw[hc,hz b];omega)
 |ownE h=>cases h with|nil hz=>exact .ownE (h2.congr fun b=>by rw[hc,hz b];omega)
 |own hn hcap hk hb hs' hS' h1 h0 hoc h hcc=>cases h with|nil hz=>exact .own hn hcap hk hb hs' hS' h1 h0 hoc h2 fun x=>by rw[hc,hcc,hz x];omega
 |box hb hS' h1 hoc h hcc=>cases h with|nil hz=>exact .box hb hS' h1 hoc h2 fun x=>by rw[hc,hcc,hz x];omega
 |ref h=>cases h with|nil hz=>exact .ref (h2.congr fun b=>by rw[hc,hz b];omega)
 |alias h=>cases h with|nil hz=>exact .alias (h2.congr fun b=>by rw[hc,hz b];omega)
 |rowE h=>cases h with|nil hz=>exact .rowE (h2.congr fun b=>by rw[hc,hz b];omega)
 |mineE h=>cases h with|nil hz=>exact .mineE (h2.congr fun b=>by rw[hc,hz b];omega)
 |clo h1 h0 h=>cases h with|nil hz=>exact .clo h1 h0 (h2.congr fun b=>by rw[hc,hz b];omega)
 |yld h=>cases h with|nil hz=>exact .yld (h2.congr fun b=>by rw[hc,hz b];omega)
 |pref h=>cases h with|nil hz=>exact .pref (h2.congr fun b=>by rw[hc,hz b];omega)
 |nbox hb hS h1 hoc h hcc=>cases h with|nil hz=>exact .nbox hb hS h1 hoc h2 fun x=>by rw[hc,hcc,hz x];omega
 |nmap hb hS hks hbn h1 h hcc=>cases h with|nil hz=>exact .nmap hb hS hks hbn h1 h2 fun x=>by rw[hc,hcc,hz x];omega
 |slx hcap hsp hk h1 h0 hcell hst h=>cases h with|nil hz=>exact .slx hcap hsp hk h1 h0 hcell hst (h2.congr fun b=>by rw[hc,hz b];omega)
 |row hn hcap hk hb hs' hS' h1 h0 hoc h hcc=>cases h with|nil hz=>exact .row hn hcap hk hb hs' hS' h1 h0 hoc h2 fun x=>by rw[hc,hcc,hz x];omega
 |mine hn hcap hk hb hs' hS' h1 h0 hoc h hcc=>cases h with|nil hz=>exact .mine hn hcap hk hb hs' hS' h1 h0 hoc h2 fun x=>by rw[hc,hcc,hz x];omega
 |elt hsp h1 h0 hcell hst h=>cases h with|nil hz=>exact .elt hsp h1 h0 hcell hst (h2.congr fun b=>by rw[hc,hz b];omega)
 |nelt hsp h1 h0 hcell hst h=>cases h with|nil hz=>exact .nelt hsp h1 h0 hcell hst (h2.congr fun b=>by rw[hc,hz b];omega)
theorem Al:Zc (fun _=>0):=fun _=>rfl
theorem Aa.uncons {x xs vs c} (h:Aa w S (x::xs) vs c):∃v us c1 c2,vs=v::us∧Aa w S [x] [v] c1∧Aa w S xs us c2∧∀b,c b=c1 b+c2 b:=by
 cases h with
 |any h=>exact⟨_,_,fun _=>0,c,rfl,.any (.nil Al),h,fun b=>oS⟩
 |raw h1 h=>exact⟨_,_,fun _=>0,c,rfl,.raw h1 (.nil Al),h,fun b=>oS⟩
 |agg h1 hoc h hcc=>exact⟨_,_,_,_,rfl,.agg h1 hoc (.nil Al) (fun b=>oS),h,hcc⟩
 |tup h1 h hcc=>exact⟨_,_,_,_,rfl,.tup h1 (.nil Al) (fun b=>oS),h,hcc⟩
 |nilS h=>exact⟨_,_,fun _=>0,c,rfl,.nilS (.nil Al),h,fun b=>oS⟩
 |slE hcap h=>exact⟨_,_,fun _=>0,c,rfl,.slE hcap (.nil Al),h,fun b=>oS⟩
 |sl hn hcap hsp hk h1 h0 hcell hst h=>exact⟨_,_,fun _=>0,c,rfl,.sl hn hcap hsp hk h1 h0 hcell hst (.nil Al),h,fun b=>oS⟩
 |ownE h=>exact⟨_,_,fun _=>0,c,rfl,.ownE (.nil Al),h,fun b=>oS⟩
 |own hn hcap hk hb hs' hS' h1 h0 hoc h hcc=>exact⟨_,_,_,_,rfl,.own hn hcap hk hb hs' hS' h1 h0 hoc (.nil Al) (fun x=>rfl),h,fun x=>by rw[hcc];simp⟩
 |box hb hS' h1 hoc h hcc=>exact⟨_,_,_,_,rfl,.box hb hS' h1 hoc (.nil Al) (fun x=>rfl),h,fun x=>by rw[hcc];simp;omega⟩
 |ref h=>exact⟨_,_,fun _=>0,c,rfl,.ref (.nil Al),h,fun b=>oS⟩
 |alias h=>exact⟨_,_,fun _=>0,c,rfl,.alias (.nil Al),h,fun b=>oS⟩
 |rowE h=>exact⟨_,_,fun _=>0,c,rfl,.rowE (.nil Al),h,fun b=>oS⟩
 |mineE h=>exact⟨_,_,fun _=>0,c,rfl,.mineE (.nil Al),h,fun b=>oS⟩
 |clo h1 h0 h=>exact⟨_,_,fun _=>0,c,rfl,.clo h1 h0 (.nil Al),h,fun b=>oS⟩
 |yld h=>exact⟨_,_,fun _=>0,c,rfl,.yld (.nil Al),h,fun b=>oS⟩
 |pref h=>exact⟨_,_,fun _=>0,c,rfl,.pref (.nil Al),h,fun b=>oS⟩
 |nbox hb hS h1 hoc h hcc=>exact⟨_,_,_,_,rfl,.nbox hb hS h1 hoc (.nil Al) (fun x=>rfl),h,fun x=>by rw[hcc];simp;omega⟩
 |nmap hb hS hks hbn h1 h hcc=>exact⟨_,_,_,_,rfl,.nmap hb hS hks hbn h1 (.nil Al) (fun x=>rfl),h,fun x=>by rw[hcc];simp;omega⟩
 |slx hcap hsp hk h1 h0 hcell hst h=>exact⟨_,_,fun _=>0,c,rfl,.slx hcap hsp hk h1 h0 hcell hst (.nil Al),h,fun b=>oS⟩
 |row hn hcap hk hb hs' hS' h1 h0 hoc h hcc=>exact⟨_,_,_,_,rfl,.row hn hcap hk hb hs' hS' h1 h0 hoc (.nil Al) (fun x=>rfl),h,fun x=>by rw[hcc];simp⟩
 |mine hn hcap hk hb hs' hS' h1 h0 hoc h hcc=>exact⟨_,_,_,_,rfl,.mine hn hcap hk hb hs' hS' h1 h0 hoc (.nil Al) (fun x=>rfl),h,fun x=>by rw[hcc];simp⟩
 |elt hsp h1 h0 hcell hst h=>exact⟨_,_,fun _=>0,c,rfl,.elt hsp h1 h0 hcell hst (.nil Al),h,fun b=>oS⟩
 |nelt hsp h1 h0 hcell hst h=>exact⟨_,_,fun _=>0,c,rfl,.nelt hsp h1 h0 hcell hst (.nil Al),h,fun b=>oS⟩
theorem Aa.zero {vs c} (h:Aa w S [] vs c):vs=[]∧Zc c:=by cases h with|nil hc=>exact⟨rfl,hc⟩
theorem Aa.app {xs vs c1} (h:Aa w S xs vs c1):∀{ys us c2 c},Aa w S ys us c2→(∀b,c b=c1 b+c2 b)→Aa w S (xs++ys) (vs++us) c:=by
 induction xs generalizing vs c1 with
 |nil=>intro ys us c2 c h2 hc;obtain⟨rfl,hz⟩:=h.zero;exact h2.congr fun b=>by rw[hc,hz b];omega
 |cons x xs ih=>intro ys us c2 c h2 hc;obtain⟨v,us',d1,d2,rfl,h1,h3,hd⟩:=h.uncons;exact Aa.cons h1 (ih h3 h2 (fun b=>rfl)) (fun b=>by rw[hc,hd];omega)
theorem Aa.unapp {xs ys:List AV} {vs c} (h:Aa w S (xs++ys) vs c):∃us1 us2 c1 c2,vs=us1++us2∧Aa w S xs us1 c1∧Aa w S ys us2 c2∧∀b,c b=c1 b+c2 b:=by
 induction xs generalizing vs c with
 |nil=>exact⟨[],vs,fun _=>0,c,rfl,.nil Al,h,fun b=>oS⟩
 |cons x xs ih=>obtain⟨v,us',d1,d2,rfl,h1,h3,hd⟩:=Aa.uncons (xs:=xs++ys) h;obtain⟨u1,u2,e1,e2,rfl,h4,h5,he⟩:=ih h3;exact⟨v::u1,u2,_,e2,rfl,Aa.cons h1 h4 (fun b=>rfl),h5,fun b=>by rw[hd,he];omega⟩
theorem Aa.take {xs vs c} (h:Aa w S xs vs c):∀(i:Nat) {x:AV},xs[i]? =some x→∃v c1 c2,vs[i]? =some v∧Aa w S [x] [v] c1∧Aa w S (xs.set i .any) vs c2∧∀b,c b=c1 b+c2 b:=by
 induction xs generalizing vs c with
 |nil=>intro i x hx;simp at hx
 |cons y xs ih=>
  intro i x hx;obtain⟨v,us',d1,d2,rfl,h1,h3,hd⟩:=h.uncons
  cases i with
  |zero=>simp at hx;subst hx;exact⟨v,d1,d2,rfl,h1,.any h3,hd⟩
  |succ i=>obtain⟨v',e1,e2,hv,h4,h5,he⟩:=ih h3 i (by simpa using hx);exact⟨v',e1,_,by simpa using hv,h4,Aa.cons h1 h5 (fun b=>rfl),fun b=>by rw[hd,he];omega⟩
theorem Aa.put {xs vs c} (h:Aa w S xs vs c) {y:AV} {u:Value} {cy:Nat→Nat} (hy:Aa w S [y] [u] cy):∀(i:Nat),i<xs.length→
 ∃c',Aa w S (xs.set i y) (vs.set i u) c'∧∀b,c' b≤cy b+c b:=by
 induction xs generalizing vs c with
 |nil=>intro i hi;simp at hi
 |cons x xs ih=>
  intro i hi;obtain⟨v,us',d1,d2,rfl,h1,h3,hd⟩:=h.uncons
  cases i with
  |zero=>exact⟨_,Aa.cons hy h3 (fun b=>rfl),fun b=>by rw[hd];omega⟩
  |succ i=>obtain⟨c',h4,h5⟩:=ih h3 i (by simpa using hi);exact⟨_,Aa.cons h1 h4 (fun b=>rfl),fun b=>by have:=h5 b;rw[hd];omega⟩
theorem Aa.fill {xs vs c} (h:Aa w S xs vs c) {y:AV} {u:Value} {cy:Nat→Nat} (hy:Aa w S [y] [u] cy):∀(i:Nat),xs[i]? =some .any→
 Aa w S (xs.set i y) (vs.set i u) (fun b=>cy b+c b):=by
 induction xs generalizing vs c with
 |nil=>intro i hi;simp at hi
 |cons x xs ih=>
  intro i hi;obtain⟨v,us',d1,d2,rfl,h1,h3,hd⟩:=h.uncons
  cases i with
  |zero=>
   simp at hi;subst hi;have hz:Zc d1:=by cases h1 with|any h=>cases h with|nil hz=>exact hz
   exact Aa.cons hy h3 (fun b=>by rw[hd,hz b];omega)
  |succ i=>exact Aa.cons h1 (ih h3 i (by simpa using hi)) (fun b=>by rw[hd];omega)
def v1:AV→AV
 |.own _ k es=>.sl k es
 |.box _ _=>.any
 |.ref _ _=>.any
 |.row _ _ _=>.any
 |.alias _=>.any
 |.pref _ _ _ _=>.any
 |.nbox _ _ _=>.any
 |.nmap _ _ _=>.any
 |.mine _ _ _=>.any
 |.agg _=>.any
 |.tup _=>.any
 |x=>x
def v2:AV→AV
 |.agg cs=>.agg (cs.map v1)
 |x=>v1 x
def view:AV→AV
 |.tup cs=>.tup (cs.map v2)
 |x=>v2 x
theorem Aa.v1 {x v c} (h:Aa w S [x] [v] c):Aa w S [v1 x] [v] (fun _=>0):=by
 cases h with
 |any h=>exact .any (.nil Al)
 |raw h1 h=>exact .raw h1 (.nil Al)
 |agg h1 hoc h hcc=>exact .any (.nil Al)
 |tup h1 h hcc=>exact .any (.nil Al)
 |nilS h=>exact .nilS (.nil Al)
 |slE hcap h=>exact .slE hcap (.nil Al)
 |sl hn hcap hsp hk h1 h0 hcell hst h=>exact .sl hn hcap hsp hk h1 h0 hcell hst (.nil Al)
 |ownE h=>exact .slE oD (.nil Al)
 |own hn hcap hk hb hs' hS' h1 h0 hoc h hcc=>
  rename_i e k es b cap cur c0 c2;refine .sl (c0:=c0) (ad:=⟨b,0,none⟩) hn hcap rfl hk h1 h0 (fun j u hj=> ?_) ?_ (.nil Al)
  ·refine ⟨?_,hoc u (Axt hj)⟩;have hj':=hj;rw[List.getElem?_take]at hj';split at hj'
   ·simp only[Ayc];rw[cell_of_row w b j cur e (0,0) hb];simpa using hj'
   ·cases hj'
  ·have hl:=h1.length;have:(cur.toList.take (es.length*k)).length≤es.length*k:=by simp;omega
   simp only[hS'];omega
 |box hb hS' h1 hoc h hcc=>exact .any (.nil Al)
 |ref h=>exact .any (.nil Al)
 |alias h=>exact .any (.nil Al)
 |rowE h=>exact .any (.nil Al)
 |mineE h=>exact .any (.nil Al)
 |clo h1 h0 h=>exact .clo h1 h0 (.nil Al)
 |yld h=>exact .yld (.nil Al)
 |pref h=>exact .any (.nil Al)
 |slx hcap hsp hk h1 h0 hcell hst h=>exact .slx hcap hsp hk h1 h0 hcell hst (.nil Al)
 |nbox hb hS' h1 hoc h hcc=>exact .any (.nil Al)
 |nmap hb hS' hks hbn h1 h hcc=>exact .any (.nil Al)
 |row hn hcap hk hb hs' hS' h1 h0 hoc h hcc=>exact .any (.nil Al)
 |mine hn hcap hk hb hs' hS' h1 h0 hoc h hcc=>exact .any (.nil Al)
 |elt hsp h1 h0 hcell hst h=>exact .elt hsp h1 h0 hcell hst (.nil Al)
 |nelt hsp h1 h0 hcell hst h=>exact .nelt hsp h1 h0 hcell hst (.nil Al)
def pl:AV→AV
 |.box _ _=>.any
 |.ref _ _=>.any
 |.row _ _ _=>.any
 |.alias _=>.any
 |.pref _ _ _ _=>.any
 |.nbox _ _ _=>.any
 |.nmap _ _ _=>.any
 |x=>x
def pb:AV→Bool
 |.box _ _=>false
 |.ref _ _=>false
 |.row _ _ _=>false
 |.alias _=>false
 |.pref _ _ _ _=>false
 |.nbox _ _ _=>false
 |.nmap _ _ _=>false
 |_=>true
theorem Kp (x:AV):pb (pl x)=true:=by cases x<;>rfl
theorem Atw (x:AV):pb (v1 x)=true:=by cases x<;>rfl
theorem Aa.pl {x v c} (h:Aa w S [x] [v] c):∃c',Aa w S [pl x] [v] c'∧∀b,c' b≤c b:=by
 cases x with
 |box T cs=>exact⟨_,.any (.nil Al),fun _=>AxM _⟩
 |ref s off=>exact⟨_,.any (.nil Al),fun _=>AxM _⟩
 |row e k es=>exact⟨_,.any (.nil Al),fun _=>AxM _⟩
 |alias s=>exact⟨_,.any (.nil Al),fun _=>AxM _⟩
 |pref s k j o=>exact⟨_,.any (.nil Al),fun _=>AxM _⟩
 |nbox b T cs=>exact⟨_,.any (.nil Al),fun _=>AxM _⟩
 |nmap b ks vs=>exact⟨_,.any (.nil Al),fun _=>AxM _⟩
 |_=>exact⟨c,by simpa only[YtmophjggmekoeaaGreatDoor.pl]using h,fun _=>Axu _⟩
theorem Aa.map_v {f:AV→AV} (hf:∀{x v c},Aa w S [x] [v] c→Aa w S [f x] [v] (fun _=>0)) {xs vs c} (h:Aa w S xs vs c):Aa w S (xs.map f) vs (fun _=>0):=by
 induction xs generalizing vs c with
 |nil=>obtain⟨rfl,_⟩:=h.zero;exact .nil Al
 |cons x xs ih=>obtain⟨v,us',d1,d2,rfl,h1,h3,hd⟩:=h.uncons;exact Aa.cons (hf h1) (ih h3) (fun b=>oS)
theorem Aa.v2 {x v c} (h:Aa w S [x] [v] c):Aa w S [v2 x] [v] (fun _=>0):=by
 cases x with
 |agg cs=>
  cases h with
  |agg h1 hoc h hcc=>exact .agg (Aa.map_v Aa.v1 h1) hoc (.nil Al) (fun b=>oS)
 |_=>exact h.v1
theorem Aa.view {x v c} (h:Aa w S [x] [v] c):Aa w S [view x] [v] (fun _=>0):=by
 cases x with
 |tup cs=>
  cases h with
  |tup h1 h hcc=>exact .tup (Aa.map_v Aa.v2 h1) (.nil Al) (fun b=>oS)
 |_=>exact h.v2
end
end
section
open Go.RowKit
variable {dfs : List Deferred}
class Env where
 drawn:Prop
 globs:List (Nat×Nat×(Option Value→Prop))
variable [Env]
def Gs (w:World) (S:Nat→Nat):Prop:=∀g∈Env.globs,g.2.1<S g.1∧g.2.2 (w.cell? ⟨g.1,g.2.1,none⟩)
structure Sz (w:World) (S:Nat→Nat):Prop where
 z:∀b,w.heap.size≤b→S b=0
 g:Gs w S
instance {w:World} {S:Nat→Nat}:CoeFun (Sz w S) (fun _=>∀b,w.heap.size≤b→S b=0):=⟨Sz.z⟩
structure Stp (w:World) (S c:Nat→Nat) (w':World) (S' c':Nat→Nat):Prop where
 os:w'.os=w.os
 tape:w'.tape=w.tape
 output:w'.output=w.output∧(Env.drawn→w.drawn≤w'.drawn)
 size:w.heap.size≤w'.heap.size
 keep:∀b,b<w.heap.size→c b=0→w'.heap[b]? =w.heap[b]?∧S' b=S b
 cell:∀b o,o<S b→w'.cell? ⟨b,o,none⟩=w.cell? ⟨b,o,none⟩
 le:∀b,S b≤S' b
 own:∀b,b<w.heap.size→c' b≤c b
theorem Gs.stp {w w':World} {S S' c c':Nat→Nat} (h:Gs w S) (k:Stp w S c w' S' c'):Gs w' S':=fun g hg=>by obtain⟨h1,h2⟩:=h g hg;exact⟨Aym h1 (k.le g.1),by rw[k.cell g.1 g.2.1 h1];exact h2⟩
theorem Sz.stp {w w':World} {S S' c c':Nat→Nat} (h:Sz w S) (k:Stp w S c w' S' c') (hz:∀b,w'.heap.size≤b→S' b=0):Sz w' S':=⟨hz,h.g.stp k⟩
theorem Xe {w w':World} {S S' c c':Nat→Nat} (h:Sz w S) (k:Stp w S c w' S' c') (hz:∀b,w'.heap.size≤b→S' b=0):Stp w S c w' S' c'∧Sz w' S':=⟨k,h.stp k hz⟩
structure RefOk (σ:List AV) (vs:List Value):Prop where
 ref:∀(i s off T:Nat) (cs:List AV),σ[i]? =some (.ref s off)→σ[s]? =some (.box T cs)→
  ∃b,vs[s]? =some (.pointer (some ⟨b,0,none⟩))∧vs[i]? =some (.pointer (some ⟨b,off,none⟩))
 al:∀(i s e k:Nat) (es:List AV),σ[i]? =some (.alias s)→σ[s]? =some (.row e k es)→vs[i]? =vs[s]?
 pr:∀(i s k j o e k':Nat) (es:List AV),σ[i]? =some (.pref s k j o)→σ[s]? =some (.row e k' es)→
  ∃b n cap,vs[s]? =some (.slice (some ⟨b,0,none⟩) n cap)∧vs[i]? =some (.pointer (some ⟨b,j*k+o,none⟩))
def A3 (dfs:List Deferred) (w0:World) (S0 c0:Nat→Nat) (σ:List AV) (a:Act) (w:World):Prop:=
 RefOk σ a.tmps.toList∧∃S c,Aa w S σ a.tmps.toList c∧(∀b,c b≤1)∧a.defers=dfs∧Sz w S∧Stp w0 S0 c0 w S c
theorem Af {α:Type} {l:List α} {d i:Nat} {y x:α} (h:(l.set d y)[i]? =some x) (hne:y≠x):d≠i∧l[i]? =some x:=by
 rw[List.getElem?_set]at h;split at h
 ·split at h
  ·injection h with h;exact absurd h hne
  ·cases h
 ·exact ⟨by assumption,h⟩
theorem Ag {α:Type} {l:List α} {d i:Nat} {y:α} (h:d≠i):(l.set d y)[i]? =l[i]? :=by rw[List.getElem?_set,if_neg h]
theorem RefOk.set {σ:List AV} {vs:List Value} (h:RefOk σ vs) (d:Nat) {y:AV} (v:Value) (hy:pb y=true):RefOk (σ.set d y) (vs.set d v):=by
 refine⟨fun i s off T cs hi hs=> ?_,fun i s e k es hi hs=> ?_,fun i s k j o e k' es hi hs=> ?_⟩
 ·obtain ⟨n1,h1⟩:=Af hi (by rintro rfl;simp [pb]at hy);obtain⟨n2,h2⟩:=Af hs (by rintro rfl;simp [pb]at hy);obtain⟨b,g1,g2⟩:=h.ref i s off T cs h1 h2;exact AnR
 ·obtain ⟨n1,h1⟩:=Af hi (by rintro rfl;simp [pb]at hy);obtain⟨n2,h2⟩:=Af hs (by rintro rfl;simp [pb]at hy);rw[Ag n1,Ag n2];exact bN
 ·obtain ⟨n1,h1⟩:=Af hi (by rintro rfl;simp [pb]at hy);obtain⟨n2,h2⟩:=Af hs (by rintro rfl;simp [pb]at hy);obtain⟨b,n,cap,g1,g2⟩:=h.pr i s k j o e k' es h1 h2;exact Aa8
theorem RefOk.less {σ:List AV} {vs:List Value} (h:RefOk σ vs) (d:Nat) {y:AV} (hy:pb y=true):RefOk (σ.set d y) vs:=by
 refine⟨fun i s off T cs hi hs=> ?_,fun i s e k es hi hs=> ?_,fun i s k j o e k' es hi hs=> ?_⟩
 ·obtain ⟨n1,h1⟩:=Af hi (by rintro rfl;simp [pb]at hy);obtain⟨n2,h2⟩:=Af hs (by rintro rfl;simp [pb]at hy);exact h.ref i s off T cs h1 h2
 ·obtain ⟨n1,h1⟩:=Af hi (by rintro rfl;simp [pb]at hy);obtain⟨n2,h2⟩:=Af hs (by rintro rfl;simp [pb]at hy);exact bN
 ·obtain ⟨n1,h1⟩:=Af hi (by rintro rfl;simp [pb]at hy);obtain⟨n2,h2⟩:=Af hs (by rintro rfl;simp [pb]at hy);exact h.pr i s k j o e k' es h1 h2
theorem RefOk.rebox {σ:List AV} {vs:List Value} (h:RefOk σ vs) {d T:Nat} {cs:List AV} (T':Nat) (cs':List AV) (hd:σ[d]? =some (.box T cs)):RefOk (σ.set d (.box T' cs')) vs:=by
 refine⟨fun i s off T2 cs2 hi hs=> ?_,fun i s e k es hi hs=> ?_,fun i s k j o e k' es hi hs=> ?_⟩
 ·obtain ⟨n1,h1⟩:=Af hi (by intro h;cases h);rw[List.getElem?_set]at hs;split at hs
  ·rename_i hds;subst hds;exact h.ref i d off T cs h1 hd
  ·exact h.ref i s off T2 cs2 h1 hs
 ·obtain ⟨n1,h1⟩:=Af hi (by intro h;cases h);obtain⟨n2,h2⟩:=Af hs (by intro h;cases h);exact bN
 ·obtain ⟨n1,h1⟩:=Af hi (by intro h;cases h);obtain⟨n2,h2⟩:=Af hs (by intro h;cases h);exact h.pr i s k j o e k' es h1 h2
theorem RefOk.rerow {σ:List AV} {vs:List Value} (h:RefOk σ vs) {d e k:Nat} {es:List AV} (e' k':Nat) (es':List AV) (hd:σ[d]? =some (.row e k es)):RefOk (σ.set d (.row e' k' es')) vs:=by
 refine⟨fun i s off T2 cs2 hi hs=> ?_,fun i s e2 k2 es2 hi hs=> ?_,fun i s k3 j o e2 k2 es2 hi hs=> ?_⟩
 ·exact AmB
 ·obtain ⟨n1,h1⟩:=Af hi (by intro h;cases h);rw[List.getElem?_set]at hs;split at hs
  ·rename_i hds;subst hds;exact h.al i d e k es h1 hd
  ·exact h.al i s e2 k2 es2 h1 hs
 ·obtain ⟨n1,h1⟩:=Af hi (by intro h;cases h);rw[List.getElem?_set]at hs;split at hs
  ·rename_i hds;subst hds;exact h.pr i d k3 j o e k es h1 hd
  ·exact h.pr i s k3 j o e2 k2 es2 h1 hs
def Km (d:Nat):AV→Bool
 |.ref s _=>s != d
 |.alias s=>s != d
 |.pref s _ _ _=>s != d
 |_=>true
theorem Ry {σ:List AV} {d i:Nat} {x:AV} (hn:σ.all (Km d)=true) (hi:σ[i]? =some x):Km d x=true:=Ax7.1 hn _ (Axt hi)
theorem RefOk.newbox {σ:List AV} {vs:List Value} (h:RefOk σ vs) {d:Nat} (T:Nat) (cs:List AV) (v:Value) (hn:σ.all (Km d)=true):RefOk (σ.set d (.box T cs)) (vs.set d v):=by
 refine⟨fun i s off T2 cs2 hi hs=> ?_,fun i s e k es hi hs=> ?_,fun i s k j o e k' es hi hs=> ?_⟩
 ·obtain ⟨n1,h1⟩:=Af hi (by intro h;cases h);have hsd:d≠s:=by have:=Ry hn h1;simp [Km]at this;exact fun h=>this h.symm
  rw[Ag hsd]at hs;obtain⟨b,g1,g2⟩:=h.ref i s off T2 cs2 h1 hs;exact⟨b,by rw[Ag hsd];exact g1,by rw[Ag n1];exact g2⟩
 ·obtain ⟨n1,h1⟩:=Af hi (by intro h;cases h);obtain⟨n2,h2⟩:=Af hs (by intro h;cases h);rw[Ag n1,Ag n2];exact bN
 ·obtain ⟨n1,h1⟩:=Af hi (by intro h;cases h);obtain⟨n2,h2⟩:=Af hs (by intro h;cases h);obtain⟨b,n,cap,g1,g2⟩:=h.pr i s k j o e k' es h1 h2;exact Aa8
theorem RefOk.newrow {σ:List AV} {vs:List Value} (h:RefOk σ vs) {d:Nat} (e k:Nat) (es:List AV) (v:Value) (hn:σ.all (Km d)=true):RefOk (σ.set d (.row e k es)) (vs.set d v):=by
 refine⟨fun i s off T2 cs2 hi hs=> ?_,fun i s e2 k2 es2 hi hs=> ?_,fun i s k3 j o e2 k2 es2 hi hs=> ?_⟩
 ·obtain ⟨n1,h1⟩:=Af hi (by intro h;cases h);obtain⟨n2,h2⟩:=Af hs (by intro h;cases h);obtain⟨b,g1,g2⟩:=h.ref i s off T2 cs2 h1 h2;exact AnR
 ·obtain ⟨n1,h1⟩:=Af hi (by intro h;cases h);have hsd:d≠s:=by have:=Ry hn h1;simp [Km]at this;exact fun h=>this h.symm
  rw[Ag hsd]at hs⊢;rw[Ag n1];exact h.al i s e2 k2 es2 h1 hs
 ·obtain ⟨n1,h1⟩:=Af hi (by intro h;cases h);have hsd:d≠s:=by have:=Ry hn h1;simp [Km]at this;exact fun h=>this h.symm
  rw[Ag hsd]at hs;obtain⟨b,n,cap,g1,g2⟩:=h.pr i s k3 j o e2 k2 es2 h1 hs;exact⟨b,n,cap,by rw[Ag hsd];exact g1,by rw[Ag n1];exact g2⟩
theorem RefOk.newref {σ:List AV} {vs:List Value} (h:RefOk σ vs) {d s off b T:Nat} {cs:List AV} (hs:σ[s]? =some (.box T cs)) (hsd:s≠d) (hb:vs[s]? =some (.pointer (some ⟨b,0,none⟩))) (hl:vs.length=σ.length):
 RefOk (σ.set d (.ref s off)) (vs.set d (.pointer (some ⟨b,off,none⟩))):=by
 refine⟨fun i s2 off2 T2 cs2 hi hs2=> ?_,fun i s2 e k es hi hs2=> ?_,fun i s2 k j o e k' es hi hs2=> ?_⟩
 ·obtain ⟨n2,h2⟩:=Af hs2 (by intro h;cases h);rw[List.getElem?_set]at hi;split at hi
  ·rename_i hdi;split at hi
   ·rename_i hdl;injection hi with hi;cases hi;subst hdi;exact⟨b,by rw[Ag n2];exact hb,by rw[List.getElem?_set,if_pos rfl,if_pos om]⟩
   ·cases hi
  ·rename_i hdi;obtain⟨b',g1,g2⟩:=h.ref i s2 off2 T2 cs2 hi h2;exact⟨b',by rw[Ag n2];exact g1,by rw[Ag hdi];exact g2⟩
 ·exact Amz
 ·obtain ⟨n1,h1⟩:=Af hi (by intro h;cases h);obtain⟨n2,h2⟩:=Af hs2 (by intro h;cases h);obtain⟨b',n,cap,g1,g2⟩:=h.pr i s2 k j o e k' es h1 h2;exact⟨b',n,cap,by rw[Ag n2];exact g1,by rw[Ag n1];exact g2⟩
theorem RefOk.newal {σ:List AV} {vs:List Value} (h:RefOk σ vs) {d s:Nat} {v:Value} (hsd:s≠d) (hv:vs[s]? =some v) (hl:vs.length=σ.length):RefOk (σ.set d (.alias s)) (vs.set d v):=by
 refine⟨fun i s2 off2 T2 cs2 hi hs2=> ?_,fun i s2 e k es hi hs2=> ?_,fun i s2 k j o e k' es hi hs2=> ?_⟩
 ·exact Atm
 ·obtain ⟨n2,h2⟩:=Af hs2 (by intro h;cases h);rw[List.getElem?_set]at hi;split at hi
  ·rename_i hdi;split at hi
   ·rename_i hdl;injection hi with hi;cases hi;subst hdi;rw[Ag hsd.symm,hv];rw[List.getElem?_set,if_pos rfl,if_pos om]
   ·cases hi
  ·rename_i hdi;rw[Ag hdi,Ag n2];exact h.al i s2 e k es hi h2
 ·obtain ⟨n1,h1⟩:=Af hi (by intro h;cases h);obtain⟨n2,h2⟩:=Af hs2 (by intro h;cases h);obtain⟨b,n,cap,g1,g2⟩:=h.pr i s2 k j o e k' es h1 h2;exact Aa8
theorem RefOk.newpref {σ:List AV} {vs:List Value} (h:RefOk σ vs) {d s k j o b n cap:Nat} (hsd:s≠d) (hv:vs[s]? =some (.slice (some ⟨b,0,none⟩) n cap)) (hl:vs.length=σ.length):
 RefOk (σ.set d (.pref s k j o)) (vs.set d (.pointer (some ⟨b,j*k+o,none⟩))):=by
 refine⟨fun i s2 off2 T2 cs2 hi hs2=> ?_,fun i s2 e k es hi hs2=> ?_,fun i s2 k2 j2 o2 e k' es hi hs2=> ?_⟩
 ·exact Atm
 ·exact Amz
 ·obtain ⟨n2,h2⟩:=Af hs2 (by intro h;cases h);rw[List.getElem?_set]at hi;split at hi
  ·rename_i hdi;split at hi
   ·rename_i hdl;injection hi with hi;cases hi;subst hdi;exact⟨b,n,cap,by rw[Ag hsd.symm];exact hv,by rw[List.getElem?_set,if_pos rfl,if_pos om]⟩
   ·cases hi
  ·rename_i hdi;obtain⟨b',n',cap',g1,g2⟩:=h.pr i s2 k2 j2 o2 e k' es hi h2;exact⟨b',n',cap',by rw[Ag n2];exact g1,by rw[Ag hdi];exact g2⟩
def upd (S:Nat→Nat) (b s:Nat):Nat→Nat:=fun x=>if x=b then s else S x
theorem Gs.upd0 {w:World} {S:Nat→Nat} (h:Gs w S) {b:Nat} (hS:S b=0) (n:Nat):Gs w (upd S b n):=fun g hg=>by
 obtain⟨h1,h2⟩:=h g hg;have hne:g.1≠b:=by intro e;rw[e]at h1;omega
 exact⟨by simpa[upd,hne]using h1,h2⟩
section
variable {w w' w'' : World} {S S' S'' c c' c'' : Nat → Nat}
theorem Stp.refl (w:World) (S c:Nat→Nat):Stp w S c w S c:=
 ⟨rfl,rfl,⟨rfl,fun _=>Axu _⟩,Axu _,fun _ _ _=>⟨rfl,rfl⟩,fun _ _ _=>rfl,fun _=>Axu _,fun _ _=>Axu _⟩
theorem Stp.trans (h:Stp w S c w' S' c') (k:Stp w' S' c' w'' S'' c''):Stp w S c w'' S'' c'' where
 os:=k.os.trans h.os
 tape:=k.tape.trans h.tape
 output:=⟨k.output.1.trans h.output.1,fun e=>Ax1 (h.output.2 e) (k.output.2 e)⟩
 size:=Ax1 h.size k.size
 keep b hb hc:=by have h1:=h.keep b hb hc;have h2:=k.keep b (Aym hb h.size) (by have:=h.own b hb;omega);exact⟨h2.1.trans h1.1,h2.2.trans h1.2⟩
 cell b o ho:=(k.cell b o (Aym ho (h.le b))).trans (h.cell b o ho)
 le b:=Ax1 (h.le b) (k.le b)
 own b hb:=Ax1 (k.own b (Aym hb h.size)) (h.own b hb)
theorem Stp.drop (h:Stp w S c w' S' c') (hc:∀b,c'' b≤c' b):Stp w S c w' S' c'':=
 ⟨h.os,h.tape,h.output,h.size,h.keep,h.cell,h.le,fun b hb=>Ax1 (hc b) (h.own b hb)⟩
theorem Aa.lt {xs vs c} (h:Aa w S xs vs c):∀b,0<c b→b<w.heap.size:=by
 induction h with
 |nil hc=>intro b hb;have:=hc b;omega
 |any h ih=>exact ih
 |raw h1 h ih=>exact ih
 |agg h1 hoc h hc ih1 ih=>exact AmS
 |tup h1 h hc ih1 ih=>exact AmS
 |nilS h ih=>exact ih
 |slE hcap h ih=>exact ih
 |sl hn hcap hsp hk h1 h0 hcell hst h ih1 ih=>exact ih
 |ownE h ih=>exact ih
 |own hn hcap hk hb hs' hS' h1 h0 hoc h hc ih1 ih=>exact AoD
 |box hb hS' h1 hoc h hc ih1 ih=>exact Ao7
 |ref h ih=>exact ih
 |alias h ih=>exact ih
 |pref h ih=>exact ih
 |slx hcap hsp hk h1 h0 hcell hst h ih1 ih=>exact ih
 |nbox hb hS h1 hoc h hc ih1 ih=>exact Ao7
 |nmap hb hS hks hbn h1 h hc ih1 ih=>exact Ao7
 |rowE h ih=>exact ih
 |mineE h ih=>exact ih
 |clo h1 h0 h ih1 ih=>exact ih
 |yld h ih=>exact ih
 |row hn hcap hk hb hs' hS' h1 h0 hoc h hc ih1 ih=>exact AoD
 |mine hn hcap hk hb hs' hS' h1 h0 hoc h hc ih1 ih=>exact AoD
 |elt hsp h1 h0 hcell hst h ih1 ih=>exact ih
 |nelt hsp h1 h0 hcell hst h ih1 ih=>exact ih
theorem Aa.step {xs vs d} (h:Aa w S xs vs d) (k:Stp w S c w' S' c') (hd:∀b,d b+c b≤1):Aa w' S' xs vs d:=
 h.keep k.cell k.le fun b hb=>k.keep b (h.lt b hb) (by have:=hd b;omega)
theorem Stp.alloc (hz:Sz w S) (o:Obj) (s:Nat):Stp w S c (w.alloc o) (upd S w.heap.size s) (fun x=>(if x=w.heap.size then 1 else 0)+c x) where
 os:=rfl
 tape:=rfl
 output:=⟨rfl,fun _=>Axu _⟩
 size:=oS
 keep b hb _:=⟨Below.heap_alloc w o b hb,by simp [upd,Nat.ne_of_lt hb]⟩
 cell b o' ho:=by
  have hb:b<w.heap.size:=by
   rcases Axz b w.heap.size with h|h
   ·exact h
   ·rw [hz b h]at ho;omega
  exact World.cell?_of_block (Below.heap_alloc w o b hb)
 le b:=by
  unfold upd;split
  ·rename_i h;subst h;rw[hz _ (Axu _)];omega
  ·exact F6
 own b hb:=by simp [Nat.ne_of_lt hb]
theorem Sz.alloc (hz:Sz w S) (o:Obj) (s:Nat):Sz (w.alloc o) (upd S w.heap.size s):=by refine hz.stp (Stp.alloc (c:=fun _=>0) hz o s) fun b hb=> ?_;simp at hb;simp [upd,show b≠w.heap.size by omega,hz b om]
theorem Stp.drew:Stp w S c w.drew S c:=⟨rfl,rfl,⟨rfl,fun _=>Nat.le_succ _⟩,Axu _,fun _ _ _=>⟨rfl,rfl⟩,fun _ _ _=>rfl,fun _=>Axu _,fun _ _=>Axu _⟩
theorem Sz.drew (hz:Sz w S):Sz w.drew S:=hz.stp (Stp.drew (c:=fun _=>0)) hz.z
theorem A3.drew {w0 S0 c0 σ a} (h:A3 dfs w0 S0 c0 σ a w):A3 dfs w0 S0 c0 σ a w.drew:=by obtain⟨hrf,S,c,hr,h1,hd,hz,hs⟩:=h;refine⟨hrf,S,c,?_,h1,hd,hz.drew,hs.trans Stp.drew⟩;exact hr.keep (fun _ _ _=>rfl) (fun _=>Axu _) (fun _ _=>⟨rfl,rfl⟩)
end
def ac1:Value→AV
 |.slice none 0 0=>.nil
 |.agg _=>.any
 |.tuple _=>.any
 |v=>.raw v
def aconst:Value→AV
 |.agg cs=>if cs.toList.all Value.oneCell' then .agg (cs.toList.map ac1)else .any
 |v=>ac1 v
def aev (σ:List AV):Operand→AV
 |.tmp t=>pl (σ.getD t .any)
 |.const v=>aconst v
 |.global _=>.any
 |.func f=>.raw (.func (.func f) #[] #[])
def Mn (σ:List AV) (t:Nat):AV→List AV
 |.own e k es=>σ.set t (view (.own e k es))
 |.agg cs=>σ.set t (view (.agg cs))
 |.tup cs=>σ.set t (view (.tup cs))
 |.mine e k es=>σ.set t (view (.mine e k es))
 |_=>σ
def amv (σ:List AV):Operand→List AV
 |.tmp t=>Mn σ t (σ.getD t .any)
 |_=>σ
def agrab (σ:List AV):List Operand→List AV×List AV
 |[]=>([],σ)
 |x::xs=>(aev σ x::(agrab (amv σ x) xs).1,(agrab (amv σ x) xs).2)
def aset (σ:List AV) (d:Option Nat) (v:AV):List AV:=
 match d with
 |some d=>σ.set d v
 |none=>σ
section
variable {w : World} {S : Nat → Nat}
theorem Xf (v:Value):Aa w S [ac1 v] [v] (fun _=>0):=by
 unfold ac1;split
 ·exact .nilS (.nil Al)
 ·exact .any (.nil Al)
 ·exact .any (.nil Al)
 ·rename_i h1 h2 h3;refine .raw ?_ (.nil Al);cases v<;>first|rfl|exact absurd rfl (h2 _)|exact absurd rfl (h3 _)
theorem Kq (vs:List Value):Aa w S (vs.map ac1) vs (fun _=>0):=by
 induction vs with
 |nil=>exact .nil Al
 |cons v vs ih=>exact Aa.cons (Xf v) ih (fun b=>oS)
theorem F7 (v:Value):Aa w S [aconst v] [v] (fun _=>0):=by
 cases v with
 |agg cs=>
  simp only[aconst];split
  ·rename_i h;have:=Aa.agg (w:=w) (S:=S) (Kq cs.toList) (fun u hu=>by simpa using Ax7.1 h u hu) (.nil Al) (c:=fun _=>0) (fun b=>oS);exact G5
  ·exact .any (.nil Al)
 |_=>simp only[aconst];exact Xf _
theorem set_self {σ:List AV} {t:Nat} (ht:t<σ.length) {x:AV} (hx:σ.getD t .any=x):σ.set t x=σ:=by subst hx;simp [ht]
theorem Xg (σ:List AV) (t:Nat) (ht:t<σ.length) (hp:pb (σ.getD t .any)=true):amv σ (.tmp t)=σ.set t (view (σ.getD t .any)):=by simp only[amv];revert hp;generalize hx:σ.getD t .any=x;intro hp;cases x<;>first|rfl|(simp only[Mn,view,v2,v1];exact(set_self ht hx).symm)|(simp [pb]at hp)
theorem Xh (σ:List AV) (t:Nat) (hp:pb (σ.getD t .any)=false):amv σ (.tmp t)=σ∧pl (σ.getD t .any)=.any:=by simp only[amv];revert hp;generalize σ.getD t .any=x;intro hp;cases x<;>simp [pb]at hp<;>exact⟨rfl,rfl⟩
theorem Aih {x:AV} (hp:pb x=true):pl x=x:=by cases x<;>simp [pb]at hp<;>rfl
theorem Ra {x:AV}:pb (view x)=true:=by cases x<;>simp [view,v2,v1,pb]
theorem RefOk.amv {σ:List AV} {vs:List Value} (h:RefOk σ vs) (x:Operand):RefOk (amv σ x) vs:=by
 cases x with
 |tmp t=>
  by_cases ht:t<σ.length
  ·by_cases hp:pb (σ.getD t .any)=true
   ·rw [Xg σ t ht hp];exact h.less t Ra
   ·rw [(Xh σ t (by simpa using hp)).1];exact h
  ·have hx:σ.getD t .any=.any:=by simp [show σ.length≤t from Nat.le_of_not_lt ht]
   simp only[YtmophjggmekoeaaGreatDoor.amv,hx,Mn];exact h
 |_=>exact h
theorem RefOk.agrab {vs:List Value}:∀(xs:List Operand) {σ:List AV},RefOk σ vs→RefOk (agrab σ xs).2 vs
 |[],σ,h=>h
 |x::xs,σ,h=>RefOk.agrab xs (h.amv x)
theorem Ak {α:Type} {l:List α} {t:Nat} {v:α} (h:l[t]? =some v):l.set t v=l:=by
 apply Ayw;intro j;rw[List.getElem?_set];split
 ·rename_i hj;subst hj;have:=(List.getElem?_eq_some_iff.1 h).1;rw[h];simp [this]
 ·rfl
theorem I6 {σ:List AV} {a:Act} {c:Nat→Nat} (h:Aa w S σ a.tmps.toList c) (x:Operand):
 ∃c1 c2,Aa w S [aev σ x] [a.eval x] c1∧Aa w S (amv σ x) a.tmps.toList c2∧∀b,c b=c1 b+c2 b:=by
 cases x with
 |const v=>exact⟨_,c,F7 v,h,fun b=>oS⟩
 |func f=>exact⟨_,c,.raw rfl (.nil Al),h,fun b=>oS⟩
 |global g=>exact⟨_,c,.any (.nil Al),h,fun b=>oS⟩
 |tmp t=>
  by_cases ht:t<σ.length
  ·have hx:σ[t]? =some (σ.getD t .any):=by simp [ht]
   obtain⟨v,c1,c2,hv,h1,h2,hc⟩:=h.take t hx;have hev:a.eval (.tmp t)=v:=by exact Anz
   rw[hev];by_cases hp:pb (σ.getD t .any)=true
   ·rw [Xg σ t ht hp];have:=h2.fill h1.view t (by simp [ht]);rw[Ayn,Ak hv]at this;exact⟨c1,c2,by simp only[aev];rw[Aih hp];exact h1,this.congr fun b=>oS,hc⟩
   ·obtain ⟨e1,e2⟩:=Xh σ t (by simpa using hp);rw[e1];simp only[aev];rw[e2];exact⟨_,c,.any (.nil Al),h,fun b=>oS⟩
  ·have hx:σ.getD t .any=.any:=by simp [show σ.length≤t from Nat.le_of_not_lt ht]
   simp only[aev,amv,hx,Mn,pl];exact⟨_,c,.any (.nil Al),h,fun b=>oS⟩
theorem Nm:∀(xs:List Operand) {σ:List AV} {a:Act} {c:Nat→Nat},Aa w S σ a.tmps.toList c→
 ∃c1 c2,Aa w S (agrab σ xs).1 (xs.map a.eval) c1∧Aa w S (agrab σ xs).2 a.tmps.toList c2∧∀b,c b=c1 b+c2 b
 |[],σ,a,c,h=>⟨fun _=>0,c,.nil Al,h,fun b=>oS⟩
 |x::xs,σ,a,c,h=>by obtain⟨c1,c2,h1,h2,hc⟩:=I6 h x;obtain⟨d1,d2,h3,h4,hd⟩:=Nm xs h2;exact⟨_,d2,Aa.cons h1 h3 (fun b=>rfl),h4,fun b=>by rw[hc,hd];omega⟩
theorem E2 (a:Act) (d:Option Tmp) (v:Value):(a.put d v).tmps.toList=match d with|some d=>a.tmps.toList.set d v|none=>a.tmps.toList:=by cases d<;>simp [Act.put]
theorem put_defers (a:Act) (d:Option Tmp) (v:Value):(a.put d v).defers=a.defers:=by cases d<;>rfl
theorem Aa.aset {σ:List AV} {a:Act} {c c1:Nat→Nat} (h:Aa w S σ a.tmps.toList c) {y:AV} {u:Value} (hy:Aa w S [y] [u] c1) (d:Option Tmp):
 ∃c',Aa w S (aset σ d y) (a.put d u).tmps.toList c'∧∀b,c' b≤c1 b+c b:=by
 rw[E2]
 cases d with
 |none=>exact⟨c,h,fun b=>om⟩
 |some d=>
  by_cases hd:d<σ.length
  ·exact h.put hy d hd
  ·have hl:=h.length;refine⟨c,?_,fun b=>om⟩;simp only[YtmophjggmekoeaaGreatDoor.aset];have hd:σ.length≤d:=Nat.le_of_not_lt hd;rw[Ayu hd,Ayu (by rw[hl];exact hd)];exact h
end
theorem RefOk.aset {σ:List AV} {a:Act} (h:RefOk σ a.tmps.toList) (d:Option Tmp) {y:AV} (v:Value) (hy:pb y=true):RefOk (aset σ d y) (a.put d v).tmps.toList:=by
 rw[E2]
 cases d with
 |none=>exact h
 |some d=>exact h.set d v hy
theorem AaU (σ:List AV) (x:Operand):pb (aev σ x)=true:=by
 cases x with
 |tmp t=>exact Kp _
 |const v=>simp only[aev];cases v<;>simp only[aconst]<;>first|(split<;>rfl)|(unfold ac1;split<;>rfl)
 |_=>rfl
theorem A3.value {w0 S0 c0} {w:World} {S c} {σ':List AV} {a:Act} {c1 c2:Nat→Nat} {y:AV} {u:Value} (hrf:RefOk σ' a.tmps.toList) (hp:pb y=true) (h1:∀b,c b≤1) (hd:a.defers=dfs) (hz:Sz w S) (hs:Stp w0 S0 c0 w S c)
 (hr:Aa w S σ' a.tmps.toList c2) (hy:Aa w S [y] [u] c1) (hc:∀b,c1 b+c2 b≤c b) (d:Option Nat):A3 dfs w0 S0 c0 (aset σ' d y) (a.put d u) w:=by
 obtain⟨c',h2,h3⟩:=hr.aset hy d;exact⟨hrf.aset d u hp,S,c',h2,fun b=>by have:=h1 b;have:=h3 b;have:=hc b;omega,by rw[put_defers];exact hd,hz,hs.drop fun b=>by have:=h3 b;have:=hc b;omega⟩
end
end Go.Proofs.YtmophjggmekoeaaGreatDoor
