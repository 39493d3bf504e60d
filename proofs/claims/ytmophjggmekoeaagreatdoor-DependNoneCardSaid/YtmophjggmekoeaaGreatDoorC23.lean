/- What is known of maps, interfaces, methods and zero values, by program. -/
import Derived.Calls
import Derived.Lib.AtoiAll
import Derived.Lib.ItoaNum
import Derived.Lib.Join
import Derived.Lib.Split
import Derived.Shelf.Strings.OnBuilder
import Derived.Shelf.Strings.Split
import Derived.Shelf.Strconv.Itoa3
import Derived.Shelf.Strconv.AtoiAll
import Derived.Shelf.Strings.Cut
import Derived.Shelf.Strings.Prefix
import Derived.Shelf.Strings.Trim
import Derived.Lib.AppendIntMem
import Derived.Lib.LaidTab
import Derived.Test.YtmophjggmekoeaaGreatDoorC21
import Derived.Test.YtmophjggmekoeaaGreatDoorC22
set_option linter.all false
set_option maxRecDepth 100000
set_option maxHeartbeats 4000000
namespace Go.Proofs.YtmophjggmekoeaaGreatDoor
section
open Go.RowKit Go.Proofs
def mp:Nat→Option (Nat×Nat)
 |80=>some (9,9)
 |168=>some (3,240)
 |54=>some (9,4)
 |98=>some (9,3)
 |_=>none
def cn:Nat→Bool
 |156=>true
 |165=>true
 |79=>true
 |_=>false
def me:Nat→String→Option Nat
 |79,"Field" =>some 372
 |79,"Include" =>some 373
 |79,"List" =>some 374
 |_,_=>none
def zr:Nat→Option Value
 |9=>some (.string ⟨#[]⟩)
 |240=>some .nilFunc
 |3=>some (.int .i64 0)
 |4=>some (.bool false)
 |156=>some (.int .i64 0)
 |165=>some (.agg #[.int .i64 0])
 |_=>none
def kd:Nat→Option TypeDesc
 |3=>some (.int .i64)
 |9=>some .string
 |_=>none
def ek:Nat→Option Nat
 |20=>some 0
 |163=>some 0
 |119=>some 0
 |_=>none
def HH:Gy:={mp:=mp,cn:=cn,me:=me,zr:=zr,kd:=kd,mv:=fun _ _=>none,ek:=ek}
theorem Au9 {t:Nat} (h:(match Tryz.prog.underlying t with|some (.interface _)=>false|some _=>true|none=>false)=true):∃d,Tryz.prog.underlying t=some d∧∀ms,d≠ .interface ms:=by
 cases hu:Tryz.prog.underlying t with
 |none=>rw[hu]at h;cases h
 |some d=>rw[hu]at h;exact⟨d,rfl,fun ms he=>by rw[he]at h;cases h⟩
theorem AuA {t:Nat} (h:(match Tryz.prog.underlying t with|some (.interface _)=>true|_=>false)=true):∃d,Tryz.prog.underlying t=some d∧ekD 0 d:=by
 cases hu:Tryz.prog.underlying t with
 |none=>rw[hu]at h;cases h
 |some d=>rw[hu]at h;refine⟨d,rfl,?_⟩;cases d<;>first|trivial|cases h
theorem Dv:Cl Tryz.prog HH:=by
 refine⟨⟨fun t k e h=> ?_,fun t h=> ?_,fun t n g h ad w=> ?_,fun t v h w=> ?_⟩,fun t d h=> ?_,fun t n g h=> ?_,fun t k h=> ?_⟩
 ·change mp t=_ at h;unfold mp at h;split at h<;>first|cases h;done|(injection h with h;injection h with h1 h2;subst h1;subst h2;kernel_rfl)
 ·change cn t=_ at h;unfold cn at h;split at h<;>first|cases h;done|exact Au9 (by kernel_rfl)
 ·change me t n=_ at h;unfold me at h;exact AaD
 ·change zr t=_ at h;unfold zr at h;exact AaD
 ·change kd t=_ at h;unfold kd at h;exact AaD
 ·cases h
 ·change ek t=_ at h;unfold ek at h;split at h<;>first|cases h;done|(injection h with h;subst h;exact AuA (by kernel_rfl))
end
section
open Go.RowKit
variable [Env]
theorem Ep {U:Nat} {cs ds xs ys:List AV} (h1:Wk cs ds) (h:Wk xs ys):Wk (.box U cs::xs) (.box U ds::ys):=.box (W1.box h1) h
section
variable {P : Program} {g : Nat} {xs ys γ : List AV} {K : AV → List AV → Prop} {E : Value → List AV → Prop}
theorem AfS {w:World} {S c:Nat→Nat} {ad:Addr} {x:AV} {gv:List Value} {gi:Nat} (hg:Aa w S γ gv c) (hx:γ[gi]? =some (.nelt ad x)):Aa w S [.elt x] [.pointer (some ad)] (fun _=>0):=by
 obtain⟨v,e1,e2,hv,hy,h2,hc⟩:=hg.take gi hx
 cases hy with
 |nelt hsp h1 h0 hcell hst h=>exact .elt hsp h1 h0 hcell hst (.nil Al)
theorem HC.elt {ad:Addr} {x:AV} (gi:Nat) (hx:γ[gi]? =some (.nelt ad x)) (h:HC P g (xs++ .elt x::ys) γ K E):HC P g (xs++ .raw (.pointer (some ad))::ys) γ K E:=
 ⟨h.1,fun w S vs gv c c1 hz hr hg hc=>by obtain⟨u1,u2,d1,d2,rfl,hr1,hr2,hd⟩:=hr.unapp;obtain⟨v,us,e1,e2,rfl,hv,hr3,he⟩:=hr2.uncons;have hve:=Ay hv;obtain⟨hv1,_,hv3⟩:=hve;subst hv1;exact h.2 w S _ gv c c1 hz (Aa.app hr1 (Aa.cons (AfS hg hx) hr3 (c:=d2) (fun b=>by have:=he b;have:=hv3 b;omega)) hd) hg hc⟩
theorem HC.elt0 {ad:Addr} {x:AV} (gi:Nat) (hx:γ[gi]? =some (.nelt ad x)) (h:HC P g (.elt x::ys) γ K E):HC P g (.raw (.pointer (some ad))::ys) γ K E:=HC.elt (xs:=[]) gi hx h
def AkV (γ:List AV):Prop:=γ.Pairwise fun x y=>∀b,M8 x=some b→M8 y≠some b
theorem fD {w:World} {S c:Nat→Nat} {x:AV} {v:Value} {b:Nat} (h:Aa w S [x] [v] c) (hb:M8 x=some b):0<c b:=by
 cases x<;>simp only[M8,reduceCtorEq,Option.some.injEq]at hb
 ·subst hb;cases h with|nbox _ _ _ _ _ hcu=>rw[hcu];simp;omega
 ·subst hb;cases h with|nmap _ _ _ _ _ _ hcu=>rw[hcu];simp;omega
theorem fE {w:World} {S:Nat→Nat}:∀{γ:List AV} {gv:List Value} {c:Nat→Nat},Aa w S γ gv c→(∀b,c b≤1)→AkV γ
 |[],_,_,_,_=>List.Pairwise.nil
 |x::γ,gv,c,h,h1=>by obtain⟨v,us,d1,d2,rfl,h2,h3,hd⟩:=h.uncons;refine List.Pairwise.cons (fun y hy b hb hb'=> ?_) (fE h3 fun b=>by have:=h1 b;have:=hd b;omega);obtain⟨j,hj⟩:=List.getElem?_of_mem hy;obtain⟨u,f1,f2,_,hu,_,hff⟩:=h3.take j hj;have:=fD h2 hb;have:=fD hu hb';have:=h1 b;have:=hd b;have:=hff b;omega
theorem HC.dis (hfn:Gn P g) (h:AkV γ→HC P g xs γ K E):HC P g xs γ K E:=
 ⟨hfn,fun w S vs gv c c1 hz hr hg hc=>(h (fE hg fun b=>by have:=hc b;omega)).2 w S vs gv c c1 hz hr hg hc⟩
end
instance (priority:=20) {U:Nat} {cs ds xs ys:List AV} [Wi cs ds] [Wi xs ys]:Wi (.box U cs::xs) (.box U ds::ys):=⟨Ep Wi.h Wi.h⟩
end
section
open Go
def rW {α:Type}:Result α→World
 |.ok _ w=>w
 |.halt _ w=>w
theorem AuB {α:Type}:∀(k:Ask α) (w:World),w.drawn≤(w.ask k).2.drawn:=by
 intro k
 induction k with
 |done a=>intro w;exact Axu _
 |ask what range k ih=>
  intro w;unfold World.ask;simp only;split
  ·exact ih _ _
  ·exact Ax1 (Nat.le_succ _) (ih _ {w with drawn:=w.drawn+1})
theorem Aoh (w:World) (c:Sys):w.drawn≤(w.sys c).2.drawn:=by
 have h:=AuB (Kernel.perform c w.os) w;unfold World.sys;split
 ·exact F6
 ·rename_i h2;rw[h2]at h;exact h
theorem Ar6 {p:Program} {w:World} {a k:Addr} {u:TypeId} {v:Value} {b:Bool} {x:World×List Addr} (h:w.viewStore p a u k v b=.ok x):x.1.drawn=w.drawn:=by
 unfold World.viewStore at h;simp only[bind,Except.bind,pure,Except.pure]at h;repeat' split at h
 all_goals first
  |(cases h;done)
  |(cases h;rfl)
theorem Aoi {p:Program} {w:World} {a:Addr} {v:Value} {b:Bool} {x:World×List Addr} (h:w.farStore p a v b=.ok x):x.1.drawn=w.drawn:=by
 unfold World.farStore at h;repeat' split at h
 all_goals first
  |(cases h;done)
  |(cases h;rename_i h2;exact Ar6 h2)
theorem fF (w:World) (a:Addr) (n:Nat):(w.freeze a n).drawn=w.drawn:=by unfold World.freeze;split<;>rfl
theorem AfT {α:Type} (p:Program):∀(s:Sem α) (w:World),w.drawn≤(rW (s.run p w)).drawn:=by
 intro s
 induction s with
 |pure a=>intro w;exact Axu _
 |load m a k ih=>
  intro w;unfold Sem.run;split
  ·exact ih _ _
  ·split
   ·exact ih _ _
   ·exact F6
 |store m a v k ih=>
  intro w
  cases v<;>simp only[Sem.run]<;>first
   |exact Axu _
   |(split
     ·split
      ·exact F6
      ·exact ih (w.setCell a _)
     ·split
      ·rename_i h2;have h3:=Aoi h2;rw[←h3];exact ih _
      ·exact Axu _)
 |new o k ih=>intro w;unfold Sem.run;exact ih _ {w with heap:=w.heap.push o}
 |shape r k ih=>intro w;unfold Sem.run;exact ih _ _
 |freeze a n k ih=>intro w;unfold Sem.run;rw[←fF w a n];exact ih _
 |frozen a k ih=>intro w;unfold Sem.run;exact ih _ _
 |getObj r k ih=>
  intro w;unfold Sem.run;split
  ·exact F6
  ·exact ih _ _
  ·exact F6
 |setObj r o k ih=>
  intro w;unfold Sem.run;split
  ·exact F6
  ·exact ih {w with heap:=w.heap.setIfInBounds r o}
  ·exact F6
 |choose q k ih=>
  intro w;unfold Sem.run;split
  ·exact ih _ _
  ·exact Ax1 (Nat.le_succ _) (ih _ {w with drawn:=w.drawn+1})
 |sys c k ih=>intro w;unfold Sem.run;exact Ax1 (Aoh w c) (ih _ _)
 |program k ih=>intro w;unfold Sem.run;exact ih _ _
 |mark m k ih=>intro w;unfold Sem.run;exact ih _
 |halt h=>intro w;exact Axu _
theorem AfU {α:Type} (p:Program):∀(s:Sem α) (w:World) (es:Array Event),w.drawn≤(rW (s.runT p w es).1).drawn:=by
 intro s
 induction s with
 |pure a=>intro w es;exact Axu _
 |load m a k ih=>
  intro w es;unfold Sem.runT;split
  ·exact ih _ _ _
  ·split
   ·exact ih _ _ _
   ·exact F6
 |store m a v k ih=>
  intro w es
  cases v<;>simp only[Sem.runT]<;>first
   |exact Axu _
   |(split
     ·split
      ·exact F6
      ·exact ih (w.setCell a _) _
     ·split
      ·rename_i h2;have h3:=Aoi h2;rw[←h3];exact ih _ _
      ·exact Axu _)
 |new o k ih=>intro w es;unfold Sem.runT;exact ih _ {w with heap:=w.heap.push o} _
 |shape r k ih=>intro w es;unfold Sem.runT;exact ih _ _ _
 |freeze a n k ih=>intro w es;unfold Sem.runT;rw[←fF w a n];exact ih _ _
 |frozen a k ih=>intro w es;unfold Sem.runT;exact ih _ _ _
 |getObj r k ih=>
  intro w es;unfold Sem.runT;split
  ·exact F6
  ·exact ih _ _ _
  ·exact F6
 |setObj r o k ih=>
  intro w es;unfold Sem.runT;split
  ·exact F6
  ·exact ih {w with heap:=w.heap.setIfInBounds r o} _
  ·exact F6
 |choose q k ih=>
  intro w es;unfold Sem.runT;split
  ·exact ih _ _ _
  ·exact Ax1 (Nat.le_succ _) (ih _ {w with drawn:=w.drawn+1} _)
 |sys c k ih=>intro w es;unfold Sem.runT;exact Ax1 (Aoh w c) (ih _ _ _)
 |program k ih=>intro w es;unfold Sem.runT;exact ih _ _ _
 |mark m k ih=>intro w es;unfold Sem.runT;exact ih _ _
 |halt h=>intro w es;exact Axu _
theorem AfV {α:Type} {p:Program} {s:Sem α} {w w':World} {es es':Array Event} {v:α} (h:s.runT p w es=(.ok v w',es')):w.drawn≤w'.drawn:=by exact qK
theorem AkW {α:Type} {p:Program} {s:Sem α} {w w':World} {es es':Array Event} {v:Halt} (h:s.runT p w es=(.halt v w',es')):w.drawn≤w'.drawn:=by exact qK
theorem G0 {α:Type} {p:Program} {s:Sem α} {w w':World} {es:Array Event} {v:α} (h:(s.runT p w es).1=.ok v w'):w.drawn≤w'.drawn:=by exact qK
theorem K7 {α:Type} {p:Program} {s:Sem α} {w w':World} {es:Array Event} {v:Halt} (h:(s.runT p w es).1=.halt v w'):w.drawn≤w'.drawn:=by exact qK
theorem H2 {α:Type} {p:Program} {s:Sem α} {w w':World} {v:α} (h:s.run p w=.ok v w'):w.drawn≤w'.drawn:=by have:=AfT p s w;rw[h]at this;exact this
theorem Ar7 {α:Type} {p:Program} {s:Sem α} {w w':World} {v:Halt} (h:s.run p w=.halt v w'):w.drawn≤w'.drawn:=by have:=AfT p s w;rw[h]at this;exact this
def Dg (n:Nat):GStep→Prop
 |.ended .. =>True
 |.go _ w _=>n≤w.drawn
 |.comm _ _ _ _ w _=>n≤w.drawn
 |.spawn _ _ w _=>n≤w.drawn
 |.count _ w _=>n≤w.drawn
 |.timer _ _ w _=>n≤w.drawn
 |.alone _ _ w _=>n≤w.drawn
 |.newcoro _ _ _ w _=>n≤w.drawn
 |.coroswitch _ _ _ w _=>n≤w.drawn
 |.collect _ w _=>n≤w.drawn
 |.watch _ w _=>n≤w.drawn
theorem Iu {n:Nat} {es:Array Event} {s:GStep}:Dg n (s.after es)↔Dg n s:=by cases s<;>exact Iff.rfl
theorem Dg.le {n m:Nat} {s:GStep} (h:Dg n s) (hm:m≤n):Dg m s:=by cases s<;>first|trivial|exact Ax1 hm h
theorem Aoj {n:Nat} {c:Prop} [Decidable c] {a b:GStep} (h1:Dg n a) (h2:Dg n b):Dg n (if c then a else b):=by split<;>assumption
theorem S7 {p:Program} {main:Bool} {fr:Frame} {cs:List Frame} {dy:Option Dying} {v:Value} {w:World}:Dg w.drawn (doReturn p main fr cs dy v w):=by unfold doReturn;exact AaL
theorem L8 {fr:Frame} {m:String} {w:World}:Dg w.drawn (endThrow fr m w):=Axu _
theorem S8 {p:Program} {fr:Frame} {v:Value} {w:World}:Dg w.drawn (endPrinting p fr v w):=by unfold endPrinting;simp only;exact AaL
theorem Ar8 {w:World} {n:Nat} {t:ByteArray} {o:Outcome}:Dg w.drawn (endWith w n t o):=by
 unfold endWith;simp only;repeat' split
 all_goals trivial
theorem sG {p:Program} {fr:Frame} {cs:List Frame} {dy:Option Dying} {m:String} {w:World}:Dg w.drawn (endFatal p fr cs dy m w):=by
 unfold endFatal;simp only;split
 ·rename_i h;exact H2 h
 ·trivial
 ·trivial
theorem yH {p:Program} {fr:Frame} {d:Dying} {f:Fatal} {w:World}:Dg w.drawn (writeOn p fr d f w):=by
 unfold writeOn;simp only;split
 ·trivial
 ·split
  ·rename_i h;exact AfV h
  ·rename_i h;exact AkW h
  ·trivial
  ·trivial
theorem AuC {p:Program} {fr:Frame} {d:Dying} {w:World}:Dg w.drawn (die p fr d w):=by
 unfold die;simp only;split
 ·exact yH
 ·split
  ·split
   ·exact F6
   ·exact Ar8
  ·split
   ·exact F6
   ·split
    ·rename_i h;exact H2 h
    ·trivial
   ·rw [Iu];split
    ·rename_i h;exact G0 h
    ·rename_i h;exact G0 h
    ·trivial
    ·rename_i h;exact S8.le (K7 h)
    ·trivial
   ·trivial
theorem nW {p:Program} {fr:Frame} {cs:List Frame} {dy:Option Dying} {d:Deferred} {w:World}:Dg w.drawn (callDeferred p fr cs dy d w):=by
 unfold callDeferred;simp only;refine Aoj trivial ?_;rw[Iu];generalize hq:(invoke d.target d.args).runT p w #[]=q;have hq1:((invoke d.target d.args).runT p w #[]).1=q.1:=by rw[hq]
 clear hq;repeat' split
 all_goals first
  |trivial
  |(rename_i h;exact G0 (hq1.trans h))
  |(rename_i h _ _;exact G0 (hq1.trans h))
  |(rename_i h _ _ _;exact G0 (hq1.trans h))
  |(rename_i h _ _ _ _;exact G0 (hq1.trans h))
  |(rename_i h _ _ _ _ _;exact G0 (hq1.trans h))
  |(rename_i h _ _ _ _ _ _ _ _ _ _ _ _ _ _ _;exact G0 (hq1.trans h))
  |exact G0 (hq1.trans (by assumption))
  |exact K7 (hq1.trans (by assumption))
  |exact sG.le (K7 (hq1.trans (by assumption)))
  |exact L8.le (K7 (hq1.trans (by assumption)))
theorem AfW {p:Program} {main:Bool} {fr:Frame} {cs:List Frame} {dy:Option Dying} {w:World}:Dg w.drawn (unwind p main fr cs dy w):=by
 unfold unwind;split
 ·simp only;generalize hq:(Instr.takeDeferred _).runT p w #[]=q;obtain⟨r,es⟩:=q;simp only;rw[Iu]
  cases r with
  |ok x w'=>exact AfV hq
  |halt x w'=>trivial
 ·exact nW
 ·split
  ·trivial
  ·split
   ·trivial
   ·split
    ·exact F6
    ·split
     ·split
      ·exact F6
      ·split
       ·rename_i h;exact H2 h
       ·trivial
       ·trivial
     ·split
      ·exact S8
      ·trivial
  ·split
   ·exact S7
   ·generalize hq:(results _ fr.tmps).runT p w #[]=q;obtain⟨r,es⟩:=q;simp only;rw[Iu]
    cases r with
    |ok x w'=>exact S7.le (AfV hq)
    |halt x w'=>cases x<;>trivial
theorem AkX {p:Program} {fr:Frame} {cs:List Frame} {dy:Option Dying} {g:Nat} {w:World}:Dg w.drawn (early p fr cs dy g w):=by
 unfold early;simp only;repeat' split
 all_goals first
  |trivial
  |exact Axu _
  |(rename_i h;exact Ax1 (H2 h) (Axu _))
  |(rename_i h _;exact Ax1 (H2 h) (Axu _))
  |(rename_i h _ _;exact Ax1 (H2 h) (Axu _))
  |(rename_i h _ _ _;exact Ax1 (H2 h) (Axu _))
  |(rename_i h _ _ _ _;exact Ax1 (H2 h) (Axu _))
theorem Fy {p:Program} {fr:Frame} {cs:List Frame} {dy:Option Dying} {l:Bool} {s:Sem Next} {w:World}:Dg w.drawn (stepG.apply p l fr cs dy s w):=by
 unfold stepG.apply;simp only;rw[Iu]
 have hq:w.drawn≤(rW (if l=true then s.runT p w #[]else(s.run p w,#[])).1).drawn:=by
  split
  ·exact AfU p s w #[]
  ·exact AfT p s w
 generalize (if l=true then s.runT p w #[]else(s.run p w,#[])).1=r at hq;repeat' split
 all_goals first
  |trivial
  |exact hq
  |exact L8.le hq
  |exact sG.le hq
  |exact AkX.le hq
theorem Ar9 {p:Program} {fr:Frame} {cs:List Frame} {dy:Option Dying} {l:Bool} {w:World}:Dg w.drawn (stepG.oper p l fr cs dy w):=by
 unfold stepG.oper;split
 ·trivial
 ·split
  ·exact Fy
  ·exact Fy
theorem AfX {α:Type} {n:Nat} {o:Option α} {a:GStep} {f:α→GStep} (h1:Dg n a) (h2:∀x,Dg n (f x)):Dg n (o.elim a f):=by
 cases o
 ·exact h1
 ·exact h2 _
theorem ArA {p:Program} {main:Bool} {fr:Frame} {cs:List Frame} {dy:Option Dying} {l:Bool} {w:World}:Dg w.drawn (stepG.exec p main l fr cs dy w):=by
 have lv:∀(c:Prop) [Decidable c] (j:Option Code),Dg w.drawn (match fr.roundOf with
  |none=>if c then GStep.go {frame:={fr with mode:=.returning},callers:=cs,status:=.running,dying:=dy} w else .ended (.stuck "exit, goto: no such block or label" (fr.pos p)) w
  |some l=>GStep.after (seen p fr.fn ((Instr.endRound l j).runT p w #[]).2) (match((Instr.endRound l j).runT p w #[]).1 with
   |.ok v w=>doReturn p main fr cs dy v w
   |.halt _ w=>.ended (.stuck "range over a function: no such loop" (fr.pos p)) w)):=by
  intro c _ j;split
  ·exact Aoj (Axu _) trivial
  ·rw [Iu];split
   ·rename_i h;exact S7.le (G0 h)
   ·trivial
 unfold stepG.exec;simp only;split
 all_goals first
  |exact lv _ _
  |exact Axu _
  |trivial
  |exact Fy
  |exact AfX (lv _ _) fun _=>Axu _
  |exact AfX trivial fun _=>Fy
  |(split
    ·exact F6
    ·trivial)
  |(split
    ·exact Ar9
    ·exact Axu _)
  |(split
    ·exact F6
    ·split
     ·rename_i h;exact Ax1 (H2 h) (Axu _)
     ·trivial)
  |(rw[Iu]
    split
    ·rename_i h;exact Ax1 (G0 h) (Axu _)
    ·rename_i h;exact Ax1 (K7 h) (Axu _)
    ·trivial)
  |(rw[Iu]
    split
    ·rename_i h;exact Fy.le (G0 h)
    ·trivial)
  |skip
theorem ArB {p:Program} {main:Bool} {g:Goroutine} {w:World} {l:Bool}:Dg w.drawn (stepG p main g w l):=by
 unfold stepG;simp only;split
 ·exact AuC
 ·exact ArA
 ·exact AfW
def Ds (n:Nat):Stepped→Prop
 |.next m=>n≤m.world.drawn
 |_=>True
theorem Ds.le {n m:Nat} {s:Stepped} (h:Ds n s) (hm:m≤n):Ds m s:=by cases s<;>first|trivial|exact Ax1 hm h
theorem ArC {rest:Rest} {cases:Array CommCase} {w w':World} (h:waitingAt rest cases w=some w'):w'.drawn=w.drawn:=by
 unfold waitingAt at h;repeat' split at h
 all_goals first|(cases h;done)|(cases h;rfl)
theorem ArD {p:Program} {rest:Rest} {gs:Array Goroutine} {i:Nat} {g:Goroutine} {cases:Array CommCase} {b:Bool} {sh:CommShape} {w:World}:Ds w.drawn (communicate p rest gs i g cases b sh w).1:=by
 unfold communicate;simp only;repeat' split
 all_goals first
  |trivial
  |exact Axu _
  |exact Nat.le_of_eq (ArC (by assumption)).symm
  |(have h:=H2 ‹Sem.run p _ w=Result.ok _ _›
    exact h)
  |(have h:=H2 ‹Sem.run p _ w=Result.ok _ _›
    have h2:=Ar7 ‹Sem.run p (runtimePanic _) _=Result.halt _ _›;exact Ax1 h h2)
  |(have h:=H2 ‹Sem.run p _ w=Result.ok _ _›
    have h2:=H2 ‹Sem.run p (choose _) _=Result.ok _ _›;exact Ax1 h h2)
theorem AfY {p:Program} {gs:Array Goroutine} {rest:Rest} {w:World}:Ds w.drawn (look p gs rest w):=by
 unfold look;simp only;repeat' split
 all_goals first
  |trivial
  |exact Axu _
  |(have h:=H2 ‹Sem.run p _ w=Result.ok _ _›
    exact h)
  |skip
theorem AkY {m m':Machine} {op:TimerOp} {v:Value} (h:timerOp m op=.ok (v,m')):m'.world.drawn=m.world.drawn:=by
 have dr:∀w c,(drain w c).2.drawn=w.drawn:=fun w c=>by unfold drain;split<;>rfl
 have rt:∀(m:Machine) k t a b,(retime m k t a b).2.world.drawn=m.world.drawn:=fun m k t a b=>by
  unfold retime;simp only;split
  ·exact dr _ _
  ·rfl
 have nm:∀{var:Addr} {f:Nat→Timer→Value×Machine} {m2:Machine} {x:Value×Machine},(∀k t,(f k t).2.world.drawn=m.world.drawn)→timerOp.named m var f=.ok x→x.2.world.drawn=m.world.drawn:=by
  intro var f m2 x hf hx;unfold timerOp.named at hx;split at hx
  ·cases hx;exact hf _ _
  ·cases hx
 have op:∀{var:Addr} {m2:Machine},timerOp.opened m var=some m2→m2.world.drawn=m.world.drawn:=by
  intro var m2 hx;unfold timerOp.opened at hx;repeat' split at hx
  all_goals first|(cases hx;done)|(cases hx;rfl)
 unfold timerOp at h;repeat' split at h
 all_goals first
  |(cases h;done)
  |(cases h;rfl)
  |exact nm (m2:=m) (fun k t=>rt _ _ _ _ _) h
  |exact nm (m2:=m) (fun k t=>(rt _ _ _ _ _).trans (op (by assumption))) h
theorem ArE {p:Program} {m:Machine} {i:Nat} {l:Bool}:Ds m.world.drawn (runT p m i l).1:=by
 unfold runT;simp only;have hs:Dg m.world.drawn (stepG p (i==0) (m.gs.swapAt! i {(default:Goroutine)with status:=.finished}).1 m.world l):=ArB;generalize stepG p (i==0) (m.gs.swapAt! i {(default:Goroutine)with status:=.finished}).1 m.world l=s at hs
 cases s with
 |ended=>trivial
 |comm g c b sh w es=>exact ArD.le hs
 |go g w es=>exact hs
 |spawn g ch w es=>exact hs
 |count g w es=>
  simp only;split
  ·trivial
  ·exact hs
 |alone g on w es=>exact hs
 |collect g w es=>exact AfY.le hs
 |watch g w es=>exact hs
 |newcoro g c d w es=>exact hs
 |coroswitch g c e w es=>
  simp only;repeat' split
  all_goals first
   |trivial
   |exact hs
   |(rename_i h;have h3:Dg w.drawn (endThrow g.frame "coroswitch on exited coro" w):=L8;rw[h]at h3;exact Ax1 hs h3)
 |timer g op w es=>
  simp only;repeat' split
  all_goals first
   |trivial
   |(rename_i h;exact Ax1 hs (Nat.le_of_eq (AkY h).symm))
   |(rename_i msg _ _ _ _ h;have h3:Dg w.drawn (endThrow g.frame msg w):=L8;rw[h]at h3;exact Ax1 hs h3)
   |(rename_i msg _ _ _ _ _ h;have h3:Dg w.drawn (endThrow g.frame msg w):=L8;rw[h]at h3;exact Ax1 hs h3)
   |(rename_i msg _ _ _ _ _ _ h;have h3:Dg w.drawn (endThrow g.frame msg w):=L8;rw[h]at h3;exact Ax1 hs h3)
theorem AkZ {p:Program} {m:Machine} {k:Nat}:Ds m.world.drawn (serve p m k):=by unfold serve;simp only;exact AaL
def Dm (n:Nat):Move→Prop
 |.goroutine m _=>n≤m.world.drawn
 |.machine s _=>Ds n s
theorem Dm.le {n m:Nat} {s:Move} (h:Dm n s) (hm:m≤n):Dm m s:=by
 cases s
 ·exact Ax1 hm h
 ·exact Ds.le h hm
theorem askOn_d {p:Program} {m:Machine}:Dm m.world.drawn (askOn p m):=by
 unfold askOn;simp only;repeat' split
 all_goals first
  |trivial
  |exact Axu _
  |exact(AkZ (m:={m with world:=_})).le (H2 (by assumption))
  |(have h1:=H2 ‹Sem.run p _ m.world=Result.ok _ _›
    try have h2:=H2 ‹Sem.run p (choose (.sched _)) _=Result.ok _ _›
    try have h4:=H2 ‹Sem.run p _ _=Result.ok 0 _›
    try have h6:=H2 ‹Sem.run p _ _=Result.ok (Nat.succ _) _›
    try (rename_i q _;have h3:=H2 q)
    try (rename_i q;have h5:=H2 q)
    simp only[Dm,Ds,Machine.advanceTo]at *;omega)
  |skip
theorem Aok {p:Program} {m:Machine}:Dm m.world.drawn (ask p m):=by
 unfold ask;split
 ·split
  ·trivial
  ·rename_i h;have h1:=H2 h;have h2:=AfY (p:=p) (gs:=m.gs) (rest:=m.rest) (w:= ‹World›);split
   ·rename_i h3;rw[h3]at h2;exact askOn_d.le (Ax1 h1 h2)
   ·exact Ds.le h2 h1
  ·rename_i h;exact(askOn_d (m:={m with world:=_})).le (H2 h)
 ·exact askOn_d
theorem ArF {p:Program} {m:Machine}:Dm m.world.drawn (move p m):=by
 unfold move;repeat' split
 all_goals first
  |trivial
  |exact Axu _
  |exact Aok
  |exact Aok (m:={m with rest:=_})
theorem Ala {p:Program} {m:Machine}:Ds m.world.drawn (step p m):=by
 unfold step stepT;have h:=ArF (p:=p) (m:=m);split
 ·rename_i h2;rw[h2]at h;exact ArE.le h
 ·rename_i h2;rw[h2]at h;exact h
theorem AfZ {p:Program}:∀{n:Nat} {m m':Machine},runN p n m=.next m'→m.world.drawn≤m'.world.drawn
 |0,m,m',h=>by cases h;exact Axu _
 |n+1,m,m',h=>by
  unfold runN at h;have h1:=Ala (p:=p) (m:=m);split at h
  ·rename_i h2;rw[h2]at h1;exact Ax1 h1 (AfZ h)
  ·rename_i hx;exact(hx _ h).elim
theorem S9 {P:Program} {f:FuncId} {args:Array Value} {w:World} {R:Ending→World→Prop} (h:Calls P f args w R) (hR:∀e w',R e w'→∃v,e=.returned v):Calls P f args w fun e w'=>R e w'∧w.drawn≤w'.drawn:=by intro cs;obtain⟨e,w',fr,h1,h2,h3⟩:=h cs;refine⟨e,w',fr,⟨h1,?_⟩,h2,h3⟩;obtain⟨v,rfl⟩:=hR e w' h1;obtain⟨n,hn⟩:=(h2:Steps P _ _);exact AfZ hn
end
section
open Go.RowKit Go.Proofs Go.Shelf
variable [Env]
section
variable {P : Program}
theorem L9 {w w':World} {S c:Nat→Nat} (hd:w.drawn≤w'.drawn) (hz:Sz w S) (hb:Below w.heap.size w w'):Stp w S c w' S (fun _=>0)∧Sz w' S:=by refine Xe hz ⟨hb.os,hb.tape,⟨hb.output,fun _=>hd⟩,hb.size,fun b hb' _=>⟨hb.block b hb',rfl⟩,fun b o ho=> ?_,fun _=>Axu _,fun _ _=>AxM _⟩ (fun b hb2=>hz b (Ax1 hb.size hb2));exact AmU
theorem D6 (_hd:True) {f:Nat} {args:List AV} (hfn:Gn P f) (x:AV) (hx:pb x=true)
 (h:∀w S vs c,Sz w S→Aa w S args vs c→Calls P f vs.toArray w fun e w'=>∃v,e=.returned v∧Aa w' S [x] [v] (fun _=>0)∧Below w.heap.size w w'):Ab P f args (fun r=>r=x):=
 ⟨hfn,⟨_,rfl⟩,fun w S vs c hz hv hc=>(S9 (h w S vs c hz hv) fun e w' ⟨v,he,_⟩=>⟨v,he⟩).mono fun e w' ⟨⟨v,he,hr,hb⟩,hd⟩=>⟨v,x,S,fun _=>0,he,rfl,hx,hr,fun _=>AxM _,(L9 (c:=c) hd hz hb).2,(L9 (c:=c) hd hz hb).1⟩⟩
theorem K9 {w:World} {S:Nat→Nat} {v:Value} (ho:v.oneCell'=true):Aa w S [.raw v] [v] (fun _=>0):=.raw ho (.nil Al)
theorem La {w:World} {S:Nat→Nat} {v u:Value} (ho:v.oneCell'=true):Aa w S [.tup [.raw v,.any]] [.tuple #[v,u]] (fun _=>0):=
 Aa.tup (vs:=[v,u]) (c1:=fun _=>0) (c2:=fun _=>0) (.raw ho (.any (.nil Al))) (.nil Al) (fun _=>rfl)
theorem D7 {w:World} {S c:Nat→Nat} {v:Value} {xs:List AV} {vs:List Value} (h:Aa w S (.raw v::xs) vs c):∃us,vs=v::us∧Aa w S xs us c:=by
 cases h with
 |raw h1 h=>exact⟨_,rfl,h⟩
def Cy (l:List UInt8):ByteArray:=⟨l.toArray⟩
theorem Bv (l:List UInt8):(Cy l).data.toList=l:=by simp [Cy]
theorem Aga (zs:List (List UInt8)):(zs.map Cy).map (·.data.toList)=zs:=by
 rw[Ay4]
 conv=>rhs;rw[←List.map_id zs]
 exact AyY fun x _=>by simp [Cy]
theorem fG {w:World} {S:Nat→Nat}:∀{zs:List (List UInt8)} {cv:List Value} {c:Nat→Nat},Aa w S (zs.map str) cv c→cv=zs.map fun l=>.string (Cy l)
 |[],cv,c,h=>h.zero.1
 |z::zs,cv,c,h=>by
  cases h with
  |raw h1 h=>rw[fG (zs:=zs) h];rfl
theorem Pw:∀zs:List (List UInt8),flat (zs.map str)=zs.map str
 |[]=>rfl
 |z::zs=>by have:=Pw zs;simp only[Axx,flat]at this⊢;rw[this];rfl
theorem fH {w:World} {S:Nat→Nat}:∀zs:List (List UInt8),Aa w S (zs.map str) (zs.map fun l=>.string (Cy l)) (fun _=>0)
 |[]=>.nil Al
 |z::zs=>.raw rfl (fH zs)
theorem nX {T:Nat→Option TI} {σ:List AV} {K:List AV→Prop} (d f:Nat):Ct P T (some d) (.assign (.func f)) σ K=K (σ.set d (.raw (.func (.func f) #[] #[]))):=(rfl)
attribute [go_sem] nX
def Bc (l:List UInt8):Int:=match Lib.atoiAll l with
 |.ok v=>v
 |.range=>Lib.atoiSat l
 |_=>0
end
end
section
open Go.RowKit Go.Proofs Go.Shelf
variable [Env]
def gIf (o:Option Value):Prop:=∃v,o=some v∧(v=.nilIface∨∃te pe,v=.iface te pe)
def Agb (o:Option Value):Prop:=∃m,o=some (.int .i64 m)
section
variable {P : Program} {ρ : Ren}
theorem fI (L:Lays.n156 P ρ) (X:Builder.Extra P ρ) (hd:True) (hfn:Gn P (ρ.f 156)) (zs:List (List UInt8)) (sep:List UInt8) (hn:zs.length≤140737488355328) (hlen:(Lib.join zs sep).length≤140737488355328):
 Ab P (ρ.f 156) [.sl 1 (zs.map str),str sep] (fun r=>r=str (Lib.join zs sep)):=by
 refine D6 hd hfn _ rfl fun w S vs c hz hv=> ?_;generalize hes:zs.map str=es at hv;have none:∀a cap,zs=[]→Calls P (ρ.f 156) #[.slice a 0 cap,.string (Cy sep)] w fun e w'=>∃v,e=.returned v∧Aa w' S [str (Lib.join zs sep)] [v] (fun _=>0)∧Below w.heap.size w w':=by rintro a cap rfl;refine(Any.strings_Join_none L X a cap (Cy sep) w).mono ?_;rintro e w' ⟨rfl,rfl⟩;exact⟨_,rfl,K9 rfl,Below.refl _ _⟩
 cases hv with
 |slE hcap h=>obtain⟨us,rfl,h'⟩:=D7 h;obtain⟨rfl,_⟩:=h'.zero;exact none _ _ (List.map_eq_nil_iff.1 hes)
 |sl hn' hcap hsp hk h1 h0 hcell hst h=>
  rename_i ad cap cv us c0;obtain⟨us2,rfl,h'⟩:=D7 h;obtain⟨rfl,_⟩:=h'.zero;subst hes;rw[Pw]at h1;have hcv:=fG h1;rw[Axp]at hn'⊢;by_cases hz0:zs=[]
  ·have h00:zs.length=0:=by rw[hz0];rfl
   rw[h00];exact none _ _ hz0
  ·have hl:0<zs.length:=AyW.2 hz0;have hcl:cv.length=zs.length:=by rw[hcv,Axp]
   have hbk:ad.block<w.heap.size:=by
    rcases Axz ad.block w.heap.size with h|h
    ·exact h
    ·have:=hz ad.block h;omega
   have:=Any.strings_Join L X ad.block ad.off cap (zs.map Cy) (Cy sep) w (fun j x hx=>by rw[List.getElem?_map]at hx;obtain⟨z,hz1,rfl⟩:=Ay9.1 hx;exact(hcell j (.string (Cy z)) (by rw[hcv,List.getElem?_map,hz1];rfl)).1) hbk (by simpa using hn) (by simpa using hn') (by rw[Aga,Bv];exact hlen);rw[Aga,Bv,Axp]at this;have had:ad=⟨ad.block,ad.off,Option.none⟩:=by cases ad;simp only at hsp;rw[hsp]
   rw[had];refine this.mono ?_;rintro e w' ⟨rfl,hb⟩;exact⟨_,rfl,K9 rfl,hb⟩
theorem fJ (w:World) (e:TypeId) (s:ByteArray):Below w.heap.size w (Lib.bytesWorld w e s):=by refine⟨rfl,rfl,rfl,by simp [Lib.bytesWorld,World.freeze],fun k hk=> ?_⟩;have hne:w.heap.size≠k:=om;simp only[Lib.bytesWorld,World.freeze];rw[if_neg oD];simp only[Array.getElem?_modify,hne,if_false];exact Below.heap_alloc w.drew _ _ hk
theorem Agc (L:LaysC.n172 P ρ) (hd:True) (hfn:Gn P (ρ.f 172)) (s:List UInt8) (hs:s.length≤281474976710656)
 (hg1:((ρ.g 15),0,gIf)∈Env.globs) (hg2:((ρ.g 16),0,gIf)∈Env.globs):
 Ab P (ρ.f 172) [str s] (fun r=>r=.tup [num (Bc s),.any]):=by
 refine D6 hd hfn _ rfl fun w S vs c hz hv=> ?_;obtain⟨us,rfl,h⟩:=D7 hv;obtain⟨rfl,_⟩:=h.zero;have hsz:(Cy s).size=s.length:=by simp [Cy,ByteArray.size]
 unfold Bc;have ht:=Bv s
 cases ha:Lib.atoiAll s with
 |ok v=>refine(Any.strconv_Atoi_ok L (Cy s) om v (by rw[ht];exact ha) w).mono ?_;rintro e w' ⟨rfl,hw⟩;refine⟨_,rfl,La rfl,?_⟩;exact An6
 |range=>obtain⟨h1,ev,h2,h3⟩:=hz.g _ hg2;refine(Any.strconv_Atoi_range L (Cy s) om (by rw[ht];exact ha) ev w h2 h3).mono ?_;rintro e w' ⟨N,rfl,_,_,hb⟩;rw[ht];exact⟨_,rfl,La rfl,hb⟩
 |_=>obtain⟨h1,ev,h2,h3⟩:=hz.g _ hg1;refine(Any.strconv_Atoi_syntax L (Cy s) om (by rw[ht];exact ha) ev w h2 h3).mono ?_;rintro e w' ⟨N,rfl,_,_,hb⟩;exact⟨_,rfl,La rfl,hb⟩
theorem Ta (L:Lays.n147 P ρ) (hi9:(P.info? (ρ.t 9)).map (fun i=>(i.zero,i.size,i.bytes))=some (some (.string ByteArray.empty),1,16)) (hd:True) (hfn:Gn P (ρ.f 147))
 (hg:((ρ.g 1),0,Agb)∈Env.globs) (s sep:List UInt8) (n:Nat) (hs:s.length<4294967281) (h1:1≤sep.length) (hn:1≤n) (hn2:n≤9223372036854775807):
 Ab P (ρ.f 147) [str s,str sep,num n] (fun r=>r=.own (ρ.t 9) 1 ((Lib.splitK sep 0 (min n (s.length+1)-1) s).map str)):=by
 refine⟨hfn,⟨_,rfl⟩,fun w S vs c hz hv hc=> ?_⟩;obtain⟨us,rfl,hv1⟩:=D7 hv;obtain⟨us,rfl,hv2⟩:=D7 hv1;obtain⟨us,rfl,hv3⟩:=D7 hv2;obtain⟨rfl,_⟩:=hv3.zero;obtain⟨h1',m,h2⟩:=hz.g _ hg;have hsz:(Cy s).size=s.length:=by simp [Cy,ByteArray.size]
 have hsz2:(Cy sep).size=sep.length:=by simp [Cy,ByteArray.size]
 refine(Any.strings_SplitN L hi9 (Cy s) (Cy sep) n m w om h2 om hn hn2).mono ?_;rintro e w' ⟨rfl,rfl⟩;rw[hsz];have hN:min n (s.length+1)≤4294967282:=om;have hle:=Lib.splitB_length_le (Cy sep) 0 (min n (s.length+1)-1) (Cy s);have hda:=Lib.splitB_data (Cy sep) 0 (min n (s.length+1)-1) (Cy s);rw[Bv,Bv]at hda;have hp:1≤min n (s.length+1):=om;generalize hN':min n (s.length+1)=N at *;generalize hys:Lib.splitB (Cy sep) 0 (N-1) (Cy s)=ys at *;rw[←hda];have hlen:((ys.map (·.data.toList)).map str).length=ys.length:=oS;have hb:=Below.alloc (Below.refl w.heap.size w) (Axu _) (.cells (Lib.cellsOf ys N) (ρ.t 9));have hz0:S w.heap.size=0:=hz _ (Axu _)
 have hst:Stp w S c (w.alloc (.cells (Lib.cellsOf ys N) (ρ.t 9))) (upd S w.heap.size ys.length) (fun b=>if b=w.heap.size then 1 else 0)∧Sz (w.alloc (.cells (Lib.cellsOf ys N) (ρ.t 9))) (upd S w.heap.size ys.length):=by
  refine Xe hz ⟨hb.os,hb.tape,⟨hb.output,fun _=>Axu _⟩,hb.size,fun b hb' _=>⟨hb.block b hb',by simp [upd,Nat.ne_of_lt hb']⟩,fun b o ho=> ?_,fun b=> ?_,fun b hb'=>by simp [Nat.ne_of_lt hb']⟩ (fun b hb2=> ?_)
  ·exact AmU
  ·unfold upd;split
   ·rename_i h;subst h;omega
   ·exact F6
  ·simp only[World.alloc,Array.size_push]at hb2;have hne:b≠w.heap.size:=om;simp only[upd,hne,if_false];exact hz b om
 refine⟨_,_,_,_,rfl,rfl,rfl,?_,fun b=>by split<;>omega,hst.2,hst.1⟩;rw[←hlen];have hlist:(Lib.cellsOf ys N).toList=(ys.map Value.string)++List.replicate (N-ys.length) (Value.string ByteArray.empty):=rfl;have htk:(Lib.cellsOf ys N).toList.take (((ys.map (·.data.toList)).map str).length*1)=(ys.map (·.data.toList)).map fun l=>Value.string (Cy l):=by rw[hlen,Ay3,hlist,Ayo oS,Axw oS,Ay4];exact AyY fun x _=>by simp [Cy]
 refine Aa.own (c0:=fun _=>0) (c2:=fun _=>0) (cur:=Lib.cellsOf ys N) (by rw[hlen];omega) (by unfold maxLen;omega) (fun x hx=> ?_) (by show(w.heap.push _)[w.heap.size]? =_;simp) (by rw[Lib.cellsOf_size om,Ay3]) (by rw[hlen];simp [upd]) ?_ Al ?_ (.nil Al) (fun x=>rfl)
 ·obtain ⟨y,_,rfl⟩:=AxB.1 hx;rfl
 ·rw [htk,Pw];exact fH _
 ·rw [htk];intro u hu;obtain⟨y,_,rfl⟩:=AxB.1 hu;rfl
end
end
section
open Go.RowKit Go.Proofs Go.Shelf
variable [Env]
def Yw (g:Nat) (k:IntKind) (zs:List Int):List (Nat×Nat×(Option Value→Prop)):=
 (zs.zipIdx.map fun p=>(g,p.2,fun o=>o=some (.int k p.1)))++[(g,zs.length,fun o=>o=none)]
section
variable {P : Program} {ρ : Ren}
theorem yI {w:World} {S:Nat→Nat} {g:Nat} {k:IntKind} {zs:List Int} (hz:Sz w S) (hg:∀x∈Yw g k zs,x∈Env.globs) (h0:0<zs.length):
 ∃cs T fr,w.heap[g]? =some (.cells cs T fr)∧cs=(zs.map fun z=>Value.int k z).toArray∧zs.length<S g:=by
 have hc:∀i (h:i<zs.length),w.cell? ⟨g,i,none⟩=some (.int k zs[i]):=fun i h=>
  (hz.g _ (hg _ (AyH _ (AxB.2 ⟨(zs[i],i),by simp [Ay7],rfl⟩)))).2
 have he:=hz.g _ (hg _ (List.mem_append_right _ (.head _)));have h1:=hc 0 h0;unfold World.cell? at h1;split at h1
 ·rename_i cs T fr hh;refine⟨cs,T,fr,hh,?_,he.1⟩;have cell:∀i,w.cell? ⟨g,i,none⟩=cs[i]? :=fun i=>by unfold World.cell?;simp [hh]
  have hsz:cs.size=zs.length:=by
   have e1:cs[zs.length]? =none:=by rw[←cell];exact he.2
   have e2:cs[zs.length-1]? =some (.int k zs[zs.length-1]):=by rw[←cell];exact hc _ om
   have:=Array.getElem?_eq_none_iff.1 e1;have:=(Array.getElem?_eq_some_iff.1 e2).1;omega
  apply Array.ext
  ·simp [hsz]
  ·intro i hi hi2;have:=hc i om;rw[cell,Array.getElem?_eq_getElem hi]at this;exact G5
 ·cases h1
theorem Agd {w:World} {S:Nat→Nat} {g:Nat} {k:IntKind} {zs:List Int} {name:String} (hz:Sz w S) (hg:∀x∈Yw g k zs,x∈Env.globs) (h0:0<zs.length) (hn:P.globalNamed name=some g):Lib.TabIs P w name k zs:=by obtain⟨cs,T,fr,h1,h2,_⟩:=yI hz hg h0;unfold Lib.TabIs World.var?;rw[hn];simp [h1,h2]
theorem U7 (hd:True) {f:Nat} {args:List AV} {R:AV→Prop} (hfn:Gn P f) (hR:∃r,R r)
 (h:∀w S vs c,Sz w S→Aa w S args vs c→Calls P f vs.toArray w fun e w'=>∃v x,e=.returned v∧R x∧pb x=true∧Aa w' S [x] [v] (fun _=>0)∧Below w.heap.size w w'):Ab P f args R:=
 ⟨hfn,hR,fun w S vs c hz hv hc=>(S9 (h w S vs c hz hv) fun e w' ⟨v,x,he,_⟩=>⟨v,he⟩).mono fun e w' ⟨⟨v,x,he,hx,hp,hr,hb⟩,hd⟩=>⟨v,x,S,fun _=>0,he,hx,hp,hr,fun _=>AxM _,(L9 (c:=c) hd hz hb).2,(L9 (c:=c) hd hz hb).1⟩⟩
theorem fK {w:World} {S:Nat→Nat} {v u:Value} (ho:v.oneCell'=true) (hu:u.oneCell'=true):Aa w S [.tup [.raw v,.raw u]] [.tuple #[v,u]] (fun _=>0):=
 Aa.tup (vs:=[v,u]) (c1:=fun _=>0) (c2:=fun _=>0) (.raw ho (.raw hu (.nil Al))) (.nil Al) (fun _=>rfl)
theorem Age {w:World} {S:Nat→Nat} {v u x:Value} (ho:v.oneCell'=true) (hu:u.oneCell'=true) (hx:x.oneCell'=true):Aa w S [.tup [.raw v,.raw u,.raw x]] [.tuple #[v,u,x]] (fun _=>0):=
 Aa.tup (vs:=[v,u,x]) (c1:=fun _=>0) (c2:=fun _=>0) (.raw ho (.raw hu (.raw hx (.nil Al)))) (.nil Al) (fun _=>rfl)
theorem yJ (L:LaysM.n171 P ρ) (hd:True) (hfn:Gn P (ρ.f 171)) (hT:∀w S,Sz w S→Lib.TabIs P w "internal/strconv.uint64pow10" .u64 Lib.pow10Tab) (n:Int) (h0: -9223372036854775808≤n) (h1:n≤9223372036854775807):
 Ab P (ρ.f 171) [num n] (fun r=>r=str (Lib.itoa n)):=by
 refine D6 hd hfn _ rfl fun w S vs c hz hv=> ?_;obtain⟨us,rfl,h⟩:=D7 hv;obtain⟨rfl,_⟩:=h.zero;refine(Any.strconv_Itoa L n h0 h1 w (hT w S hz)).mono ?_;rintro e w' ⟨rfl,k,os,rfl⟩;exact⟨_,rfl,K9 rfl,Lib.below_grow _ _ (Axu _) _ _⟩
def Ql (l:List UInt8):Bool:=match Lib.atoiAll l with
 |.ok _=>true
 |_=>false
theorem yK (L:LaysC.n172 P ρ) (hd:True) (hfn:Gn P (ρ.f 172)) (s:List UInt8) (hs:s.length≤281474976710656)
 (hg1:((ρ.g 15),0,gIf)∈Env.globs) (hg2:((ρ.g 16),0,gIf)∈Env.globs):
 Ab P (ρ.f 172) [str s] (fun r=>∃e,r=.tup [num (Bc s),.raw e]∧(Ql s=true→e=.nilIface)∧(Ql s=false→∃t p,e=.iface t p)):=by
 refine U7 hd hfn ?_ fun w S vs c hz hv=> ?_
 ·cases h:Ql s with
  |true=>exact⟨_,.nilIface,rfl,fun _=>rfl,fun h'=>by cases h'⟩
  |false=>exact⟨_,.iface 0 .nilIface,rfl,fun h'=>(by cases h'),fun _=>⟨_,_,rfl⟩⟩
 obtain⟨us,rfl,h⟩:=D7 hv;obtain⟨rfl,_⟩:=h.zero;have hsz:(Cy s).size=s.length:=by simp [Cy,ByteArray.size]
 unfold Bc Ql;have ht:=Bv s
 cases ha:Lib.atoiAll s with
 |ok v=>refine(Any.strconv_Atoi_ok L (Cy s) om v (by rw[ht];exact ha) w).mono ?_;rintro e w' ⟨rfl,hw⟩;refine⟨_,_,rfl,⟨.nilIface,rfl,fun _=>rfl,fun h'=>by cases h'⟩,rfl,fK rfl rfl,?_⟩;exact An6
 |range=>obtain⟨h1,ev,h2,h3⟩:=hz.g _ hg2;refine(Any.strconv_Atoi_range L (Cy s) om (by rw[ht];exact ha) ev w h2 h3).mono ?_;rintro e w' ⟨N,rfl,_,_,hb⟩;rw[ht];exact Ang
 |_=>obtain⟨h1,ev,h2,h3⟩:=hz.g _ hg1;refine(Any.strconv_Atoi_syntax L (Cy s) om (by rw[ht];exact ha) ev w h2 h3).mono ?_;rintro e w' ⟨N,rfl,_,_,hb⟩;exact Ang
theorem below_drewN (w:World) (n:Nat):Below w.heap.size w (w.drewN n):=by exact⟨rfl,rfl,rfl,Axu _,fun _ _=>rfl⟩
theorem Alb (L:Lays.n145 P ρ) (hd:True) (hfn:Gn P (ρ.f 145)) (hg:((ρ.g 1),0,Agb)∈Env.globs) (s sep:List UInt8) (hs:s.length<4294967281):
 Ab P (ρ.f 145) [str s,str sep] (fun r=>r=.tup [str (Lib.cut s sep).1,str (Lib.cut s sep).2.1,Ai (Lib.cut s sep).2.2]):=by
 refine D6 hd hfn _ rfl fun w S vs c hz hv=> ?_;obtain⟨us,rfl,h1⟩:=D7 hv;obtain⟨us,rfl,h⟩:=D7 h1;obtain⟨rfl,_⟩:=h.zero;obtain⟨_,m,h2⟩:=hz.g _ hg;have:=Any.strings_Cut L (Cy s) (Cy sep) m w (by simpa[Cy,ByteArray.size]using hs) h2;rw[Bv,Bv]at this;refine this.mono ?_;rintro e w' ⟨rfl,n,rfl⟩;exact⟨_,rfl,Age rfl rfl rfl,below_drewN _ _⟩
theorem nY (L:Lays.n99 P ρ) (hd:True) (hfn:Gn P (ρ.f 99)) (s p:List UInt8):Ab P (ρ.f 99) [str s,str p] (fun r=>r=Ai (Lib.hasPrefix s p)):=by refine D6 hd hfn _ rfl fun w S vs c hz hv=> ?_;obtain⟨us,rfl,h1⟩:=D7 hv;obtain⟨us,rfl,h⟩:=D7 h1;obtain⟨rfl,_⟩:=h.zero;have:=Any.strings_HasPrefix L (Cy s) (Cy p) w;rw[Bv,Bv]at this;refine this.mono ?_;rintro e w' ⟨rfl,rfl⟩;exact⟨_,rfl,K9 rfl,Below.refl _ _⟩
end
end
end Go.Proofs.YtmophjggmekoeaaGreatDoor
