/- The operations: what each does to data, and that the model's own run does just that. -/
import Derived.Deep.MidRow
import Derived.Test.YtmophjggmekoeaaGreatDoorC2
set_option linter.all false
namespace Go.Proofs.YtmophjggmekoeaaGreatDoor
open Go.RowKit
variable [Env]
structure TD where
 agg:Bool:=false
 struct:Bool:=false
 str:Bool:=false
 elem:Option Nat:=none
 arr:Option (Nat×Nat):=none
 ik:Option IntKind:=none
 flds:List (Nat×Option Nat×Option Bool):=[]
 bl:Bool:=false
structure TI where
 zero:List Value
 size:Nat
 bytes:Nat
 td:TD
 eqs:Option (List (Nat×Nat)):=none
def eqk:TypeDesc→Option Nat
 |.int _=>some 0
 |.string=>some 1
 |.bool=>some 2
 |_=>none
def jJ (P:Program):List Field→Option (List (Nat×Nat))
 |[]=>some []
 |f::r=>if f.name= "_" then none else match(P.underlying f.type).bind eqk,jJ P r with
  |some k,some l=>some ((f.offset,k)::l)
  |_,_=>none
def AoI (P:Program) (t:Nat):Option (List (Nat×Nat))→Bool
 |none=>true
 |some q=> !P.stoodInHeld t&& !P.eqGuardType P.depth t&&(match P.underlying t with
  |some (.struct fs)=>jJ P fs.toList==some q
  |_=>false)
def O9:TypeDesc→Bool
 |.struct _|.array _ _=>true
 |_=>false
def Fe (P:Program):TypeDesc→TD
 |.struct fs=>{agg:=true,struct:=true,flds:=fs.toList.map fun f=>(f.offset,(P.info? f.type).map (·.size),(P.underlying f.type).map O9)}
 |.array n e=>{agg:=true,arr:=some (n,e)}
 |.string=>{str:=true}
 |.slice e=>{elem:=some e}
 |.int k=>{ik:=some k}
 |.bool=>{bl:=true}
 |_=>{}
structure Cx (P:Program) (t:Nat) (i:TI):Prop where
 info:(P.info? t).map (fun x=>(x.zero.map (·.cells.toList),x.size,x.bytes))=some (some i.zero,i.size,i.bytes)
 desc:(P.underlying t).map (Fe P)=some i.td
 eqok:AoI P t i.eqs=true
abbrev Bd:=Nat→Option TI
def Am (P:Program) (T:Bd):Prop:=∀t i,T t=some i→Cx P t i
section
variable {P : Program} {t : Nat} {i : TI}
theorem Cx.get (h:Cx P t i):∃inf z d,P.info? t=some inf∧inf.zero=some z∧z.cells.toList=i.zero∧inf.size=i.size∧inf.bytes=i.bytes∧P.underlying t=some d∧Fe P d=i.td:=by
 have h1:=h.info;have h2:=h.desc
 cases hi:P.info? t with
 |none=>rw[hi]at h1;simp at h1
 |some inf=>
  rw[hi]at h1;simp at h1;obtain⟨⟨z,hz,hzz⟩,h3,h4⟩:=h1
  cases hu:P.underlying t with
  |none=>rw[hu]at h2;simp at h2
  |some d=>rw[hu]at h2;simp at h2;exact⟨inf,z,d,rfl,hz,hzz,h3,h4,rfl,h2⟩
theorem D3 {d:TypeDesc} {e:Nat} (h:(Fe P d).elem=some e):d=.slice e:=by cases d<;>simp [Fe]at h<;>simp [h]
theorem Pb {d:TypeDesc} (h:(Fe P d).str=true):d=.string:=by cases d<;>simp [Fe]at h<;>rfl
theorem Atx {d:TypeDesc} (h:(Fe P d).bl=true):d=.bool:=by cases d<;>simp [Fe]at h<;>rfl
theorem AnS {d:TypeDesc} {k:IntKind} (h:(Fe P d).ik=some k):d=.int k:=by cases d<;>simp [Fe]at h<;>simp [h]
theorem M0 {d:TypeDesc}:O9 d=(Fe P d).agg:=by cases d<;>rfl
end
def Gn (P:Program) (f:Nat):Prop:=∃fn code,P.funcs[f]? =some fn∧fn.body=some code∧(fn.name== "runtime.NumGoroutine")=false
def Ab (P:Program) (f:Nat) (args:List AV) (R:AV→Prop):Prop:=
 Gn P f∧(∃r,R r)∧∀w S vs c,Sz w S→Aa w S args vs c→(∀b,c b≤1)→Calls P f vs.toArray w fun e w'=>
  ∃v r S' c',e=.returned v∧R r∧pb r=true∧Aa w' S' [r] [v] c'∧(∀b,c' b≤1)∧Sz w' S'∧Stp w S c w' S' c'
theorem Ab.mono {P:Program} {f:Nat} {args:List AV} {R R':AV→Prop} (h:Ab P f args R) (hr:∀r,R r→R' r):Ab P f args R':=by obtain⟨hf,⟨r,h1⟩,h2⟩:=h;exact⟨hf,⟨r,hr r h1⟩,fun w S vs c hz hv hc=>(h2 w S vs c hz hv hc).mono fun e w' ⟨v,r,S',c',he,hR,h3⟩=>⟨v,r,S',c',he,hr r hR,h3⟩⟩
def C1 (e:Bool) (A B:Prop):Prop:=(e=true→A)∧(e=false→B)
theorem Qe (A B:Prop):C1 true A B=A:=by simp [C1]
theorem Nn (A B:Prop):C1 false A B=B:=by simp [C1]
def Iy:AV→Bool
 |.any|.tup _|.box _ _|.ref _ _|.row _ _ _|.alias _|.yld _ _|.pref _ _ _ _|.nbox _ _ _|.nmap _ _ _|.nelt _ _=>false
 |_=>true
def F3 (op:BinOp):AV→AV→(AV→Prop)→Prop
 |.raw (.int k a),.raw (.int k' b),K=>
  match op with
  |.add=>k=k'∧K (.raw (.int k (k.wrap (a+b))))
  |.sub=>k=k'∧K (.raw (.int k (k.wrap (a-b))))
  |.mul=>k=k'∧K (.raw (.int k (k.wrap (a*b))))
  |.quo=>k=k'∧b≠0∧K (.raw (.int k (k.wrap (a.tdiv b))))
  |.rem=>k=k'∧b≠0∧K (.raw (.int k (a.tmod b)))
  |.and=>k=k'∧K (.raw (.int k (k.wrap (BitVec.ofInt k.bits a &&& BitVec.ofInt k.bits b).toNat)))
  |.or=>k=k'∧K (.raw (.int k (k.wrap (BitVec.ofInt k.bits a ||| BitVec.ofInt k.bits b).toNat)))
  |.andNot=>k=k'∧K (.raw (.int k (k.wrap (BitVec.ofInt k.bits a &&& ~~~ (BitVec.ofInt k.bits b)).toNat)))
  |.xor=>k=k'∧K (.raw (.int k (k.wrap (BitVec.ofInt k.bits a ^^^ BitVec.ofInt k.bits b).toNat)))
  |.eql=>k=k'∧K (.raw (.bool (a==b)))
  |.neq=>k=k'∧K (.raw (.bool (a != b)))
  |.lss=>k=k'∧K (.raw (.bool (decide (a<b))))
  |.leq=>k=k'∧K (.raw (.bool (decide (a≤b))))
  |.gtr=>k=k'∧K (.raw (.bool (decide (b<a))))
  |.geq=>k=k'∧K (.raw (.bool (decide (b≤a))))
  |.shl=>0≤b∧K (.raw (.int k (k.wrap (a*2 ^ (min b.toNat k.bits)))))
  |.shr=>0≤b∧K (.raw (.int k (a.fdiv (2 ^ (min b.toNat k.bits)))))
 |.raw (.string s),.raw (.string t),K=>
  match op with
  |.add=>s.data.toList.length+t.data.toList.length≤9223372036854775807∧K (.raw (.string ⟨(s.data.toList++t.data.toList).toArray⟩))
  |.eql=>K (.raw (.bool (s.data.toList==t.data.toList)))
  |.neq=>K (.raw (.bool (!(s.data.toList==t.data.toList))))
  |.lss=>K (.raw (.bool (Op.bytesLess s.data.toList t.data.toList)))
  |.leq=>K (.raw (.bool (Op.bytesLess s.data.toList t.data.toList||s.data.toList==t.data.toList)))
  |.gtr=>K (.raw (.bool (!(Op.bytesLess s.data.toList t.data.toList||s.data.toList==t.data.toList))))
  |.geq=>K (.raw (.bool (!(Op.bytesLess s.data.toList t.data.toList))))
  |_=>False
 |_,_,_=>False
def bO:AV→AV→Nat→Option Bool
 |.raw (.int k a),.raw (.int k' b),0=>if k=k' then some (a==b)else none
 |.raw (.string s),.raw (.string t),1=>some (s.data.toList==t.data.toList)
 |.raw (.bool a),.raw (.bool b),2=>some (a==b)
 |_,_,_=>none
def Aii:Option Bool→Option Bool→Option Bool
 |some a,some b=>some (a&&b)
 |_,_=>none
def Pd (xs ys:List AV):List (Nat×Nat)→Option Bool
 |[]=>some true
 |(o,k)::r=>Aii (bO (xs.getD o .any) (ys.getD o .any) k) (Pd xs ys r)
def jK (o:Option Bool) (K:AV→Prop) (neg:Bool):Prop:=match o with
 |some b=>K (.raw (.bool (b != neg)))
 |none=>False
def tO (o:Option (List (Nat×Nat))) (xs ys:List AV) (K:AV→Prop) (neg:Bool):Prop:=match o with
 |some q=>jK (Pd xs ys q) K neg
 |none=>False
def jL (o:Option TI) (xs ys:List AV) (K:AV→Prop) (neg:Bool):Prop:=match o with
 |some i=>tO i.eqs xs ys K neg
 |none=>False
def I7 (T:Nat→Option TI) (op:BinOp) (t:Nat):AV→AV→(AV→Prop)→Prop
 |.raw (.bool a),.raw (.bool b),K=>
  match op with
  |.eql=>(T t).map (·.td.bl)=some true∧K (.raw (.bool (a==b)))
  |.neq=>(T t).map (·.td.bl)=some true∧K (.raw (.bool (a != b)))
  |_=>False
 |.agg xs,.agg ys,K=>
  match op with
  |.eql=>jL (T t) xs ys K false
  |.neq=>jL (T t) xs ys K true
  |_=>False
 |x,y,K=>F3 op x y K
def anc:AV→(AV→Prop)→Prop
 |.elt y,K=>K (.elt y)
 |_,_=>False
def aun (op:UnOp):AV→(AV→Prop)→Prop
 |.raw (.bool b),K=>match op with
  |.not=>K (.raw (.bool (!b)))
  |_=>False
 |.raw (.int k n),K=>match op with
  |.neg=>K (.raw (.int k (k.wrap (0-n))))
  |_=>False
 |_,_=>False
def pcells (cs:List AV) (off n:Nat):List AV:=(cs.drop off).take n
def pleft (cs:List AV) (off n:Nat) (xs:List AV):List AV:=cs.take off++xs++cs.drop (off+n)
def pval (agg:Bool) (cs:List AV):AV:=if agg then .agg cs else cs.headD .any
def Fp (flds:List (Nat×Option Nat×Option Bool)):List (Nat×AV)→List AV→(List AV→Prop)→Prop
 |[],cs,K=>K cs
 |(i,x)::r,cs,K=>match flds[i]? with
  |some (off,some size,_)=>Iy x=true∧(cellsOf x).length=size∧off+size≤cs.length∧Fp flds r (pleft cs off size (cellsOf x)) K
  |_=>False
section
variable {P : Program} {w : World} {S : Nat → Nat}
theorem Ay {x:Value} {v c} (h:Aa w S [.raw x] [v] c):v=x∧x.oneCell'=true∧Zc c:=by cases h with|raw h1 h=>cases h with|nil hz=>exact⟨rfl,h1,hz⟩
theorem C2 {x:Value} (h:x.oneCell'=true) {c} (hz:Zc c):Aa w S [.raw x] [x] c:=.raw h (.nil hz)
theorem Aij {op:BinOp} {x y:AV} {u v:Value} {c1 c2:Nat→Nat} {K:AV→Prop} (hx:Aa w S [x] [u] c1) (hy:Aa w S [y] [v] c2) (h:F3 op x y K) (t:TypeId):
 ∃r z,(binOp op t u v).run P w=.ok r w∧K z∧pb z=true∧Aa w S [z] [r] (fun _=>0)∧(∀(a b:Operand),(eqGuard op t a b u v).run P w=.ok () w):=by
 unfold F3 at h;split at h
 ·rename_i K k a k' b;obtain⟨rfl,_,_⟩:=Ay hx;obtain⟨rfl,_,_⟩:=Ay hy;have hg:∀(p q:Operand),(eqGuard op t p q (.int k a) (.int k' b)).run P w=.ok () w:=by intro p q;unfold eqGuard;split<;>simp
  cases op<;>simp only[]at h<;>first
   |exact h.elim
   |(obtain⟨rfl,hK⟩:=h;exact⟨_,_,by simp [binOp,Op.intArith,Op.intCmp,Op.intBits],hK,rfl,C2 rfl Al,hg⟩)
   |(obtain⟨rfl,h0,hK⟩:=h;exact⟨_,_,by simp [binOp,Op.intDiv,h0],hK,rfl,C2 rfl Al,hg⟩)
   |(obtain⟨h0,hK⟩:=h;exact⟨_,_,by simp [binOp,Op.shift,show¬b<0 by omega],hK,rfl,C2 rfl Al,hg⟩)
 ·rename_i K s t';obtain⟨rfl,_,_⟩:=Ay hx;obtain⟨rfl,_,_⟩:=Ay hy;have hg:∀(p q:Operand),(eqGuard op t p q (.string s) (.string t')).run P w=.ok () w:=by intro p q;unfold eqGuard;split<;>simp
  cases op<;>simp only[]at h<;>first
   |exact h.elim
   |(obtain⟨hl,hK⟩:=h
     refine⟨_,_,?_,hK,rfl,C2 rfl Al,hg⟩;have h2:¬IntKind.i64.max<((s.size+t'.size:Nat):Int):=by have:(IntKind.i64.max:Int)=9223372036854775807:=rfl;have e1:s.data.toList.length=s.size:=rfl;have e2:t'.data.toList.length=t'.size:=rfl;omega
     have h3:s++t'=⟨(s.data.toList++t'.data.toList).toArray⟩:=by cases s;cases t';simp;rfl
     simp only[binOp,Op.stringOp];rw[Sem.run_ite,if_neg h2,h3];rfl)
   |exact⟨_,_,by simp [binOp,Op.stringOp,ByteArray.toList_eq],h,rfl,C2 rfl Al,hg⟩
 ·exact Ad
theorem AoJ {op:UnOp} {x:AV} {u:Value} {c1:Nat→Nat} {K:AV→Prop} (hx:Aa w S [x] [u] c1) (h:aun op x K):
 ∃r z,(Op.unary op u).run P w=.ok r w∧K z∧pb z=true∧Aa w S [z] [r] (fun _=>0):=by
 unfold aun at h;split at h
 ·obtain ⟨rfl,_,_⟩:=Ay hx
  cases op<;>simp only[]at h<;>first
   |exact h.elim
   |exact⟨_,_,by simp [Op.unary],h,rfl,C2 rfl Al⟩
 ·obtain ⟨rfl,_,_⟩:=Ay hx
  cases op<;>simp only[]at h<;>first
   |exact h.elim
   |exact⟨_,_,by simp [Op.unary,Op.intArith],h,rfl,C2 rfl Al⟩
 ·exact Ad
theorem Hh {x:AV} {v c} (h:Aa w S [x] [v] c) (ho:Iy x=true):Aa w S (cellsOf x) v.cells.toList c∧(∀u∈v.cells.toList,u.oneCell'=true)∧v.cells.size=(cellsOf x).length:=by
 cases h with
 |any h=>simp [Iy]at ho
 |raw h1 h=>
  have hv:v.cells= #[v]:=by cases v<;>simp_all [Value.cells,Value.oneCell']
  rw[hv];exact⟨.raw h1 h,by simpa using h1,rfl⟩
 |agg h1 hoc h hcc=>
  cases h with|nil hz=>
  refine⟨?_,by simpa[Value.cells]using hoc,by have:=h1.length;simpa[Value.cells,cellsOf]using this⟩;simpa[Value.cells,cellsOf]using h1.congr fun b=>by rw[hcc,hz b];omega
 |tup h1 h hcc=>simp [Iy]at ho
 |nilS h=>exact⟨.nilS h,by simp [Value.cells,Value.oneCell'],rfl⟩
 |slE hcap h=>exact⟨.slE hcap h,by simp [Value.cells,Value.oneCell'],rfl⟩
 |sl hn hcap hsp hk h1 h0 hcell hst h=>exact⟨.sl hn hcap hsp hk h1 h0 hcell hst h,by simp [Value.cells,Value.oneCell'],rfl⟩
 |ownE h=>exact⟨.ownE h,by simp [Value.cells,Value.oneCell'],rfl⟩
 |own hn hcap hk hb hs' hS' h1 h0 hoc h hcc=>exact⟨.own hn hcap hk hb hs' hS' h1 h0 hoc h hcc,by simp [Value.cells,Value.oneCell'],rfl⟩
 |box hb hS' h1 hoc h hcc=>simp [Iy]at ho
 |ref h=>simp [Iy]at ho
 |alias h=>simp [Iy]at ho
 |pref h=>simp [Iy]at ho
 |nbox hb hS' h1 hoc h hcc=>simp [Iy]at ho
 |nmap hb hS' hks hbn h1 h hcc=>simp [Iy]at ho
 |nelt hsp h1 h0 hcell hst h=>simp [Iy]at ho
 |slx hcap hsp hk h1 h0 hcell hst h=>exact⟨.slx hcap hsp hk h1 h0 hcell hst h,by simp [Value.cells,Value.oneCell'],rfl⟩
 |rowE h=>simp [Iy]at ho
 |mineE h=>exact⟨.mineE h,by simp [Value.cells,Value.oneCell'],rfl⟩
 |clo h1 h0 h=>exact⟨.clo h1 h0 h,by simp [Value.cells,Value.oneCell'],rfl⟩
 |yld h=>simp [Iy]at ho
 |row hn hcap hk hb hs' hS' h1 h0 hoc h hcc=>simp [Iy]at ho
 |mine hn hcap hk hb hs' hS' h1 h0 hoc h hcc=>exact⟨.mine hn hcap hk hb hs' hS' h1 h0 hoc h hcc,by simp [Value.cells,Value.oneCell'],rfl⟩
 |elt hsp h1 h0 hcell hst h=>exact⟨.elt hsp h1 h0 hcell hst h,by simp [Value.cells,Value.oneCell'],rfl⟩
theorem Aa.part {cs:List AV} {vs:List Value} {c} (h:Aa w S cs vs c) (off n:Nat):
 ∃c1 c2:Nat→Nat,Aa w S (pcells cs off n) ((vs.drop off).take n) c1∧(∀ys us (cy:Nat→Nat),Aa w S ys us cy→∃c',Aa w S (pleft cs off n ys) (vs.take off++us++vs.drop (off+n)) c'∧∀b,c' b=cy b+c2 b)∧∀b,c b=c1 b+c2 b:=by
 have e1:cs=cs.take off++(pcells cs off n++cs.drop (off+n)):=by rw[pcells,←Ay2,AxR,AxR]
 have hl:=h.length;rw[e1]at h;obtain⟨u1,u2,d1,d2,rfl,h1,h2,hd⟩:=h.unapp;obtain⟨u3,u4,d3,d4,rfl,h3,h4,hd'⟩:=h2.unapp;have l1:=h1.length;have l3:=h3.length;have l4:=h4.length;simp only[Axs]at hl;simp only[pcells,AxC,AxQ]at l1 l3 l4;refine⟨d3,fun b=>d1 b+d4 b,?_,?_,fun b=>by show _=d3 b+(d1 b+d4 b);rw[hd,hd'];omega⟩
 ·have:((u1++(u3++u4)).drop off).take n=u3:=by
   by_cases ho:off≤cs.length
   ·rw [Ay5 om];have:u1.drop off=[]:=AyO om;rw[this,Ax8];by_cases hn:n≤cs.length-off
    ·rw [Ayo om];exact qN
    ·have hu4:u4=[]:=AxA om;rw[hu4,AxF];exact qN
   ·have hu3:u3=[]:=AxA om;have hu4:u4=[]:=AxA om;rw[hu3,hu4,AyO (by simp;omega)];simp
  rw[this];exact h3
 ·intro ys us cy hy
  have t1:(u1++(u3++u4)).take off=u1:=by
   by_cases ho:off≤cs.length
   ·rw [Ayo om];exact qN
   ·have hu3:u3=[]:=AxA om;have hu4:u4=[]:=AxA om;rw[hu3,hu4,AxF,AxF];exact qN
  have t2:(u1++(u3++u4)).drop (off+n)=u4:=by
   rw[←AxS];by_cases ho:off+n≤cs.length
   ·have:(u1++u3).length=off+n:=by simp;omega
    rw[←this,List.drop_left]
   ·have hu4:u4=[]:=AxA om;rw[hu4,AxF];exact AyO (by simp;omega)
  rw[t1,t2];refine⟨_,Aa.app (Aa.app h1 hy (fun b=>rfl)) h4 (fun b=>rfl),fun b=>by show _=cy b+(d1 b+d4 b);omega⟩
theorem Aa.sub0 {cs:List AV} {vs:List Value} {c} (h:Aa w S cs vs c) (off n:Nat):∃c1:Nat→Nat,Aa w S (pcells cs off n) ((vs.drop off).take n) c1∧∀b,c1 b≤c b:=by obtain⟨c1,c2,h1,_,h3⟩:=h.part off n;exact⟨c1,h1,fun b=>by rw[h3];omega⟩
theorem Fq {cs:List AV} {vs:List Value} {c} (h:Aa w S cs vs c) (ho:∀u∈vs,u.oneCell'=true) (agg:Bool) (hn:agg=false→cs.length=1):
 Aa w S [pval agg cs] [if agg then .agg vs.toArray else vs.headD undef] c:=by
 cases agg with
 |true=>exact .agg h ho (.nil Al) (fun b=>oS)
 |false=>
  have hl:=hn rfl;have hl2:=h.length
  match cs,vs,hl,hl2 with
  |[x],[v],_,_=>exact h
end
end Go.Proofs.YtmophjggmekoeaaGreatDoor
