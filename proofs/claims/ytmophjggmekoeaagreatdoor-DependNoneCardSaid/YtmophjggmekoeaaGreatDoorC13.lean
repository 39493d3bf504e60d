/- Small words over the logic. -/
import Derived.Test.YtmophjggmekoeaaGreatDoorProg
import Derived.OrdersHeld
import Derived.Test.YtmophjggmekoeaaGreatDoorC12
set_option linter.all false
namespace Go.Proofs.YtmophjggmekoeaaGreatDoor
section
open Go.RowKit
variable [Env]
def num (n:Int):AV:=.raw (.int .i64 n)
def str (l:List UInt8):AV:=.raw (.string ⟨l.toArray⟩)
def Ai (b:Bool):AV:=.raw (.bool b)
def nums (l:List Int):List AV:=l.map num
@[go_sem] theorem nums_length (l:List Int):(nums l).length=l.length:=by simp [nums]
theorem AjA (a b:Int):(a==b)=decide (a=b):=by by_cases h:a=b<;>simp [h]
theorem AjB (a b:Int):(a != b)= !decide (a=b):=by by_cases h:a=b<;>simp [h]
attribute [go_sem] AjA AjB
theorem AjC {p:Prop} {hp:Decidable p} {A B:List AV→Prop} {σ:List AV} (h1:p→A σ) (h2:¬p→B σ):rM (decide p) A B σ:=kM (fun h=>h1 (of_decide_eq_true h)) (fun h=>h2 (of_decide_eq_false h))
theorem AjD {p:Prop} {hp:Decidable p} {A B:List AV→Prop} {σ:List AV} {t:Nat} (h1:p→A (σ.set t (.raw (.bool true)))) (h2:¬p→B (σ.set t (.raw (.bool false)))):jD (decide p) σ t A B:=kN (fun h=>h1 (of_decide_eq_true h)) (fun h=>h2 (of_decide_eq_false h))
theorem rN {e:Bool} {A B:List AV→Prop} {σ:List AV} (h1:e=false→A σ) (h2:e=true→B σ):rM (!e) A B σ:=kM (fun h=>h1 (by simpa using h)) (fun h=>h2 (by simpa using h))
theorem rO {e:Bool} {A B:List AV→Prop} {σ:List AV} {t:Nat} (h1:e=false→A (σ.set t (.raw (.bool true)))) (h2:e=true→B (σ.set t (.raw (.bool false)))):jD (!e) σ t A B:=kN (fun h=>h1 (by simpa using h)) (fun h=>h2 (by simpa using h))
theorem AcK {p:Prop} {hp:Decidable p} {A B:List AV→Prop} {σ:List AV} (h1:¬p→A σ) (h2:p→B σ):rM (!decide p) A B σ:=rN (fun h=>h1 (of_decide_eq_false h)) (fun h=>h2 (of_decide_eq_true h))
theorem AcL {p:Prop} {hp:Decidable p} {A B:List AV→Prop} {σ:List AV} {t:Nat} (h1:¬p→A (σ.set t (.raw (.bool true)))) (h2:p→B (σ.set t (.raw (.bool false)))):jD (!decide p) σ t A B:=rO (fun h=>h1 (of_decide_eq_false h)) (fun h=>h2 (of_decide_eq_true h))
class Aj (G:Prop) (A B:outParam Prop):Prop where
 on:A→B→G
instance {e:Bool} {A B:List AV→Prop} {σ:List AV}:Aj (rM e A B σ) (e=true→A σ) (e=false→B σ):=⟨kM⟩
instance {e:Bool} {A B:List AV→Prop} {σ:List AV} {t:Nat}:Aj (jD e σ t A B) (e=true→A (σ.set t (.raw (.bool true)))) (e=false→B (σ.set t (.raw (.bool false)))):=⟨kN⟩
instance {e:Bool} {A B:List AV→Prop} {σ:List AV}:Aj (rM (!e) A B σ) (e=false→A σ) (e=true→B σ):=⟨rN⟩
instance {e:Bool} {A B:List AV→Prop} {σ:List AV} {t:Nat}:Aj (jD (!e) σ t A B) (e=false→A (σ.set t (.raw (.bool true)))) (e=true→B (σ.set t (.raw (.bool false)))):=⟨rO⟩
instance {p:Prop} {hp:Decidable p} {A B:List AV→Prop} {σ:List AV}:Aj (rM (decide p) A B σ) (p→A σ) (¬p→B σ):=⟨AjC⟩
instance {p:Prop} {hp:Decidable p} {A B:List AV→Prop} {σ:List AV} {t:Nat}:Aj (jD (decide p) σ t A B) (p→A (σ.set t (.raw (.bool true)))) (¬p→B (σ.set t (.raw (.bool false)))):=⟨AjD⟩
instance {p:Prop} {hp:Decidable p} {A B:List AV→Prop} {σ:List AV}:Aj (rM (!decide p) A B σ) (¬p→A σ) (p→B σ):=⟨AcK⟩
instance {p:Prop} {hp:Decidable p} {A B:List AV→Prop} {σ:List AV} {t:Nat}:Aj (jD (!decide p) σ t A B) (¬p→A (σ.set t (.raw (.bool true)))) (p→B (σ.set t (.raw (.bool false)))):=⟨AcL⟩
theorem gd {A B:Prop} (hb:B) (ha:A:=by first|omega|rfl|decide|with_unfolding_all rfl):A∧B:=⟨ha,hb⟩
attribute [go_sem] Nat.reduceLT Nat.reduceAdd Nat.reduceSub Nat.reduceMul Nat.reduceLeDiff ne_eq Nat.reduceEqDiff not_false_eq_true Ayb Bool.true_and Nat.succ_ne_self and_true AxP AxU Int.toNat_zero Int.reduceToNat Ay3 Int.toNat_one
theorem Ab.wk {P:Program} {f:Nat} {xs ys:List AV} {R:AV→Prop} (h:Ab P f ys R) (hw:Wk xs ys):Ab P f xs R:=by obtain⟨h1,h2,h3⟩:=h;refine⟨h1,h2,fun w S vs c hz hv hc=> ?_⟩;obtain⟨c',hv',hle⟩:=hw.rep hv;refine(h3 w S vs c' hz hv' (fun b=>Ax1 (hle b) (hc b))).mono fun e w' ⟨v,r,S',c'',he,hR,hp,hr,h4,h5,h6⟩=>⟨v,r,S',c'',he,hR,hp,hr,h4,h5,?_⟩;exact⟨h6.os,h6.tape,h6.output,h6.size,fun b hb h0=>h6.keep b hb (by have:=hle b;omega),h6.cell,h6.le,fun b hb=>Ax1 (h6.own b hb) (hle b)⟩
theorem W1.agg {xs ys:List AV} (h:Wk xs ys):W1 (.agg xs) (.agg ys):=fun w S v c hr=>by
 cases hr with
 |agg h1 ho h' hc=>
  cases h' with
  |nil hz=>obtain⟨c',h2,hle⟩:=h.rep h1;exact⟨c',.agg h2 ho (.nil Al) (fun b=>oS),fun b=>by rw[hc];have:=hle b;omega⟩
theorem W1.box {T:Nat} {xs ys:List AV} (h:Wk xs ys):W1 (.box T xs) (.box T ys):=fun w S v c hr=>by
 cases hr with
 |box hb hS h1 ho h' hc=>
  cases h' with
  |nil hz=>obtain⟨c',h2,hle⟩:=h.rep h1;exact⟨_,.box hb hS h2 ho (.nil Al) (fun b=>rfl),fun b=>by rw[hc];have:=hle b;have:=hz b;omega⟩
theorem K1 {cs ds xs ys:List AV} (h1:Wk cs ds) (h:Wk xs ys):Wk (.agg cs::xs) (.agg ds::ys):=.cons (W1.agg h1) rfl h
theorem Ab.wkr {P:Program} {f:Nat} {xs:List AV} {R R':AV→Prop} (h:Ab P f xs R) (hw:∀r,R r→∃r',W1 r r'∧pb r'=true∧R' r'):Ab P f xs R':=by
 obtain⟨h1,⟨r0,h0⟩,h3⟩:=h;refine⟨h1,?_,fun w S vs c hz hv hc=> ?_⟩
 ·obtain ⟨r',_,_,h⟩:=hw r0 h0;exact⟨r',h⟩
 refine(h3 w S vs c hz hv hc).mono fun e w' ⟨v,r,S',c',he,hR,hp,hr,h4,h5,h6⟩=> ?_;obtain⟨r',hw',hp',hR'⟩:=hw r hR;obtain⟨c'',hr',hle⟩:=hw' w' S' v c' hr;exact⟨v,r',S',c'',he,hR',hp',hr',fun b=>Ax1 (hle b) (h4 b),h5,h6.drop hle⟩
def mkc (l:List CO) (ds rb bm:List Nat) (fs:List (List Nat)):Bool:=uF (X0 l) l==ds&&(Ab3 l==rb&&(AoR l==bm&&((ann (X0 l) (Ab3 l) l).map (·.2)==fs)))
theorem rP (sh rb:List Nat):∀l:List CO,l.zip ((ann sh rb l).map (·.2))=ann sh rb l
 |[]=>rfl
 |c::l=>by have:=rP sh rb l;simp only[ann,Axx,AxE]at this⊢;rw[this]
theorem En (ds rb bm:List Nat) (fs:List (List Nat)) {ts vs:List Nat} {l:List CO} (h:mkc l ds rb bm fs=true):mkd ts vs (X0 l) l=.dops ts (vs++ds) rb bm (l.zip fs):=by simp only[mkc,Ax3,beq_iff_eq]at h;obtain⟨h1,h2,h3,h4⟩:=h;rw[mkd,h1,←h4,rP,h2,h3]
theorem Cj {n:Int} (h0: -9223372036854775808≤n) (h1:n≤9223372036854775807):IntKind.i64.wrap n=n:=by rw[IntKind.wrap_i64];omega
theorem Eu {i:Nat} (h1:i<9223372036854775807):IntKind.i64.wrap ((i:Int)+1)=((i+1:Nat):Int):=by rw[IntKind.wrap_i64];omega
attribute [go_sem] Bf Bh B2 cutAt Bg A8 C9 Em Cf rL rK C5 dD Ab4 Eb Ce AxD AyG List.getElem?_toArray List.getElem?_cons_succ List.getElem?_cons_zero Nat.reduceMod Nat.reduceDiv Nat.reduceBEq Nat.reduceBNe AyX AxI List.drop_succ_cons List.drop_zero and_self
theorem LS:(∀(a:AV) l,(a::l).length=l.length+1)∧([]:List AV).length=0∧(∀n (a:AV),List.replicate (n+1) a=a::List.replicate n a)∧(∀a:AV,List.replicate 0 a=[])∧(∀(a:AV) l m,a::l++m=a::(l++m))∧(∀m:List AV,[]++m=m)∧(∀i,num i=.raw (.int .i64 i))∧(∀s,str s=.raw (.string ⟨s.toArray⟩))∧∀b,Ai b=.raw (.bool b):=⟨fun _ _=>rfl,rfl,fun _ _=>rfl,fun _=>rfl,fun _ _ _=>rfl,fun _=>rfl,fun _=>rfl,fun _=>rfl,fun _=>rfl⟩
def rlb:Bool→List Nat→List Bool
 |b,n::r=>List.replicate n b++rlb (!b) r
 |_,[]=>[]
def rl (r:List Nat):List Bool:=rlb false r
theorem PU:(∀m x xs,I2 (true::m) (x::xs)=.any::I2 m xs)∧(∀m x xs,I2 (false::m) (x::xs)=x::I2 m xs)∧(∀xs,I2 [] xs=xs)∧(∀s ss x xs σ,D5 (s::ss) (x::xs) σ=D5 ss xs (σ.set s x))∧(∀xs σ,D5 [] xs σ=σ)∧(∀(a:AV) l b,(a::l).set 0 b=b::l)∧(∀(a:AV) l i b,(a::l).set (i+1) b=a::l.set i b)∧(∀i,num i=.raw (.int .i64 i))∧(∀r,rl r=rlb false r)∧(∀b,rlb b []=[])∧(∀r,rlb false (0::r)=rlb true r)∧(∀r,rlb true (0::r)=rlb false r)∧∀b n r,rlb b ((n+1)::r)=b::rlb b (n::r):=⟨Io,Ip,Eh,Ci,Db,fun _ _ _=>rfl,fun _ _ _ _=>rfl,fun _=>rfl,fun _=>rfl,fun b=>by cases b<;>rfl,fun _=>rfl,fun _=>rfl,fun _ _ _=>rfl⟩
theorem DT:(decide True=true)∧(decide False=false)∧(¬(false=true))∧(!true)=false∧(!false)=true:=oD
section
variable {x : AV} {xs ys cs ds : List AV} {e k U : Nat}
class Wi (xs ys:List AV):Prop where
 h:Wk xs ys
instance (priority:=30):Wi [] []:=⟨.nil⟩
instance (priority:=29):Wi xs xs:=⟨.refl _⟩
instance (priority:=28) [Wi xs ys]:Wi (x::xs) (x::ys):=⟨.same Wi.h⟩
instance (priority:=10) [Wi xs ys]:Wi (x::xs) (.any::ys):=⟨B7 Wi.h⟩
instance (priority:=20) [Wi xs ys] [Wi cs ds]:Wi (.agg cs::xs) (.agg ds::ys):=⟨K1 Wi.h Wi.h⟩
instance (priority:=20) [Wi xs ys]:Wi (.own e k cs::xs) (.sl k cs::ys):=⟨Ba Wi.h⟩
instance (priority:=20) [Wi xs ys]:Wi (.nil::xs) (.sl k []::ys):=⟨A1 Wi.h⟩
instance (priority:=20) [Wi xs ys]:Wi (.nil::xs) (.own e k []::ys):=⟨A6 Wi.h⟩
instance (priority:=20) [Wi xs ys]:Wi (.nil::xs) (.mine e k []::ys):=⟨M6 Wi.h⟩
end
end
section
open Go.RowKit Go.Proofs
variable [Env]
theorem Apo {P:Program} {f:Nat} {args:List AV} {vs:List Value} {w:World} {S:Nat→Nat} (h:Ab P f args (fun r=>r=Ai true)) (hz:Sz w S) (hr:Aa w S args vs (fun _=>0)):
 Calls P f vs.toArray w fun e w'=>e=.returned (.bool true)∧Below w.heap.size w w':=by
 refine(h.2.2 w S vs _ hz hr (fun _=>oS)).mono ?_;rintro e w' ⟨v,r,S',c',rfl,rfl,hp,hrr,h4,h5,h6⟩;have hv:v=.bool true:=by cases hrr with|raw h1 h=>rfl
 subst hv;exact⟨rfl,h6.os,h6.tape,h6.output.1,h6.size,fun k hk=>(h6.keep k hk rfl).1⟩
theorem wf_i64 {n:Int} (h:(Lit.int .i64 n).wf=true): -9223372036854775808≤n∧n≤9223372036854775807:=by simp [Lit.wf,IntKind.min,IntKind.max,IntKind.signed,IntKind.bits]at h;omega
end
attribute [go_sem] Tryz.f3 Tryz.f4 Tryz.f5 Tryz.f6 Tryz.f7 Tryz.f8 Tryz.f9 Tryz.f10 Tryz.f11 Tryz.f12 Tryz.f13 Tryz.f14 Tryz.f15 Tryz.f16 Tryz.f17 Tryz.f18 Tryz.f19 Tryz.f20 Tryz.f21 Tryz.f22 Tryz.f23 Tryz.f24 Tryz.f25 Tryz.f26 Tryz.f27 Tryz.f28 Tryz.f29 Tryz.f30 Tryz.f31 Tryz.f32 Tryz.f33 Tryz.f34 Tryz.f35 Tryz.f36 Tryz.f37 Tryz.f38 Tryz.f39 Tryz.f40 Tryz.f41 Tryz.f42 Tryz.f43 Tryz.f44 Tryz.f47 Tryz.f48 Tryz.f49 Tryz.f50 Tryz.f51 Tryz.f52 Tryz.f53 Tryz.f54 Tryz.f55 Tryz.f57 Tryz.f62 Tryz.f63 Tryz.f64 Tryz.f65 Tryz.f66 Tryz.f67 Tryz.f68 Tryz.f69 Tryz.f70 Tryz.f71 Tryz.f72 Tryz.f74 Tryz.f75 Tryz.f76 Tryz.f77 Tryz.f78 Tryz.f81 Tryz.f82 Tryz.f83 Tryz.f84 Tryz.f85 Tryz.f89 Tryz.f90 Tryz.f91 Tryz.f92 Tryz.f93 Tryz.f94 Tryz.f96 Tryz.f97 Tryz.f98 Tryz.f99 Tryz.f100 Tryz.f101 Tryz.f102 Tryz.f103 Tryz.f104 Tryz.f105 Tryz.f106 Tryz.f107 Tryz.f108 Tryz.f109 Tryz.f110 Tryz.f111 Tryz.f112 Tryz.f113 Tryz.f114 Tryz.f115 Tryz.f116 Tryz.f117 Tryz.f118 Tryz.f119 Tryz.f121 Tryz.f122 Tryz.f123 Tryz.f124 Tryz.f125 Tryz.f126 Tryz.f127 Tryz.f128 Tryz.f129 Tryz.f130 Tryz.f131 Tryz.f132 Tryz.f133 Tryz.f134 Tryz.f135 Tryz.f147 Tryz.f148 Tryz.f149 Tryz.f150 Tryz.f151 Tryz.f152 Tryz.f153 Tryz.f154 Tryz.f155 Tryz.f164 Tryz.f165 Tryz.f166 Tryz.f167 Tryz.f168 Tryz.f169 Tryz.f170 Tryz.f171 Tryz.f172 Tryz.f173 Tryz.f174 Tryz.f175 Tryz.f176 Tryz.f178 Tryz.f179 Tryz.f180 Tryz.f181 Tryz.f182 Tryz.f183 Tryz.f184 Tryz.f185 Tryz.f186 Tryz.f187 Tryz.f188 Tryz.f189 Tryz.f193 Tryz.f194 Tryz.f195 Tryz.f196 Tryz.f197 Tryz.f198 Tryz.f199 Tryz.f200 Tryz.f201 Tryz.f202 Tryz.f203 Tryz.f207 Tryz.f208 Tryz.f209 Tryz.f210 Tryz.f211 Tryz.f212 Tryz.f218 Tryz.f219 Tryz.f220 Tryz.f228 Tryz.f229 Tryz.f230 Tryz.f231 Tryz.f232 Tryz.f233 Tryz.f234 Tryz.f235 Tryz.f240 Tryz.f241 Tryz.f242 Tryz.f243 Tryz.f244 Tryz.f245 Tryz.f246 Tryz.f247 Tryz.f249 Tryz.f250 Tryz.f257 Tryz.f260 Tryz.f261 Tryz.f263 Tryz.f271 Tryz.f272 Tryz.f273 Tryz.f274 Tryz.f275 Tryz.f276 Tryz.f279 Tryz.f280 Tryz.f281 Tryz.f282 Tryz.f287 Tryz.f288 Tryz.f289 Tryz.f293 Tryz.f294 Tryz.f295 Tryz.f296 Tryz.f297 Tryz.f298 Tryz.f299 Tryz.f300 Tryz.f303 Tryz.f304 Tryz.f305 Tryz.f306 Tryz.f307 Tryz.f308 Tryz.f309 Tryz.f310 Tryz.f320 Tryz.f321 Tryz.f325 Tryz.f326 Tryz.f327 Tryz.f338 Tryz.f339 Tryz.f340 Tryz.f341 Tryz.f342 Tryz.f343 Tryz.f347 Tryz.f348 Tryz.f350 Tryz.f351 Tryz.f352 Tryz.f372 Tryz.f373 Tryz.f374 Tryz.f375 Tryz.f376 Tryz.f377 Tryz.f379 Tryz.f381 Tryz.f382 Tryz.f383 Tryz.f384 Tryz.f385 Tryz.f386 Tryz.f387 Tryz.f388 Tryz.f389 Tryz.f390 Tryz.f391
section
open Go.RowKit
variable [Env]
section
variable {P : Program} {T : Bd} {K : AV → Prop} {σ : List AV} {L : List AV → Prop}
def AwZ (x:AV) (σ:List AV) (e:Nat) (j:TI) (t s:Nat) (y:Operand) (d:Option Nat) (L:List AV→Prop):Prop:=match x with
 |.row e' k xs=>Lz σ e j t s e' k xs y d L
 |_=>False
theorem AcM (e e' k:Nat) (j:TI) (xs:List AV) (t:Nat) (y:Operand) (d:Option Nat):Acp σ e j (.own e' k xs) t y d L=D4 σ e j (.tmp t) y d L:=(rfl)
theorem vV (e e' k:Nat) (j:TI) (xs:List AV) (t:Nat) (y:Operand) (d:Option Nat):Acp σ e j (.mine e' k xs) t y d L=D4 σ e j (.tmp t) y d L:=(rfl)
theorem AcN (e:Nat) (j:TI) (t:Nat) (y:Operand) (d:Option Nat):Acp σ e j .nil t y d L=D4 σ e j (.tmp t) y d L:=(rfl)
theorem AjE (k:Nat) (es:List AV):M2 k (.sl k es)=some es:=by simp [M2]
theorem AcO (e k:Nat) (es:List AV):M2 k (.own e k es)=some es:=by simp [M2]
theorem AcP (e k:Nat):I9 e k .nil=some []:=(rfl)
theorem AcQ (e k:Nat) (es:List AV):I9 e k (.own e k es)=some es:=by simp [I9]
theorem vW (e k:Nat) (es:List AV):I9 e k (.mine e k es)=some es:=by simp [I9]
theorem AjF (e k:Nat) (zs:List AV):adr e k .nil zs=.own e k zs:=(rfl)
theorem AcR (e k e' k':Nat) (es zs:List AV):adr e k (.own e' k' es) zs=.own e k zs:=(rfl)
theorem AcS (e k e' k':Nat) (es zs:List AV):adr e k (.mine e' k' es) zs=.mine e k zs:=(rfl)
def aap (v:AV) (o:Option (List AV)) (o':Option (List AV)) (τ:List AV) (e:Nat) (j:TI) (d:Option Nat) (L:List AV→Prop):Prop:=match o,o' with
 |some xs,some ys=>0<j.size∧j.zero.length=j.size∧xs.length+ys.length≤9223372036854775807∧(xs.length+ys.length)*j.bytes≤140737488355328∧L (aset τ d (adr e j.size v (xs++ys)))
 |_,_=>False
theorem mB (e:Nat) (j:TI) (x y:Operand) (d:Option Nat):D4 σ e j x y d L=aap (aev σ x) (I9 e j.size (aev σ x)) (M2 j.size (aev (amv σ x) y)) (amv σ x) e j d L:=by unfold D4 aap;cases I9 e j.size (aev σ x)<;>cases M2 j.size (aev (amv σ x) y)<;>rfl
theorem AcT (v:AV) (xs ys τ:List AV) (e:Nat) (j:TI) (d:Option Nat):aap v (some xs) (some ys) τ e j d L=(0<j.size∧j.zero.length=j.size∧xs.length+ys.length≤9223372036854775807∧(xs.length+ys.length)*j.bytes≤140737488355328∧L (aset τ d (adr e j.size v (xs++ys)))):=(rfl)
def aix (o:Option (Nat×Nat)) (T:Bd) (cs:List AV) (n:Int) (K:AV→Prop):Prop:=match o with
 |some (len,e)=>(match T e with
  |some j=>0≤n∧n<len∧(j.td.agg=false→j.size=1)∧n.toNat *j.size+j.size≤cs.length∧K (pl (pval j.td.agg ((pcells cs (n.toNat *j.size) j.size).map v1)))
  |none=>False)
 |none=>False
theorem mC (i:TI) (s:ByteArray) (k:IntKind) (n:Int):Kr T i (.raw (.string s)) (.raw (.int k n)) K=(i.td.str=true∧0≤n∧n.toNat<s.data.toList.length∧K (.raw (.int .u8 ((s.data.toList.getD n.toNat 0).toNat:Int)))):=(rfl)
theorem dP (d:Int) (K:Int→Prop):Bz d none K=K d:=(rfl)
theorem mD (d:Int) (k:IntKind) (n:Int) (K:Int→Prop):Bz d (some (.raw (.int k n))) K=K n:=(rfl)
def asl (o:Option Nat) (T:Bd) (k:Nat) (es:List AV) (lo hi:Option AV) (K:AV→Prop):Prop:=match o with
 |some e=>(match T e with
  |some j=>k=j.size∧Bz 0 lo fun l=>Bz es.length hi fun h=>0≤l∧l≤h∧h≤es.length∧K (.sl k ((es.drop l.toNat).take (h.toNat-l.toNat)))
  |none=>False)
 |none=>False
def AtW (o:Option TI) (k:Nat) (es:List AV) (lo hi:Option AV) (K:AV→Prop):Prop:=match o with
 |some j=>k=j.size∧Bz 0 lo fun l=>Bz es.length hi fun h=>0≤l∧l≤h∧h≤es.length∧K (.sl k ((es.drop l.toNat).take (h.toNat-l.toNat)))
 |none=>False
theorem vX (i:TI) (k:Nat) (es:List AV) (lo hi:Option AV):Hp T i (.sl k es) lo hi K=asl i.td.elem T k es lo hi K:=(rfl)
theorem mE (i:TI) (e k:Nat) (es:List AV) (lo hi:Option AV):Hp T i (.own e k es) lo hi K=asl i.td.elem T k es lo hi K:=(rfl)
theorem AcU (e k:Nat) (es:List AV) (lo hi:Option AV):asl (some e) T k es lo hi K=AtW (T e) k es lo hi K:=(rfl)
theorem vY (j:TI) (k:Nat) (es:List AV) (lo hi:Option AV):AtW (some j) k es lo hi K=(k=j.size∧Bz 0 lo fun l=>Bz es.length hi fun h=>0≤l∧l≤h∧h≤es.length∧K (.sl k ((es.drop l.toNat).take (h.toNat-l.toNat)))):=(rfl)
theorem mF (i:TI) (s:ByteArray) (lo hi:Option AV):Hp T i (.raw (.string s)) lo hi K=(i.td.str=true∧Bz 0 lo fun l=>Bz s.data.toList.length hi fun h=>
 0≤l∧l≤h∧h≤s.data.toList.length∧K (.raw (.string ⟨((s.data.toList.drop l.toNat).take (h.toNat-l.toNat)).toArray⟩))):=(rfl)
def acv (o:Option IntKind) (n:Int) (K:AV→Prop):Prop:=match o with
 |some k=>K (.raw (.int k (k.wrap n)))
 |none=>False
theorem mG (s d:TI) (k:IntKind) (n:Int):Iz T s d (.raw (.int k n)) K=acv d.td.ik n K:=(rfl)
theorem AcV (k:IntKind) (n:Int):acv (some k) n K=K (.raw (.int k (k.wrap n))):=(rfl)
def aex (x:AV) (σ:List AV) (s n:Nat) (d:Option Nat) (L:List AV→Prop):Prop:=match x with
 |.tup cs=>n<cs.length∧L (aset (σ.set s (.tup (cs.set n (v2 (cs.getD n .any))))) d (pl (cs.getD n .any)))
 |_=>False
theorem dQ (s n:Nat) (d:Option Nat):Ej σ (.tmp s) n d L=aex (σ.getD s .any) σ s n d L:=(rfl)
theorem AjG (cs:List AV) (s n:Nat) (d:Option Nat):aex (.tup cs) σ s n d L=(n<cs.length∧L (aset (σ.set s (.tup (cs.set n (v2 (cs.getD n .any))))) d (pl (cs.getD n .any)))):=(rfl)
def krow (s:Nat) (σ:List AV) (d:Option Nat) (L:List AV→Prop) (r y:AV):Prop:=L (aset (σ.set s y) d r)
theorem AcW (g s e k:Nat) (es:List AV) (rest:List Operand) (d:Option Nat):R5 P σ g s e k es rest d L=(d≠some s∧B9 P g (.row e k es) (agrab (σ.set s .any) rest).1 (krow s (agrab (σ.set s .any) rest).2 d L)):=(rfl)
theorem AjH (s:Nat) (d:Option Nat) (r y:AV):krow s σ d L r y=L (aset (σ.set s y) d r):=(rfl)
def AtX (P:Program) (x:AV) (σ:List AV) (s g t:Nat) (rest:List Operand) (d:Option Nat) (L:List AV→Prop):Prop:=match x with
 |.row e k es=>R5 P σ g s e k es rest d L
 |_=>Dr P σ (.func g) (.tmp t::rest) d L
theorem mH (s g t:Nat) (rest:List Operand) (d:Option Nat):rcl P σ (.alias s) g t rest d L=AtX P (σ.getD s .any) σ s g t rest d L:=(rfl)
theorem AcX (e k:Nat) (es:List AV) (s g t:Nat) (rest:List Operand) (d:Option Nat):AtX P (.row e k es) σ s g t rest d L=R5 P σ g s e k es rest d L:=(rfl)
theorem B9.mono {f:Nat} {x:AV} {args:List AV} {R R':AV→AV→Prop} (h:B9 P f x args R) (hr:∀r y,R r y→R' r y):B9 P f x args R':=by obtain⟨h1,⟨r,y,h0⟩,h2⟩:=h;exact⟨h1,⟨r,y,hr r y h0⟩,fun w S v vs c hz hv hc=>(h2 w S v vs c hz hv hc).mono fun e w' ⟨u,r,y,S',c',he,hR,h3⟩=>⟨u,r,y,S',c',he,hr r y hR,h3⟩⟩
end
attribute [go_sem] Option.map_none AyG Nat.sub_zero Ayc Int.toNat_zero AcM AcN AjE AcO AcP AcQ vW AjF AcR AcS vV mB AcT mC dP mD vX mE AcU vY mF mG AcV dQ AjG AcW AjH mH AcX AxZ AxT List.headD_cons List.headD_nil
end
section
open Go.RowKit
def dead {α:Type} (P:Program):Sem α→Prop
 |.pure _=>False
 |.program k=>dead P (k P)
 |.mark _ k=>dead P k
 |.choose _ k=>∀n,dead P (k n)
 |.new _ k=>∀n,dead P (k n)
 |.halt _=>True
 |_=>False
def Cg {α:Type} (P:Program):Sem α→Prop
 |.pure _=>True
 |.program k=>Cg P (k P)
 |.mark _ k=>Cg P k
 |.choose _ k=>∀n,dead P (k n)
 |.new _ k=>∀n,dead P (k n)
 |.halt _=>True
 |_=>False
def still {α:Type} (P:Program):Sem α→Prop
 |.pure _=>True
 |.program k=>still P (k P)
 |.mark _ k=>still P k
 |.choose _ k=>∀n,dead P (k n)
 |.new _ k=>∀n,dead P (k n)
 |.halt _=>True
 |.load _ _ k=>∀v,still P (k v)
 |.shape _ k=>∀s,still P (k s)
 |.frozen _ k=>∀b,still P (k b)
 |.getObj _ k=>∀o,still P (k o)
 |_=>False
section
variable {α β : Type} {P : Program}
theorem Ef:∀{s:Sem α} {f:α→Sem β},dead P s→dead P (s.bind f)
 |.program k,f,hs=>Ef (s:=k P) hs
 |.mark _ k,f,hs=>Ef (s:=k) hs
 |.choose _ k,f,hs=>fun n=>Ef (hs n)
 |.new _ k,f,hs=>fun n=>Ef (hs n)
 |.halt _,f,_=>trivial
 |.pure ..,_,hs|.load ..,_,hs|.store ..,_,hs|.shape ..,_,hs|.freeze ..,_,hs|.frozen ..,_,hs|.getObj ..,_,hs|.setObj ..,_,hs|.sys ..,_,hs=>hs.elim
theorem Fh:∀{s:Sem α} {f:α→Sem β},Cg P s→(∀x,Cg P (f x))→Cg P (s.bind f)
 |.pure a,f,_,h=>h a
 |.program k,f,hs,h=>Fh (s:=k P) hs h
 |.mark _ k,f,hs,h=>Fh (s:=k) hs h
 |.choose _ k,f,hs,_=>fun n=>Ef (hs n)
 |.new _ k,f,hs,_=>fun n=>Ef (hs n)
 |.halt _,f,_,_=>trivial
 |.load ..,_,hs,_|.store ..,_,hs,_|.shape ..,_,hs,_|.freeze ..,_,hs,_|.frozen ..,_,hs,_|.getObj ..,_,hs,_|.setObj ..,_,hs,_|.sys ..,_,hs,_=>hs.elim
theorem E9:∀{s:Sem α} {f:α→Sem β},still P s→(∀x,still P (f x))→still P (s.bind f)
 |.pure a,f,_,h=>h a
 |.program k,f,hs,h=>E9 (s:=k P) hs h
 |.mark _ k,f,hs,h=>E9 (s:=k) hs h
 |.choose _ k,f,hs,_=>fun n=>Ef (hs n)
 |.new _ k,f,hs,_=>fun n=>Ef (hs n)
 |.halt _,f,_,_=>trivial
 |.load _ _ k,f,hs,h=>fun v=>E9 (hs v) h
 |.shape _ k,f,hs,h=>fun v=>E9 (hs v) h
 |.frozen _ k,f,hs,h=>fun v=>E9 (hs v) h
 |.getObj _ k,f,hs,h=>fun v=>E9 (hs v) h
 |.store ..,_,hs,_|.freeze ..,_,hs,_|.setObj ..,_,hs,_|.sys ..,_,hs,_=>hs.elim
theorem Eg:∀{s:Sem α},Cg P s→still P s
 |.pure a,_=>trivial
 |.program k,hs=>Eg (s:=k P) hs
 |.mark _ k,hs=>Eg (s:=k) hs
 |.choose _ k,hs=>hs
 |.new _ k,hs=>hs
 |.halt _,_=>trivial
 |.load ..,hs|.store ..,hs|.shape ..,hs|.freeze ..,hs|.frozen ..,hs|.getObj ..,hs|.setObj ..,hs|.sys ..,hs=>hs.elim
theorem A0:∀{s:Sem α},dead P s→Cg P s
 |.pure a,h=>h.elim
 |.program k,hs=>A0 (s:=k P) hs
 |.mark _ k,hs=>A0 (s:=k) hs
 |.choose _ k,hs=>hs
 |.new _ k,hs=>hs
 |.halt _,_=>trivial
 |.load ..,hs|.store ..,hs|.shape ..,hs|.freeze ..,hs|.frozen ..,hs|.getObj ..,hs|.setObj ..,hs|.sys ..,hs=>hs.elim
theorem M7 {f:α→Sem β} (h:∀x,dead P (f x)):∀{s:Sem α},Cg P s→dead P (s.bind f)
 |.pure a,_=>h a
 |.program k,hs=>M7 h (s:=k P) hs
 |.mark _ k,hs=>M7 h (s:=k) hs
 |.choose _ k,hs=>fun n=>Ef (hs n)
 |.new _ k,hs=>fun n=>Ef (hs n)
 |.halt _,_=>trivial
 |.load ..,hs|.store ..,hs|.shape ..,hs|.freeze ..,hs|.frozen ..,hs|.getObj ..,hs|.setObj ..,hs|.sys ..,hs=>hs.elim
theorem Eo {w':World} {x:α}:∀{s:Sem α} {w:World},dead P s→s.run P w≠ .ok x w'
 |.program k,w,hs=>by simp only[Sem.run];exact Eo (s:=k P) hs
 |.mark _ k,w,hs=>by simp only[Sem.run];exact Eo (s:=k) hs
 |.choose _ k,w,hs=>by
  simp only[Sem.run];split
  ·exact Eo (hs _)
  ·exact Eo (hs _)
 |.new _ k,w,hs=>by simp only[Sem.run];exact Eo (hs _)
 |.halt _,w,_=>by simp [Sem.run]
 |.pure ..,_,hs|.load ..,_,hs|.store ..,_,hs|.shape ..,_,hs|.freeze ..,_,hs|.frozen ..,_,hs|.getObj ..,_,hs|.setObj ..,_,hs|.sys ..,_,hs=>hs.elim
theorem Sq {w w':World} {x:α}:∀{s:Sem α},Cg P s→s.run P w=.ok x w'→∀w2,s.run P w2=.ok x w2
 |.pure a,_,h,w2=>by simp only[Sem.run]at h⊢;injection h with h1 h2;rw[h1]
 |.program k,hs,h,w2=>by simp only[Sem.run]at h⊢;exact Sq (s:=k P) hs h w2
 |.mark _ k,hs,h,w2=>by simp only[Sem.run]at h⊢;exact Sq (s:=k) hs h w2
 |.choose q k,hs,h,w2=>absurd h (Eo (s:=.choose q k) hs)
 |.new o k,hs,h,w2=>absurd h (Eo (s:=.new o k) hs)
 |.halt _,_,h,w2=>by simp [Sem.run]at h
 |.load ..,hs,_,_|.store ..,hs,_,_|.shape ..,hs,_,_|.freeze ..,hs,_,_|.frozen ..,hs,_,_|.getObj ..,hs,_,_|.setObj ..,hs,_,_|.sys ..,hs,_,_=>hs.elim
theorem Fi {w w':World} {x:α}:∀{s:Sem α},still P s→s.run P w=.ok x w'→w'=w
 |.pure a,_,h=>by simp only[Sem.run]at h;injection h with h1 h2;exact h2.symm
 |.program k,hs,h=>Fi (s:=k P) hs (by simpa only[Sem.run]using h)
 |.mark _ k,hs,h=>Fi (s:=k) hs (by simpa only[Sem.run]using h)
 |.halt _,_,h=>by simp [Sem.run]at h
 |.choose q k,hs,h=>absurd h (Eo (s:=.choose q k) hs)
 |.new o k,hs,h=>absurd h (Eo (s:=.new o k) hs)
 |.load m a k,hs,h=>by
  simp only[Sem.run]at h;split at h
  ·exact Fi (hs _) h
  ·split at h
   ·exact Fi (hs _) h
   ·cases h
 |.shape _ k,hs,h=>Fi (hs _) (by simpa only[Sem.run]using h)
 |.frozen _ k,hs,h=>Fi (hs _) (by simpa only[Sem.run]using h)
 |.getObj r k,hs,h=>by
  simp only[Sem.run]at h;split at h
  ·cases h
  ·exact Fi (hs _) h
  ·cases h
 |.store ..,hs,_|.freeze ..,hs,_|.setObj ..,hs,_|.sys ..,hs,_=>hs.elim
end
section
variable {P : Program} {ops : Array Oper} {Q : Exit → Act → World → Prop} {cl : Nat → Nat} {C : World → Prop}
def wpC (P:Program) (ops:Array Oper) (cl:Nat→Nat) (C:World→Prop) (Q:Exit→Act→World→Prop):List Nat→Act→World→Prop
 |[],a,w=>Q .normal a w
 |i::l,a,w=>∃o,ops[i]? =some o∧((cl i=0∧∃v,Yields P ops o v a∧wpC P ops cl C Q l (a.put o.dst v) w)∨(cl i=1∧C w∧∃v,YieldsIf P ops C o v a∧wpC P ops cl C Q l (a.put o.dst v) w)∨
   (cl i=2∧wpOp P ops Q i (fun a w=>C w∧wpC P ops cl C Q l a w) a w)∨(3≤cl i∧wpOp P ops Q i (wpC P ops cl C Q l) a w))
def com (ops:Array Oper) (cl:Nat→Nat) (x y:Nat):Bool:=match ops[x]?,ops[y]? with
 |some ox,some oy=>ox.apart ops oy&&(cl x==0||(cl x==1&&decide (cl y≤2)))
 |_,_=>false
theorem dR {x y:Nat} {ox oy:Oper} (h:com ops cl x y=true) (hx:ops[x]? =some ox) (hy:ops[y]? =some oy):ox.apart ops oy=true∧(cl x=0∨(cl x=1∧cl y≤2)):=by simpa[com,hx,hy]using h
def AcY (ops:Array Oper):Prop:=∀(j:Nat) (o:Oper) cs b,ops[j]? =some o→o.op≠ .select cs b
theorem rQ {oi oj:Oper} {a:Act} {v u:Value} (hs:∀cs b,oi.op≠ .select cs b) (h:∀d,oj.dst=some d→d∉oi.looksAt ops):YieldsIf P ops C oi v (a.put oj.dst u)↔YieldsIf P ops C oi v a:=
 ⟨fun hy=>hy.of_same (execOp_put oi hs a oj.dst u h).symm (wanted_put oi a oj.dst u h).symm,fun hy=>hy.of_same (execOp_put oi hs a oj.dst u h) (wanted_put oi a oj.dst u h)⟩
theorem Sr {oi oj:Oper} {a:Act} {v u:Value} (hs:∀cs b,oi.op≠ .select cs b) (h:∀d,oj.dst=some d→d∉oi.looksAt ops):Yields P ops oi v (a.put oj.dst u)↔Yields P ops oi v a:=
 ⟨fun hy=>hy.of_same (execOp_put oi hs a oj.dst u h).symm (wanted_put oi a oj.dst u h).symm,fun hy=>hy.of_same (execOp_put oi hs a oj.dst u h) (wanted_put oi a oj.dst u h)⟩
theorem App (hsel:AcY ops) {j:Nat} {oj:Oper} (hj:ops[j]? =some oj) (hcj:cl j≤1):∀(l:List Nat) (a:Act) (w:World),j∈l→l.Pairwise (fun x y=>y=j→com ops cl x j=true)→wpC P ops cl C Q l a w→
 ∃u,(if cl j=0 then Yields P ops oj u a else C w∧YieldsIf P ops C oj u a)∧wpC P ops cl C Q (l.erase j) (a.put oj.dst u) w
 |[],a,w,h,_,_=>by cases h
 |x::l,a,w,hm,hp,h=>by
  simp only[wpC]at h;obtain⟨ox,hox,h⟩:=h;by_cases hx:x=j
  ·subst hx;rw[hj]at hox;injection hox with hox;subst hox;rw[List.erase_cons_head];rcases h with⟨h0,v,hy,h⟩|⟨h1,hc,v,hy,h⟩|⟨h2,h⟩|⟨h2,h⟩
   ·exact ⟨v,by rw[if_pos h0];exact hy,h⟩
   ·exact ⟨v,by rw[if_neg om];exact⟨hc,hy⟩,h⟩
   ·omega
   ·omega
  ·have hm':j∈l:=(Ax2.1 hm).resolve_left fun h=>hx h.symm;rw[List.erase_cons_tail (by simpa using hx)];obtain⟨hp1,hp2⟩:=AxN.1 hp;obtain⟨hap,hcl⟩:=dR (hp1 j hm' rfl) hox hj;obtain⟨k1,k2,k3⟩:=Oper.apart_spec hap;have sx:=fun cs b=>hsel x ox cs b hox;have sj:=fun cs b=>hsel j oj cs b hj
   have back:∀{u v:Value},(if cl j=0 then Yields P ops oj u (a.put ox.dst v)else C w∧YieldsIf P ops C oj u (a.put ox.dst v))→(if cl j=0 then Yields P ops oj u a else C w∧YieldsIf P ops C oj u a):=fun{u v} hu=>by
    split at hu
    ·rename_i h0;rw[if_pos h0];exact(Sr sj k1).1 hu
    ·rename_i h0;rw[if_neg h0];exact⟨hu.1,(rQ sj k1).1 hu.2⟩
   rcases h with⟨h0,v,hy,h⟩|⟨h1,hc,v,hy,h⟩|⟨h2,h⟩|⟨h2,h⟩
   ·obtain ⟨u,hu,h'⟩:=App hsel hj hcj l (a.put ox.dst v) w hm' hp2 h;exact⟨u,back hu,ox,hox,.inl ⟨h0,v,(Sr sx k3).2 hy,by rw[←Act.put_comm a v u k2];exact h'⟩⟩
   ·obtain ⟨u,hu,h'⟩:=App hsel hj hcj l (a.put ox.dst v) w hm' hp2 h;exact⟨u,back hu,ox,hox,.inr (.inl ⟨h1,hc,v,(rQ sx k3).2 hy,by rw[←Act.put_comm a v u k2];exact h'⟩)⟩
   ·omega
   ·omega
theorem Apq (hsel:AcY ops) (hQ:∀c a d v w,Q (.panic c) (a.put d v) w→Q (.panic c) a w) {j:Nat} {oj:Oper} (hj:ops[j]? =some oj) (hcj:2≤cl j):∀(l:List Nat) (a:Act) (w:World),j∈l→l.Pairwise (fun x y=>y=j→com ops cl x j=true)→wpC P ops cl C Q l a w→
 wpOp P ops Q j (fun a w=>(cl j=2→C w)∧wpC P ops cl C Q (l.erase j) a w) a w
 |[],a,w,h,_,_=>by cases h
 |x::l,a,w,hm,hp,h=>by
  simp only[wpC]at h;obtain⟨ox,hox,h⟩:=h;by_cases hx:x=j
  ·subst hx;rw[List.erase_cons_head];rcases h with⟨h0,v,hy,h⟩|⟨h1,hc,v,hy,h⟩|⟨h2,h⟩|⟨h2,h⟩
   ·omega
   ·omega
   ·exact wpOp_mono (fun a w ⟨g1,g2⟩=>⟨fun _=>g1,g2⟩) h
   ·exact wpOp_mono (fun a w g=>⟨fun h=>om,g⟩) h
  ·have hm':j∈l:=(Ax2.1 hm).resolve_left fun h=>hx h.symm;rw[List.erase_cons_tail (by simpa using hx)];obtain⟨hp1,hp2⟩:=AxN.1 hp;obtain⟨hap,hcl⟩:=dR (hp1 j hm' rfl) hox hj;have sx:=fun cs b=>hsel x ox cs b hox;have sj:=fun cs b=>hsel j oj cs b hj;rcases h with⟨h0,v,hy,h⟩|⟨h1,hc,v,hy,h⟩|⟨h2,h⟩|⟨h2,h⟩
   ·have ih:=Apq hsel hQ hj hcj l (a.put ox.dst v) w hm' hp2 h;exact wpOp_mono (fun a' w' ⟨g1,g2,g3⟩=>⟨g2,ox,hox,.inl ⟨h0,v,g1,g3⟩⟩) (wpOp_put hj hap sx sj (fun c a w=>hQ c a _ _ w) hy ih)
   ·have ih:=Apq hsel hQ hj hcj l (a.put ox.dst v) w hm' hp2 h;have hj2:cl j=2:=om;exact wpOp_mono (fun a' w' ⟨g1,g2,g3⟩=>⟨g2,ox,hox,.inr (.inl ⟨h1,g2 hj2,v,g1,g3⟩)⟩) (wpOp_putIf hj hap sx sj (fun c a w=>hQ c a _ _ w) hy ih)
   ·omega
   ·omega
def Pp (m:List (Nat×Nat)):List Edge→Nat
 |[]=>0
 |e::es=>bif Region.binds .any e then 2 ^ e.on ||| ((m.lookup e.on).getD 0 ||| Pp m es)else Pp m es
def rR (ops:Array Oper):List Nat→List (Nat×Nat)→List (Nat×Nat)
 |[],m=>m
 |i::l,m=>rR ops l ((i,Pp m (((ops[i]?).map (·.after.toList)).getD []))::m)
def vZ (ops:Array Oper):List Nat→List Nat→Bool
 |[],_=>true
 |i::l,seen=> !seen.contains i&&decide (i<ops.size)&&(((ops[i]?).map (·.after.toList)).getD []).all (fun e=> !Region.binds .any e||seen.contains e.on)&&vZ ops l (i::seen)
def rS (ops:Array Oper) (cl:Nat→Nat) (m:List (Nat×Nat)):List Nat→Bool
 |[]=>true
 |x::l=>l.all (fun y=>((m.lookup y).getD 0).testBit x||com ops cl x y)&&rS ops cl m l
def drB (ops:Array Oper) (cl:Nat→Nat) (L:List Nat):Bool:=
 Nat.ble L.length ops.size&&Region.noSelect ops&&vZ ops L []&&(List.range ops.size).all (fun i=>L.contains i)&&rS ops cl (rR ops L []) L
def Dn (ops:Array Oper) (listed:Array Bool):Prop:=∀k o,ops[k]? =some o→listed.getD k false=true→∀e∈o.after,Region.binds .any e=true→listed.getD e.on false=true
def Gd (ops:Array Oper) (m:List (Nat×Nat)):Prop:=∀y o x,ops[y]? =some o→((m.lookup y).getD 0).testBit x=true→∀listed,Dn ops listed→(∀e∈o.after,Region.binds .any e=true→listed.getD e.on false=true)→listed.getD x false=true
theorem V2 {m:List (Nat×Nat)} (hm:Gd ops m) {x:Nat} {listed:Array Bool} (hd:Dn ops listed):∀(es:List Edge),(∀e∈es,Region.binds .any e=true→listed.getD e.on false=true∧∃o,ops[e.on]? =some o)→(Pp m es).testBit x=true→listed.getD x false=true
 |[],_,h=>by simp [Pp]at h
 |e::es,he,h=>by
  simp only[Pp]at h
  cases hb:Region.binds .any e with
  |false=>rw[hb]at h;exact AnQ
  |true=>
   rw[hb]at h;simp only[cond_true,Nat.testBit_or,Ayk,Nat.testBit_two_pow]at h;obtain⟨g1,o,g2⟩:=he e (List.mem_cons_self) hb;rcases h with h|h|h
   ·have:e.on=x:=by simpa using h
    rw[←this];exact g1
   ·exact hm e.on o x g2 h listed hd (hd e.on o g2 g1)
   ·exact AnQ
theorem dS:∀(L seen:List Nat) (m:List (Nat×Nat)),(∀i∈seen,i<ops.size)→vZ ops L seen=true→Gd ops m→Gd ops (rR ops L m)
 |[],_,m,_,_,h=>h
 |i::L,seen,m,hs,ht,hm=>by
  simp only[vZ,Ax3,decide_eq_true_eq]at ht;obtain⟨⟨⟨h1,h2⟩,h3⟩,h4⟩:=ht;refine dS L (i::seen) _ (fun k hk=> ?_) h4 fun y o x hy hx listed hd hall=> ?_
  ·rcases Ax2.1 hk with rfl|hk
   ·exact h2
   ·exact hs k hk
  ·by_cases hyi:y=i
   ·subst hyi;simp only[List.lookup_cons_self,Option.getD_some,hy,AyG]at hx h3;refine V2 hm hd _ (fun e he hb=>⟨hall e (by simpa using he) hb,?_⟩) hx;have:=Ax7.1 h3 e he;rw[hb]at this;have hlt:=hs e.on (by simpa using this);exact⟨_,Array.getElem?_eq_getElem hlt⟩
   ·have:(y==i)=false:=by simpa using hyi
    rw[List.lookup_cons,this]at hx;exact hm y o x hy hx listed hd hall
theorem AcZ (hsel:AcY ops) (hQ:∀c a d v w,Q (.panic c) (a.put d v) w→Q (.panic c) a w) {m:List (Nat×Nat)} (hm:Gd ops m):
 ∀(fuel:Nat) (listed:Array Bool) (l:List Nat) (a:Act) (w:World),l.length≤fuel→listed.size=ops.size→Dn ops listed→l.Nodup→(∀i,i<ops.size→(listed.getD i false=false↔i∈l))→(∀i∈l,i<ops.size)→
  l.Pairwise (fun x y=>(((m.lookup y).getD 0).testBit x||com ops cl x y)=true)→l.Pairwise (fun x y=>∀o,ops[x]? =some o→∀e∈o.after,Region.binds .any e=true→e.on≠y)→(∀x∈l,∀o,ops[x]? =some o→∀e∈o.after,Region.binds .any e=true→e.on≠x∧e.on<ops.size)→
  wpC P ops cl C Q l a w→wpAny P .any ops Q fuel listed a w:=by
 intro fuel
 induction fuel with
 |zero=>intro listed l a w hf hsz hd hn hun hlt hp ht hs h;have:l=[]:=AxA om;subst this;refine⟨?_,h⟩;refine List.eq_nil_iff_forall_not_mem.2 fun j hj=> ?_;obtain⟨h0,o,ho,_⟩:=mem_ready.1 hj;have hjl:=(Array.getElem?_eq_some_iff.1 ho).1;have h1:=(hun j hjl).1 (by simpa[hsz,hjl]using h0);cases h1
 |succ fuel ih=>
  intro listed l a w hf hsz hd hn hun hlt hp ht hs h;refine⟨fun h0=> ?_,fun j hj=> ?_⟩
  ·cases l with
   |nil=>exact h
   |cons x l=>
    exfalso;have hx:=hlt x oS
    have hmem:x∈Region.ready .any ops listed:=by
     rw[mem_ready];have hu:=(hun x hx).2 oS;refine⟨by simpa[hsz,hx]using hu,_,Array.getElem?_eq_getElem hx,fun e he hb=> ?_⟩;obtain⟨k1,k2⟩:=hs x oS _ (Array.getElem?_eq_getElem hx) e he hb
     cases hg:listed.getD e.on false with
     |true=>rfl
     |false=>
      have:=(hun e.on k2).1 hg;rcases Ax2.1 this with h1|h1
      ·exact absurd h1 k1
      ·exact absurd rfl ((AxN.1 ht).1 e.on h1 _ (Array.getElem?_eq_getElem hx) e he hb)
    rw[h0]at hmem;cases hmem
  ·obtain ⟨hj0,oj,hoj,hall⟩:=mem_ready.1 hj;have hjl:=(Array.getElem?_eq_some_iff.1 hoj).1;have hju:listed.getD j false=false:=by simpa[hsz,hjl]using hj0
   have hjm:=(hun j hjl).1 hju
   have hpj:l.Pairwise (fun x y=>y=j→com ops cl x j=true):=by
    refine hp.imp_of_mem fun{x y} hx hy hr hyj=> ?_;subst hyj;simp only[Ayk]at hr;rcases hr with hr|hr
    ·have:=hm y oj x hoj hr listed hd hall;rw[(hun x (hlt x hx)).2 hx]at this;cases this
    ·exact hr
   have hrest:∀a w,wpC P ops cl C Q (l.erase j) a w→wpAny P .any ops Q fuel (listed.setIfInBounds j true) a w:=fun a w h=>by
    have hsub:=List.erase_sublist (a:=j) (l:=l);refine ih _ (l.erase j) a w ?_ (by simpa using hsz) ?_ (hn.erase j) (fun i hi=> ?_) (fun i hi=>hlt i (hsub.mem hi)) (hp.sublist hsub) (ht.sublist hsub) (fun x hx=>hs x (hsub.mem hx)) h
    ·rw [List.length_erase_of_mem hjm];omega
    ·intro k o hk hkl e he hb;by_cases hkj:j=k
     ·subst hkj;rw[hoj]at hk;injection hk with hk;subst hk;exact getD_set_true (hall e he hb)
     ·rw [getD_set_ne false hkj]at hkl;exact getD_set_true (hd k o hk hkl e he hb)
    ·by_cases hji:j=i
     ·subst hji;have:¬j∈l.erase j:=fun h=>(List.Nodup.mem_erase_iff hn).1 h |>.1 rfl;simp [hsz,hi,this]
     ·rw [getD_set_ne false hji,hun i hi,List.mem_erase_of_ne (fun h=>hji h.symm)]
   rcases Axz (cl j) 2 with hc|hc
   ·obtain ⟨u,hu,h'⟩:=App hsel hoj om l a w hjm hpj h;split at hu
    ·exact hu.wpOp hoj (hrest _ _ h')
    ·exact hu.2.wpOp hoj hu.1 (hrest _ _ h')
   ·exact wpOp_mono (fun a w g=>hrest a w g.2) (Apq hsel hQ hoj hc l a w hjm hpj h)
theorem V3:∀(L seen:List Nat),vZ ops L seen=true→L.Nodup∧(∀i∈L,i<ops.size∧i∉seen)∧(∀x∈L,∀o,ops[x]? =some o→∀e∈o.after,Region.binds .any e=true→e.on∈seen∨e.on∈L∧e.on≠x)∧
 L.Pairwise (fun x y=>∀o,ops[x]? =some o→∀e∈o.after,Region.binds .any e=true→e.on≠y)
 |[],seen,_=>⟨List.nodup_nil,oS,oS,List.Pairwise.nil⟩
 |i::L,seen,h=>by
  simp only[vZ,Ax3,decide_eq_true_eq,AyR,List.contains_eq_mem,decide_eq_false_iff_not]at h;obtain⟨⟨⟨h1,h2⟩,h3⟩,h4⟩:=h;obtain⟨g1,g2,g3,g4⟩:=V3 L (i::seen) h4;have hi:∀o,ops[i]? =some o→∀e∈o.after,Region.binds .any e=true→e.on∈seen:=fun o ho e he hb=>by rw[ho]at h3;have:=Ax7.1 h3 e (by simpa using he);rw[hb]at this;exact G5
  have hiL:i∉L:=fun h=>(g2 i h).2 oS;refine⟨List.nodup_cons.2 ⟨hiL,g1⟩,fun k hk=> ?_,fun x hx o ho e he hb=> ?_,AxN.2 ⟨fun y hy o ho e he hb heq=> ?_,g4⟩⟩
  ·rcases Ax2.1 hk with rfl|hk
   ·exact ⟨h2,h1⟩
   ·exact ⟨(g2 k hk).1,fun h=>(g2 k hk).2 (Aya _ h)⟩
  ·rcases Ax2.1 hx with rfl|hx
   ·exact .inl (hi o ho e he hb)
   ·rcases g3 x hx o ho e he hb with h|⟨h,hne⟩
    ·rcases Ax2.1 h with h|h
     ·refine .inr ⟨by simp [h],fun h'=>hiL ?_⟩;rw[←h,h'];exact hx
     ·exact .inl h
    ·exact .inr ⟨Aya _ h,hne⟩
  ·have:=hi o ho e he hb;rw[heq]at this;exact(g2 y hy).2 (Aya _ this)
theorem Ss {m:List (Nat×Nat)}:∀(L:List Nat),rS ops cl m L=true→L.Pairwise (fun x y=>(((m.lookup y).getD 0).testBit x||com ops cl x y)=true)
 |[],_=>List.Pairwise.nil
 |x::L,h=>by simp only[rS,Ax3]at h;exact AxN.2 ⟨fun y hy=>Ax7.1 h.1 y hy,Ss L h.2⟩
theorem V4 {L:List Nat} (h:drB ops cl L=true) (hQ:∀c a d v w,Q (.panic c) (a.put d v) w→Q (.panic c) a w) {a:Act} {w:World} (hw:wpC P ops cl C Q L a w):wpAny P .any ops Q ops.size (Array.replicate ops.size false) a w:=by
 simp only[drB,Ax3]at h;obtain⟨⟨⟨⟨h0,h1⟩,h2⟩,h3⟩,h4⟩:=h;obtain⟨g1,g2,g3,g4⟩:=V3 L [] h2;have hall:∀i,i<ops.size→i∈L:=fun i hi=>by simpa using Ax7.1 h3 i (Ay6.2 hi)
 have hf:∀i,(Array.replicate ops.size false).getD i false=false:=fun i=>by by_cases hi:i<ops.size<;>simp [hi]
 refine AcZ (Region.noSelect_spec h1) hQ (m:=rR ops L []) (dS L [] [] oS h2 fun y o x _ hx=>by simp at hx) ops.size _ L a w ?_ oS (fun k o _ hk=>by rw[hf]at hk;cases hk) g1 (fun i hi=>⟨fun _=>hall i hi,fun _=>hf i⟩) (fun i hi=>(g2 i hi).1) (Ss L h4) g4 (fun x hx o ho e he hb=> ?_) hw
 ·exact Nat.le_of_ble_eq_true h0
 ·rcases g3 x hx o ho e he hb with h|⟨h,hne⟩
  ·cases h
  ·exact ⟨hne,(g2 e.on h).1⟩
end
end
section
open Go.RowKit
section
variable {P : Program} {α β : Type}
theorem Cb {s:Sem α} {f:α→Sem β} (hs:Cg P s) (h:∀x,Cg P (f x)):Cg P (s >>= f):=Fh hs h
theorem Je {s:Sem α} {f:α→Sem β} (hs:still P s) (h:∀x,still P (f x)):still P (s >>= f):=E9 hs h
theorem Gm (t:TypeId):Cg P (underlying t):=by unfold underlying;show Cg P (match P.underlying t with|some d=>pure d|none=>stuck "no such type" :Sem TypeDesc);split<;>trivial
theorem Iq (t:TypeId):Cg P (typeInfo t):=by unfold typeInfo;show Cg P (match P.info? t with|some d=>pure d|none=>stuck "no such type" :Sem TypeInfo);split<;>trivial
theorem Ha (t:TypeId):Cg P (sizeOf t):=Cb (Iq t) fun _=>trivial
theorem Dp (e:RuntimeError):dead P (runtimePanic e:Sem α):=by
 have hel:∀t,Cg P (elemOf t):=fun t=>by unfold elemOf;refine Cb (Gm t) fun d=> ?_;split<;>trivial
 unfold runtimePanic;cases e<;>first|exact trivial|(refine M7 (s:=elemOf _) (fun x=> ?_) (hel _);exact fun n=>trivial)
theorem Fv (t:TypeId):Cg P (isAgg t):=by unfold isAgg;refine Cb (Gm t) fun d=> ?_;split<;>trivial
theorem Nz (v:Value):Cg P (asIntOf v):=by unfold asIntOf;split<;>trivial
theorem N0 (k:IntKind) (x y:Int) (c:BoundsCode):dead P (boundsPanic k x y c:Sem α):=by
 unfold boundsPanic;split
 ·exact fun n=>Dp (P:=P) (α:=α) (.bounds (IntKind.i64.wrap x) y (n==1) c)
 ·exact Dp (P:=P) (α:=α) (.bounds (IntKind.i64.wrap x) y (k !=.u64) c)
theorem N1 (v:Value):Cg P (asAgg v):=by unfold asAgg;split<;>trivial
theorem Jw (v:Value):Cg P (Instr.sureAddr v):=by unfold Instr.sureAddr;split<;>trivial
theorem Jx (t:TypeId) (cs:Array Value) (n:Nat):Cg P (part t cs n):=by
 unfold part;refine Cb (Fv t) fun b=> ?_;split
 ·exact Cb (Ha t) fun _=>trivial
 ·split<;>trivial
theorem mI (t:TypeId) (x:Value) (f:Nat):Cg P (Instr.field t x f):=by unfold Instr.field;exact qz4
theorem Yb (x:Value) (n:Nat):Cg P (Instr.extract x n):=by unfold Instr.extract;exact qz4
theorem mJ (t:TypeId) (x ix:Value):Cg P (Instr.index t x ix):=by unfold Instr.index;dsimp only;exact qz4
theorem Yc (t:TypeId) (x ix:Value):Cg P (Instr.indexAt t x ix):=by unfold Instr.indexAt;dsimp only;exact qz4
theorem AjI (x:Value) (y:Nat) (c:BoundsCode):Cg P (Instr.sliceBound x y c):=by unfold Instr.sliceBound;dsimp only;exact qz4
theorem dT (b:Bool) (n m:Nat) (l h x:Option Value):Cg P (Instr.sliceBounds b n m l h x):=by unfold Instr.sliceBounds;dsimp only;repeat' first|exact AjI _ _ _|exact trivial|exact Gm _|exact Iq _|exact Ha _|exact Fv _|exact Nz _|exact N1 _|exact Jw _|exact Jx _ _ _|exact A0 (N0 _ _ _ _)|exact A0 (Dp _)|refine Cb ?_ (fun _=> ?_)|split
theorem AjJ (v:Value):Cg P (asAddr v):=by unfold asAddr;exact qz4
theorem mK (t:TypeId) (x:Value) (l h m:Option Value):Cg P (Instr.slice t x l h m):=by unfold Instr.slice;dsimp only;repeat' first|exact dT _ _ _ _ _ _|exact AjJ _|exact trivial|exact Gm _|exact Iq _|exact Ha _|exact Fv _|exact Nz _|exact N1 _|exact Jw _|exact Jx _ _ _|exact A0 (N0 _ _ _ _)|exact A0 (Dp _)|refine Cb ?_ (fun _=> ?_)|split
theorem Yd (t:TypeId) (x:Value) (l h m:Option Value):Cg P (Instr.sliceAt t x l h m):=by unfold Instr.sliceAt;dsimp only;repeat' first|exact dT _ _ _ _ _ _|exact mK _ _ _ _ _|exact trivial|exact Gm _|exact Iq _|exact Ha _|exact Fv _|exact Nz _|exact N1 _|exact Jw _|exact Jx _ _ _|exact A0 (N0 _ _ _ _)|exact A0 (Dp _)|refine Cb ?_ (fun _=> ?_)|split
theorem rT (o:BinOp) (k:IntKind) (x y:Int):Cg P (Op.intArith o k x y):=by unfold Op.intArith;exact qz4
theorem rU (o:BinOp) (k:IntKind) (x y:Int):Cg P (Op.intBits o k x y):=by unfold Op.intBits;dsimp only;exact qz4
theorem AjK (o:UnOp) (x:Value):Cg P (Op.unary o x):=by unfold Op.unary;repeat' first|exact rT _ _ _ _|exact rU _ _ _ _|exact trivial|exact Gm _|exact Iq _|exact Ha _|exact Fv _|exact Nz _|exact N1 _|exact Jw _|exact Jx _ _ _|exact A0 (N0 _ _ _ _)|exact A0 (Dp _)|refine Cb ?_ (fun _=> ?_)|split
theorem AjL (t:TypeId) (x:Value):Cg P (Instr.makeInterface t x):=by unfold Instr.makeInterface;exact qz4
theorem AjM {f:Field} {n:Nat} (hsz:(P.info? f.type).map (·.size)=some n) (hn:n≠0) (ad:Addr):Cg P (fieldPlace ad f):=by
 cases hq:P.info? f.type with
 |none=>rw[hq]at hsz;simp at hsz
 |some inf=>rw[hq]at hsz;simp at hsz;simp [fieldPlace,sizeOf,typeInfo,program,Bind.bind,Sem.bind,Cg,hq,hsz,hn,Pure.pure]
theorem Jy {s:Sem Value} (h:Cg P s):Cg P (do pure (.value (←s)):Sem Next):=Cb h fun _=>trivial
theorem AjN {s:Sem Value} (h:still P s):still P (do pure (.value (←s)):Sem Next):=Je h fun _=>trivial
theorem dU (a:Addr):∀(n i:Nat) (acc:Array Value),still P (loadCellsFrom a i n acc)
 |0,i,acc=>trivial
 |n+1,i,acc=>by unfold loadCellsFrom;exact Je (fun v=>trivial) fun v=>dU a n (i+1) _
theorem mL (t:TypeId) (x:Value):still P (Instr.loadAt t x):=by
 unfold Instr.loadAt loadVar;refine Je (Eg (Jw _)) fun a=>Je (Eg (Fv _)) fun b=> ?_;split
 ·exact Je (Eg (Ha _)) fun n=>Je (dU _ _ _ _) fun _=>trivial
 ·exact fun v=>trivial
theorem Ada {ty:TypeId} {d:TypeDesc} (hd:P.underlying ty=some d) (hm:∀k e,d≠ .map k e) (hc:∀a b,d≠ .chan a b) (hp:∀e,d≠ .pointer e) (t:TypeId) (x:Value):Cg P (Builtin.len_ #[ty] t #[x]):=by unfold Builtin.len_;simp only[underlying,program,Bind.bind,Sem.bind,List.getElem?_toArray,List.getElem?_cons_zero,Cg,hd,Pure.pure];cases d<;>cases x<;>first|exact absurd rfl (hm _ _)|exact absurd rfl (hc _ _)|exact absurd rfl (hp _)|trivial
theorem AjO (op:BinOp) (t:TypeId) (x y:Operand) {a b:Value} (h1:a≠ .nilIface∨∃v,y=.const v) (h2:∀cs,a≠ .agg cs):Cg P (eqGuard op t x y a b):=by
 unfold eqGuard;rcases h1 with h1|⟨v,rfl⟩
 ·repeat' first|exact trivial|exact absurd rfl h1|exact absurd rfl (h2 _)|split
 ·simp only[Bool.or_true,if_true];repeat' first|exact trivial|exact absurd rfl (h2 _)|split
theorem Su {a b:Value} (t:TypeId) (h:(∃x y,a=.bool x∧b=.bool y)∨(a=.nilIface∨∃u v,a=.iface u v)∧b=.nilIface):Cg P (Op.equal t a b):=by unfold Op.equal;show Cg P (Op.equalIn (9999+1) t a b);unfold Op.equalIn;refine Cb (Gm t) fun d=> ?_;rcases h with⟨x,y,rfl,rfl⟩|⟨rfl|⟨u,v,rfl⟩,rfl⟩<;>cases d<;>exact trivial
def bkn:Value→Value→Nat
 |.int _ _,.int _ _=>1
 |.string _,.string _=>2
 |.bool _,.bool _=>3
 |.nilIface,.nilIface=>4
 |.iface _ _,.nilIface=>4
 |_,_=>0
theorem Adb (op:BinOp) (t:TypeId) {a b:Value} (h:bkn a b≠0):Cg P (binOp op t a b):=by
 unfold bkn at h;split at h
 ·rename_i k x k' y
  cases op<;>unfold binOp<;>simp only[]<;>first
   |(unfold Op.shift;split<;>first|exact A0 (Dp _)|exact trivial)
   |(split<;>first|exact trivial|exact rT _ _ _ _|exact rU _ _ _ _|(unfold Op.intDiv;split<;>first|exact A0 (Dp _)|exact trivial)|(unfold Op.intCmp;exact trivial))
 ·cases op<;>unfold binOp<;>simp only[]<;>unfold Op.stringOp<;>simp only[]<;>first|exact trivial|(split<;>exact trivial)
 ·rename_i x y;cases op<;>unfold binOp<;>simp only[]<;>first|exact trivial|exact Cb (Su t (.inl ⟨_,_,rfl,rfl⟩)) fun _=>trivial
 ·cases op<;>unfold binOp<;>simp only[]<;>first|exact trivial|exact Cb (Su t (.inr ⟨.inl rfl,rfl⟩)) fun _=>trivial
 ·cases op<;>unfold binOp<;>simp only[]<;>first|exact trivial|exact Cb (Su t (.inr ⟨.inr ⟨_,_,rfl⟩,rfl⟩)) fun _=>trivial
 ·exact absurd rfl h
theorem rV:∀(l:List FieldStep) (t:TypeId) (x:Option Value),Cg P (followBlind l t x)
 |[],t,x=>trivial
 |s::l,t,x=>by unfold followBlind;repeat' first|exact trivial|exact Gm _|exact Iq _|exact Ha _|exact Fv _|exact Jx _ _ _|exact A0 (Dp _)|exact rV l _ _|refine Cb ?_ (fun _=> ?_)|split
theorem rX:∀(n:Nat) (t:TypeId) (v:Value) (name:String),Cg P (nilAhead n t v name)
 |0,t,v,name=>trivial
 |n+1,t,v,name=>by unfold nilAhead;repeat' first|exact trivial|exact Gm _|exact Iq _|exact Ha _|exact Fv _|exact Jx _ _ _|exact A0 (Dp _)|exact rX n _ _ _|exact rV _ _ _|refine Cb ?_ (fun _=> ?_)|split
theorem Ye:∀(l:List Value) (x:Value),(∀v∈x::l,∃k n,v=.int k n)→Cg P (l.foldlM Builtin.min2 x)∧Cg P (l.foldlM Builtin.max2 x)
 |[],x,_=>⟨trivial,trivial⟩
 |y::l,x,h=>by
  obtain⟨k,n,rfl⟩:=h x oS;obtain⟨k',n',rfl⟩:=h y oS
  have ih:=fun m=>Ye l (.int k m) fun v hv=>by
   rcases Ax2.1 hv with rfl|hv
   ·exact ⟨_,_,rfl⟩
   ·exact h v (by simp [hv])
  rw[List.foldlM_cons,List.foldlM_cons];exact⟨(ih _).1,(ih _).2⟩
end
end
end Go.Proofs.YtmophjggmekoeaaGreatDoor
