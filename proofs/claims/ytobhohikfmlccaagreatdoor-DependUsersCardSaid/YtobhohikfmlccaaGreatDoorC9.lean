/- What the shelf asks of a program, by one word. -/
import Derived.Shelf.SlGeneric
import Derived.Shelf.Strings.Builder1
import Derived.Shelf.Strings.Builder2
import Derived.Shelf.Small.Utf8
import Derived.Shelf.Small.Bits
import Derived.Shelf.Small.Strs
import Derived.Shelf.Strconv.Atoi
import Derived.Shelf.Strconv.Itoa0
import Derived.Shelf.Strconv.Itoa1
import Derived.Shelf.LaysM
import Derived.Shelf.Strconv.Itoa2
import Derived.Shelf.Strconv.AtoiErrFast
import Derived.Shelf.Strconv.ParseIntEmpty
import Derived.Shelf.Strconv.AtoiFail
import Derived.Shelf.Strconv.Clone
import Derived.Shelf.Strconv.SyntaxError
import Derived.Shelf.LaysC
import Derived.Shelf.Strconv.ToError
import Derived.Shelf.Strconv.Lower
import Derived.Shelf.Strconv.ParseUint10
import Derived.Shelf.Strconv.ParseUint10Empty
import Derived.Shelf.Strconv.ParseUint10Any
import Derived.Shelf.Strconv.ParseInt10
import Derived.Shelf.Strconv.AtoiLong
import Derived.Shelf.Strconv.AtoiInnerAll
import Derived.Shelf.Strconv.RangeError
import Derived.Shelf.Strconv.ToErrorRange
import Derived.Shelf.Strings.Search1
import Derived.Shelf.Strings.Search2
import Derived.Shelf.Strings.Search3
import Derived.Shelf.Strings.Count
import Derived.Shelf.Strings.Shaped
import Derived.Shelf.Strings.Runes
import Derived.Shelf.Strings.AsciiSet
import Derived.Shelf.Unicode.DecodeSlow
import Derived.Lib.SlicesCompact
import Derived.Lib.RowBridge
import Derived.Sort.Walk0
import Derived.Laws.RangeAny
import Derived.Lib.OthersKept
import Derived.Deep.LoopGhost
import Derived.Test.YtobhohikfmlccaaGreatDoorC8
set_option linter.all false
set_option maxRecDepth 100000
set_option maxHeartbeats 4000000
open Go.Shelf Go.Proofs Go.RowKit Tryz Go.Lib Go.IntKind
namespace Go.Proofs
def Tryz.sj{P f B}(h:P.funcs[f]? =some {B with name:=(P.funcs[f]?.elim "" Func.name)})(a:((P.funcs[f]?.elim "" Func.name)== "runtime.NumGoroutine")=false):Bears P f B:=⟨_,a,h⟩
def Tryz.lw{G:Prop}(e:G:=by repeat' first|kernel_rfl|exact Tryz.sj (by kernel_rfl) (by kernel_rfl)|(intro _;kernel_rfl)|decide|constructor):G:=e
end Go.Proofs
namespace Go.Proofs
def Tryz.jk:Go.Shelf.Ren:=⟨λ|156=>94|165=>157|166=>158|169=>159|240=>207|241=>208|276=>288|277=>289|n=>n,λ|31=>38|9=>9|3=>3|4=>4|0=>0|20=>20|72=>199|76=>152|70=>197|37=>140|75=>151|127=>255|164=>326|5=>5|80=>201|n=>n,λ|n=>n⟩
def Tryz.iw:Go.Proofs.Lays.n156 prog Tryz.jk:=Tryz.lw
def Tryz.l6:Go.Shelf.Ren:=⟨λ|162=>381|232=>375|227=>376|234=>378|236=>380|228=>387|271=>389|151=>388|120=>391|197=>189|152=>390|260=>266|137=>392|119=>393|224=>269|225=>268|217=>267|266=>315|n=>n,λ|9=>9|4=>4|3=>3|5=>5|117=>397|116=>396|0=>0|124=>400|21=>21|105=>240|46=>127|119=>355|139=>358|138=>357|n=>n,λ|3=>4|4=>5|n=>n⟩
def Tryz.p8:Go.Proofs.Lays.n162 prog Tryz.l6:=Tryz.lw
def Tryz.l7:Go.Shelf.Ren:=⟨λ|160=>355|232=>375|231=>374|227=>376|234=>378|233=>377|236=>380|235=>379|228=>387|271=>389|151=>388|197=>189|120=>391|152=>390|260=>266|137=>392|119=>393|224=>269|225=>268|217=>267|266=>315|n=>n,λ|9=>9|4=>4|3=>3|5=>5|117=>397|116=>396|0=>0|124=>400|21=>21|105=>240|46=>127|119=>355|139=>358|138=>357|n=>n,λ|3=>4|4=>5|n=>n⟩
def Tryz.ll:Go.Proofs.Lays.n160 prog Tryz.l7:=Tryz.lw
def Tryz.lj:Go.Shelf.Ren:=⟨λ|171=>86|243=>143|246=>202|283=>276|284=>277|285=>278|286=>279|129=>241|317=>336|318=>337|319=>338|320=>339|337=>370|338=>371|n=>n,λ|3=>3|9=>9|2=>2|4=>4|171=>317|0=>0|53=>289|37=>140|5=>5|173=>319|212=>368|51=>126|20=>20|213=>369|46=>127|232=>404|233=>405|n=>n,λ|17=>6|18=>7|19=>8|n=>n⟩
def Tryz.o6:Go.Proofs.LaysM.n171 prog Tryz.lj:=Tryz.lw
def Tryz.lk:Go.Shelf.Ren:=⟨λ|172=>111|244=>169|245=>170|247=>211|279=>212|280=>213|281=>214|282=>215|287=>292|316=>293|171=>86|205=>294|321=>346|322=>347|243=>143|246=>202|283=>276|284=>277|285=>278|286=>279|129=>241|317=>336|318=>337|319=>338|320=>339|337=>370|338=>371|n=>n,λ|9=>9|3=>3|75=>151|76=>152|4=>4|5=>5|167=>257|37=>140|0=>0|85=>258|2=>2|168=>260|53=>289|175=>329|46=>127|210=>332|127=>255|145=>375|143=>373|21=>21|171=>317|173=>319|212=>368|51=>126|20=>20|213=>369|232=>404|233=>405|80=>201|n=>n,λ|15=>2|16=>3|17=>6|18=>7|19=>8|n=>n⟩
def Tryz.lz:Go.Proofs.LaysC.n172 prog Tryz.lk:=Tryz.lw
def Tryz.ma:Go.Shelf.Ren:=⟨λ|145=>415|220=>429|219=>191|217=>267|225=>268|224=>269|267=>270|266=>315|314=>316|n=>n,λ|9=>9|4=>4|59=>90|3=>3|5=>5|46=>127|146=>359|51=>126|n=>n,λ|1=>1|n=>n⟩
def Tryz.qa:Go.Proofs.Lays.n145 prog Tryz.ma:=Tryz.lw
def Tryz.mq:Go.Shelf.Ren:=⟨λ|99=>31|206=>71|n=>n,λ|9=>9|4=>4|3=>3|n=>n,λ|n=>n⟩
def Tryz.rt:Go.Proofs.Lays.n99 prog Tryz.mq:=Tryz.lw
def Tryz.l9:Go.Shelf.Ren:=⟨λ|146=>417|221=>72|268=>128|138=>129|143=>130|195=>188|197=>189|218=>190|219=>191|260=>266|217=>267|225=>268|224=>269|267=>270|266=>315|314=>316|n=>n,λ|9=>9|31=>38|3=>3|4=>4|0=>0|105=>240|21=>21|5=>5|46=>127|119=>355|139=>358|138=>357|146=>359|51=>126|n=>n,λ|1=>1|3=>4|4=>5|n=>n⟩
def Tryz.p9:Go.Proofs.Lays.n146 prog Tryz.l9:=Tryz.lw
def Tryz.l8:Go.Shelf.Ren:=⟨λ|147=>33|221=>72|268=>128|138=>129|143=>130|195=>188|197=>189|218=>190|219=>191|260=>266|217=>267|225=>268|224=>269|267=>270|266=>315|314=>316|n=>n,λ|9=>9|3=>3|31=>38|4=>4|0=>0|105=>240|21=>21|5=>5|46=>127|119=>355|139=>358|138=>357|146=>359|51=>126|n=>n,λ|1=>1|3=>4|4=>5|n=>n⟩
def Tryz.m9:Go.Proofs.Lays.n147 prog Tryz.l8:=Tryz.lw
def Tryz.da:Builder.Extra prog Tryz.jk:=Tryz.lw
open Go.RowKit Go.Lib in
def Tryz.strings_Split(s sep m w)(h:s.size<4294967281)(hm:w.cell? ⟨1,0,none⟩=some (.int .i64 m))(h1:1<=sep.size):
 Calls prog 417 #[.string s,.string sep] w λe a=>
  e=.returned (.slice (some ⟨w.heap.size,0,none⟩) (countB s sep+1) (countB s sep+1))/\a=w.alloc (.cells ((splitB sep 0 (countB s sep) s).map Value.string).toArray 9):=Any.strings_Split Tryz.p9 (by kernel_rfl) s sep m w h hm h1
end Go.Proofs
namespace Go.Proofs.YtobhohikfmlccaaGreatDoor
section
variable{a:Type}{R:a->a->Prop}
def ϋ(f:∀x,¬R x x)(i:∀x y z,R x y->R y z->R x z):∀{l m:List a},l.Pairwise R->m.Pairwise R->(∀x,x∈l↔x∈m)->l=m
 |[],[],_,_,_=>rfl
 |[],y::m,_,_,h=>cw ((h y).2 oS) oS
 |x::l,[],_,_,h=>cw ((h x).1 oS) oS
 |x::l,y::m,hl,hm,h=>by
  have c:=λz b=>List.rel_of_pairwise_cons hl (a':=z) b;have d:=λz b=>List.rel_of_pairwise_cons hm (a':=z) b
  have g:x=y:=by
   rcases e9.1 ((h x).1 oS)with e|hx;exact e;rcases e9.1 ((h y).2 oS)with e|hy;exact e.symm;exact cw (i _ _ _ (c y hy) (d x hx)) (f _)
  subst g;rw[ϋ f i (List.Pairwise.of_cons hl) (List.Pairwise.of_cons hm) λz=>⟨λb=> ?_,λb=> ?_⟩];rcases e9.1 ((h z).1 (by simp[b]))with e|hz';have:=c z b;rw[e]at this;exact cw this (f _);exact hz';rcases e9.1 ((h z).2 (by simp[b]))with e|hz';have:=d z b;rw[e]at this;exact cw this (f _);exact hz'
variable[Inhabited a][DecidableEq a]
def Qy(o:∀x y z,R x y->R y z->R x z)(d)(f:∀i j,i<j->j<d.size->R d[i]! d[j]! \/d[i]! =d[j]!):∀m,m<=d.size->(compactUpTo d m).Pairwise R/\(∀x,x∈compactUpTo d m↔∃j,j<m/\d[j]! =x)
 |0,_=>⟨by simp[compactUpTo],by simp[compactUpTo]⟩
 |m+1,hm=>by
  obtain⟨h1,g⟩:=Qy o d f m om;rw[compactUpTo_succ];by_cases k:keeps d m=true;simp only[k,if_true];have b:m=0\/d[m]!≠d[m-1]! :=by simpa[keeps]using k
  refine⟨rj.2 ⟨h1,oS,λx q y p=> ?_⟩,λx=> ?_⟩;obtain⟨j,e,rfl⟩:=(g x).1 q;rw[ga]at p;subst p
  have l:d[m]!≠d[m-1]! :=by
   rcases b with h|h;omega;exact h
  have n:R d[m-1]! d[m]! :=(f (m-1) m om om).resolve_right λh=>l h.symm;rcases cq j (m-1)with h|h;rcases f j (m-1) h om with h|h;exact o _ _ _ h n;rw[h];exact n;have:j=m-1:=om;subst this;exact n;rw[ff,g,ga];constructor;rintro(⟨j,e,rfl⟩|rfl);exact⟨j,om,rfl⟩;exact⟨m,om,rfl⟩;rintro⟨j,e,rfl⟩;rcases cq j m with h|h;exact .inl ⟨j,h,rfl⟩;have:j=m:=om;subst this;exact .inr rfl;have c:keeps d m=false:=by simpa using k
  simp only[c,f0,if_false,gy];have b:m≠0/\d[m]! =d[m-1]! :=by simpa[keeps]using c
  refine⟨h1,λx=> ?_⟩;rw[g];constructor;rintro⟨j,e,rfl⟩;exact⟨j,om,rfl⟩;rintro⟨j,e,rfl⟩;rcases cq j m with h|h;exact⟨j,h,rfl⟩;have:j=m:=om;subst this;exact⟨j-1,om,b.2.symm⟩
def Nv(e:∀x y z,R x y->R y z->R x z){zs}(h:zs.Pairwise λx y=>R x y\/x=y):(compact zs).Pairwise R/\∀x,x∈compact zs↔x∈zs:=by
 obtain⟨h1,f⟩:=Qy e zs.toArray (λi j d b=>by
  have c:j<zs.length:=by simpa using b
  have:=List.pairwise_iff_getElem.1 h i j om c d;simpa[getElem!_pos,c,(by omega:i<zs.length)]using this) zs.length oS
 refine⟨h1,λx=> ?_⟩;rw[show compact zs=compactUpTo zs.toArray zs.length from rfl,f];constructor;rintro⟨j,b,rfl⟩;have:zs.toArray[j]! =zs[j]:=by simp[getElem!_pos,b]
 rw[this];exact ko b;intro g;obtain⟨j,b,rfl⟩:=List.getElem_of_mem g;exact⟨j,b,by simp[getElem!_pos,b]⟩
end
abbrev Ab:=Ϟ
def F8(x:Ab):¬x<x:=List.lt_irrefl x
def Ci(x y z:Ab):x<y->y<z->x<z:=List.lt_trans
def yM{x y:Ab}:x<=y↔x<y\/x=y:=by constructor;intro h;by_cases e:x=y;exact .inr e;rcases Std.lt_trichotomy x y with a|a|a;exact .inl a;exact cw a e;exact cw a (List.not_lt.2 h);rintro(h|rfl);exact List.le_of_lt h;exact List.le_refl _
def dst(l:Ξ):Ξ:=compact (l.mergeSort λx y=>decide (x<=y))
def Cv(l:Ξ):(dst l).Pairwise (·< ·)/\∀x,x∈dst l↔x∈l:=by
 have b:(l.mergeSort λx y=>decide (x<=y)).Pairwise λx y=>x<y\/x=y:=by have:=List.pairwise_mergeSort (le:=λx y:Ab=>decide (x<=y)) (λx y z h1 a=>by simp at h1 a⊢;exact List.le_trans h1 a) (λx y=>by simp;exact List.le_total x y) l;exact this.imp λh=>yM.1 (by simpa using h)
 obtain⟨h1,a⟩:=Nv (R:=λx y:Ab=>x<y) Ci b;exact⟨h1,λx=>(a x).trans List.mem_mergeSort⟩
def P5(l):(dst l).length<=l.length:=by have:=compact_length_le (l.mergeSort λx y=>decide (x<=y));rw[tg]at this;exact this
def lG{l m:Ξ}(h:m.Pairwise (·< ·))(a:∀x,x∈m↔x∈l):dst l=m:=
 ϋ F8 Ci (Cv l).1 h λx=>((Cv l).2 x).trans (a x).symm
def AkS{l m}(h:∀x,x∈l↔x∈m):dst l=dst m:=lG (Cv m).1 λx=>((Cv m).2 x).trans (h x).symm
def yN:List Int:=[0x00000000,0x105ec76f,0x20bd8ede,0x30e349b1,0x417b1dbc,0x5125dad3,0x61c69362,0x7198540d,0x82f63b78,0x92a8fc17,0xa24bb5a6,0xb21572c9,0xc38d26c4,0xd3d3e1ab,0xe330a81a,0xf36e6f75]
def AnV:List (Nat×Nat×(Option Value->Prop)):=(2,0,mj)::(3,0,mj)::(1,0,ZN)::(lF 6 .u64 pow10Tab++lF 0 .u32 yN)
instance envZ:Env:=⟨True,AnV⟩
def Wh:True:=trivial
def ZR:((2:Nat),(0:Nat),mj)∈Env.globs:=.head _
def ZS:((3:Nat),(0:Nat),mj)∈Env.globs:=.tail _ (.head _)
def lH:((1:Nat),(0:Nat),ZN)∈Env.globs:=.tail _ (.tail _ (.head _))
def AkT:∀x∈lF 6 .u64 pow10Tab,x∈Env.globs:=λx h=>.tail _ (.tail _ (.tail _ (qr _ h)))
def AnW:∀x∈lF 0 .u32 yN,x∈Env.globs:=λx h=>.tail _ (.tail _ (.tail _ (List.mem_append_right _ h)))
def Db(a:Int):Prop:= -9223372036854775808<=a/\a<=9223372036854775807
def Em(n)(h:Db n):QA 86 [num n] (λr=>r=str (itoa n)):=
 KB Tryz.o6 Wh ⟨_,_,func86,rfl,oD⟩ (λw S a=>ZP a AkT oD (by kernel_rfl)) n h.1 h.2
def ZT(s)(h:s.length<=1000000):QA 111 [str s] (λr=>∃e,r=.a6 [num (Bi s),.raw e]/\(K0 s=true->e=.nilIface)/\(K0 s=false->∃t p,e=.iface t p)):=
 KC Tryz.lz Wh ⟨_,_,func111,rfl,oD⟩ s om ZR ZS
def P6(s)(h:s.length<=1000000):QA 111 [str s] (λr=>r=.a6 [num (Bi s),.any]):=
 ZO Tryz.lz Wh ⟨_,_,func111,rfl,oD⟩ s om ZR ZS
def lI(s a)(h:s.length<=1000000000):QA 415 [str s,str a] (λr=>r=.a6 [str (cut s a).1,str (cut s a).2.1,Af (cut s a).2.2]):=
 Aew Tryz.qa Wh ⟨_,_,func415,rfl,oD⟩ lH s a om
def rH(s p):QA 31 [str s,str p] (λr=>r=Af (hasPrefix s p)):=
 yL Tryz.rt Wh ⟨_,_,func31,rfl,oD⟩ s p
def Apl(s b)(h:b.toNat<128)(a:s.length<=1000000000):QA 355 [str s,str [b]] (λr=>r=str (trimB s b)):=
 Z9 Tryz.ll Wh ⟨_,_,func355,rfl,oD⟩ s b h om
def rI(s b)(h:b.toNat<128)(a:s.length<=1000000000):QA 381 [str s,str [b]] (λr=>r=str (trimRightB s b)):=
 KD Tryz.p8 Wh ⟨_,_,func381,rfl,oD⟩ s b h om
def P7(zs sep)(h:zs.length<=140737488355328)(a:(join zs sep).length<=140737488355328):QA 94 [.sl 1 (zs.map str),str sep] (λr=>r=str (join zs sep)):=
 rE Tryz.iw Tryz.da Wh ⟨_,_,func94,rfl,oD⟩ zs sep h a
def ZU(s a:Ab)(n:Nat)(c:s.length<=1000000000)(h1:1<=a.length)(h:1<=n)(b:n<=1000):QA 33 [str s,str a,num n] (λr=>r=.own 9 1 ((splitK a 0 (min n (s.length+1)-1) s).map str)):=
 Zz Tryz.m9 (by kernel_rfl) Wh ⟨_,_,func33,rfl,oD⟩ lH s a n om h1 h om
def Ow(t:Ab)(i:Nat):Bool:=decide (1<=i)&&(decide (65<=(((t.getD (i-1) 0).toNat:Nat):Int))&&decide ((((t.getD (i-1) 0).toNat:Nat):Int)<=90)&&(decide (i=1)||decide ((((t.getD (i-2) 0).toNat:Nat):Int)=32)))
set_option maxRecDepth 1000000 in
set_option maxHeartbeats 2000000 in
def lJ(s:ByteArray)(i)(hi:i<s.size)(hs:s.size<=1000000000000)(w:World):
 Calls prog 385 #[.string s,.int .i64 i] w λe w'=>e=.returned (.bool (Ow s.data.toList i))/\Below w.heap.size w w':=by
 have hsz:s.data.toList.length=s.size:=ot;have hat:∀k (h:k<s.size),s.data.toList.getD k 0=s[k]'h:=λk h=>by exact Ahr
 have HAT:Hid (∀k (h:k<s.size),s.data.toList.getD k 0=s[k]'h):=hat;clear hat
 go_enter func385,ntmps385
 go_wp2
 all_goals go_ret
 all_goals
  refine⟨?_,Below.refl _ _⟩;refine fq (λb=>Ending.returned (.bool b)) ?_;unfold Ow
 all_goals
  by_cases h1:1<=i
 all_goals first|(exfalso;omega)|skip
 all_goals try rw[HAT.out (i-1) om]
 all_goals
  by_cases h2:2<=i
 all_goals try rw[HAT.out (i-2) om]
 all_goals rw[Bool.eq_iff_iff]
 all_goals simp only[gk,n8,i6,beq_iff_eq,f0,true_iff,false_iff]
 all_goals omega
def Xb(t:Ab)(i:Nat):Bool:=((decide ((((t.getD i 0).toNat:Nat):Int)=46)&& !Ow t i)||(decide ((((t.getD i 0).toNat:Nat):Int)=33)||decide ((((t.getD i 0).toNat:Nat):Int)=63)))&&(decide (t.length<=i+1)||decide ((((t.getD (i+1) 0).toNat:Nat):Int)=32))
def ER(t:Ab)(s:Nat):Ξ:=if trimB (t.drop s) 32=[]then[]else[trimB (t.drop s) 32]
def L3(t:Ab):Nat->Nat->Nat->Ξ
 |0,s,_=>ER t s
 |m+1,s,i=>if Xb t i=true then trimB ((t.drop s).take (i+1-s)) 32::L3 t m (i+1) (i+1)else L3 t m s (i+1)
theorem L4(t m s i):L3 t (m+1) s i=if Xb t i=true then trimB ((t.drop s).take (i+1-s)) 32::L3 t m (i+1) (i+1)else L3 t m s (i+1):=rfl
def Hh(t:Ab):Ξ:=L3 t t.length 0 0
def ZV{s:Ξ}{p r:Ξ}{x k}(h:s=p++x::r)(a:p.length=k):s[k]? =some x:=by rw[h];subst a;simp
def ES{s}{p r:Ξ}{x}(h:s=p++x::r):s=(p++[x])++r:=by rw[h];simp
def ET{s:Ξ}{p:Ξ}{x k}(h:s=p++[x])(a:p.length=k):k+1=s.length:=by rw[h];subst a;simp
def yO(t:Ab)(i)(a:i<t.length)(b:t.length<=1000000000000):QA 385 [str t,num i] (λr=>r=Af (Ow t i)):=by refine Co Wh ⟨_,_,func385,rfl,oD⟩ _ rfl λw S v c j d=> ?_;obtain⟨u,rfl,h⟩:=Bz d;obtain⟨u,rfl,f⟩:=Bz h;obtain⟨rfl,_⟩:=f.zero;refine(lJ (Bo t) i (by show i<t.toArray.size;simpa using a) (by show t.toArray.size<=_;simpa using b) w).mono ?_;rintro e k ⟨rfl,g⟩;rw[Bm];exact⟨_,rfl,L1 rfl,g⟩
def rJ(s b)(h:b.toNat<128)(a:s.length<=1000000000000):QA 355 [str s,str [b]] (λr=>r=str (trimB s b)):=
 Z9 Tryz.ll Wh ⟨_,_,func355,rfl,oD⟩ s b h om
def lK(t:Ab)(F:t.length<=1000000000000):Oo prog 384 [.elt (.agg [str t])] (Hh t).length (λk m=>∃x,(Hh t)[k]? =some x/\m=[str x]):=by
 refine M8 [(1000009,[],[])] [(10,7),(14,2)] [] b3 Cl func384 oD oK (by simp only[go_sem,reduceIte,reduceCtorEq];rfl) ntmps384 results384 rfl ?_;intro l;simp only[LS,Nat.reduceAdd,Nat.reduceSub];refine Z0 ?_;refine F7 (rl [5,50]) [3,4] (λn o q=>∃(k i s:Nat) (b:Ξ),o=some k/\i<=t.length/\s<=i/\i+n=t.length/\Hh t=b++L3 t (t.length-i) s i/\b.length=k/\q=[num s,num i]) ⟨t.length,_,⟨0,0,0,[],rfl,om,om,om,rfl,rfl,rfl⟩,?_⟩ ?_
 .exact Zw
 .rintro n o q ⟨k,i,s,b,rfl,G,H,K,a,d,rfl⟩;simp only[PU];rcases cq i t.length with w|hge
  .have e:=eT i t.length;have c:=wS i;rw[show t.length-i=(t.length-(i+1))+1 by omega,L4]at a;have u (p:((((t.getD i 0).toNat:Nat):Int)=46/\Ow t i=false\/(((t.getD i 0).toNat:Nat):Int)=33\/(((t.getD i 0).toNat:Nat):Int)=63)):Xb t i=(decide (t.length<=i+1)||decide ((((t.getD (i+1) 0).toNat:Nat):Int)=32)):=by unfold Xb;rw[show(decide ((((t.getD i 0).toNat:Nat):Int)=46)&& !Ow t i||(decide ((((t.getD i 0).toNat:Nat):Int)=33)||decide ((((t.getD i 0).toNat:Nat):Int)=63)))=true by simpa using p,ph]
   have y (p:¬((((t.getD i 0).toNat:Nat):Int)=46/\Ow t i=false\/(((t.getD i 0).toNat:Nat):Int)=33\/(((t.getD i 0).toNat:Nat):Int)=63)):Xb t i=false:=by unfold Xb;rw[show(decide ((((t.getD i 0).toNat:Nat):Int)=46)&& !Ow t i||(decide ((((t.getD i 0).toNat:Nat):Int)=33)||decide ((((t.getD i 0).toNat:Nat):Int)=63)))=false by rw[<-Bool.not_eq_true];simpa using p,rg]
   obtain⟨p,g⟩:∃p:Prop,p↔((((t.getD i 0).toNat:Nat):Int)=46/\Ow t i=false\/(((t.getD i 0).toNat:Nat):Int)=33\/(((t.getD i 0).toNat:Nat):Int)=63):=⟨_,Iff.rfl⟩;rw[<-g]at u y;refine Z2 e c ?_;refine Ald (rl [5,50]) [] (λo q=>o=some k/\q=[]/\p) ?_ ?_
   .by_cases c1:(((t.getD i 0).toNat:Nat):Int)=46
    .have q1:=bc c1;refine Z3 e c q1 ?_;refine(yO t i w F).mono ?_;rintro r rfl;simp only[Af];cases E:Ow t i
     .refine Z3 e c q1 ?_;exact l_ [] ⟨rfl,rfl,g.2 (.inl ⟨c1,E⟩)⟩ (by simp only[PU];exact Wi.h)
     .refine Z3 e c q1 ?_;refine Ch (n-1) [num s,num ((i+1:Nat):Int)] om ⟨k,i+1,s,b,rfl,om,om,om,?_,d,rfl⟩ (by simp only[PU];exact Wi.h);rw[a,ar (by rw[y (λh=>(g.1 h).elim (λh=>by simp[E]at h) (λh=>om))];decide)]
    have q1:=bd c1;by_cases c2:(((t.getD i 0).toNat:Nat):Int)=33
    .have v:=bc c2;refine Z4 e c q1 v ?_;exact l_ [] ⟨rfl,rfl,g.2 (.inr (.inl c2))⟩ (by simp only[PU];exact Wi.h)
    have v:=bd c2;by_cases z:(((t.getD i 0).toNat:Nat):Int)=63
    .have A:=bc z;refine Z5 e c q1 v A ?_;exact l_ [] ⟨rfl,rfl,g.2 (.inr (.inr z))⟩ (by simp only[PU];exact Wi.h)
    have A:=bd z;refine Z5 e c q1 v A ?_;refine Ch (n-1) [num s,num ((i+1:Nat):Int)] om ⟨k,i+1,s,b,rfl,om,om,om,?_,d,rfl⟩ (by simp only[PU];exact Wi.h);rw[a,ar (by rw[y (λh=>(g.1 h).elim (λh=>c1 h.1) (λh=>om))];decide)]
   rintro _ _ ⟨rfl,rfl,h⟩;simp only[PU];repeat' first|apply Aq.on<;>intro _|refine gD ?_|simp only[go_sem,Ae,e,c]
   .rename_i I B;refine Ch (n-1) [num s,num ((i+1:Nat):Int)] om ⟨k,i+1,s,b,rfl,om,om,om,?_,d,rfl⟩ (by simp only[PU];exact Wi.h);rw[a,ar (by rw[u h,decide_eq_false om,decide_eq_false B];decide)]
   all_goals
    have J:Xb t i=true:=by first|(rename_i B;rw[u h,decide_eq_true B,Bool.or_true];done)|(rw[u h,decide_eq_true om];rfl)
    rw[bn J]at a;refine(rJ ((t.drop s).take (i+1-s)) 32 oD (by simp;omega)).mono ?_;rintro r rfl;simp only[str];repeat' first|apply Aq.on<;>intro _|refine gD ?_|simp only[go_sem,Ae,e,c]
    refine Kx ⟨_,ZV a d,rfl⟩ ?_ ?_
    .refine Z2 e c ?_;refine Ch (n-1) [num ((i+1:Nat):Int),num ((i+1:Nat):Int)] om ⟨k+1,i+1,i+1,_,rfl,om,om,om,ES a,by simp[d],rfl⟩ ?_;exact Zw
    .repeat' first|apply Aq.on<;>intro _|refine gD ?_|simp only[go_sem,Ae,e,c]
     all_goals first|exact .inr rfl|exact .inr trivial
  have e:=eU i t.length;rw[show t.length-i=0 by omega]at a;refine Z1 e ?_;rw[Are (show(t.drop s).length<=t.length-s by simp)];refine(rJ (t.drop s) 32 oD (by simp;omega)).mono ?_;rintro r rfl;simp only[str];by_cases j:trimB (t.drop s) 32=[]
  .have C:(trimB (t.drop s) 32==[])=true:=by simpa using j
   have f:(trimB (t.drop s) 32 != [])=false:=by simpa using j
   have D:L3 t 0 s i=[]:=bn j;rw[D,gy]at a;refine Z3 e C f ?_;exact .inl (by rw[a,d])
  have C:(trimB (t.drop s) 32==[])=false:=by simpa using j
  have f:(trimB (t.drop s) 32 != [])=true:=by simpa using j
  have D:L3 t 0 s i=[trimB (t.drop s) 32]:=ar j;rw[D]at a;refine Z3 e C f ?_;refine Kx ⟨_,ZV a d,rfl⟩ ?_ ?_
  .repeat' first|apply Aq.on<;>intro _|refine gD ?_|simp only[go_sem,Ae,e]
   all_goals first|exact .inl (fq some (ET a d))|exact .inl (ET a d)
  .repeat' first|apply Aq.on<;>intro _|refine gD ?_|simp only[go_sem,Ae,e]
   all_goals first|exact .inr rfl|exact .inr trivial
def yP(X:Ξ)(i:X.length<=1000000000001){g:Nat}{d:Φ}(f:Oo prog g d X.length (λk a=>∃x,X[k]? =some x/\a=[str x])):QA 383 [.mine 9 1 [],.ee g d] (λr=>r=.mine 9 1 (X.map str)):=by
 refine Ed [] [] [5,7,8,9,10,11] b3 Cl func383 oD oK (by simp only[go_sem,reduceIte,reduceCtorEq];rfl) ntmps383 results383 ⟨_,rfl⟩ rfl ?_;skip;simp only[LS,Nat.reduceAdd,Nat.reduceSub];refine Z0 ?_;refine Ft (rl [2,1,2,1,1,5]) [2] (λk b=>b=[.box 38 [.mine 9 1 ((X.take k).map str)]]) (bx 13) (.inl rfl) f ?_ ?_ ?_;refine⟨_,rfl,?_⟩;simp only[PU];simp only[gx,db];exact Zw
 .rintro k a b ⟨x,e,rfl⟩ rfl;refine⟨rfl,rfl,?_⟩;have hlk:k<X.length:=(ab.1 e).1;have c:((X.take k).map str).length=k:=by simp;omega
  have h:(X.take k).map str++[str x]=(X.take (k+1)).map str:=by rw[fc,e];simp
  simp only[str]at h⊢;simp only[PU];repeat' first|apply Aq.on<;>intro _|refine gD ?_|simp only[go_sem,Ae,c,h]
  exact Ij _ rfl Zw
 .rintro b rfl;simp only[PU];simp only[lr];repeat' first|apply Aq.on<;>intro _|refine gD ?_|simp only[go_sem,Ae]
def rK(X:Ξ)(b:X.length<=1000000000001){g:Nat}{c:Φ}(d:Oo prog g c X.length (λk a=>∃x,X[k]? =some x/\a=[str x])):QA 365 [.ee g c] (λr=>r=.mine 9 1 (X.map str)):=by
 refine G6 [] func365 ⟨_,rfl⟩ ?_;repeat' first|apply Aq.on<;>intro _|refine gD ?_|simp only[go_sem,Ae]
 refine((yP X b d).wk ?_).mono ?_;first|exact Wi.h|exact br _
 rintro r rfl;repeat' first|apply Aq.on<;>intro _|refine gD ?_|simp only[go_sem,Ae]
def lL(t):QA 366 [str t] (λr=>r=.ee 384 [.elt (.agg [str t])]):=by refine G6 [(1,[1],[])] func366 ⟨_,rfl⟩ ?_;exact Ze
def aA(t):∀m s i,(L3 t m s i).length<=m+1
 |0,s,i=>by unfold L3 ER;split<;>simp
 |m+1,s,i=>by
  rw[L4];have h1:=aA t m (i+1) (i+1);have h:=aA t m s (i+1);split;simp only[dg];omega;omega
def ZW(t)(h:t.length<=1000000000000):QA 323 [str t] (λr=>r=.mine 9 1 ((Hh t).map str)):=by
 refine G6 [] func323 ⟨_,rfl⟩ ?_;repeat' first|apply Aq.on<;>intro _|refine gD ?_|simp only[go_sem,Ae]
 refine(lL t).mono ?_;rintro r rfl;simp only[str];repeat' first|apply Aq.on<;>intro _|refine gD ?_|simp only[go_sem,Ae]
 refine(rK (Hh t) (by have:=aA t t.length 0 0;unfold Hh;omega) (lK t h)).mono ?_;rintro r rfl;repeat' first|apply Aq.on<;>intro _|refine gD ?_|simp only[go_sem,Ae]
set_option maxRecDepth 1000000 in
set_option maxHeartbeats 4000000 in
def KE(s:ByteArray)(i)(hi:i<s.size)(hs:s.size<=1000000000000)(w:World):
 Calls prog 264 #[.string s,.int .i64 i] w λe w'=>e=.returned (.bool (Xb s.data.toList i))/\Below w.heap.size w w':=by
 have hsz:s.data.toList.length=s.size:=ot;have hat:∀k (h:k<s.size),s.data.toList.getD k 0=s[k]'h:=λk h=>by exact Ahr
 have HAT:Hid (∀k (h:k<s.size),s.data.toList.getD k 0=s[k]'h):=hat;have HSZ:Hid (s.data.toList.length=s.size):=hsz;clear hat hsz
 go_enter func264,ntmps264
 go_wp2
 all_goals go_ret
 all_goals
  refine⟨?_,Below.refl _ _⟩;refine fq (λb=>Ending.returned (.bool b)) ?_;unfold Xb Ow;rw[HSZ.out,HAT.out i hi]
 all_goals
  by_cases h1:1<=i
 all_goals first|(exfalso;omega)|skip
 all_goals try rw[HAT.out (i-1) om]
 all_goals
  by_cases h2:2<=i
 all_goals try rw[HAT.out (i-2) om]
 all_goals
  by_cases h3:i+1<s.size
 all_goals first|(exfalso;omega)|skip
 all_goals try rw[HAT.out (i+1) h3]
 all_goals rw[Bool.eq_iff_iff]
 all_goals simp only[gk,n8,i6,beq_iff_eq,f0,true_iff,false_iff,Bool.not_eq_true',Bool.and_eq_false_iff,Bool.or_eq_false_iff,decide_eq_false_iff_not,bne_iff_ne,ne_eq]
 all_goals try simp only[Nat.sub_sub,Nat.reduceAdd]
 all_goals first
  |omega
  |(simp only[Bool.not_eq_true',Bool.not_eq_false',decide_eq_false_iff_not,i6,gk,n8,Bool.and_eq_false_iff,Bool.or_eq_false_iff,beq_iff_eq,bne_iff_ne,ne_eq]at *;omega)
def Aex(t:Ab)(i)(a:i<t.length)(b:t.length<=1000000000000):QA 264 [str t,num i] (λr=>r=Af (Xb t i)):=by refine Co Wh ⟨_,_,func264,rfl,oD⟩ _ rfl λw S v c f d=> ?_;obtain⟨u,rfl,h⟩:=Bz d;obtain⟨u,rfl,e⟩:=Bz h;obtain⟨rfl,_⟩:=e.zero;refine(KE (Bo t) i (by show i<t.toArray.size;simpa using a) (by show t.toArray.size<=_;simpa using b) w).mono ?_;exact OI
section
variable[Env]
structure Ap where
 id:Int
 au:Ϟ
 tp:Ξ
 ed:Φ
 pu:Int
 co:Φ
 re:Bool
 tk:Bool
def Qn(s:Ap):Φ:=[num s.id,str s.au,.sl 1 (s.tp.map str),.sl 5 s.ed,num s.pu,.sl 5 s.co,Af s.re,Af s.tk]
def ci(s:Ap):AV:=.agg (Qn s)
def iz(s:Ap)(a:Int):AV:=.agg [num s.id,str s.au,.sl 1 (s.tp.map str),.sl 5 s.ed,num s.pu,.sl 5 s.co,Af s.re,Af s.tk,num a]
def Fi(s:Ap)(a c:Int):AV:=.agg [num s.id,str s.au,.sl 1 (s.tp.map str),.sl 5 s.ed,num s.pu,.sl 5 s.co,Af s.re,Af s.tk,num a,num c]
def Ee(s:Ap):Bool:= !s.re&& !s.tk&&decide (0<s.ed.length)
def kv{b}(h:b=false):AV.raw (.bool false)=Af b:=by rw[h];rfl
def m0{b}(h:b=true):AV.raw (.bool true)=Af b:=by rw[h];rfl
def gr{a b}(h:a=b):AV.raw (.bool a)=Af b:=by rw[h];rfl
def o3(a:Int)(n:Nat):Nat:=(if a<0 then -(a+1)else a).toNat % n
def L5{x:Int}{n:Nat}(h:0<=x):x.tmod (n:Int)=((x.toNat % n:Nat):Int):=by obtain⟨m,rfl⟩:=ri h;rw[pq];exact Int.ofNat_tmod m n
def ApJ(a:Int)(h:Db a)(n:Nat)(j:0<n)(c:n<=1000000):QA 22 [num a,num n] (λr=>r=num (o3 a n:Nat)):=by
 obtain⟨h1,k⟩:=h;refine G6 [] func22 ⟨_,rfl⟩ ?_;have d:¬(n:Int)=0:=om;by_cases b:a<0;have e:=bc b;have f:i64.wrap (a+1)=a+1:=Aw om om;have g:i64.wrap (0-(a+1))= -(a+1):=by rw[Aw om om];omega
 have i:=L5 (x:= -(a+1)) (n:=n) om;refine Zu ?_;simp only[o3,e,if_true];have e:=bd b;have i:=L5 (x:=a) (n:=n) om;refine Zu ?_;simp only[o3,e,if_false]
def S7(s)(h:s.ed.length<=9223372036854775807):QA 100 [ci s] (λr=>r=Af (Ee s)):=by simp only[ci,Qn,iz];refine G6 [] func100 ⟨_,rfl⟩ ?_;exact ϱ
def rL(s a)(h:s.ed.length<=9223372036854775807):QA 147 [iz s a] (λr=>r=Af (Ee s)):=by simp only[ci,Qn,iz];refine G6 [] func147 ⟨_,rfl⟩ ?_;exact ϱ
def L6(x y:Int):Int:=if x<y then -1 else if y<x then 1 else 0
def EU(x):QA 121 [num x] (λr=>r=Af false):=by refine G6 [] func121 ⟨_,rfl⟩ ?_;exact Ze
def L8(x y):QA 63 [num x,num y] (λr=>r=num (L6 x y)):=by refine Zs [] func63 ⟨_,rfl⟩ ?_;refine Za (EU x) ?_;refine(EU y).mono ?_;rintro r rfl;simp only[Af];by_cases h1:x<y;have e1:=bc h1;refine Zu ?_;simp only[L6,e1,if_true];have e1:=bd h1;by_cases h:y<x;have e2:=bc h;refine Zu ?_;simp only[L6,e1,e2,if_true,if_false];have e2:=bd h;refine Zu ?_;simp only[L6,e1,e2,if_true,if_false]
end
section
variable[Env]
def yQ:List Int->Int
 |[]=>0
 |x::r=>if x=0 then yQ r else x
def Bj{a}{l:List a}{j}(h:j<l.length):∃x,l[j]? =some x/\l.drop j=x::l.drop (j+1):=⟨l[j],ac h,j0 h⟩
def S8{l j x}(h:l[j]? =some x):(Ar l).getD j .any=.raw (.int .i64 x):=by simp[Ar,h,num]
def Cd{l:Ξ}{j:Nat}{x:Ϟ}(h:l[j]? =some x):(l.map str).getD j .any=.raw (.string ⟨x.toArray⟩):=by simp[h,str]
def PB(a)(m:a.length<=1000000):QA 62 [.sl 1 (Ar a)] (λr=>r=num (yQ a)):=by refine Zs [] func62 ⟨_,rfl⟩ ?_;refine Ak (rl [5,1,2,9]) [8] (λn y=>∃(j:Nat),j<=a.length/\j+n=a.length/\yQ a=yQ (a.drop j)/\y=[num j]) ⟨a.length,_,⟨0,om,om,rfl,rfl⟩,Zw⟩ ?_;rintro n y ⟨j,k,o,c,rfl⟩;simp only[PU];rcases cq j a.length with d|hge;have e:=eT j a.length;obtain⟨x,l,g⟩:=Bj d;have h:=S8 l;have i:=wS j;by_cases b:x=0;have f:=bc b;refine Z4 e h i f ?_;refine Av (n-1) [num ((j+1:Nat):Int)] om ⟨j+1,om,om,?_,rfl⟩ ?_;rw[c,g,yQ,bn b];exact Zw;have f:=bd b;refine Z4 e h i f ?_;rw[c,g,yQ,ar b];have e:=eU j a.length;refine Z1 e ?_;rw[c,tq hge];rfl
def yR(s:Ap)(a:Int)(t:Ap)(b:Int):Int:=yQ [L6 s.pu t.pu,L6 s.id t.id,L6 a b]
def gF(s t a b):QA 154 [iz s a,iz t b] (λr=>r=num (yR s a t b)):=by
 simp only[iz];refine G6 [(2000001,[0,1,3,4,7,8,10,11,14,16,1002,1005,1009,1012,1015,1017],[3018,3019,3020,21]),(3000001,[5,6,8,9,12,13,15,16,19,21,10002,10003],[2006,2013])] func154 ⟨_,rfl⟩ ?_;refine Zu ?_;refine Za (L8 s.pu t.pu) ?_;refine Za (L8 s.id t.id) ?_;refine Za (L8 a b) ?_;refine((PB [L6 s.pu t.pu,L6 s.id t.id,L6 a b] oS).wk ?_).mono ?_
 .exact QB
 exact Ix
def ZX(s t a b):QA 201 [iz s a,iz t b] (λr=>r=num (yR t b s a)):=by
 simp only[iz];refine G6 [] func201 ⟨_,rfl⟩ ?_;repeat' first|apply Aq.on<;>intro _|refine gD ?_|simp only[go_sem,DT,Int.reduceEq,Int.cast_ofNat_Int]
 refine(gF t s b a).mono ?_;rintro r rfl;simp only[num];exact OE
def Aey(l:Ξ)(v)(f:l.length<=9223372036854775807):QA 205 [.sl 1 (l.map str),str v] (λr=>∃i:Int,(0<=i↔v∈l)/\r=num i):=by
 refine Zs [] func205 ⟨num (if v∈l then 0 else -1),_,by split<;>simp[*],rfl⟩ ?_;refine Ak (rl [5,1,2,11]) [8] (λn y=>∃(j:Nat),j<=l.length/\j+n=l.length/\v∉l.take j/\y=[num j]) ⟨l.length,_,⟨0,om,om,oS,rfl⟩,?_⟩ ?_;exact Zw;rintro n y ⟨j,c,g,he,rfl⟩;simp only[PU];rcases cq j l.length with a|hge;have e:=eT j l.length;obtain⟨x,hx,k⟩:=Bj a;have b:=Cd hx;have d:=wS j;by_cases h0:v=x;have e0:(v==x)=true:=by simp[h0]
 refine Z4 e b d e0 ?_;exact⟨j,⟨λ_=>h0▸cu hx,λ_=>om⟩,rfl⟩;exact Apz;have e:=eU j l.length;rw[Are hge]at he;refine Z1 e ?_;exact⟨-1,⟨λh=>om,λh=>cw h he⟩,rfl⟩
def M9(l:Ξ)(v)(h:l.length<=9223372036854775807):QA 151 [.sl 1 (l.map str),str v] (λr=>r=Af (decide (v∈l))):=by
 refine G6 [] func151 ⟨_,rfl⟩ ?_;repeat' first|apply Aq.on<;>intro _|refine gD ?_|simp only[go_sem,DT,Int.reduceEq,Int.cast_ofNat_Int]
 refine(Aey l v h).mono ?_;rintro r ⟨i,a,rfl⟩;simp only[num];repeat' first|apply Aq.on<;>intro _|refine gD ?_|simp only[go_sem,DT,Int.reduceEq,Int.cast_ofNat_Int]
 exact gr (by simp[a])
def PA(l:Ξ)(v)(k:l.length<=9223372036854775807):QA 161 [.sl 1 (l.map str),str v] (λr=>r=Af (decide (v∈l))):=by
 refine Zs [] func161 ⟨_,rfl⟩ ?_;refine Ak (rl [4,14]) [5] (λn y=>∃(j:Nat),j<=l.length/\j+n=l.length/\v∉l.take j/\y=[num j]) ⟨l.length,_,⟨0,om,om,oS,rfl⟩,?_⟩ ?_;exact Zw;rintro n y ⟨j,f,m,b,rfl⟩;simp only[PU];rcases cq j l.length with c|hge;have e:=eT j l.length;obtain⟨x,d,o⟩:=Bj c;have g:=Cd d;have p:=wS j;by_cases a:x=v;have i:(x==v)=true:=by simp[a]
 refine Zu ?_;exact m0 (by simp only[i6];exact a▸cu d);have i:(x==v)=false:=by simp[a]
 refine Zu ?_;refine Av (n-1) [num ((j+1:Nat):Int)] om ⟨j+1,om,om,?_,rfl⟩ ?_;rw[fc,d];simp only[oe,ff,ga,not_or];exact⟨b,λh=>a h.symm⟩;exact Zw;have e:=eU j l.length;rw[Are hge]at b;refine Z1 e ?_;exact kv (by simp only[decide_eq_false_iff_not];exact b)
def I2(s t:Ap):Bool:=if s.pu≠t.pu then decide (s.pu<t.pu)else decide (s.id<=t.id)
def Aez(s t:Ap):QA 162 [ci s,ci t] (λr=>r=Af (I2 s t)):=by simp only[ci,Qn];refine G6 [] func162 ⟨_,rfl⟩ ?_;by_cases h:s.pu=t.pu;have e:=bc h;refine Zu ?_;exact gr (by simp[I2,h]);have e:=bd h;refine Zu ?_;exact gr (by simp[I2,h])
def hasB(s:Ap)(v:Ϟ):Bool:=decide (v=[])||decide (v∈s.tp)
def ZY(s:Ap)(a v)(b:s.tp.length<=9223372036854775807):QA 138 [iz s a,str v] (λr=>r=Af (hasB s v)):=by
 simp only[iz];refine G6 [] func138 ⟨_,rfl⟩ ?_;by_cases h:v=[];have e:(v==[])=true:=by simp[h]
 refine Zu ?_;exact m0 (by simp[hasB,h]);have e:(v==[])=false:=by simp[h]
 refine Zu ?_;refine Za (M9 s.tp v b) ?_;exact gr (by simp[hasB,h])
end
section
variable[Env]
def ZZ(s:Ap)(a v)(h:s.tp.length<=9223372036854775807):QA 137 [iz s a,.elt (.agg [str v])] (λr=>r=Af (hasB s v)):=by simp only[iz];refine Zs [] func137 ⟨_,rfl⟩ ?_;refine((ZY s a v h).wk ?_).mono ?_;exact eL;exact Ix
def AkW(s:Ap)(a v)(h:s.tp.length<=9223372036854775807):QA 141 [iz s a,.elt (.agg [str v])] (λr=>r=Af (hasB s v)):=by simp only[iz];refine Zs [] func141 ⟨_,rfl⟩ ?_;refine((ZY s a v h).wk ?_).mono ?_;exact eL;exact Ix
def Ae0(s:Ap)(a v)(h:s.tp.length<=9223372036854775807):QA 160 [iz s a,.elt (.agg [str v])] (λr=>r=Af (hasB s v)):=by simp only[iz];refine Zs [] func160 ⟨_,rfl⟩ ?_;refine((ZY s a v h).wk ?_).mono ?_;exact eL;exact Ix
def ApK(s a v):QA 144 [iz s a,.elt (.agg [str v])] (λr=>r=Af (decide (s.au=v))):=by simp only[iz];refine Zs [] func144 ⟨_,rfl⟩ ?_;exact gr (by by_cases h:s.au=v<;>simp[h])
def KF(s v):QA 146 [ci s,.elt (.agg [num v])] (λr=>r=Af (decide (s.id=v))):=by simp only[ci,Qn];refine G6 [] func146 ⟨_,rfl⟩ ?_;exact Ze
def KG(s a v):QA 150 [iz s a,.elt (.agg [num v])] (λr=>r=Af (decide (s.id≠v))):=by simp only[iz];refine Zs [] func150 ⟨_,rfl⟩ ?_;all_goals exact gr (by by_cases h:s.id=v<;>simp[h])
def yS(s a):QA 140 [iz s a] (λr=>r=num s.id):=by simp only[iz];refine G6 [] func140 ⟨_,rfl⟩ ?_;exact Ze
def KH(s a c):QA 156 [Fi s a c] (λr=>r=num s.id):=by simp only[Fi];refine G6 [] func156 ⟨_,rfl⟩ ?_;exact Ze
def Pc(s:Ap)(a c:Int)(t:Ap)(b d:Int):Int:=yQ [L6 d c,yR t b s a]
def KI(s t a b c d):QA 153 [Fi s a c,Fi t b d] (λr=>r=num (Pc s a c t b d)):=by
 simp only[Fi];refine G6 [(2000001,[0,2,5,7,1001,1003,1006,1008],[3009,3010,3011,12]),(3000001,[5,7,10,12,10003,10002],[2004])] func153 ⟨_,rfl⟩ ?_;refine Zu ?_;refine Za (L8 d c) ?_;refine((gF t s b a).wk ?_).mono ?_
 .exact eL
 rintro r rfl;refine Zn ?_;refine((PB [L6 d c,yR t b s a] oS).wk ?_).mono ?_
 .exact QB
 exact Ix
end
structure Ej where
 kind:Int
 name:Ab
 n:Int
 lang:Ab
def Ej.ext'{a b:Ej}(h1:a.kind=b.kind)(h:a.name=b.name)(c:a.n=b.n)(d:a.lang=b.lang):a=b:=by cases a;cases b;simp_all
def Fe(a:Ej):AV:=.agg [num a.kind,str a.name,num a.n,str a.lang]
def rM:Ej:=⟨0,[],0,[]⟩
def Ip(c:UInt8):Bool:=decide (97<=c.toNat)&&decide (c.toNat<=122)||(decide (48<=c.toNat)&&decide (c.toNat<=57)||decide (c.toNat=45))
def Bp(s:Ab):Bool:=decide (s≠[])&&(decide (s.length<=20)&&s.all Ip)
def Ox(n:Int):Bool:=decide (1<=n)&&decide (n<=64)
def Be(a:Ej):Bool:=
 if a.kind=2 then Ox a.n&&(Bp a.lang&&decide (a.name=[]))
 else if a.kind=3 then Ox a.n&&(Bp a.name&&decide (a.lang=[]))
 else if a.kind=4\/a.kind=5 then Bp a.name&&(decide (a.n=0)&&decide (a.lang=[]))
 else if a.kind=1\/a.kind=6 then decide (a.name=[])&&(decide (a.n=0)&&decide (a.lang=[]))
 else false
def D5:Ab:=[115,116,111,114,121]
def D6:Ab:=[116,111,112,105,99]
def cX:Ab:=[97,117,116,104,111,114]
def F9:Ab:=[102,101,101,100]
def Oy:Ab:=[109,97,112]
def dec(n:Int):Ab:=decDigits n.toNat
def H3(a:Ej):Ξ:=
 if a.kind=2 then[D5,dec a.n,a.lang]
 else if a.kind=3 then[D6,a.name,dec a.n]
 else if a.kind=4 then[cX,a.name]
 else if a.kind=5 then[F9,a.name]
 else if a.kind=6 then[Oy]
 else[]
def Fu(a:Ej):Ab:=47::join (H3 a) [47]
def wc(a:Ej):Int:=if a.kind=2 then 0 else if a.kind=1 then 1 else if a.kind=5 then 2 else if a.kind=3 then 3 else if a.kind=4 then 4 else 5
def Dl(s:Ab):Ξ:=splitK [47] 0 (min 5 (s.length+1)-1) s
def H4(s:Ab):Ej:=
 if s=[47]then⟨1,[],0,[]⟩
 else if s=47::Oy then⟨6,[],0,[]⟩
 else if(Dl s).length=4/\(Dl s).getD 1 []=D5 then⟨2,[],Bi ((Dl s).getD 2 []),(Dl s).getD 3 []⟩
 else if(Dl s).length=4/\(Dl s).getD 1 []=D6 then⟨3,(Dl s).getD 2 [],Bi ((Dl s).getD 3 []),[]⟩
 else if(Dl s).length=3/\(Dl s).getD 1 []=cX then⟨4,(Dl s).getD 2 [],0,[]⟩
 else if(Dl s).length=3/\(Dl s).getD 1 []=F9 then⟨5,(Dl s).getD 2 [],0,[]⟩
 else rM
def Gv(s:Ab):Option Ej:=if Be (H4 s)=true/\Fu (H4 s)=s then some (H4 s)else none
def Oz{n}:Ox n=true↔1<=n/\n<=64:=by simp[Ox]
def Jx{s}:Bp s=true↔s≠[]/\s.length<=20/\∀c∈s,Ip c=true:=by simp[Bp]
def K3{a}(h:Be a=true):
 (a=⟨1,[],0,[]⟩\/a=⟨6,[],0,[]⟩)\/(∃n l,a=⟨2,[],n,l⟩/\1<=n/\n<=64/\Bp l=true)\/(∃n l,a=⟨3,l,n,[]⟩/\1<=n/\n<=64/\Bp l=true)\/(∃l,a=⟨4,l,0,[]⟩/\Bp l=true)\/(∃l,a=⟨5,l,0,[]⟩/\Bp l=true):=by
 obtain⟨k,c,n,d⟩:=a;unfold Be at h;simp only at h;split at h;rename_i b;simp only[gk,Oz,i6]at h;exact .inr (.inl ⟨n,d,Ej.ext' b h.2.2 rfl rfl,h.1.1,h.1.2,h.2.1⟩)
 .split at h
  rename_i b;simp only[gk,Oz,i6]at h;exact .inr (.inr (.inl ⟨n,c,Ej.ext' b rfl rfl h.2.2,h.1.1,h.1.2,h.2.1⟩))
  .split at h
   rename_i b;simp only[gk,i6]at h;rcases b with b|b;exact .inr (.inr (.inr (.inl ⟨c,Ej.ext' b rfl h.2.1 h.2.2,h.1⟩)));exact .inr (.inr (.inr (.inr ⟨c,Ej.ext' b rfl h.2.1 h.2.2,h.1⟩)))
   .split at h
    rename_i b;simp only[gk,i6]at h;rcases b with b|b;exact .inl (.inl (Ej.ext' b h.1 h.2.1 h.2.2));exact .inl (.inr (Ej.ext' b h.1 h.2.1 h.2.2))
    .cases h
def KJ{n}(h:n<100):decDigits n=if n<10 then[UInt8.ofNat (48+n)]else[UInt8.ofNat (48+n / 10),UInt8.ofNat (48+n % 10)]:=by by_cases h1:n<10;rw[decDigits,dif_pos h1,bn h1];rw[decDigits,dif_neg h1,ar h1,decDigits,dif_pos om];rfl
def lM(n:Nat):Ab:=if n<10 then[UInt8.ofNat (48+n)]else[UInt8.ofNat (48+n / 10),UInt8.ofNat (48+n % 10)]
def Rl{n}(h1:0<=n)(h:n<100):dec n=lM n.toNat:=KJ om
def lN:∀n:Fin 100,Bi (lM n.1)=(n.1:Int)/\(∀c∈lM n.1,c≠47)/\lM n.1≠[]/\(lM n.1).length<=2:=oK
def Aab{n}(h1:0<=n)(h:n<100):Bi (dec n)=n:=by rw[Rl h1 h];have:=(lN ⟨n.toNat,om⟩).1;rw[this];exact Int.toNat_of_nonneg h1
def Aac{n}(h1:0<=n)(h:n<100):∀c∈dec n,c≠47:=by rw[Rl h1 h];exact(lN ⟨n.toNat,om⟩).2.1
def S9{n}(h1:0<=n)(h:n<100):(dec n).length<=2:=by rw[Rl h1 h];exact(lN ⟨n.toNat,om⟩).2.2.2
def Aad{c}(h:Ip c=true):c≠47:=by rintro rfl;revert h;decide
def Xm{s}(h:Bp s=true):∀c∈s,c≠47:=λc a=>Aad ((Jx.1 h).2.2 c a)
def Wj:∀(p:Ab) (r:Ab),(∀c∈p,c≠47)->indexByte (p++47::r) 47=(p.length:Int):=by
 intro p
 induction p with
 |nil=>intro r _;simp[indexByte]
 |cons c p ih=>intro r h;have a:=h c oS;have:=ih r λx b=>h x (by simp[b]);rw[fj,indexByte,this];simp[a];try omega
def lO:∀(p:Ab),(∀c∈p,c≠47)->indexByte p 47= -1:=by
 intro p
 induction p with
 |nil=>intro _;simp[indexByte]
 |cons c p ih=>intro h;have a:=h c oS;have:=ih λx b=>h x (by simp[b]);rw[indexByte,this];simp[a]
def Dp(p q r):join (p::q::r) [47]=p++47::join (q::r) [47]:=by rw[join_cons,join_cons];simp[joinTail]
def aB:∀(a:Ξ) (p:Ab) (k:Nat),(∀q∈p::a,∀c∈q,c≠47)->a.length<=k->splitK [47] 0 k (join (p::a) [47])=p::a:=by
 intro a
 induction a with
 |nil=>
  intro p k h _;rw[join_one]
  cases k with
  |zero=>rfl
  |succ k=>rw[splitK,index_one,lO p (h p oS)];simp
 |cons q r ih=>
  intro p k h d;obtain⟨k,rfl⟩:∃f,k=f+1:=⟨k-1,by simp only[dg]at d;omega⟩;have h1:=Wj p (join (q::r) [47]) (h p oS);rw[Dp,splitK,index_one,h1];have b:¬((p.length:Int)== -1)=true:=by simp;try omega
  rw[ar b];have:=ih q k (λx e=>h x (by simp only[e9]at e⊢;exact .inr e)) (by simp only[dg]at d;omega);simp only[pq,nj,dg,eh,jp];rw[sw (bx _),lr];rw[show List.drop (p.length+1) (p++47::join (q::r) [47])=join (q::r) [47] by rw[<-ob,sv (bx _),List.drop_length];rfl];rw[this]
def Ta(p a)(h:∀q∈p::a,∀c∈q,c≠47)(d:a.length<=3):Dl (47::join (p::a) [47])=[]::p::a:=by
 have b:(47:UInt8)::join (p::a) [47]=join ([]::p::a) [47]:=by rw[Dp];rfl
 have hlen:∀(a:Ξ) (p:Ab),a.length<=(join (p::a) [47]).length:=by
  intro a
  induction a with
  |nil=>intro p;simp
  |cons q r ih=>intro p;have:=ih q;rw[Dp];simp only[dc,dg];omega
 unfold Dl;have:=hlen (p::a) [];rw[<-b]at this;rw[b];refine aB (p::a) [] _ (λq hq=> ?_) ?_;rw[e9]at hq;rcases hq with rfl|hq;simp;exact h q hq;rw[<-b];simp only[dg]at this⊢;omega
def AiB:∀c∈D5,c≠47:=oD
def AiC:∀c∈D6,c≠47:=oD
def AiD:∀c∈cX,c≠47:=oD
def AiE:∀c∈F9,c≠47:=oD
def AnX:∀c∈Oy,c≠47:=oD
def CE{p q r:Ab}(h1:∀c∈p,c≠47)(a:∀c∈q,c≠47)(b:∀c∈r,c≠47):∀x∈[p,q,r],∀c∈x,c≠47:=by intro x h;simp only[e9,lv,or_false]at h;rcases h with rfl|rfl|rfl<;>assumption
def OK{p q:Ab}(h1:∀c∈p,c≠47)(a:∀c∈q,c≠47):∀x∈[p,q],∀c∈x,c≠47:=by intro x h;simp only[e9,lv,or_false]at h;rcases h with rfl|rfl<;>assumption
def Xn(w q p):¬((47:UInt8)::join (w::q::p) [47]=[47]):=by rw[Dp];intro h;have:=fq List.length h;simp at this
def Xo{w q p}(a:∀c∈w,c≠47):¬((47:UInt8)::join (w::q::p) [47]=47::Oy):=by
 rw[Dp];intro h;injection h with _ h;have:(47:UInt8)∈Oy:=by rw[<-h];simp
 exact AnX _ this rfl
def Aae{a:Ej}(h:Be a=true):H4 (Fu a)=a:=by rcases K3 h with(rfl|rfl)|⟨n,l,rfl,h1,h2,h3⟩|⟨n,l,rfl,h1,h2,h3⟩|⟨l,rfl,h3⟩|⟨l,rfl,h3⟩;exact AhI;exact AhI;have b:=Ta D5 [dec n,l] (CE AiB (Aac om om) (Xm h3)) oS;have e:Fu ⟨2,[],n,l⟩=47::join [D5,dec n,l] [47]:=rfl;rw[e,H4,ar (Xn _ _ _),ar (Xo AiB),b,bn ⟨rfl,rfl⟩];exact AhU;have b:=Ta D6 [l,dec n] (CE AiC (Xm h3) (Aac om om)) oS;have e:Fu ⟨3,l,n,[]⟩=47::join [D6,l,dec n] [47]:=rfl;rw[e,H4,ar (Xn _ _ _),ar (Xo AiC),b,ar (λh=>cw (show D6=D5 from h.2) oD),bn ⟨rfl,rfl⟩];exact AhU;have b:=Ta cX [l] (OK AiD (Xm h3)) oS;have e:Fu ⟨4,l,0,[]⟩=47::join [cX,l] [47]:=rfl;rw[e,H4,ar (Xn _ _ _),ar (Xo AiD),b,ar (λh=>cw h.1 oS),ar (λh=>cw h.1 oS),bn ⟨rfl,rfl⟩];rfl;have b:=Ta F9 [l] (OK AiE (Xm h3)) oS;have e:Fu ⟨5,l,0,[]⟩=47::join [F9,l] [47]:=rfl;rw[e,H4,ar (Xn _ _ _),ar (Xo AiE),b,ar (λh=>cw h.1 oS),ar (λh=>cw h.1 oS),ar (λh=>cw (show F9=cX from h.2) oD),bn ⟨rfl,rfl⟩];rfl
def KL{a}(h:Be a=true):Gv (Fu a)=some a:=by unfold Gv;rw[Aae h,bn ⟨h,rfl⟩]
def aC{s a}(h:Gv s=some a):Be a=true/\Fu a=s:=by
 unfold Gv at h;split at h;rename_i h1;injection h with h;subst h;exact h1
 .cases h
def iterPos_of{w:World}{k}{s:ByteArray}{p}(h:w.heap[k]? =some (.stringIter s p)):w.iterPos k=p:=by simp[World.iterPos,h]
def width_pos(s pos)(h:pos<s.size):1<=(Utf8.decode s pos).2:=by by_cases a:(s[pos]'h).toNat<128;rw[decode_ascii s pos h a];exact Ev;exact(decode_high s pos h om).2
def Nw(c:Int):Bool:=decide (97<=c)&&decide (c<=122)||(decide (48<=c)&&decide (c<=57)||decide (c=45))
def lP(s pos)(h:pos<s.size):Nw ((Utf8.decode s pos).1:Int)=Ip (s[pos]'h)/\(Ip (s[pos]'h)=true->(Utf8.decode s pos).2=1):=by
 by_cases a:(s[pos]'h).toNat<128;rw[decode_ascii s pos h a];refine⟨?_,λ_=>rfl⟩;unfold Nw Ip;exact AgD
 .have h1:=(decode_high s pos h om).1;have e1:Nw ((Utf8.decode s pos).1:Int)=false:=by unfold Nw;rw[decide_eq_false (show¬((Utf8.decode s pos).1:Int)<=122 by omega),decide_eq_false (show¬((Utf8.decode s pos).1:Int)<=57 by omega),decide_eq_false (show¬((Utf8.decode s pos).1:Int)=45 by omega)];simp
  have e2:Ip (s[pos]'h)=false:=by unfold Ip;rw[decide_eq_false (show¬(s[pos]'h).toNat<=122 by omega),decide_eq_false (show¬(s[pos]'h).toNat<=57 by omega),decide_eq_false (show¬(s[pos]'h).toNat=45 by omega)];simp
  exact⟨by rw[e1,e2],λh=>by rw[e2]at h;cases h⟩
def Ae1(s:ByteArray)(pos)(h:pos<s.size):s.data.toList[pos]? =some (s[pos]'h):=by rw[ak,bz (show pos<s.data.size from h)];rfl
set_option maxRecDepth 1000000 in
set_option maxHeartbeats 2000000 in
def rN(s w):
 Calls prog 182 #[.string s] w λe w'=>e=.returned (.bool (Bp s.data.toList))/\Below w.heap.size w w':=by
 have hsz:s.data.toList.length=s.size:=ot;by_cases h0:s.size=0
 .have hs:s=ByteArray.empty:=by
   cases s with
   |mk d=>simp[ByteArray.size]at h0;subst h0;rfl
  subst hs
  go_enter func182,ntmps182
  go_wp2
  go_ret
  exact⟨rfl,Below.refl _ _⟩
 have hE:s.toList.isEmpty=false:=by
  rw[Go.ByteArray.toList_eq]
  cases he:s.data.toList with
  |nil=>rw[he]at hsz;exact cw hsz.symm h0
  |cons a l=>rfl
 by_cases h20:20<s.size
 .have en:Bp s.data.toList=false:=by
   unfold Bp;rw[decide_eq_false (show¬s.data.toList.length<=20 by omega),rg,qo]
  rw[en];have zx:(20:Int)<(s.size:Int):=om
  go_enter func182,ntmps182
  go_wp2
  go_ret
  exact⟨rfl,Below.refl _ _⟩
 .have zx:¬(20:Int)<(s.size:Int):=om
  go_enter func182,ntmps182
  go_wp2
  go_loopw [4] (λ_ wr=>∃pos:Nat,wr.heap[w.heap.size]? =some (.stringIter s pos)/\Below w.heap.size w wr/\pos<=s.size/\Hid (∀j b,j<pos->s.data.toList[j]? =some b->Ip b=true)) (λ_ wr=>s.size-wr.iterPos w.heap.size)
  case atStart=>exact⟨0,World.iter_heap w s 0,(Below.refl _ _).alloc (bx _) _,om,λj b h=>om⟩
  case round=>
   obtain⟨pos,hit,hbw,hps,hok⟩:=hrel;have uy:=iterPos_of hit;by_cases hp:pos<s.size
   .have hnx:∀ty,(Instr.next (.pointer (some ⟨w.heap.size,0,none⟩)) true ty).run prog wr=_:=λty=>run_next_any_at wr w.heap.size s pos ty hit hp;have hwd:=width_pos s pos hp;have hit2:=iterAt_heap wr w.heap.size s pos (pos+(Utf8.decode s pos).2) hit;have hbw2:=below_iterAt hbw (k:=w.heap.size) (bx _) s (pos+(Utf8.decode s pos).2);obtain⟨hc1,hc2⟩:=lP s pos hp;have HC:Hid (Ip (s[pos]'hp)=true->(Utf8.decode s pos).2=1):=hc2;have HD:Hid (s.data.toList[pos]? =some (s[pos]'hp)):=Ae1 s pos hp;clear hc2
    cases hn:Ip (s[pos]'hp)with
    |true=>
     rw[hn]at hc1;have HN:Hid (Nw ((Utf8.decode s pos).1:Int)=true):=hc1;have HM:Hid (Ip (s[pos]'hp)=true):=hn;clear hc1 hn
     go_wp2
     all_goals first
      |(refine⟨⟨pos+(Utf8.decode s pos).2,hit2,hbw2,by have:=HC.out HM.out;omega,λj b hj hb=> ?_⟩,by rw[iterPos_of hit2,uy];omega⟩
        have hw1:=HC.out HM.out;rcases cq j pos with h|h
        .exact hok.out j b h hb
        .obtain rfl:j=pos:=om;rw[HD.out]at hb;injection hb with hb;rw[<-hb];exact HM.out)
      |(exfalso
        have hh:=HN.out;simp only[Nw,n8,gk,i6]at hh;try simp only[beq_iff_eq,beq_eq_false_iff_ne,ne_eq,i6,decide_eq_false_iff_not,Bool.not_eq_eq_eq_not,oi,px]at *
        omega)
    |false=>
     rw[hn]at hc1;have HN:Hid (Nw ((Utf8.decode s pos).1:Int)=false):=hc1;have HM:Hid (Ip (s[pos]'hp)=false):=hn;clear hc1 hn
     go_wp2
     all_goals first
      |(go_ret
        refine⟨?_,hbw2⟩
        have hf:Bp s.data.toList=false:=by
         cases hh:Bp s.data.toList with
         |false=>rfl
         |true=>have:=(Jx.1 hh).2.2 _ (cu HD.out);rw[HM.out]at this;cases this
        rw[hf];rfl)
      |(exfalso
        have hh:=HN.out;simp only[Nw,Bool.or_eq_false_iff,Bool.and_eq_false_iff,decide_eq_false_iff_not]at hh;try simp only[beq_iff_eq,beq_eq_false_iff_ne,ne_eq,i6,decide_eq_false_iff_not,Bool.not_eq_eq_eq_not,oi,px]at *
        omega)
   .have hnx:∀ty,(Instr.next (.pointer (some ⟨w.heap.size,0,none⟩)) true ty).run prog wr=_:=λty=>run_next_end_at wr w.heap.size s pos ty hit hp
    go_wp2
    go_ret
    refine⟨?_,hbw⟩
    have hf:Bp s.data.toList=true:=by
     refine Jx.2 ⟨λh=> ?_,om,λc hc=> ?_⟩
     .rw[h]at hsz;exact h0 hsz.symm
     .obtain⟨j,hj⟩:=List.mem_iff_getElem?.1 hc;have:=(ab.1 hj).1;exact hok.out j c om hj
    rw[hf];rfl
def Ez[d:Env](a:True)(s):QA 182 [str s] (λr=>r=Af (Bp s)):=by refine Co a ⟨_,_,func182,rfl,oD⟩ _ rfl λw S v c e b=> ?_;obtain⟨u,rfl,h⟩:=Bz b;obtain⟨rfl,_⟩:=h.zero;exact(rN (Bo s) w).mono OI
def ie(s:Ab):List.isEmpty s=decide (s=[]):=by cases s<;>simp
def Ef(n):QA 183 [num n] (λr=>r=Af (Ox n)):=by
 refine G6 [] func183 ⟨_,rfl⟩ ?_;repeat' first|apply Aq.on<;>intro _|refine gD ?_|simp only[go_sem,DT,Int.reduceEq]
 all_goals (simp_all [Ox,Af];try omega)
def J9(a):QA 171 [Fe a] (λr=>r=Af (Be a)):=by
 simp only[Fe];refine G6 [] func171 ⟨_,rfl⟩ ?_;by_cases f:a.kind=2
 .have e2:=eE a.kind 2;have e:=eN a.kind 3;have b:=eN a.kind 4;have c:=eN a.kind 5;have e1:=eN a.kind 1;have d:=eN a.kind 6;cases h1:Ox a.n
  .cases h:Bp a.lang
   refine Zu ?_;refine Za (Ef a.n) ?_;exact Q9;refine Zu ?_;refine Za (Ef a.n) ?_;exact Q9
  .cases h:Bp a.lang
   refine Zu ?_;refine Za (Ef a.n) ?_;refine Za (Ez Wh a.lang) ?_;exact Q9;refine Zu ?_;refine Za (Ef a.n) ?_;refine Za (Ez Wh a.lang) ?_;exact Q9
 .by_cases g:a.kind=3
  .have e2:=eN a.kind 2;have e:=eE a.kind 3;have b:=eN a.kind 4;have c:=eN a.kind 5;have e1:=eN a.kind 1;have d:=eN a.kind 6;cases h1:Ox a.n
   .cases h:Bp a.name
    refine Zu ?_;refine Za (Ef a.n) ?_;exact Q9;refine Zu ?_;refine Za (Ef a.n) ?_;exact Q9
   .cases h:Bp a.name
    refine Zu ?_;refine Za (Ef a.n) ?_;refine Za (Ez Wh a.name) ?_;exact Q9;refine Zu ?_;refine Za (Ef a.n) ?_;refine Za (Ez Wh a.name) ?_;exact Q9
  .by_cases i:a.kind=4
   .have e2:=eN a.kind 2;have e:=eN a.kind 3;have b:=eE a.kind 4;have c:=eN a.kind 5;have e1:=eN a.kind 1;have d:=eN a.kind 6;cases h:Bp a.name
    refine Zu ?_;refine Za (Ez Wh a.name) ?_;exact Q9;refine Zu ?_;refine Za (Ez Wh a.name) ?_;exact Q9
   .by_cases j:a.kind=5
    .have e2:=eN a.kind 2;have e:=eN a.kind 3;have b:=eN a.kind 4;have c:=eE a.kind 5;have e1:=eN a.kind 1;have d:=eN a.kind 6;cases h:Bp a.name
     refine Zu ?_;refine Za (Ez Wh a.name) ?_;exact Q9;refine Zu ?_;refine Za (Ez Wh a.name) ?_;exact Q9
    .by_cases k:a.kind=1
     .have e2:=eN a.kind 2;have e:=eN a.kind 3;have b:=eN a.kind 4;have c:=eN a.kind 5;have e1:=eE a.kind 1;have d:=eN a.kind 6;repeat' first|apply Aq.on<;>intro _|refine gD ?_|simp only[go_sem,DT,Int.reduceEq,e2,e,b,c,e1,d]
      exact Q9
     .by_cases l:a.kind=6
      .have e2:=eN a.kind 2;have e:=eN a.kind 3;have b:=eN a.kind 4;have c:=eN a.kind 5;have e1:=eN a.kind 1;have d:=eE a.kind 6;repeat' first|apply Aq.on<;>intro _|refine gD ?_|simp only[go_sem,DT,Int.reduceEq,e2,e,b,c,e1,d]
       exact Q9
      .have e2:=eN a.kind 2;have e:=eN a.kind 3;have b:=eN a.kind 4;have c:=eN a.kind 5;have e1:=eN a.kind 1;have d:=eN a.kind 6;repeat' first|apply Aq.on<;>intro _|refine gD ?_|simp only[go_sem,DT,Int.reduceEq,e2,e,b,c,e1,d]
       exact Q9
def lQ{a}(h:Be a=true):a.kind=1\/a.kind=2\/a.kind=3\/a.kind=4\/a.kind=5\/a.kind=6:=by rcases K3 h with(rfl|rfl)|⟨n,l,rfl,h1,h2,h3⟩|⟨n,l,rfl,h1,h2,h3⟩|⟨l,rfl,h3⟩|⟨l,rfl,h3⟩<;>simp
def EV{a}(h:Be a=true):0<=a.n/\a.n<=64:=by rcases K3 h with(rfl|rfl)|⟨n,l,rfl,h1,h2,h3⟩|⟨n,l,rfl,h1,h2,h3⟩|⟨l,rfl,h3⟩|⟨l,rfl,h3⟩<;>simp<;>omega
def rO{a}(h:Be a=true):(H3 a).length<=3:=by
 unfold H3;repeat' split
 all_goals simp
def Tb{s}(h:Bp s=true):s.length<=20:=(Jx.1 h).2.1
def gG{a}(h:Be a=true):(Fu a).length<=100:=by rcases K3 h with(rfl|rfl)|⟨n,l,rfl,h1,h2,h3⟩|⟨n,l,rfl,h1,h2,h3⟩|⟨l,rfl,h3⟩|⟨l,rfl,h3⟩;decide+kernel;decide+kernel;have:=Tb h3;have b:=S9 (n:=n) om om;have e:Fu ⟨2,[],n,l⟩=47::join [D5,dec n,l] [47]:=rfl;rw[e,Dp,Dp,join_one];simp[D5];omega;have:=Tb h3;have b:=S9 (n:=n) om om;have e:Fu ⟨3,l,n,[]⟩=47::join [D6,l,dec n] [47]:=rfl;rw[e,Dp,Dp,join_one];simp[D6];omega;have:=Tb h3;have e:Fu ⟨4,l,0,[]⟩=47::join [cX,l] [47]:=rfl;rw[e,Dp,join_one];simp[cX];omega;have:=Tb h3;have e:Fu ⟨5,l,0,[]⟩=47::join [F9,l] [47]:=rfl;rw[e,Dp,join_one];simp[F9];omega
def kE(a:Ej):AV:=if a.kind=1 then .raw (.func (.func 218) #[] #[])else if a.kind=6 then .raw (.func (.func 219) #[] #[])else .ee 217 [.elt (.agg [.sl 1 ((H3 a).map str)])]
def O0(a:Ej):AV:=if Be a=true then .a6 [str (Fu a),num 0]else .a6 [str [],num 120]
def AkY(z s)(h:z.length<=140737488355328)(a:(join z s).length<=140737488355328):QA 94 [.sl 1 (z.map str),str s] (λr=>r=str (join z s)):=
 rE Tryz.iw Tryz.da Wh ⟨_,_,func94,rfl,oD⟩ z s h a
def Tc(n)(h1:0<=n)(h:n<100):QA 86 [num n] (λr=>r=str (dec n)):=by obtain⟨k,rfl⟩:=ri h1;refine(Em (k:Int) ⟨om,om⟩).mono ?_;rintro r rfl;simp only[itoa,dec];rw[ar om]
def Xp(p:Ξ):QA 216 [.sl 1 (p.map str)] (λr=>r=.ee 217 [.elt (.agg [.sl 1 (p.map str)])]):=by refine Bb [(1,[1],[])] b3 Cl func216 oD oK (by simp only[go_sem,reduceIte];rfl) ntmps216 results216 ⟨_,rfl⟩ rfl ?_;exact Ag0
def Ae2(p)(h:p.length<=1000)(a:(join p [47]).length<=1000):QA 217 [.elt (.agg [.sl 1 (p.map str)])] (λr=>r=str (47::join p [47])):=by refine Zs [] func217 ⟨_,rfl⟩ ?_;refine Za (AkY p [47] om om) ?_;all_goals first|rfl|omega
def Aaf:QA 218 [] (λr=>r=str [47]):=by refine Bb [] b3 Cl func218 oD oK (by simp only[go_sem,reduceIte];rfl) ntmps218 results218 ⟨_,rfl⟩ rfl ?_;exact Ag0
def AkZ:QA 219 [] (λr=>r=str (47::Oy)):=by refine Zs [] func219 ⟨_,rfl⟩ ?_;all_goals rfl
def Td(a)(h:Be a=true):QA 172 [Fe a] (λr=>r=.agg [num (wc a),kE a]):=by have hk:=lQ h;have hn:=EV h;simp only[Fe];refine G6 [] func172 ⟨_,rfl⟩ ?_;by_cases b:a.kind=2;have e2:=eE a.kind 2;have e3:=eN a.kind 3;have e4:=eN a.kind 4;have e5:=eN a.kind 5;have e1:=eN a.kind 1;have e6:=eN a.kind 6;refine Zu ?_;refine Za (Tc a.n hn.1 om) ?_;refine((Xp [D5,dec a.n,a.lang]).wk ?_).mono ?_;exact BS;exact yf;by_cases c:a.kind=3;have e2:=eN a.kind 2;have e3:=eE a.kind 3;have e4:=eN a.kind 4;have e5:=eN a.kind 5;have e1:=eN a.kind 1;have e6:=eN a.kind 6;refine Zu ?_;refine Za (Tc a.n hn.1 om) ?_;refine((Xp [D6,a.name,dec a.n]).wk ?_).mono ?_;exact BS;exact yf;by_cases d:a.kind=4;have e2:=eN a.kind 2;have e3:=eN a.kind 3;have e4:=eE a.kind 4;have e5:=eN a.kind 5;have e1:=eN a.kind 1;have e6:=eN a.kind 6;refine Zu ?_;refine Za (Tc a.n hn.1 om) ?_;refine((Xp [cX,a.name]).wk ?_).mono ?_;exact BS;exact yf;by_cases e:a.kind=5;have e2:=eN a.kind 2;have e3:=eN a.kind 3;have e4:=eN a.kind 4;have e5:=eE a.kind 5;have e1:=eN a.kind 1;have e6:=eN a.kind 6;refine Zu ?_;refine Za (Tc a.n hn.1 om) ?_;refine((Xp [F9,a.name]).wk ?_).mono ?_;exact BS;exact yf;by_cases f:a.kind=1;have e2:=eN a.kind 2;have e3:=eN a.kind 3;have e4:=eN a.kind 4;have e5:=eN a.kind 5;have e1:=eE a.kind 1;have e6:=eN a.kind 6;exact AgR;by_cases g:a.kind=6;have e2:=eN a.kind 2;have e3:=eN a.kind 3;have e4:=eN a.kind 4;have e5:=eN a.kind 5;have e1:=eN a.kind 1;have e6:=eE a.kind 6;exact AgR;exact XS
def rP(a):QA 112 [Fe a] (λr=>r=O0 a):=by
 simp only[Fe];refine G6 [] func112 ⟨_,rfl⟩ ?_;cases hv:Be a
 .refine Zu ?_;refine Za (J9 a) ?_;all_goals first|rfl|(simp[O0,hv,str,num];done)
 .have hk:=lQ hv;by_cases h:a.kind=2
  have e2:=eE a.kind 2;have e3:=eN a.kind 3;have e4:=eN a.kind 4;have e5:=eN a.kind 5;exact vR
  .by_cases b:a.kind=3
   have e2:=eN a.kind 2;have e3:=eE a.kind 3;have e4:=eN a.kind 4;have e5:=eN a.kind 5;exact vR
   .by_cases c:a.kind=4
    have e2:=eN a.kind 2;have e3:=eN a.kind 3;have e4:=eE a.kind 4;have e5:=eN a.kind 5;exact vR
    .by_cases d:a.kind=5
     have e2:=eN a.kind 2;have e3:=eN a.kind 3;have e4:=eN a.kind 4;have e5:=eE a.kind 5;exact vR
     .by_cases e:a.kind=1
      .have e2:=eN a.kind 2;have e3:=eN a.kind 3;have e4:=eN a.kind 4;have e5:=eN a.kind 5;have e1:=eE a.kind 1;have e6:=eN a.kind 6;refine Z7 e2 e3 e4 e5 e1 e6 hv ?_;refine Zb (J9 a) ?_;rintro r rfl;try simp only[Af,num,str]
       repeat' first|apply Aq.on<;>intro _|refine gD ?_|simp only[go_sem,DT,Int.reduceEq,e2,e3,e4,e5,e1,e6,hv]
       refine((Td a hv).wk ?_).mono ?_;exact CP;rintro r rfl;simp only[kE,e2,e3,e4,e5,e1,e6,num,if_true,if_false];refine Zu ?_;refine Za Aaf ?_;exact Aij
      .by_cases f:a.kind=6
       .have e2:=eN a.kind 2;have e3:=eN a.kind 3;have e4:=eN a.kind 4;have e5:=eN a.kind 5;have e1:=eN a.kind 1;have e6:=eE a.kind 6;refine Z7 e2 e3 e4 e5 e1 e6 hv ?_;refine Zb (J9 a) ?_;rintro r rfl;try simp only[Af,num,str]
        repeat' first|apply Aq.on<;>intro _|refine gD ?_|simp only[go_sem,DT,Int.reduceEq,e2,e3,e4,e5,e1,e6,hv]
        refine((Td a hv).wk ?_).mono ?_;exact CP;rintro r rfl;simp only[kE,e2,e3,e4,e5,e1,e6,num,if_true,if_false];refine Zu ?_;refine Za AkZ ?_;exact Aij
       exact XS
section
variable{T:Br}{K:AV->Prop}
def t6(o:Γ)(T:Br):Prop:=match o with
 |some e=>(match T e with
  |some j=>j.td.ik=some .u8
  |none=>False)
 |none=>False
def ow(o:Option TI):Prop:=match o with
 |some j=>j.td.ik=some .u8
 |none=>False
theorem j3(e):t6 (some e) T=ow (T e):=(rfl)
theorem jc(j):ow (some j)=(j.td.ik=some .u8):=(rfl)
def im(s d e l):J2 T s d (.own e 1 (Aj l)) K=(d.td.str=true/\t6 s.td.elem T/\K (.raw (.string ⟨l.toArray⟩))):=by exact AgH
end
def gc(l):(Aj l).length=l.length:=by simp[Aj]
attribute [go_sem] j3 jc im Ea gc
def gH(c):Ip c=Nw (c.toNat:Int):=by unfold Ip Nw;exact AgD
def Tf(s)(q:s.length<=1000000000):QA 41 [str s] (λr=>r=Af (Bp s)):=by
 refine Zs [] func41 ⟨_,rfl⟩ ?_;refine Ak (rl [3,32]) [3] (λn x=>∃j:Nat,j<=s.length/\j+n=s.length/\x=[num j]/\(s.take j).all Ip=true) ⟨s.length,_,⟨0,om,om,rfl,rfl⟩,Zw⟩ ?_
 .rintro n x ⟨j,o,h,rfl,i⟩;simp only[PU];rcases cq j s.length with a|hge
  .have k:=eT j s.length;have m:=wS j;have d:s.take (j+1)=s.take j++[s.getD j 0]:=by rw[fc];simp[ac a]
   have l:s.getD j 0∈s:=by simp[ac a]
   cases h:Ip (s.getD j 0)
   .have e:Bp s=false:=by
     cases p:Bp s with
     |false=>rfl
     |true=>rw[(Jx.1 p).2.2 _ l]at h;cases h
    rw[gH]at h;obtain⟨c,f⟩:∃c,s.getD j 0=c:=⟨_,rfl⟩;rw[f]at h;simp only[Nw,Bool.or_eq_false_iff,Bool.and_eq_false_iff,decide_eq_false_iff_not]at h;simp only[e];repeat' first|apply Aq.on<;>intro _|refine gD ?_|simp only[go_sem,DT,Int.reduceEq,k,m,f]
    all_goals first|rfl|(exfalso;omega)
   .have g:=h;rw[gH]at h;obtain⟨c,f⟩:∃c,s.getD j 0=c:=⟨_,rfl⟩;rw[f]at h d g;simp only[Nw,n8,gk,i6]at h;repeat' first|apply Aq.on<;>intro _|refine gD ?_|simp only[go_sem,DT,Int.reduceEq,k,m,f]
    all_goals first
     |(exact Zl (n-1) ⟨j+1,om,om,rfl,by rw[d,List.all_append,i];simp[g]⟩)
     |(exfalso;omega)
  .have k:=eU j s.length;rw[Are hge]at i;by_cases h1:1<=s.length
   have e1:=bc (show(1:Int)<=(s.length:Int) by omega);refine Zu ?_;have e:Bp s=decide (s.length<=20):=by unfold Bp;rw[i,decide_eq_true (show s≠[] by rintro rfl;simp at h1)];simp
   rw[e];exact fq (λb=>AV.raw (Value.bool b)) (decide_eq_decide.2 om)
   .have e1:=bd (show¬(1:Int)<=(s.length:Int) by omega);refine Zu ?_;have e:Bp s=false:=by have:s=[]:=kq om;subst this;rfl
    rw[e];try rfl
def pU{n}(h1:0<=n)(a:n<10):IntKind.u8.wrap (48+n)=(((UInt8.ofNat (48+n.toNat)).toNat:Nat):Int):=by obtain⟨k,rfl⟩:=ri h1;have h:k<10:=om;have:∀k:Fin 10,IntKind.u8.wrap (48+((k.1:Nat):Int))=(((UInt8.ofNat (48+((k.1:Nat):Int).toNat)).toNat:Nat):Int):=oK;exact this ⟨k,h⟩
def Rm(n)(h1:0<=n)(h:n<10):QA 168 [num n] (λr=>r=str (dec n)):=by
 have e:=bc h;have f:i64.wrap (48+n)=48+n:=Aw om om;have g:=pU h1 h;have a:∀b:UInt8,[AV.raw (.int .u8 ((b.toNat:Nat):Int))]=Aj [b]:=λ_=>rfl;have c:∀b:UInt8,List.map view (Aj [b])=Aj [b]:=λ_=>rfl;have d:dec n=[UInt8.ofNat (48+n.toNat)]:=by rw[Rl h1 om,lM,bn om]
 rw[d];refine Zs [] func168 ⟨_,rfl⟩ ?_;all_goals rfl
def KM(n)(h1:0<=n)(a:n<100):QA 168 [num n] (λr=>r=str (dec n)):=by
 rcases Int.lt_or_le n 10 with h|h;exact Rm n h1 h;have e:=bd (show¬n<10 by omega);have hq:i64.wrap (n.tdiv 10)=n / 10:=by rw[sq h1,Aw om om]
 have g:n.tmod 10=n % 10:=oa h1;have b:dec n=dec (n / 10)++dec (n % 10):=by rw[Rl h1 a,Rl om om,Rl om om];obtain⟨k,rfl⟩:=ri h1;have c:k<100:=om;have:∀k:Fin 100,10<=k.1->lM ((k.1:Nat):Int).toNat=lM (((k.1:Nat):Int) / 10).toNat++lM (((k.1:Nat):Int) % 10).toNat:=oK;exact this ⟨k,c⟩ (by simp only;omega)
 have d:=S9 (n:=n / 10) om om;have f:=S9 (n:=n % 10) om om;rw[b];refine Zs [] func168 ⟨_,rfl⟩ ?_;refine Za (Rm (n / 10) om om) ?_;refine Za (Rm (n % 10) om om) ?_;all_goals first|omega|(simp[str];done)
def Vb(a)(ha:a.name.length<=1000000000)(hb:a.lang.length<=1000000000):QA 167 [Fe a] (λr=>r=Af (Be a)):=by simp only[Fe];refine G6 [] func167 ⟨_,rfl⟩ ?_;by_cases h:a.kind=2;have e2:=eE a.kind 2;have e3:=eN a.kind 3;have e4:=eN a.kind 4;have e5:=eN a.kind 5;have e1:=eN a.kind 1;have e6:=eN a.kind 6;exact Xj;by_cases b:a.kind=3;have e2:=eN a.kind 2;have e3:=eE a.kind 3;have e4:=eN a.kind 4;have e5:=eN a.kind 5;have e1:=eN a.kind 1;have e6:=eN a.kind 6;exact Xj;by_cases c:a.kind=4;have e2:=eN a.kind 2;have e3:=eN a.kind 3;have e4:=eE a.kind 4;have e5:=eN a.kind 5;have e1:=eN a.kind 1;have e6:=eN a.kind 6;exact Xj;by_cases d:a.kind=5;have e2:=eN a.kind 2;have e3:=eN a.kind 3;have e4:=eN a.kind 4;have e5:=eE a.kind 5;have e1:=eN a.kind 1;have e6:=eN a.kind 6;exact Xj;by_cases e:a.kind=1;have e2:=eN a.kind 2;have e3:=eN a.kind 3;have e4:=eN a.kind 4;have e5:=eN a.kind 5;have e1:=eE a.kind 1;have e6:=eN a.kind 6;exact Xj;by_cases f:a.kind=6;have e2:=eN a.kind 2;have e3:=eN a.kind 3;have e4:=eN a.kind 4;have e5:=eN a.kind 5;have e1:=eN a.kind 1;have e6:=eE a.kind 6;exact Xj;have e2:=eN a.kind 2;have e3:=eN a.kind 3;have e4:=eN a.kind 4;have e5:=eN a.kind 5;have e1:=eN a.kind 1;have e6:=eN a.kind 6;exact Xj
structure Bk where
 id:Int
 kd:Int
 tx:Ab
 so:Int
 rf:Int
 un:Int
 af:List Int
 ap:Int
 de:Int
def b8(b:Bk):AV:=.agg [num b.id,num b.kd,str b.tx,num b.so,num b.rf,num b.un,.sl 1 (Ar b.af),num b.ap,num b.de]
def dF(b:Bk):AV:=.agg [num b.un,.sl 1 (Ar b.af),num b.ap,num b.de]
theorem Iq{l:List Bk}{j:Nat}{x:Bk}(h:l[j]? =some x):(l.map b8).getD j .any=.agg [.raw (.int .i64 x.id),.raw (.int .i64 x.kd),.raw (.string ⟨x.tx.toArray⟩),.raw (.int .i64 x.so),.raw (.int .i64 x.rf),.raw (.int .i64 x.un),.sl 1 (Ar x.af),.raw (.int .i64 x.ap),.raw (.int .i64 x.de)]:=by simp [h,b8,num,str]
structure Ht (b:Bk):Prop where
 tx:b.tx.length<=1000000000
 af:b.af.length<=1000000000
def Ae3(b)(c:Ht b):QA 363 [dF b] (λr=>∃b,r=Af b):=by
 have d:=c.af;simp only[dF];refine G6 [] func363 ⟨_,true,rfl⟩ ?_;repeat' first|apply Aq.on<;>intro _|refine gD ?_|simp only[go_sem,Ao]
 all_goals try exact⟨_,rfl⟩
 refine Ak (rl [5,55]) [3,4] (λn y=>∃(j:Nat) (z:Int),j+n=b.af.length/\y=[num z,num j]) ⟨b.af.length,_,⟨0,0,om,rfl⟩,Zw⟩ ?_
 .rintro n y ⟨j,z,g,rfl⟩;simp only[PU];rcases cq j b.af.length with h|hge
  .have ej:=eT j b.af.length;obtain⟨x,e,i⟩:=Bj h;have a:=S8 e;have f:=wS j;repeat' first|apply Aq.on<;>intro _|refine gD ?_|simp only[go_sem,ej,a,f,Ao]
   all_goals first
    |(exact⟨_,rfl⟩)
    |(exact Zl (n-1) ⟨j+1,x,om,rfl⟩;done)
  have ej:=eU j b.af.length;exact b_
def Aag(b c)(i:Ht b)(k:Ht c):QA 382 [dF b,dF c] (λr=>∃b,r=Af b):=by
 have l:=i.af;have m:=k.af;simp only[dF];refine G6 [(2000006,[0,2,5,7,2001,3,2004,2006,8,2009,10],[])] func382 ⟨_,true,rfl⟩ ?_;by_cases s:b.af.length=c.af.length;rotate_left
 .have f:=bd (show¬((b.af.length:Int)=(c.af.length:Int)) by omega);repeat' first|apply Aq.on<;>intro _|refine gD ?_|simp only[go_sem,f,Ao]
  all_goals exact⟨_,rfl⟩
 have f:=bc (show((b.af.length:Int)=(c.af.length:Int)) by omega);refine Zu ?_;refine Ak (rl [6,44]) [5] (λn g=>∃j:Nat,j+n=b.af.length/\g=[num j]) ⟨b.af.length,_,⟨0,om,rfl⟩,Zw⟩ ?_
 .rintro n g ⟨j,t,rfl⟩;simp only[PU];rcases cq j b.af.length with h|hge
  .have e:=eT j b.af.length;obtain⟨x,o,u⟩:=Bj h;have a:=S8 o;have p:=wS j;obtain⟨y,q,hd2⟩:=Bj (show j<c.af.length by omega);have d:=S8 q;have ek:=eT j c.af.length;repeat' first|apply Aq.on<;>intro _|refine gD ?_|simp only[go_sem,e,a,p,Ao,d,ek]
   all_goals first
    |(exact⟨_,rfl⟩)
    |(exact Zl (n-1) ⟨j+1,om,rfl⟩;done)
  have e:=eU j b.af.length;repeat' first|apply Aq.on<;>intro _|refine gD ?_|simp only[go_sem,e,Ao]
  all_goals exact⟨_,rfl⟩
def KN(s)(c:s.length<=1000000000):QA 362 [str s] (λr=>∃b,r=Af b):=by
 refine Zs [] func362 ⟨_,true,rfl⟩ ?_;refine Ak (rl [4,19]) [3] (λn y=>∃j:Nat,j+n=s.length/\y=[num j]) ⟨s.length,_,⟨0,om,rfl⟩,Zw⟩ ?_
 .rintro n y ⟨j,d,rfl⟩;simp only[PU];rcases cq j s.length with h|hge
  .have e:=eT j s.length;have a:=wS j;repeat' first|apply Aq.on<;>intro _|refine gD ?_|simp only[go_sem,e,a]
   all_goals first
    |(exact⟨_,rfl⟩)
    |(exact Zl (n-1) ⟨j+1,om,rfl⟩;done)
  have e:=eU j s.length;repeat' first|apply Aq.on<;>intro _|refine gD ?_|simp only[go_sem,e]
  all_goals exact⟨_,rfl⟩
def Ae4(b)(h:Ht b):QA 313 [b8 b] (λr=>∃b,r=Af b):=by
 have h1:=h.tx;simp only[b8];refine Zs [] func313 ⟨_,true,rfl⟩ ?_;refine(KN b.tx h.tx).mono ?_;rintro r ⟨t,rfl⟩;refine Zn ?_;have a:=Ae3 b h;simp only[dF,num]at a;apply a.mono;rintro r ⟨c,rfl⟩;simp only[Af];repeat' first|apply Aq.on<;>intro _|refine gD ?_|simp only[go_sem,Ao]
 all_goals try exact⟨_,rfl⟩
 all_goals
  refine(Tf b.tx h.tx).mono ?_;rintro r rfl;simp only[Af];repeat' first|apply Aq.on<;>intro _|refine gD ?_|simp only[go_sem,Ao]
 all_goals exact⟨_,rfl⟩
theorem aD(c x:UInt8)(t:Ab):trimRightB (x::t) c=if trimRightB t c=[]/\x=c then[]else x::trimRightB t c:=by
 unfold trimRightB;rw[List.reverse_cons,List.dropWhile_append]
 cases h:List.dropWhile (·==c) t.reverse with
 |nil=>
  by_cases a:x=c
  ·subst a;simp
  ·simp [a]
 |cons y l=>simp
theorem L9(c:UInt8):∀s:Ab,trimRightB (trimLeftB s c) c=trimB s c
 |[]=>rfl
 |x::t=>by
  have i:=L9 c t;unfold trimB at i⊢;rw[aD];by_cases a:x=c
  ·subst a;have h1:trimLeftB (x::t) x=trimLeftB t x:=by simp [trimLeftB]
   rw[h1,i];split
   ·rename_i h;rw[h.1]
   ·simp [trimLeftB]
  ·have h1:trimLeftB (x::t) c=x::t:=by simp [trimLeftB,a]
   rw[h1,aD,ar (λh=>a h.2)];simp [trimLeftB,a]
theorem yT(c:UInt8)(l:Ab):trimRightB (l++[c]) c=trimRightB l c:=by simp [trimRightB]
theorem yU(c x:UInt8)(l:Ab)(h:x≠c):trimRightB (l++[x]) c=l++[x]:=by simp [trimRightB,h]
theorem yV(u:Ab)(h:0<u.length):u=u.take (u.length-1)++[u.getD (u.length-1) 0]:=by have:=nk (l:=u) (i:=u.length-1) om;rw[show u.length-1+1=u.length by omega,lr]at this;rw[fk,ac om];exact this
theorem rQ(c:UInt8):((c.toNat:Nat):Int)=32↔c=32:=by
 constructor
 ·intro h;exact UInt8.toNat_inj.1 (show c.toNat=(32:UInt8).toNat by have:(32:UInt8).toNat=32:=rfl;omega)
 ·rintro rfl;rfl
def aF(s:Ab)(f:s.length<=1000000000000):QA 265 [str s] (λr=>r=str (trimB s 32)):=by
 refine G6 [] func265 ⟨_,rfl⟩ ?_;simp only[go_sem];refine Ak (rl [3,25]) [0] (λn ys=>∃t:Ab,t.length+1=n/\t.length<=s.length/\trimLeftB t 32=trimLeftB s 32/\ys=[str t]) ⟨s.length+1,_,⟨s,rfl,bx _,rfl,rfl⟩,?_⟩ ?_;exact OW
 .rintro n ys ⟨t,hn,a,d,rfl⟩;simp only[PU,str];have o:∀Q:Prop,Q->Q:=λ_ h=>h
  cases t with
  |nil=>
   have q1:(([]:Ab) != [])=false:=rfl;have q2:(([]:Ab)==[])=true:=rfl;have e:trimLeftB s 32=[]:=by rw[<-d];rfl
   simp only[go_sem,q1,q2];refine Ak (rl [3,25]) [0] (λn ys=>∃u:Ab,u.length+1=n/\u.length<=s.length/\trimRightB u 32=trimB s 32/\ys=[str u]) ⟨([]:Ab).length+1,_,⟨[],rfl,a,by rw[<-e];exact L9 32 s,rfl⟩,?_⟩ ?_;exact OW;exact Amp
  |cons c t=>
   have q1:((c::t) != [])=true:=rfl;have q2:((c::t)==[])=false:=rfl;have g1:=bc (show(0:Int)<(((c::t).length:Nat):Int) by simp only[dg];omega);have g2:=bc (show(1:Int)<=(((c::t).length:Nat):Int) by simp only[dg];omega);have g3:List.take (t.length+1-1) t=t:=oS;by_cases hc:((c.toNat:Nat):Int)=32
   .have ec:=bc hc;have b:c=32:=(rQ c).1 hc;simp only[go_sem,q1,q2,g1,g2,g3,ec];refine Z6 q1 q2 g1 g2 g3 ec ?_;exact Zl (n-1) ⟨t,by simp only[dg]at hn;omega,by simp only[dg]at a;omega,by rw[<-d,b];simp[trimLeftB],rfl⟩;done
   have ec:=bd hc;have b:c≠32:=λh=>hc ((rQ c).2 h);have e:trimLeftB s 32=c::t:=by rw[<-d];simp[trimLeftB,b]
   simp only[go_sem,q1,q2,g1,g2,g3,ec];refine Z6 q1 q2 g1 g2 g3 ec ?_;refine Ak (rl [3,25]) [0] (λn ys=>∃u:Ab,u.length+1=n/\u.length<=s.length/\trimRightB u 32=trimB s 32/\ys=[str u]) ⟨((c::t):Ab).length+1,_,⟨(c::t),rfl,a,by rw[<-e];exact L9 32 s,rfl⟩,?_⟩ ?_;exact OW;exact Amp
def Aah(t:Ab)(m:t.length<=1000000000000):QA 187 [str t] (λr=>r=.own 9 1 ((Hh t).map str)):=by
 refine G6 [] func187 ⟨_,rfl⟩ ?_;simp only[go_sem];refine Ak (rl [6,34]) [3,4,5] (λn y=>∃(j s:Nat) (p:Ξ),j+n=t.length/\s<=j/\Hh t=p++L3 t (t.length-j) s j/\p.length<=j/\y=[.own 9 1 (p.map str),num s,num j]) ⟨t.length,_,⟨0,0,[],om,om,rfl,oS,rfl⟩,Zw⟩ ?_
 .rintro n y ⟨j,s,p,u,o,a,q,rfl⟩;simp only[PU];rcases cq j t.length with g|hge
  .have e:=eT j t.length;have c:=wS j;rw[show t.length-j=(t.length-(j+1))+1 by omega,L4]at a;simp only[go_sem,e,c];refine(Aex t j g m).mono ?_;rintro r rfl;simp only[Af];cases l:Xb t j
   .rw[ar (by rw[l];decide)]at a;simp only[go_sem,e,c];exact Zl (n-1) ⟨j+1,s,p,om,om,a,om,rfl⟩;done
   rw[bn l]at a;have g1:=bc (show(s:Int)<=((j+1:Nat):Int) by omega);have g2:=bc (show((j+1:Nat):Int)<=(t.length:Int) by omega);simp only[go_sem,e,c,g1,g2];refine Z4 e c g1 g2 ?_;refine(aF ((t.drop s).take (j+1-s)) (by simp;omega)).mono ?_;rintro r rfl;simp only[str];have i:p.map str++[.raw (.string ⟨(trimB ((t.drop s).take (j+1-s)) 32).toArray⟩)]=(p++[trimB ((t.drop s).take (j+1-s)) 32]).map str:=by simp[str]
   have h:(p.map str).length=p.length:=dB _;simp only[go_sem,e,c,g1,g2,h];refine Wq (nA e (nA c (nA g1 (nA g2 (nA i h))))) ?_;refine Av (n-1) [.own 9 1 ((p++[trimB ((t.drop s).take (j+1-s)) 32]).map str),num ((j+1:Nat):Int),num ((j+1:Nat):Int)] om ⟨j+1,j+1,_,om,om,ES a,by simp;omega,rfl⟩ ?_;exact AhV
  have e:=eU j t.length;rw[show t.length-j=0 by omega]at a;have g1:=bc (show(s:Int)<=(t.length:Int) by omega);simp only[go_sem,e,g1];refine Z2 e g1 ?_;rw[Are (show(t.drop s).length<=t.length-s by simp)];refine(aF (t.drop s) (by simp;omega)).mono ?_;rintro r rfl;simp only[str];by_cases d:trimB (t.drop s) 32=[];have f:(trimB (t.drop s) 32==[])=true:=by simpa using d
  have b:(trimB (t.drop s) 32 != [])=false:=by simpa using d
  have k:L3 t 0 s j=[]:=bn d;rw[k,gy]at a;simp only[go_sem,f,b];rw[a];have f:(trimB (t.drop s) 32==[])=false:=by simpa using d
  have b:(trimB (t.drop s) 32 != [])=true:=by simpa using d
  have k:L3 t 0 s j=[trimB (t.drop s) 32]:=ar d;rw[k]at a;have h:(p.map str).length=p.length:=dB _;simp only[go_sem,f,b,h];refine Z3 f b h ?_;rw[a];simp[str]
def aG(l:List Bk)(z:l.length<=1000000)(u:∀b∈l,Ht b):QA 259 [.sl 9 (l.map b8)] (λr=>∃b,r=Af b):=by
 refine G6 [(2000012,[0,1,2,3,5,6,7,8,2004,2009,10],[])] func259 ⟨_,true,rfl⟩ ?_;repeat' first|apply Aq.on<;>intro _|refine gD ?_|simp only[go_sem,Ao]
 exact Zx;refine Ak (rl [4,34]) [3] (λn a=>∃j:Nat,j+n=l.length/\a=[num j]) ⟨l.length,_,⟨0,om,rfl⟩,?_⟩ ?_;exact Nu
 .rintro n a ⟨j,A,rfl⟩;simp only[PU];rcases cq j l.length with d|hge
  .have ej:=eT j l.length;obtain⟨x,m,B⟩:=Bj d;have c:=Iq m;have o:=wS j;refine Zu ?_;have p:=Ae4 x (u x (cu m));simp only[b8,num,str]at p;refine p.mono ?_;rintro r ⟨t,rfl⟩;simp only[Af];cases t
   .repeat' first|apply Aq.on<;>intro _|refine gD ?_|simp only[go_sem,ej,c,o,Ao]
    exact nY
   refine Zu ?_;refine Ak (rl [4,1,1,32]) [5] (λe a=>∃i:Nat,i+e=j/\a=[num i]) ⟨j,_,⟨0,om,rfl⟩,?_⟩ ?_;exact Nu
   .rintro e a ⟨i,v,rfl⟩;simp only[PU];rcases cq i j with q|mu
    .have s:=eT i j;have f:=eT i l.length;obtain⟨y,w,hd2⟩:=Bj (show i<l.length by omega);have g:=Iq w;have k:=wS i;repeat' first|apply Aq.on<;>intro _|refine gD ?_|simp only[go_sem,ej,s,f,c,g,o,k,Ao]
     all_goals first
      |(exact⟨_,rfl⟩)
      |(refine Av (e-1) [num ((i+1:Nat):Int)] om ⟨i+1,om,rfl⟩ ?_
        simp only[PU];exact Wi.h;done)
    have s:=eU i j;refine Zu ?_;exact Zl (n-1) ⟨j+1,om,rfl⟩;done
  have ej:=eU j l.length;exact b_
def Aai(b c)(a:Ht b)(d:Ht c):QA 364 [b8 b,b8 c] (λr=>∃b,r=Af b):=by
 simp only[b8];refine G6 [] func364 ⟨_,true,rfl⟩ ?_;repeat' first|apply Aq.on<;>intro _|refine gD ?_|simp only[go_sem,Ao]
 all_goals try exact⟨_,rfl⟩
 have h:=Aag b c a d;simp only[dF,num]at h;apply h.mono;rintro r ⟨t,rfl⟩;simp only[Af];repeat' first|apply Aq.on<;>intro _|refine gD ?_|simp only[go_sem,Ao]
 exact nY
def Qz(l:List Bk)(f:l.length<=1000000)(i):QA 263 [.sl 9 (l.map b8),num i] (λr=>∃k:Int,-1<=k/\k<l.length/\r=num k):=by
 refine Zs [] func263 ⟨_,-1,om,om,rfl⟩ ?_;refine Ak (rl [6,14]) [5] (λn y=>∃j:Nat,j+n=l.length/\y=[num j]) ⟨l.length,_,⟨0,om,rfl⟩,?_⟩ ?_;exact Nu
 .rintro n y ⟨j,g,rfl⟩;simp only[PU];rcases cq j l.length with a|hge
  .have e:=eT j l.length;obtain⟨x,c,m⟩:=Bj a;have b:=Iq c;have d:=wS j;repeat' first|apply Aq.on<;>intro _|refine gD ?_|simp only[go_sem,e,b,d,Ao]
   all_goals first
    |(exact⟨j,om,om,rfl⟩)
    |(refine Av (n-1) [num ((j+1:Nat):Int)] om ⟨j+1,om,rfl⟩ ?_
      simp only[PU];exact Wi.h;done)
  have e:=eU j l.length;refine Zu ?_;exact⟨-1,om,om,rfl⟩
def aH(l m:List Bk)(n:l.length<=1000000)(o:m.length<=1000000)(p:∀b∈l,Ht b)(q:∀b∈m,Ht b)(a):QA 314 [.sl 9 (l.map b8),.sl 9 (m.map b8),num a] (λr=>∃b,r=Af b):=by
 refine G6 [(2000005,[0,1,2,4,5,6,2003,2007],[3008,9])] func314 ⟨_,true,rfl⟩ ?_;repeat' first|apply Aq.on<;>intro _|refine gD ?_|simp only[go_sem,Ao]
 refine(Qz l n a).mono ?_;rintro r ⟨k1,h1,z,rfl⟩;refine Zn ?_;refine(Qz m o a).mono ?_;rintro r ⟨k2,A,B,rfl⟩;simp only[num];by_cases e:0<=k1/\0<=k2;rotate_left
 .by_cases h:k1<0
  .have e1:=bc h;repeat' first|apply Aq.on<;>intro _|refine gD ?_|simp only[go_sem,e1,Ao]
   exact nY
  have e1:=bd h;have e2:=bc (show k2<0 by omega);repeat' first|apply Aq.on<;>intro _|refine gD ?_|simp only[go_sem,e1,e2,Ao]
  exact nY
 obtain⟨i,rfl⟩:=ri e.1;obtain⟨j,rfl⟩:=ri e.2;have e1:=bd (show¬(i:Int)<0 by omega);have e2:=bd (show¬(j:Int)<0 by omega);have s:=eT i l.length;have u:=eT j m.length;obtain⟨x,f,v⟩:=Bj (show i<l.length by omega);obtain⟨y,g,w⟩:=Bj (show j<m.length by omega);have c:=Iq f;have d:=Iq g;refine Zu ?_;have k:=Aai x y (p x (cu f)) (q y (cu g));simp only[b8,num,str]at k;refine k.mono ?_;rintro r ⟨t,rfl⟩;simp only[Af];repeat' first|apply Aq.on<;>intro _|refine gD ?_|simp only[go_sem,e1,e2,s,u,c,d,Ao]
 exact nY
def Aaj(l m:List Bk)(d:l.length<=1000000)(g:m.length<=1000000):QA 262 [.sl 9 (l.map b8),.sl 9 (m.map b8)] (λr=>∃b,r=Af b):=by
 refine Zs [] func262 ⟨_,true,rfl⟩ ?_;refine Ak (rl [7,20]) [5,6] (λn y=>∃(j:Nat) (z:Int),j+n=m.length/\y=[num z,num j]) ⟨m.length,_,⟨0,-1,om,rfl⟩,Nu⟩ ?_
 .rintro n y ⟨j,z,i,rfl⟩;simp only[PU];rcases cq j m.length with a|hge
  .have ej:=eT j m.length;obtain⟨x,e,o⟩:=Bj a;have c:=Iq e;have f:=wS j;refine Zu ?_;refine(Qz l d x.id).mono ?_;rintro r ⟨k,h1,p,rfl⟩;simp only[num];repeat' first|apply Aq.on<;>intro _|refine gD ?_|simp only[go_sem,ej,c,f,Ao]
   all_goals first
    |(exact⟨_,rfl⟩)
    |(refine Av (n-1) [num k,num ((j+1:Nat):Int)] om ⟨j+1,k,om,rfl⟩ ?_
      simp only[PU];exact Wi.h;done)
    |(refine Av (n-1) [num z,num ((j+1:Nat):Int)] om ⟨j+1,z,om,rfl⟩ ?_
      simp only[PU];exact Wi.h;done)
  have ej:=eU j m.length;exact b_
def Alb(l m p:List Bk)(f:l.length<=1000000)(g:m.length<=1000000)(i:p.length<=1000000):QA 260 [.sl 9 (l.map b8),.sl 9 (m.map b8),.sl 9 (p.map b8)] (λr=>∃is:List Int,is.length<=1000/\r=.own 3 1 (Ar is)):=by
 refine Zs [] func260 ⟨_,[],oS,rfl⟩ ?_;refine Ak (rl [9,25]) [7,8] (λn y=>∃(j:Nat) (is:List Int),j+n=1001/\1<=j/\is.length<j/\y=[.own 3 1 (Ar is),num j]) ⟨1000,_,⟨1,[],om,om,oS,rfl⟩,?_⟩ ?_;exact Zw
 .rintro n y ⟨j,is,x,o,q,rfl⟩;simp only[PU];rcases cq 1000 j with s|hlt
  have t:=bd (show¬(j:Int)<=1000 by omega);refine Zu ?_;exact⟨is,om,rfl⟩;have t:=bc (show(j:Int)<=1000 by omega);have z:=wS j;have u:Ar is++[.raw (.int .i64 (j:Int))]=Ar (is++[(j:Int)]):=by simp[Ar,num]
  have v:(Ar is).length=is.length:=Ao is;refine Zu ?_;refine(Qz l f j).mono ?_;rintro r ⟨k,h1,e,rfl⟩;simp only[num];by_cases h:0<=k;have e1:=bc h;exact OP;have e1:=bd h;refine Zu ?_;refine(Qz m g j).mono ?_;rintro r ⟨c,h1,e,rfl⟩;simp only[num];by_cases a:0<=c;have e2:=bc a;exact OP;have e2:=bd a;refine Zu ?_;refine(Qz p i j).mono ?_;rintro r ⟨d,h1,e,rfl⟩;simp only[num];by_cases b:0<=d;have w:=bc b;exact OP;have w:=bd b;refine Zu ?_;exact Zl (n-1) ⟨j+1,is,om,om,om,rfl⟩;done
def zA:AV:=.agg [num 0,num 0,str [],num 0,num 0,num 0,.nil,num 0,num 0]
def chR(a b:List Bk)(r:AV):Prop:=∃(x:AV) (h c:Bool),r=.a6 [x,Af h,Af c]/\(h=true/\(∃y,(y∈a\/y∈b)/\x=b8 y)\/h=false/\x=zA)
def Vd(p a b:List Bk)(g:p.length<=1000000)(ha:a.length<=1000000)(h:b.length<=1000000)(j:∀x∈p,Ht x)(m:∀x∈a,Ht x)(n:∀x∈b,Ht x)(d:Int):QA 261 [.sl 9 (p.map b8),.sl 9 (a.map b8),.sl 9 (b.map b8),num d] (chR a b):=by
 refine Zs [(1000014,[],[])] func261 ⟨_,zA,false,false,rfl,.inr ⟨rfl,rfl⟩⟩ ?_;refine(Qz a ha d).mono ?_;rintro r ⟨k1,h1,C,rfl⟩;simp only[num];simp only[go_sem];refine(Qz b h d).mono ?_;rintro r ⟨k2,D,E,rfl⟩;simp only[num];simp only[go_sem];refine(aH p a g ha j m d).mono ?_;rintro r ⟨v,rfl⟩;simp only[Af];simp only[go_sem];refine Xl (rl [11,2,3,48]) [13,14,15] (λo=>∃(l:List Bk) (k:Int) (c:Bool),(∀x∈l,x∈a\/x∈b)/\l.length<=1000000/\ -1<=k/\k<l.length/\o=[.sl 9 (l.map b8),num k,Af c]) ?_ ?_
 .cases v;rotate_left
  simp only[go_sem];refine Gt [.sl 9 (b.map b8),num k2,Af false] ⟨b,k2,false,λx hx=>.inr hx,h,om,om,rfl⟩ ?_;exact QJ;simp only[go_sem];refine(aH p b g h j n d).mono ?_;rintro r ⟨t,rfl⟩;simp only[Af];simp only[go_sem];refine(aH a b ha h m n d).mono ?_;rintro r ⟨q,rfl⟩;simp only[Af];by_cases s:k2<0
  .have e0:=bc s;cases t<;>cases q
   simp only[go_sem,e0];refine Gt [.sl 9 (a.map b8),num k1,Af true] ⟨a,k1,true,λx hx=>.inl hx,ha,om,om,rfl⟩ ?_;exact QJ;exact GQ;exact GQ;exact GQ
  have e0:=bd s;cases t<;>cases q;simp only[go_sem,e0];refine Gt [.sl 9 (b.map b8),num k2,Af true] ⟨b,k2,true,λx hx=>.inr hx,h,om,om,rfl⟩ ?_;exact QJ;exact GQ;exact GQ;exact GQ
 rintro o ⟨l,k,c,e,w,y,z,rfl⟩;simp only[PU];simp only[Af];by_cases u:k<0;have ek:=bc u;simp only[go_sem,ek,Ao];exact⟨zA,false,c,rfl,.inr ⟨rfl,rfl⟩⟩;have ek:=bd u;obtain⟨i,rfl⟩:=ri (show 0<=k by omega);have A:=eT i l.length;obtain⟨x,hx,B⟩:=Bj (show i<l.length by omega);have f:=Iq hx;simp only[go_sem,ek,A,f,Ao];refine Zu ?_;exact⟨b8 x,true,c,rfl,.inl ⟨rfl,x,e x (cu hx),rfl⟩⟩
theorem ApL(l m p:List Bk)(a:l.length<=1000000)(b:m.length<=1000000)(c:p.length<=1000000):QA 260 [.sl 9 (l.map b8),.sl 9 (m.map b8),.sl 9 (p.map b8)] (λr=>∃i:List Int,i.length<=1000/\r=.sl 1 (Ar i)):=
 (Alb l m p a b c).lf λr ⟨i,h,e⟩=>⟨_,by rw[e];exact dy _ _ _,rfl,i,h,rfl⟩
def EW{a b o:List Bk}{z}(c:∀x∈o,x∈a\/x∈b)(d:z∈a\/z∈b):∀x∈o++[z],x∈a\/x∈b:=λx h=>by
 rcases ff.1 h with h|h;exact c x h;rw[ga]at h;rw[h];exact d
def Ae5{a b o:List Bk}{z k}(c:∀x∈o,x∈a\/x∈b)(d:z∈a\/z∈b):∀x∈o.take k++[z]++o.drop k,x∈a\/x∈b:=λx h=>by
 rcases ff.1 h with h|h;exact EW (λx h=>c x (i7 h)) d x h;exact c x (mg h)
def meR(a b:List Bk)(r:AV):Prop:=r=.a6 [.nil,.nil,num 40]\/∃(l:List Bk) (c:List Int),r=.a6 [.own 77 9 (l.map b8),.own 3 1 (Ar c),num 0]/\l.length<=a.length+b.length/\∀x∈l,x∈a\/x∈b
def Aak(p a b:List Bk)(G:p.length<=100000)(H:a.length<=100000)(D:b.length<=100000)(N:∀x∈p,Ht x)(O:∀x∈a,Ht x)(P:∀x∈b,Ht x):QA 186 [.sl 9 (p.map b8),.sl 9 (a.map b8),.sl 9 (b.map b8)] (meR a b):=by
 replace G:p.length<=1000000:=om
 replace ha':=H
 replace hb':=D
 replace H:a.length<=1000000:=om
 replace D:b.length<=1000000:=om
 refine G6 [(1000025,[],[]),(38,[],[22]),(40,[],[22])] func186 ⟨_,.inl rfl⟩ ?_;simp only[go_sem];refine(aG p G N).mono ?_;rintro r ⟨t1,rfl⟩;simp only[Af];simp only[go_sem];refine(aG a H O).mono ?_;rintro r ⟨t2,rfl⟩;simp only[Af];simp only[go_sem];refine(aG b D P).mono ?_;rintro r ⟨t3,rfl⟩;simp only[Af];cases t1
 .simp only[go_sem];exact J1
 cases t2
 .simp only[go_sem];exact J1
 cases t3
 .simp only[go_sem];exact J1
 simp only[go_sem];refine(ApL p a b G H D).mono ?_;rintro r ⟨J,hil,rfl⟩;simp only[go_sem];refine Ak (rl [3,3,10,151]) [13,14,15] (λn E=>∃(j q:Nat) (d:List Int),j+n=J.length/\q<=j/\d.length<=j/\E=[.own 3 1 (Ar d),num q,num j]) ⟨J.length,_,⟨0,0,[],om,om,oS,rfl⟩,?_⟩ ?_
 .exact Zw
 .rintro n E ⟨j,q,d,R,hq,hcs,rfl⟩;simp only[PU];rcases cq j J.length with l|hge
  .have e:=eT j J.length;obtain⟨y,hy,X⟩:=Bj l;have m:=S8 hy;have g:=wS j;have A:=wS q;have s:Ar d++[.raw (.int .i64 y)]=Ar (d++[y]):=by simp[Ar,num]
   have B:(Ar d).length=d.length:=Ao d;simp only[go_sem,e,m,g,Ao];refine Zu ?_;refine(Vd p a b G H D N O P y).mono ?_;rintro r ⟨x,h,c,rfl,C⟩;rcases C with⟨rfl,z,Q,rfl⟩|⟨rfl,rfl⟩
   .simp only[b8,num,str,Af];cases c
    .simp only[go_sem,e,m,g,A,s,B,Ao];refine Zu ?_;exact Zl (n-1) ⟨j+1,q+1,d,om,om,om,rfl⟩;done
    .simp only[go_sem,e,m,g,A,s,B,Ao];refine Zu ?_;exact Zl (n-1) ⟨j+1,q+1,d++[y],om,om,by simp;omega,rfl⟩;done
   .simp only[zA,num,str,Af];cases c
    .simp only[go_sem,e,m,g,A,s,B,Ao];refine Zu ?_;exact Zl (n-1) ⟨j+1,q,d,om,om,om,rfl⟩;done
    .simp only[go_sem,e,m,g,A,s,B,Ao];refine Zu ?_;exact Zl (n-1) ⟨j+1,q,d++[y],om,om,by simp;omega,rfl⟩;done
  have e:=eU j J.length;by_cases F:(24:Int)<q
  .have t:=bc F;simp only[go_sem,e,t,Ao];exact J1
  have t:=bd F;simp only[go_sem,e,t,Ao];refine(Aaj p b G D).mono ?_;rintro r ⟨t4,rfl⟩;simp only[Af];simp only[go_sem];refine Xl (rl [3,3,3,4,1,5,2,146]) [13,19,20] (λY=>∃(u v:List Bk) (d:List Int),(∀x∈u,x∈a\/x∈b)/\u.length+v.length=a.length+b.length/\d.length<=1000/\Y=[.own 3 1 (Ar d),.sl 9 (u.map b8),.sl 9 (v.map b8)]) ?_ ?_
  .cases t4
   .simp only[go_sem];refine Gt [.own 3 1 (Ar d),.sl 9 (a.map b8),.sl 9 (b.map b8)] ⟨a,b,d,λx C=>.inl C,rfl,om,rfl⟩ ?_;exact Zw;done
   simp only[go_sem];refine Gt [.own 3 1 (Ar d),.sl 9 (b.map b8),.sl 9 (a.map b8)] ⟨b,a,d,λx C=>.inr C,om,om,rfl⟩ ?_;exact Zw;done
  rintro Y ⟨u,v,S,hu,huv,Z,rfl⟩;simp only[PU];simp only[go_sem];refine Ak (rl [3,3,3,4,1,5,2,1,2,143]) [22,23] (λn E=>∃(j:Nat) (o:List Bk),j+n=u.length/\o.length<=j/\(∀x∈o,x∈a\/x∈b)/\E=[.own 77 9 (o.map b8),num j]) ⟨u.length,_,⟨0,[],om,oS,oS,rfl⟩,?_⟩ ?_
  .exact Zw
  .rintro n E ⟨j,o,R,K,f,rfl⟩;simp only[PU];rcases cq j u.length with l|hge
   .have e:=eT j u.length;obtain⟨x,C,X⟩:=Bj l;have i:=Iq C;have g:=wS j;simp only[go_sem,e,i,g,Ao];refine Zu ?_;refine(Vd p a b G H D N O P x.id).mono ?_;rintro r ⟨x2,h,c,rfl,I⟩;rcases I with⟨rfl,z,Q,rfl⟩|⟨rfl,rfl⟩
    .simp only[b8,num,str,Af];have s:o.map b8++[.agg [.raw (.int .i64 z.id),.raw (.int .i64 z.kd),.raw (.string ⟨z.tx.toArray⟩),.raw (.int .i64 z.so),.raw (.int .i64 z.rf),.raw (.int .i64 z.un),.sl 1 (Ar z.af),.raw (.int .i64 z.ap),.raw (.int .i64 z.de)]]=(o++[z]).map b8:=by simp[b8,num,str]
     simp only[go_sem,e,i,g,Ao];refine Zu ?_;exact Zl (n-1) ⟨j+1,o++[z],om,by simp;omega,EW f Q,rfl⟩;done
    simp only[zA,num,str,Af];simp only[go_sem,e,i,g,Ao];refine Zu ?_;exact Zl (n-1) ⟨j+1,o,om,om,f,rfl⟩;done
   have e:=eU j u.length;simp only[go_sem,e,Ao];refine Ak (rl [3,3,3,4,1,5,2,1,1,4,2,138]) [22,27,28] (λn E=>∃(j:Nat) (w:Int) (o:List Bk),j+n=v.length/\o.length<=u.length+j/\(∀x∈o,x∈a\/x∈b)/\E=[.own 77 9 (o.map b8),num w,num j]) ⟨v.length,_,⟨0,-1,o,om,om,f,rfl⟩,?_⟩ ?_
   .exact Zw
   .clear f K R e hge;rintro n E ⟨j,w,o,R,K,f,rfl⟩;simp only[PU];rcases cq j v.length with l|hge
    .have e:=eT j v.length;obtain⟨x,C,X⟩:=Bj l;have i:=Iq C;have g:=wS j;simp only[go_sem,e,i,g,Ao];refine Zu ?_;refine(Vd p a b G H D N O P x.id).mono ?_;rintro r ⟨x2,h,c,rfl,I⟩;rcases I with⟨rfl,z,Q,rfl⟩|⟨rfl,rfl⟩
     .simp only[b8,num,str,Af];simp only[go_sem,e,i,g,Ao];refine Zu ?_;refine(Qz u om z.id).mono ?_;rintro r ⟨k1,h1,h2,rfl⟩;simp only[num];by_cases L:k1<0;rotate_left
      .have e1:=bd L;simp only[go_sem,e1,g,Ao];refine Zu ?_;exact Zl (n-1) ⟨j+1,z.id,o,om,om,f,rfl⟩;done
      have e1:=bc L;simp only[go_sem,e1,g,Ao];refine Zu ?_;refine(Qz o om w).mono ?_;rintro r ⟨k2,h3,h4,rfl⟩;simp only[num];obtain⟨k,T⟩:=ri (show 0<=k2+1 by omega);have M:i64.wrap (k2+1)=(k:Int):=by rw[Aw om om];exact T
      have hkl:k<=o.length:=om;have ek:=bc (show(k:Int)<=(o.length:Int) by omega);have U:[.agg [.raw (.int .i64 z.id),.raw (.int .i64 z.kd),.raw (.string ⟨z.tx.toArray⟩),.raw (.int .i64 z.so),.raw (.int .i64 z.rf),.raw (.int .i64 z.un),.sl 1 (Ar z.af),.raw (.int .i64 z.ap),.raw (.int .i64 z.de)]]=[z].map b8:=by simp[b8,num,str]
      simp only[go_sem,e1,g,M,ek,Ao];rw[<-ol];have V:(o.take k).length=k:=by simp;omega
      have W:(o.drop k).take (o.length-k)=o.drop k:=Are oS;repeat' first|apply Aq.on<;>intro _|refine gD ?_|simp only[go_sem,e1,g,M,ek,V,U,<-ip,<-pm,<-ol,W,dc,List.length_singleton,jb,Ao]
      have hfin:(o.take k).map b8++[b8 z]++(o.drop k).map b8=(o.take k++[z]++o.drop k).map b8:=oS;rw[hfin];exact Zl (n-1) ⟨j+1,z.id,_,om,by simp;omega,Ae5 f Q,rfl⟩;done
     simp only[zA,num,str,Af];simp only[go_sem,e,i,g,Ao];refine Zu ?_;exact Zl (n-1) ⟨j+1,w,o,om,om,f,rfl⟩;done
    have e:=eU j v.length;simp only[go_sem,e,Ao];refine Zu ?_;exact .inr ⟨o,S,rfl,om,f⟩
end Go.Proofs.YtobhohikfmlccaaGreatDoor
