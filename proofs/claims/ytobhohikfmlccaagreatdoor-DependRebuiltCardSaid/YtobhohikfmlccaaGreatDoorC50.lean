/- The reference's Sum is the code's. -/
import Derived.Test.YtobhohikfmlccaaGreatDoorRows
import Derived.OpenShut
import Derived.LaidMore
import Derived.LaidLaws
import Derived.Lay
import Derived.Handed
import Derived.Shelf.Vars
import Derived.Stop.Joined
import Derived.Test.YtobhohikfmlccaaGreatDoorC18
set_option linter.all false
set_option maxRecDepth 100000
set_option maxHeartbeats 40000000
open Go.RowKit Go.Proofs Go.ChangeShapes Go.WideShapes Go.ChangeAt Tryz Go.Lib Go.IntKind
namespace Go.Proofs.YtobhohikfmlccaaGreatDoor
abbrev Att:= @List.length_eq_zero_iff
abbrev tc:= @Nat.xor_lt_two_pow
theorem x7 (L:List Ap):(Dd L).Nodup:=(Cv _).1.imp λ{a b} h e=>by subst e;exact F8 a h
theorem Ι (l:Ξ) (s:Ab) (u:l.length<=1000000):QA 18 [.sl 1 (l.map str),str s] (λr=>r=Af (decide (s∈l))):=by
 refine Zs [] func18 ⟨_,rfl⟩ ?_;refine Ak (rl [6,12]) [5] (λn m=>∃j:Nat,j+n=l.length/\(∀x∈l.take j,x≠s)/\m=[num j]) ⟨l.length,_,⟨0,om,oS,rfl⟩,?_⟩ ?_
 ·exact Zw
 ·rintro n m ⟨j,v,b,rfl⟩;simp only[PU];rcases cq j l.length with g|hge
  ·have f:=eT j l.length;obtain⟨x,i,w⟩:=Bj g;have c:=Cd i;have o:=wS j;cases d:(x==s)
   ·have k:x≠s:=λe=>by rw[e]at d;simp at d
    refine Z4 f c o d ?_
    exact Zl (n-1) ⟨j+1,om,λy a=>by
     rw[fc,i]at a;rcases ff.1 a with a|a
     ·exact b y a
     ·simp at a;subst a;exact k,rfl⟩
   have p:x=s:=by simpa using d
   subst p;have q:decide (x∈l)=true:=decide_eq_true (cu i);refine Z4 f c o d ?_;rw[q]
  have f:=eU j l.length;have t:decide (s∈l)=false:=decide_eq_false λh=>b s (by rw[Are hge];exact h) rfl;refine Z1 f ?_;rw[t]
def dz (n:Nat):Nat:=if n % 2=1 then n / 2 ^^^ 2197175160 else n / 2
theorem q9 (a b:Nat):dz (a ^^^ b)=dz a ^^^ dz b:=by
 have h1:(a ^^^ b) / 2=a / 2 ^^^ b / 2:=Nat.xor_div_two;have d:(a ^^^ b) % 2=1↔¬(a % 2=1↔b % 2=1):=Nat.xor_mod_two_eq_one;have k:∀x y z:Nat,x ^^^ z ^^^ (y ^^^ z)=x ^^^ y:=λx y z=>by rw[Nat.xor_assoc,Nat.xor_comm z,Nat.xor_assoc,Nat.xor_self,Nat.xor_zero]
 unfold dz;by_cases h:a % 2=1<;>by_cases c:b % 2=1
 ·rw [ar (by rw[d];simp [h,c]),bn h,bn c,h1,k]
 ·rw [bn (by rw[d];simp [h,c]),bn h,ar c,h1,Nat.xor_assoc,Nat.xor_assoc,Nat.xor_comm (b / 2)]
 ·rw [bn (by rw[d];simp [h,c]),ar h,bn c,h1,Nat.xor_assoc]
 ·rw [ar (by rw[d];simp [h,c]),ar h,ar c,h1]
def m5:Θ:=yN.map Int.toNat
theorem vp (n:Nat):dz (dz (dz (dz n)))=n / 16 ^^^ m5.getD (n % 16) 0:=by
 have h:n=16*(n / 16) ^^^ n % 16:=by
  apply Nat.eq_of_testBit_eq;intro i;rw[Nat.testBit_xor,show(16:Nat)=2 ^ 4 from rfl,Nat.testBit_two_pow_mul,Nat.testBit_mod_two_pow,Nat.testBit_div_two_pow];by_cases a:i<4
  ·simp [a,Nat.not_le.2 a]
  ·simp [a,Nat.le_of_not_lt a]
 have e:∀m,dz (2*m)=m:=λm=>by unfold dz;rw[ar om];omega
 have b:dz (dz (dz (dz (16*(n / 16)))))=n / 16:=by rw[show 16*(n / 16)=2*(2*(2*(2*(n / 16)))) by omega,e,e,e,e]
 have t:∀m:Nat,m<16->dz (dz (dz (dz m)))=m5.getD m 0:=oK
 conv=>lhs;rw[h]
 rw[q9,q9,q9,q9,b,t _ (Nat.mod_lt _ oD)]
theorem nd {a b:Nat} (c:a<4294967296) (d:b<4294967296):gp .u32 (a:Int) (b:Int)=((a ^^^ b:Nat):Int):=by unfold gp;have h:∀n:Nat,BitVec.ofInt u32.bits (n:Int)=BitVec.ofNat 32 n:=λn=>rfl;rw[h,h];show u32.wrap (((BitVec.ofNat 32 a ^^^ BitVec.ofNat 32 b).toNat:Nat):Int)=_;rw[BitVec.toNat_xor,BitVec.toNat_ofNat,BitVec.toNat_ofNat,Nat.mod_eq_of_lt c,Nat.mod_eq_of_lt d,IntKind.wrap_u32];have:=tc (n:=32) c d;omega
theorem An2 {n:Nat} (h:n<4294967296):dz n<4294967296:=by
 unfold dz;split
 ·exact tc (n:=32) om oD
 ·omega
def ii:Nat->Δ
 |0,n=>n
 |k+1,n=>dz (ii k n)
theorem wa {n:Nat} (h:n<4294967296):∀k,ii k n<4294967296
 |0=>h
 |k+1=>An2 (wa h k)
theorem ϡ {n:Nat} (h:n<4294967296):fG n=(dz (dz (dz (dz n))):Nat):=by
 have e1:qz .u32 (n:Int) 4=((n / 16:Nat):Int):=by unfold qz;rw[show(2:Int) ^ (min (4:Int).toNat u32.bits)=16 from rfl,Int.fdiv_eq_ediv_of_nonneg _ oD];omega
 have e2:((n:Int).tmod 16).toNat=n % 16:=by rw[oa om];omega
 have t:∀m:Nat,m<16->yN.getD m 0=((m5.getD m 0:Nat):Int)/\m5.getD m 0<4294967296:=oK;obtain⟨a,b⟩:=t (n % 16) (Nat.mod_lt _ oD);unfold fG;rw[e1,e2,a,nd om b,vp]
theorem AiX (c:UInt8):u32.wrap ((c.toNat:Nat):Int)=((c.toNat:Nat):Int):=by have:=c.toNat_lt;rw[IntKind.wrap_u32];omega
theorem ϒ {n:Nat} (h:n<4294967296) (c:UInt8):oc n c=(ii 8 (n ^^^ c.toNat):Nat):=by have b:=c.toNat_lt;have a:=tc (n:=32) h (show c.toNat<2 ^ 32 by omega);unfold oc;rw[AiX,nd h om,ϡ a];show fG ((ii 4 (n ^^^ c.toNat):Nat):Int)=_;rw[ϡ (wa a 4)];rfl
def fx (s:Ab):Nat:=s.foldl (λn c=>ii 8 (n ^^^ c.toNat)) 4294967295
theorem k_ (s:Ab):fx s<4294967296/\AB s=(fx s:Nat):=by
 have k:∀(s:Ab) (n:Nat),n<4294967296->s.foldl (λn c=>ii 8 (n ^^^ c.toNat)) n<4294967296/\s.foldl oc (n:Int)=((s.foldl (λn c=>ii 8 (n ^^^ c.toNat)) n:Nat):Int):=by
  intro s
  induction s with
  |nil=>exact λn h=>⟨h,rfl⟩
  |cons c s ih=>intro n h;have b:=c.toNat_lt;have a:=wa (tc (n:=32) h (show c.toNat<2 ^ 32 by omega)) 8;simp only[lc];rw[ϒ h];exact ih _ a
 exact k s 4294967295 oD
theorem Aje (s:Ab) (G:s.length<=1000000):QA 24 [str s] (λr=>r=num (Qq s)):=by
 have A:num (Qq s)=num (i64.wrap (gp .u32 4294967295 (fx s:Nat))):=by unfold Qq;rw[(k_ s).2]
 rw[A];refine ai (Zt [] [13] [] func24 ?_) ⟨_,rfl⟩;refine Ad (rl [5,29]) [3,4] (λm x c=>c=[]/\∃i:Nat,i+m=s.length/\x=[.raw (.int .u32 (fx (s.take i):Nat)),num i]) ⟨s.length,_,_,⟨rfl,0,om,rfl⟩,hent (aa _) ?_⟩ ?_
 ·simp only[gx];exact Zw
 ·rintro m x c ⟨rfl,i,H,rfl⟩;simp only[PU];by_cases h:i<s.length;rotate_left
  ·have g:=eU i s.length;refine Z1 g ?_;rw[Are om];refine Tu b3 Dc zZ [] (by simp only[go_sem,reduceIte];rfl) ?_;refine Z0 ?_;exact Zx
  have g:=eT i s.length;have t:=wS i
  have j:fx (s.take (i+1))=ii 8 (fx (s.take i) ^^^ (s.getD i 0).toNat):=by
   have l:s.getD i 0=s[i]:=by simp [fk,h]
   unfold fx;rw[nk h,mw,l];rfl
  have u:=(k_ (s.take i)).1;have I:=(s.getD i 0).toNat_lt;have B:=AiX (s.getD i 0);have o:=nd u (show(s.getD i 0).toNat<4294967296 by omega);have C:=tc (n:=32) u (show(s.getD i 0).toNat<2 ^ 32 by omega);generalize fx (s.take i) ^^^ (s.getD i 0).toNat=r1 at *;refine Z4 g t B o ?_;refine Ad (rl [6,28]) [3,5] (λf x c=>c=[]/\∃k:Nat,k+f=8/\x=[.raw (.int .u32 (ii k r1:Nat)),num k]) ⟨8,_,_,⟨rfl,0,om,rfl⟩,hent (aa _) ?_⟩ ?_
  ·exact Zw
  ·rintro f x c ⟨rfl,k,J,rfl⟩;simp only[PU];by_cases D:k<8;rotate_left
   ·have ek:((k:Int)<8)=False:=bd om;refine Z2 ek t ?_;have E:k=8:=om;subst E;rw[<-j];exact Zm (m-1) ⟨rfl,i+1,om,rfl⟩
   have ek:((k:Int)<8)=True:=bc om;have d:=wS k;have K:=wa C k;have e:ii (k+1) r1=dz (ii k r1):=rfl;generalize ii k r1=n at *;have v:(n:Int).tmod 2=((n % 2:Nat):Int):=by rw[oa om];omega
   have w:(n:Int).tdiv 2=((n / 2:Nat):Int):=by rw[sq om];omega
   have y:u32.wrap ((n / 2:Nat):Int)=((n / 2:Nat):Int):=by rw[IntKind.wrap_u32];omega
   by_cases z:n % 2=1
   ·have p:(((n % 2:Nat):Int)=1)=True:=bc om;have F:gp .u32 ((n / 2:Nat):Int) 2197175160=((n / 2 ^^^ 2197175160:Nat):Int):=nd (a:=n / 2) (b:=2197175160) om oD;have q:dz n=n / 2 ^^^ 2197175160:=bn z;refine Z7 ek d v w y p F ?_;rw[<-q,<-e];exact Zm (f-1) ⟨rfl,k+1,om,rfl⟩
   ·have p:(((n % 2:Nat):Int)=1)=False:=bd om;have q:dz n=n / 2:=ar z;refine Z6 ek d v w y p ?_;rw[<-q,<-e];exact Zm (f-1) ⟨rfl,k+1,om,rfl⟩
section
variable {v w : Ab -> Ab} {bf : Ab -> Ab -> Option Ab} {S b : Nc}
def tu (v w:Ab->Ab) (a:Ξ):Prop:=∀k∈a,v k=w k
def gh {a:Type} (v w:Ab->Ab) (c:Ξ) (x y:a×List Ab):Prop:=(∀k∈c,k∈x.2)/\(tu v w x.2->y=x)
def ru:K5->Ξ
 |.ok s=>s.ks
 |.bad _ s=>s.ks
def Zqb5 (v w:Ab->Ab) (s:EvS) (o a:K5):Prop:=(∀k∈s.ks,k∈ru o)/\(tu v w (ru o)->a=o)
theorem Zqb5.same {s:EvS} {o:K5} (h:∀k∈s.ks,k∈ru o):Zqb5 v w s o o:=⟨h,λ_=>rfl⟩
theorem Zqb5.from {s s1:EvS} {o a:K5} (h:∀k∈s.ks,k∈s1.ks) (c:Zqb5 v w s1 o a):Zqb5 v w s o a:=⟨λk d=>c.1 k (h k d),c.2⟩
theorem Zqb5.bind {d:EvS} {o g:K5} {f f':EvS->K5} (h1:Zqb5 v w d o g) (a:∀s,Zqb5 v w s (f s) (f' s)):Zqb5 v w d (o.bind f) (g.bind f'):=by
 cases o with
 |ok s=>exact⟨λk c=>(a s).1 k (h1.1 k c),λh=>by rw[h1.2 λk c=>h k ((a s).1 k c)];exact(a s).2 h⟩
 |bad e s=>exact⟨h1.1,λh=>by rw[h1.2 h];rfl⟩
theorem Zqb5.head {a:Type} {s:EvS} {p q:a×List Ab} {g g':a×List Ab->K5} (h:gh v w s.ks p q) (c:∀x:a×List Ab,Zqb5 v w {s with ks:=x.2} (g x) (g' x)):Zqb5 v w s (g p) (g' q):=
 ⟨λk d=>(c p).1 k (h.1 k d),λe=>by rw[h.2 λk d=>e k ((c p).1 k d)];exact(c p).2 e⟩
theorem Ajj (x:Ab) (s:EvS):Zqb5 v w s (Nf x s) (Nf x s):=Zqb5.same (by unfold Nf;split<;>exact λk h=>h)
theorem tz {f f':Nd->EvS->K5} (h:∀x s,Zqb5 v w s (f x s) (f' x s)):∀(l:List Nd) (s:EvS),Zqb5 v w s (O8 f l s) (O8 f' l s)
 |[],s=>Zqb5.same λk h=>h
 |x::l,s=>by
  unfold O8;split
  ·exact Zqb5.same λk h=>h
  ·exact Zqb5.bind (Zqb5.from (s1:={s with steps:=s.steps+1}) (λk h=>h) (h x _)) λs=>tz h l s
theorem Adb {g g':Int->EvS->K5} (h:∀x s,Zqb5 v w s (g x s) (g' x s)):∀(l:List Int) (s:EvS),Zqb5 v w s (Kf g l s) (Kf g' l s)
 |[],s=>Zqb5.same λk h=>h
 |x::l,s=>by unfold Kf;exact Zqb5.bind (h x s) λs=>Adb h l s
structure xa (v w:Ab->Ab) (S b:Nc):Prop where
 f:∀id n ks,gh v w ks (S.ja id n ks) (b.ja id n ks)
 l:∀id n a c ks,gh v w ks (S.j6 id n a c ks) (b.j6 id n a c ks)
 i:∀n ks,gh v w ks (S.inl n ks) (b.inl n ks)
theorem DP (H:xa v w S b) {j r:List Nd->Int->EvS->K5} (h:∀l m s,Zqb5 v w s (j l m s) (r l m s)) (x:Nd) (m:Int) (s:EvS):Zqb5 v w s (Eg bf S j x m s) (Eg bf b r x m s):=by
 obtain⟨k,t,n,a,c,q,d,o⟩:=x;by_cases h1:k=1
 ·subst h1;exact Ajj t s
 by_cases z:k=2
 ·subst z
  refine Zqb5.head (g:=λp=>match p.1 with
   |none=>.bad 110 {s with ks:=p.2}
   |some x=>(match En bf q x with
    |none=>.bad 110 {s with ks:=p.2}
    |some y=>Nf y {s with ks:=p.2})) (g':=λp=>match p.1 with
   |none=>.bad 110 {s with ks:=p.2}
   |some x=>(match En bf q x with
    |none=>.bad 110 {s with ks:=p.2}
    |some y=>Nf y {s with ks:=p.2})) (H.f m n s.ks) λx=> ?_
  split
  ·exact Zqb5.same λk h=>h
  ·split
   ·exact Zqb5.same λk h=>h
   ·exact Ajj _ _
 by_cases A:k=3
 ·subst A;refine Zqb5.head (g:=λp=>if p.1=[]then .ok {s with ks:=p.2}else if d=[]then .ok {s with ks:=p.2}else Kf (λi s=>j d i s) (p.1.take 2001) {s with ks:=p.2}) (g':=λp=>if p.1=[]then .ok {s with ks:=p.2}else if d=[]then .ok {s with ks:=p.2}else Kf (λi s=>r d i s) (p.1.take 2001) {s with ks:=p.2}) (H.l m n a c s.ks) λx=> ?_;split
  ·exact Zqb5.same λk h=>h
  ·split
   ·exact Zqb5.same λk h=>h
   ·exact Adb (λi s=>h d i s) _ _
 by_cases B:k=4
 ·subst B;refine Zqb5.head (g:=λp=>if p.1.getD []=[]then j o m {s with ks:=p.2}else j d m {s with ks:=p.2}) (g':=λp=>if p.1.getD []=[]then r o m {s with ks:=p.2}else r d m {s with ks:=p.2}) (H.f m n s.ks) λx=> ?_;split
  ·exact h _ _ _
  ·exact h _ _ _
 by_cases C:k=5
 ·subst C;show Zqb5 v w s (if 3<=s.inc then _ else _) (if 3<=s.inc then _ else _);split
  ·exact Zqb5.same λk h=>h
  refine Zqb5.head (g:=λp=>match p.1 with
   |none=>.bad 110 {s with ks:=p.2}
   |some l=>(j l m {s with ks:=p.2,inc:=s.inc+1}).bind λs=>.ok {s with inc:=s.inc-1}) (g':=λp=>match p.1 with
   |none=>.bad 110 {s with ks:=p.2}
   |some l=>(r l m {s with ks:=p.2,inc:=s.inc+1}).bind λs=>.ok {s with inc:=s.inc-1}) (H.i n s.ks) λx=> ?_
  split
  ·exact Zqb5.same λk h=>h
  ·exact Zqb5.bind (Zqb5.from (s1:={s with ks:=x.2,inc:=s.inc+1}) (λk h=>h) (h _ _ _)) λs=>Zqb5.same λk h=>h
 have e:∀S j,Eg bf S j (.mk k t n a c q d o) m s=.bad 110 s:=λS j=>by unfold Eg;split<;>first|rfl|(rename_i u;injection u with u;omega)
 rw[e,e];exact Zqb5.same λk h=>h
theorem Add (H:xa v w S b):∀(f:Nat) (l:List Nd) (i:Int) (s:EvS),Zqb5 v w s (Me bf S f l i s) (Me bf b f l i s)
 |0,l,i,s=>tz (f:=λ_ s=>.bad 111 s) (f':=λ_ s=>.bad 111 s) (λ_ s=>Zqb5.same λk h=>h) l s
 |f+1,l,i,s=>tz (λx s=>DP H (λl i s=>Add H f l i s) x i s) l s
theorem Ajk (H:xa v w S b) (l:List Nd) (i:Int) (a:Ξ):(∀k∈a,k∈(Ry bf S l i a).2.2)/\(tu v w (Ry bf S l i a).2.2->Ry bf b l i a=Ry bf S l i a):=by
 have h:=Add (bf:=bf) H 2001 l i ⟨[],0,0,a⟩;unfold Ry;generalize Me bf S 2001 l i ⟨[],0,0,a⟩=o at *
 cases o with
 |ok s=>exact⟨h.1,λc=>by rw[h.2 c]⟩
 |bad e s=>exact⟨h.1,λc=>by rw[h.2 c]⟩
end
section
variable {v w : Ab -> Ab} (b : ∀ k : Ab, 1000000 < k.length -> v k = w k)
include b
theorem mz (a:Ξ) (k:Ab):(∀x∈a,x∈De a k)/\(tu v w (De a k)->w k=v k):=by
 unfold De;by_cases h:k∈a\/1000000<k.length
 ·rw [bn h];exact⟨λx h=>h,λc=>h.elim (λh=>(c k h).symm) λh=>(b k h).symm⟩
 ·rw [ar h];exact⟨λx h=>qr _ h,λc=>(c k oS).symm⟩
theorem gh.refl {c:Type} (x:c) (a:Ξ):gh v w a (x,a) (x,a):=⟨λk h=>h,λ_=>rfl⟩
theorem gh.key {c:Type} {g g':Ab->c} (a:Ξ) (k:Ab) (h:w k=v k->g' k=g k):gh v w a (g k,De a k) (g' k,De a k):=
 ⟨(mz b a k).1,λd=>by rw[h ((mz b a k).2 d)]⟩
theorem gh.ite {f:Type} {c:Prop} [Decidable c] {a:Ξ} {x y d e:f×List Ab} (h1:gh v w a x d) (h:gh v w a y e):gh v w a (if c then x else y) (if c then d else e):=by split<;>assumption
theorem Amk (a:Ej) (u d:Ab):xa v w (uK v a u d) (uK w a u d) where
 f id n ks:=by
   show gh v w ks (Gl v a u d id n ks) (Gl w a u d id n ks)
   have h:∀g:Int->Ab,gh v w ks (some (if a.kind=3 then g (Li v a)else[]),if a.kind=3 then De ks (Eh a)else ks) (some (if a.kind=3 then g (Li w a)else[]),if a.kind=3 then De ks (Eh a)else ks):=λg=>by
    by_cases j:a.kind=3
    ·simp only[bn j];exact gh.key b (g:=λ_=>some (g (Li v a))) (g':=λ_=>some (g (Li w a))) ks (Eh a) λe=>by unfold Li;rw[e]
    ·simp only[ar j];exact gh.refl b _ ks
   unfold Gl Jn;repeat' refine gh.ite b ?_ ?_
   all_goals first
    |exact gh.refl b _ ks
    |exact gh.key b (g:=λk=>some (v k)) (g':=λk=>some (w k)) ks _ λe=>by rw[e]
    |exact h λp=>itoa p
    |exact h λp=>if p<=a.n then[]else Rz a (a.n+1)
    |exact gh.key b (g:=λ_=>Ug v a id n) (g':=λ_=>Ug w a id n) ks _ λe=>by unfold Ug;rw[e]
 l id n x c ks:=by show gh v w ks (Uh v a id n x c ks) (Uh w a id n x c ks);unfold Uh;refine gh.ite b (gh.refl b _ ks) ?_;exact gh.key b (g:=λk=>if(cut (v k) [32,111,102,32]).1=[]then[]else(R3 (cut (v k) [32,111,102,32]).1 [44]).map Bi) (g':=λk=>if(cut (w k) [32,111,102,32]).1=[]then[]else(R3 (cut (w k) [32,111,102,32]).1 [44]).map Bi) ks (Bn a id n x c) λe=>by simp only[e]
 i n ks:=by show gh v w ks (W3 v n ks) (W3 w n ks);unfold W3;exact gh.key b (g:=λk=>if v k=[]then none else if(Cy ((v k).drop 1)).2.2=0 then some (Cy ((v k).drop 1)).1 else none) (g':=λk=>if w k=[]then none else if(Cy ((w k).drop 1)).2.2=0 then some (Cy ((w k).drop 1)).1 else none) ks _ λe=>by simp only[e]
theorem Amn {u:Ab} {x:Ab×List Ab} (h:uS v u=some x) (c:tu v w x.2):uS w u=some x:=by
 unfold uS Il at h⊢
 cases i:Gv u with
 |none=>rw[i]at h;cases h
 |some a=>
  rw[i]at h;simp only at h⊢;by_cases e:v ([97,100,100,114,101,115,115]++u)=[]
  ·rw [bn e]at h;cases h
  rw[ar e]at h;injection h with h;generalize m:([97,100,100,114,101,115,115]++u:Ab)=k0 at *;have o:=mz b [] k0;have j:=mz b (De [] k0) ([116,101,109,112,108,97,116,101,47]++(Bh a.kind).1)
  have f:(∀k∈De (De [] k0) ([116,101,109,112,108,97,116,101,47]++(Bh a.kind).1),k∈x.2)/\V3 (Fh Vu Hh) (uK w a u (Bh a.kind).1) (eI v a.kind) (if a.kind=2 then a.n else 0) (De (De [] k0) ([116,101,109,112,108,97,116,101,47]++(Bh a.kind).1))=x:=by
   generalize De (De [] k0) ([116,101,109,112,108,97,116,101,47]++(Bh a.kind).1)=ks at *;have l:=Ajk (bf:=Fh Vu Hh) (Amk b a u (Bh a.kind).1) (Cy (eI v a.kind)).1 (if a.kind=2 then a.n else 0) ks;rw[<-h]at c⊢;unfold V3 at c⊢;by_cases d:(Cy (eI v a.kind)).2.2=0
   ·rw [bn d]at c⊢;rw[bn d];exact⟨l.1,by rw[l.2 c]⟩
   ·rw [ar d,ar d];exact⟨λk h=>h,rfl⟩
  have e1:=j.2 λk g=>c k (f.1 k g);have p:=o.2 λk g=>c k (f.1 k (j.1 k g));have q:eI w a.kind=eI v a.kind:=by unfold eI;rw[e1]
  rw[p,ar e,q,f.2]
end
def p3 (v w:Ab->Ab) (r:Ab×Int):Bool:= !(v r.1==w r.1)&&decide (Qq (v r.1)=Qq (w r.1))
def ji (v w:Ab->Ab) (a:List Pg):Bool:=a.any λp=>p.rd.any (p3 v w)
theorem AdR {M M2:List Bq} {T T2:List (Ab×Ab)} (B:MB M T) (R:MB M2 T2) (a:List Pg) (X:a.length<=1000000) (J:∀p∈a,W9 p):QA 16 [.agg [.sl 8 ((M.map Bq.s).map ci),.sl 2 (T.map A4)],.agg [.sl 8 ((M2.map Bq.s).map ci),.sl 2 (T2.map A4)],.sl 3 (a.map Ll)] (λr=>r=num (if ji (iY M T) (iY M2 T2) a=true then 1 else 0)):=by
 have U:=B.rv;have K:=R.rv;have L:=B.v.len;have u:=R.v.len;generalize iY M T=v at *;generalize iY M2 T2=w at *;generalize (M.map Bq.s).map ci=SA at *;generalize T.map A4=TA at *;generalize (M2.map Bq.s).map ci=SB at *;generalize T2.map A4=TB at *;obtain⟨Y,n⟩:∃b,ji v w a=b:=⟨_,rfl⟩;rw[n];refine ai (Zt [] [] [(7,[],[1,2,3,4,6,2000,2005,7,8,2009],[],[3010,11]),(8,[],[1,2,3,4,6,2000,2005,7,8,2009],[],[3010,11])] func16 ?_) ⟨_,rfl⟩;refine Ad (rl [8,51]) [7] (λm x y=>y=[]/\∃i:Nat,i+m=a.length/\x=[num i]/\ji v w (a.take i)=false) ⟨a.length,_,_,⟨rfl,0,om,rfl,rfl⟩,hent (aa _) ?_⟩ ?_
 ·exact Zw
 rintro m x y ⟨rfl,i,Z,rfl,o⟩;simp only[PU];by_cases N:i<a.length;rotate_left
 ·have e:=eU i a.length;rw[Are om,n]at o;subst o;refine Z1 e ?_;exact Zx
 have e:=eT i a.length;obtain⟨p,t,_⟩:=Bj N;have h:=pv t;have z:=wS i;have A:=cu t;obtain⟨V,C⟩:=J p A
 have O:ji v w (a.take (i+1))=p.rd.any (p3 v w):=by
  have:ji v w (a.take (i+1))=(ji v w (a.take i)||p.rd.any (p3 v w)):=by rw[fc,t];simp [ji]
  rw[this,o,qm]
 refine Z3 e h z ?_;refine Ad (rl [9,50]) [8] (λH x y=>y=[]/\∃j:Nat,j+H=p.rd.length/\x=[num j]/\(p.rd.take j).any (p3 v w)=false) ⟨p.rd.length,_,_,⟨rfl,0,om,rfl,rfl⟩,hent (aa _) ?_⟩ ?_
 ·exact Zw
 rintro H x y ⟨rfl,j,W,rfl,f⟩;simp only[PU];by_cases D:j<p.rd.length;rotate_left
 ·have k:=eU j p.rd.length;rw[Are om]at f;refine Z4 e h z k ?_;exact Zm (m-1) ⟨rfl,i+1,om,rfl,by rw[O,f]⟩
 have k:=eT j p.rd.length;obtain⟨q,hq,_⟩:=Bj D;have c:=v0 hq;have d:=wS j;have E:=C q (cu hq);have P:=cu hq;have g:(p.rd.take (j+1)).any (p3 v w)=p3 v w q:=by rw[fc,hq,List.any_append,f];simp
 have cV:=U q.1 E;have F:=K q.1 E;have cS:=Aje (v q.1) (L q.1);have G:=Aje (w q.1) (u q.1);simp only[str,num]at cV F cS G;refine Z5 k e h c d ?_;refine ae cV ?_;rintro r rfl;refine Z5 k e h c d ?_;refine ae F ?_;rintro r rfl;unfold p3 at g;cases l:(v q.1==w q.1);rotate_left
 ·rw [l]at g;refine Z6 k e h c d l ?_;exact Zm (H-1) ⟨rfl,j+1,om,rfl,g⟩
 refine Z6 k e h c d l ?_;refine ae cS ?_;rintro r rfl;refine Z6 k e h c d l ?_;refine ae G ?_;rintro r rfl;by_cases I:Qq (v q.1)=Qq (w q.1)
 ·have Q:=bc I;have S:ji v w a=true:=List.any_eq_true.2 ⟨p,A,List.any_eq_true.2 ⟨q,P,by unfold p3;rw[l,decide_eq_true I];rfl⟩⟩;rw[n]at S;subst S;refine Z7 k e h c d l Q ?_;exact Zx
 ·have Q:=bd I;rw[l,decide_eq_false I]at g;refine Z7 k e h c d l Q ?_;exact Zm (H-1) ⟨rfl,j+1,om,rfl,g⟩
theorem Am1 {v w:Ab->Ab} (f:∀k:Ab,1000000<k.length->v k=w k) {u:Ab} {x:Ab×List Ab} (a:uS v u=some x) (g:Ca w (vB v u).rd=true) (i:(vB v u).rd.any (p3 v w)=false):vB w u=vB v u/\(uS w u).isSome=true:=by
 have c:tu v w x.2:=λk b=>by
  have d:(k,Qq (v k))∈(vB v u).rd:=by unfold vB;rw[a];exact dm.2 ⟨k,((Cv x.2).2 k).2 b,rfl⟩
  have h1:=of_decide_eq_true (ib.1 g _ d);have h:=List.any_eq_false.1 i _ d;unfold p3 at h;simp only at h1 h;rw[decide_eq_true h1,qn]at h;simpa using h
 have e:=Amn f a c;refine⟨?_,by rw[e];rfl⟩;unfold vB;rw[e,a];have:vQ w x.2=vQ v x.2:=by unfold vQ;exact te λk b=>by rw[c k (((Cv x.2).2 k).1 b)]
 show(⟨u,x.1,vQ w x.2⟩:Pg)=⟨u,x.1,vQ v x.2⟩;rw[this]
theorem Ajl (M m:List Bq) (T t:List (Ab×Ab)) (k:Ab) (h:1000000<k.length):iY M T k=iY m t k:=by unfold iY;rw[ar om,ar om]
theorem Am2 {M M2:List Bq} {T T2:List (Ab×Ab)} (B:MB M T) {p:Pg} (a:p∈Jb M T) (b:Ca (iY M2 T2) p.rd=true) (c:ji (iY M T) (iY M2 T2) (Jb M T)=false):vB (iY M2 T2) p.ad=p/\(uS (iY M2 T2) p.ad).isSome=true:=by have h:=List.any_eq_false.1 c p a;obtain⟨u,d,rfl,e⟩:=GO B a;obtain⟨x,f⟩:=B.has d;rw[e];exact Am1 (Ajl M M2 T T2) f b (by simpa using h)
def kj (D E:Ξ) (a:List Pg):List Pg:=a.filter λp=> !decide (p.ad∈D)&& !decide (p.ad∈E)
theorem AdZ {D E:Ξ} {a:List Pg} {j:Nat} {p:Pg} (h:a[j]? =some p):kj D E (a.take (j+1))=kj D E (a.take j)++if (!decide (p.ad∈D)&& !decide (p.ad∈E))=true then[p]else[]:=by unfold kj;rw[fc,h,Ast];simp [ou]
theorem q_ {b a:Type} {f:b->a} {g:a->b}:∀{l:List a},(∀x∈l,f (g x)=x)->(l.map g).map f=l
 |[],_=>rfl
 |x::l,h=>by simp only[ev];rw[h x (.head _),q_ λy c=>h y (.tail _ c)]
theorem DS {w:Ab->Ab} {a:List Pg} {b D E:Ξ} (d:∀p∈a,∀q∈a,p.ad=q.ad->p=q) (n:(a.map (·.ad)).Nodup) (l:D.Nodup) (j:∀x,x∈D↔x∈b/\¬∃p∈a,p.ad=x/\Ca w p.rd=true) (m:∀x,x∈E↔∃p∈a,p.ad=x/\x∉b) (o:∀p∈a,Ca w p.rd=true->vB w p.ad=p):
 ∃U:Ξ,kj D E a++D.map (vB w)=U.map (vB w)/\U.Nodup/\∀x,x∈U↔x∈b:=by
 have k:∀p,p∈kj D E a↔p∈a/\p.ad∉D/\p.ad∉E:=λp=>by simp [kj,jq]
 have g:∀p∈kj D E a,p.ad∈b/\Ca w p.rd=true:=λp c=>by obtain⟨h1,r,s⟩:=(k p).1 c;have i:p.ad∈b:=Decidable.byContradiction λh=>s ((m _).2 ⟨p,h1,rfl,h⟩);refine⟨i,Decidable.byContradiction λh=>r ((j _).2 ⟨i,?_⟩)⟩;rintro⟨q,hq,e,f⟩;rw[d q hq p h1 e]at f;exact h f
 refine⟨(kj D E a).map (·.ad)++D,?_,?_,λx=> ?_⟩
 ·rw [ip,q_ λp c=>o p ((k p).1 c).1 (g p c).2]
 ·refine List.nodup_append.2 ⟨List.Nodup.sublist (List.filter_sublist.map _) n,l,λx t y u e=> ?_⟩;obtain⟨p,c,rfl⟩:=dm.1 t;subst e;exact((k p).1 c).2.1 u
 ·rw [ff,dm];constructor
  ·rintro (⟨p,c,rfl⟩|h)
   ·exact (g p c).1
   ·exact ((j x).1 h).1
  ·intro i;by_cases h:∃p∈a,p.ad=x/\Ca w p.rd=true
   ·obtain ⟨p,c,e,f⟩:=h;refine .inl ⟨p,(k p).2 ⟨c,λh=>((j _).1 h).2 ⟨p,c,rfl,f⟩,λh=> ?_⟩,e⟩;obtain⟨_,_,_,h⟩:=(m _).1 h;rw[e]at h;exact h i
   ·exact .inr ((j x).2 ⟨i,h⟩)
def pz (x:Ab) (l:Ξ):Nat:=(l.filter λu=>decide (u=x)).length
theorem DM {x:Ab} {l:Ξ} (h:x∉l):pz x l=0:=by unfold pz;rw[Att,List.filter_eq_nil_iff];intro a b;simp only[i6];exact λe=>h (by rw[<-e];exact b)
theorem xd {x:Ab}:∀{l:Ξ},l.Nodup->x∈l->pz x l=1
 |[],_,h=>by cases h
 |a::l,hn,h=>by
  obtain⟨h1,b⟩:=qp.1 hn;by_cases e:a=x
  ·subst e;have:=DM h1;unfold pz at this⊢;rw[List.filter_cons_of_pos oS,dg,this]
  ·have:=xd b ((e9.1 h).resolve_left λq=>e q.symm);unfold pz at this⊢;rw[List.filter_cons_of_neg (by simpa using e),this]
theorem Ael {x y:Ab} {l:Ξ} {k:Nat} (h:l[k]? =some y):pz x (l.take (k+1))=pz x (l.take k)+if y=x then 1 else 0:=by unfold pz;rw[fc,h,Ast,dc];by_cases e:y=x<;>simp [e]
theorem DQ (x:Ab) (l:Ξ):pz x l<=l.length:=kh _ _
theorem xk {M:List Bq} {T:List (Ab×Ab)} (B:MB M T) {U:Ξ} (i:U.length<=1000000) (h:∀x,x∈U↔x∈Dd (M.map Bq.s)):QA 21 [.sl 3 ((U.map (vB (iY M T))).map Ll),.agg [.sl 8 ((M.map Bq.s).map ci),.sl 2 (T.map A4)]] (λr=>r=.a6 [.sl 1 [],.sl 1 []]):=by
 refine Aa.mono (B.stale _ (by rw[dB];exact i) λp d=> ?_) ?_
 ·obtain ⟨u,c,rfl⟩:=dm.1 d;exact AlX (X7 ((h u).1 c))
 rintro r ⟨D,E,rfl,_,_,j,_,k⟩;have l:D=[]:=tb.2 λx g=>by obtain⟨a,b⟩:=(j x).1 g;exact b ⟨_,List.mem_map_of_mem ((h x).2 a),B.pg a,NV _ _⟩
 have m:E=[]:=tb.2 λx g=>by obtain⟨p,d,e,f⟩:=(k x).1 g;obtain⟨u,c,rfl⟩:=dm.1 d;rw[B.pg ((h u).1 c)]at e;exact f (e▸(h u).1 c)
 rw[l,m];rfl
theorem Wf (l:List X5) (hl:l.length<=9223372036854775807) (hX:∀x∈l,HR x) (a:Int) (ha:Db a):QA 5 [.sl 5 (l.map xA),num a] (λr=>r=Af true):=by
 refine ai (G7 [(1000015,[],[]),(1000021,[],[]),(1000033,[],[])] [18] [(30,[],[0,1,2,3,5,6,7,8,2004,2009,10,11,12,13,14,15,17,18,19,20,2016,2021,22,23],[],[])] func5 ?_) ⟨_,rfl⟩;refine Z0 ?_;refine ae wV ?_;rintro r rfl;simp only[Af];refine Z0 ?_;refine ae (xh l hl hX a ha) ?_;rintro r ⟨L,T,L2,T2,rfl,hB1,hB2⟩;obtain⟨M,rfl,B⟩:=rk hB1;obtain⟨M2,rfl,H⟩:=rk hB2;have hP:=B.pages;have Z:=H.pages;have hl2:=Qf H.g;have hR:=H.ren;obtain⟨N,hpk⟩:=cU B;have hC:=AdR B H _ N hpk;have hS:=λ(S:ji (iY M T) (iY M2 T2) (Jb M T)=false) p (I:p∈Jb M T) (hf:Ca (iY M2 T2) p.rd=true)=>(Am2 (M2:=M2) (T2:=T2) B I hf S).1;have zv:=H.stale _ N hpk;have O:=λU h1 h2=>xk H (U:=U) h1 h2;have hinj:∀p∈Jb M T,∀q∈Jb M T,p.ad=q.ad->p=q:=λp I q hq e=>by obtain⟨u,hu,rfl,e1⟩:=GO B I;obtain⟨w,V,rfl,e2⟩:=GO B hq;rw[e1,e2]at e;rw[e]
 have hnd:((Jb M T).map (·.ad)).Nodup:=by have:(Jb M T).map (·.ad)=Dd (M.map Bq.s):=q_ (g:=vB (iY M T)) λu hu=>B.pg hu;rw[this];exact x7 _
 have zd:=x7 (M2.map Bq.s);have hal:=λt (ht:t∈Dd (M2.map Bq.s))=>X7 ht;have hpg:=λt (ht:t∈Dd (M2.map Bq.s))=>H.pg ht;have hsm:=λt (ht:t∈Dd (M2.map Bq.s))=>H.has ht;unfold Jb at Z;generalize Jb M T=ps at *;generalize iY M T=v at *;generalize iY M2 T2=w at *;generalize Dd (M2.map Bq.s)=all at *;generalize (M.map Bq.s).map ci=SA at *;generalize T.map A4=TA at *;generalize (M2.map Bq.s).map ci=SB at *;generalize T2.map A4=TB at *;refine Z0 ?_;refine ae hP ?_;rintro r rfl;refine Z0 ?_;refine ae hC ?_;rintro r rfl;cases hcb:ji v w ps;rotate_left
 ·have e1:((0:Int)<1)=True:=bc oD;simp only[if_true,num];refine Z1 e1 ?_;exact Zx
 have hS:=hS hcb;have e1:((0:Int)<0)=False:=bd oD;simp only[f0,if_false,num];refine Z1 e1 ?_;refine ae zv ?_;rintro r ⟨D,E,rfl,hDl,hDp,hD,hEp,hE⟩;have hDn:D.Nodup:=hDp.imp λ{a b} P e=>by subst e;exact GN a P
 have hEn:E.Nodup:=hEp.imp λ{a b} P e=>by subst e;exact Agc a P
 have hEl:E.length<=1000000:=by
  have:=x6 (m:=ps.map (·.ad)) hEn λx hx=>by obtain⟨p,I,e,_⟩:=(hE x).1 hx;exact dm.2 ⟨p,I,e⟩
  rw[dB]at this;omega
 obtain⟨U,hU,U_,A⟩:=DS hinj hnd hDn hD hE hS;have hUl:U.length=all.length:=((vt U_ zd).2 A).length_eq;have O:=O U om A;refine Z0 ?_;refine Bv (rl [11,161]) [11] (λd f=>f=[]/\d=[.own 43 3 ((kj D E ps).map Ll)]) ?_ ?_
 ·refine Z0 ?_;refine Ad (rl [13,159]) [11,12] (λm d f=>f=[]/\∃j:Nat,j+m=ps.length/\d=[.own 43 3 ((kj D E (ps.take j)).map Ll),num j]) ⟨ps.length,_,_,⟨rfl,0,om,rfl⟩,hent (aa _) ?_⟩ ?_
  ·simp only[gx,kj,po,db];exact Zw
  rintro m d f ⟨rfl,j,hm,rfl⟩;simp only[PU];by_cases hlt:j<ps.length
  ·have Q:=eT j ps.length;obtain⟨p,I,_⟩:=Bj hlt;have o:=pv I;have V:=wS j;have h:=AdZ (D:=D) (E:=E) I;have hkl:(kj D E (ps.take j)).length<=j:=cp (kh _ _) (by simp;omega);refine Z3 Q o V ?_;refine ae (Ι D p.ad hDl) ?_;rintro r rfl;simp only[Af];refine Z3 Q o V ?_;refine ae (Ι E p.ad hEl) ?_;rintro r rfl;simp only[Af];by_cases h1:p.ad∈D
   ·have W:=decide_eq_true h1;rw[W]at h;simp only[oi,rg,f0,if_false,gy]at h;refine Z4 Q o V W ?_;rw[<-h];exact Zm (m-1) ⟨rfl,j+1,om,rfl⟩
   have W:=decide_eq_false h1;by_cases h2:p.ad∈E
   ·have i2:=decide_eq_true h2;rw[i2]at h;simp only[oi,qo,f0,if_false,gy]at h;refine Z5 Q o V W i2 ?_;rw[<-h];exact Zm (m-1) ⟨rfl,j+1,om,rfl⟩
   have i2:=decide_eq_false h2;rw[W,i2]at h;simp only[px,Bool.and_self,if_true]at h;have J:(kj D E (ps.take (j+1))).map Ll=(kj D E (ps.take j)).map Ll++[Ll p]:=by rw[h];simp
   simp only[Ll,str]at J⊢;refine Z5 Q o V W i2 ?_;rw[<-J];exact Zm (m-1) ⟨rfl,j+1,om,rfl⟩
  have Q:=eU j ps.length;rw[Are om];refine Z1 Q ?_;exact Bw _ [] ⟨rfl,rfl⟩ (hent (aa _) Zw)
 rintro d f ⟨rfl,rfl⟩;simp only[PU];refine Z0 ?_;have hKl:(kj D E ps).length<=1000000:=cp (kh _ _) N;refine Bv (rl [5,1,5,161]) [5,11] (λd f=>f=[]/\d=[Af true,.sl 3 ((U.map (vB w)).map Ll)]) ?_ ?_
 ·refine Z0 ?_;refine Ad (rl [16,156]) [5,11,15] (λm d f=>f=[]/\∃i:Nat,i+m=D.length/\d=[Af true,.own 43 3 ((kj D E ps++(D.take i).map (vB w)).map Ll),num i]) ⟨D.length,_,_,⟨rfl,0,om,rfl⟩,hent (aa _) ?_⟩ ?_
  ·simp only[gx,db,gy];exact Zw
  rintro m2 d f ⟨rfl,i,hm2,rfl⟩;simp only[PU,Af];by_cases hlt2:i<D.length
  ·have C:=eT i D.length;obtain⟨x,hx,_⟩:=Bj hlt2;have hgx:=Cd hx;have hw2:=wS i;have z:=((hD x).1 (cu hx)).1;have cR:=hR x (hal x z);obtain⟨y,X⟩:=hsm x z;rw[X]at cR;simp only[ng,if_true,num,Ll,str]at cR;have h:(kj D E ps++(D.take (i+1)).map (vB w)).map Ll=(kj D E ps++(D.take i).map (vB w)).map Ll++[Ll (vB w x)]:=by rw[fc,hx];simp
   have htl:(D.take i).length=i:=by simp;omega
   simp only[Ll,str]at h⊢;refine Z3 C hgx hw2 ?_;refine eF b3 Dc Cl (λ_=>True) (λ_:Unit=>[(0,85,.agg [.sl 8 SB,.sl 2 TB]),(1,86,.sl 1 (D.map str)),(2,87,num i),(3,88,.elt (str x)),(4,89,str x),(5,90,.a6 [.agg [str (vB w x).ad,str (vB w x).tx,.sl 2 ((vB w x).rd.map jm)],num 0]),(6,84,.a6 [.agg [str (vB w x).ad,str (vB w x).tx,.sl 2 ((vB w x).rd.map jm)],num 0]),(7,91,.agg [str (vB w x).ad,str (vB w x).tx,.sl 2 ((vB w x).rd.map jm)]),(8,92,num 0),(9,16,.box 43 [str [],str [],.nil]),(10,16,.box 43 [str (vB w x).ad,str (vB w x).tx,.sl 2 ((vB w x).rd.map jm)]),(11,17,num 0)]) [(0,[],[]),(1,[],[]),(2,[],[]),(3,[1,2],[]),(4,[3],[]),(6,[5],[]),(7,[6],[]),(8,[6],[]),(9,[],[10]),(10,[9,7],[]),(11,[8],[]),(5,[0,4],[])] () trivial oK (λ_=>rfl) pM (by rfl) ?_ ?_
   ·simp only[Sk];exact⟨Dt,Dt,Dt,Dt,Dt,Dt,Dt,Dt,Dt,Dt,Dt,Sl cR,trivial⟩
   intro y X;simp only[cond_true];refine Z4 C hgx hw2 htl ?_;rw[<-h];exact Zm (m2-1) ⟨rfl,i+1,om,rfl⟩
  have C:=eU i D.length;rw[Are om,hU];refine Z1 C ?_;exact Bw _ [] ⟨rfl,rfl⟩ (hent (aa _) Zw)
 rintro d f ⟨rfl,rfl⟩;simp only[PU,Af];refine Z0 ?_;refine ae Z ?_;rintro r rfl;have R:((all.length:Int)=(U.length:Int))=True:=bc om;refine Z1 R ?_;refine Bv (rl [4,1,13,154]) [5] (λd f=>f=[]/\d=[Af true]) ?_ ?_
 ·refine Z0 ?_;refine Ad (rl [20,152]) [5,19] (λm d f=>f=[]/\∃i:Nat,i+m=all.length/\d=[Af true,num i]) ⟨all.length,_,_,⟨rfl,0,om,rfl⟩,hent (aa _) ?_⟩ ?_
  ·exact Zw
  rintro m3 d f ⟨rfl,Y,hm3,rfl⟩;simp only[PU,Af];by_cases hlt3:Y<all.length;rotate_left
  ·have n:=eU Y all.length;refine Z1 n ?_;exact Bw _ [] ⟨rfl,rfl⟩ (hent (aa _) Zw)
  have n:=eT Y all.length;obtain⟨x,hx,_⟩:=Bj hlt3;have hx':(all.map (vB w))[Y]? =some (vB w x):=by rw[ao,hx];rfl
  have F:=pv hx';have hw3:=wS Y;have z:=cu hx;have hax:=hpg x z;refine Z3 n F hw3 ?_;refine Ad (rl [22,150]) [20,21] (λm d f=>f=[]/\∃(k c:Nat),k+m=U.length/\pz x (U.take k)=c/\d=[num c,num k]) ⟨U.length,_,_,⟨rfl,0,0,om,rfl,rfl⟩,hent (aa _) ?_⟩ ?_
  ·exact Zw
  rintro m4 d f ⟨rfl,k,c,hm4,S,rfl⟩;simp only[PU];by_cases zf:k<U.length;rotate_left
  ·have G:=eU k U.length;rw[Are om,xd U_ ((A x).2 z)]at S;subst S;have e11:(((1:Nat):Int)=1)=True:=bc rfl;refine Z5 n F hw3 G e11 ?_;exact Zm (m3-1) ⟨rfl,Y+1,om,rfl⟩
  have G:=eT k U.length;obtain⟨y,X,_⟩:=Bj zf;have hy':(U.map (vB w))[k]? =some (vB w y):=by rw[ao,X];rfl
  have vd:=pv hy';have hw4:=wS k;have hay:=hpg y ((A y).1 (cu X));have h:=Ael (x:=x) X;rw[S]at h;have hcl:c<=1000000:=by rw[<-S];exact cp (DQ _ _) (by simp;omega)
  have hwc:=wS c;by_cases he:y=x
  ·have e1:((vB w y).ad==(vB w x).ad)=true:=by rw[he];simp
   have e2:((vB w y).tx==(vB w x).tx)=true:=by rw[he];simp
   rw[bn he]at h;refine Z8 n G F vd hw4 hwc e1 e2 ?_;exact Zm (m4-1) ⟨rfl,k+1,c+1,om,h,rfl⟩
  have e1:((vB w y).ad==(vB w x).ad)=false:=by rw[hay,hax];simpa using he
  rw[ar he,nj]at h;refine Z7 n G F vd hw4 hwc e1 ?_;exact Zm (m4-1) ⟨rfl,k+1,c,om,h,rfl⟩
 rintro d f ⟨rfl,rfl⟩;simp only[PU,Af];refine Z0 ?_;refine ae O ?_;rintro r rfl;refine Z0 ?_;exact Zx
theorem Apd (x:Φ) (h:Sg prog [32,3] x):QA 5 x (λr=>r=Af true):=by
 obtain⟨_,y,_,rfl,h1,h⟩:=qC h;obtain⟨_,z,_,rfl,o,k2⟩:=qC h;obtain⟨p,rfl,q⟩:=Pz underlying3 o;obtain rfl:=x3 k2;obtain⟨m,es,rfl,n,j⟩:=IK (e:=145) (k:=5) underlying32 (by kernel_rfl) oD h1;have i:j1 prog 3=false:=by simp [j1,underlying3]
 obtain⟨s,rfl,l⟩:=UK (f:=xA) (Q:=HR) (es:=es) λy t=>by obtain⟨k,L,rfl,g⟩:=IM underlying145 (j y t);simp only[mc,ml]at g;obtain⟨a,_,rfl,u,g⟩:=Sq i g;obtain⟨b,_,rfl,v,g⟩:=Sq i g;obtain⟨c,_,rfl,w,g⟩:=Sq i g;obtain⟨d,_,rfl,A,g⟩:=Sq i g;obtain⟨e,_,rfl,B,g⟩:=Sq i g;obtain rfl:=v8 g;obtain⟨C,rfl,D⟩:=Pz underlying3 u;obtain⟨E,rfl,F⟩:=Pz underlying3 v;obtain⟨G,rfl,H⟩:=Pz underlying3 w;obtain⟨I,rfl,J⟩:=Pz underlying3 A;obtain⟨K,rfl,ie⟩:=Pz underlying3 B;exact⟨⟨C,E,G,I,K⟩,rfl,D,F,H,J,ie⟩
 unfold maxLen at n;rw[dB]at n;exact Wf s om l p q
theorem uT {H:Type} {enc:TypeId×Value->H} {a:Assume} {C:Checked} {os:Os} {f:FuncId} {p:Func} {s:ChangeSpec} {l:List PathCond} {c fresh h m:Bool} {X:World->Array Value->Prop}
 (G:∀(w w':World) (b:Array Value),w.heap=w'.heap->X w b->X w' b)
 (own:ownKnob C.prog.godebug=none) (n:os.Started) (q:C.prog.inits.idxOf? f=none) (z:C.prog.funcs[f]? =some p)
 (o:∃(w:World) (d:Tape) (i:Input),w.os=os/\(w.forCall d i).Shaped C.prog/\i.vars=[]/\Input.okWide C.prog (w.forCall d i) .any w.heap.size f i/\
  ((s.pre enc C.prog p l c (w.forCall d i).memory i.args/\X (w.forCall d i).memory i.args)/\sizedMet enc C.prog p (OpenSpec.ofChange s) c (w.forCall d i).memory i.args)/\a.holds C.prog (lone (Frame.enter C.prog f i.args .normal) [] (w.forCall d i)))
 (k:∀(W:World) (r:Nat) (b:Array Value) (A B:List (DataW H)) (g:List MemPlace),
  (∀(j:Nat) t v,p.params[j]? =some t->b[j]? =some v->Value.okWide C.prog W .any r t v)->DataW.Whole enc C.prog p.params.toList s.vars c W b.toList A B g->X W b->W.ShapedOpen C.prog->
  Calls C.prog f b W λe F=>∃v,e=.returned v/\s.post enc C.prog p c fresh h m W b v F):
 ReturnsInHanded a C os f .any (λw b=>(s.pre enc C.prog p l c w b/\X w b)/\sizedMet enc C.prog p (OpenSpec.ofChange s) c w b) (s.post enc C.prog p c fresh h m):=by
 refine returnsInHanded_of_calls own n q o λw d i _ D _ E u _=> ?_;obtain⟨_,_,_,I,x,_,_,_,_,y⟩:=E;obtain rfl:=aj (x.symm.trans z);obtain⟨⟨⟨A,B,g,J,_⟩,K⟩,_⟩:=u;exact(k (w.forCall d i) w.heap.size i.args A B g y (DataW.Whole.of_heap (w':=w.forCall d i) (by rfl) J) (G _ _ _ (by rfl) K) D).mono λe F ⟨v,L,M⟩=>by subst L;exact ChangeSpec.post_blind M
theorem V5 {w:World} {g:Nat} {v:Value} (h:w.cell? ⟨g,0,none⟩=some v):0<Sb w g:=(kP h).2
theorem sc:prog.globalNamed "strconv.ErrSyntax" =some 2:=by kernel_rfl
theorem sb:prog.globalNamed "strconv.ErrRange" =some 3:=by kernel_rfl
theorem pe:prog.globalNamed "internal/strconv.uint64pow10" =some 6:=by kernel_rfl
theorem pd:prog.globalNamed "copydesk/wire.shifts" =some 0:=by kernel_rfl
theorem uU {w:World} {n:String} {g a t:Nat} {c:Array Value} {f:Nat} {e:String} {d:DataW Unit} {p:List MemPlace} {m:Array (String×TypeId)} (i:prog.globalNamed n=some a) (b:prog.globalNamed n=some g) (j:(prog.globals[g]?).map (·.type)=some t) (k:∀u,(prog.globals[a]?).map (·.type)=some u->prog.underlying u=some (.interface m))
 (l:w.var? prog n=some c) (o:DataW.trod (λ_=>()) prog w 0 (λ_=>true) false f t c.toList=some (.iface e d,p)):∃v,w.cell? ⟨a,0,none⟩=some v/\(v=.nilIface\/∃q r,v=.iface q r):=by
 obtain rfl:=aj (i.symm.trans b);obtain⟨_,u,v,h,_,_⟩:=iface_of_trod (k t j) o;refine⟨.iface u v,?_,.inr ⟨u,v,rfl⟩⟩;rw[World.var?_cell b l 0,<-ak,h];rfl
theorem uV {w:World} {g:Nat} {n:String} {k:IntKind} {zs:List Int} {c:Array Value} (d:prog.globalNamed n=some g) (h:w.var? prog n=some c) (e:c.toList=zs.map λz=>Value.int k z):
 ∀x∈lF g k zs,x.2.1<Sb w x.1/\x.2.2 (w.cell? ⟨x.1,x.2.1,none⟩):=by
 have l:c.size=zs.length:=by rw[<-ot,e,dB]
 have m:c.size<Sb w g:=by
  unfold World.var? at h;rw[d]at h;simp only[pk]at h;unfold Sb;split at h
  ·rename_i f;cases h;rw[f];exact Nat.lt_succ_self _
  ·cases h
 intro x a;rcases ff.1 a with a|a
 ·obtain ⟨⟨z,i⟩,b,rfl⟩:=dm.1 a;have b:=su.1 b;have j:=(ab.1 b).1;simp only at b j⊢;refine⟨om,?_⟩;rw[World.var?_cell d h i,<-ak,e,ao,b];rfl
 ·rw [ga]at a;subst a;refine⟨by show zs.length<Sb w g;omega,?_⟩;show w.cell? ⟨g,zs.length,none⟩=none;rw[World.var?_cell d h,cj om]
def W4:List (String×DataW Unit):=Rows.dependRebuiltRow.laid
theorem DB {w:World} (h:laidMetH prog W4 w) (d:w.ShapedOpen prog):Gs w (Sb w):=by
 rw[MakeChecks.laidMetH_plain _ _ _ (by kernel_rfl)]at h;obtain⟨L,⟨_,_,_,_,_,_,_,_,_,_,⟨_,_,_,_,_,_,_,_,_,_,⟨g3,M,F,N,O,Q,e,f,i,j,⟨_,_,_,_,_,_,_,_,_,_,⟨g5,R,G,S,T,U,k,l,n,o,⟨g6,V,W,X,Y,Z,p,q,r,s,⟨g7,t7,c7,n7,p7,q7,v,x,y,A,_,_⟩,_⟩,_⟩,_⟩,_⟩,_⟩,_⟩,_⟩:=h;have H:∀u,(prog.globals[3]?).map (·.type)=some u->prog.underlying u=some (.interface _):=λu B=>by obtain rfl:=aj ((show(prog.globals[3]?).map (·.type)=some 151 by kernel_rfl).symm.trans B);exact underlying151
 have I:∀u,(prog.globals[2]?).map (·.type)=some u->prog.underlying u=some (.interface _):=λu B=>by obtain rfl:=aj ((show(prog.globals[2]?).map (·.type)=some 151 by kernel_rfl).symm.trans B);exact underlying151
 obtain⟨v2,b,C⟩:=uU sb p q H r s;obtain⟨v1,c,D⟩:=uU sc v x I y A;obtain⟨m,E⟩:=cell_of_shapedOpen_int (P:=prog) (g:=1) (t:=3) (zero:= #[.int .i64 0]) d (of_decide_eq_true (by kernel_rfl)) (by kernel_rfl) rfl (by kernel_rfl) (by kernel_rfl) underlying3;obtain rfl:=aj (pe.symm.trans e);obtain rfl:=aj ((show(prog.globals[6]?).map (·.type)=some 368 by kernel_rfl).symm.trans f);obtain rfl:=aj (pd.symm.trans k);obtain rfl:=aj ((show(prog.globals[0]?).map (·.type)=some 128 by kernel_rfl).symm.trans l);have J:F.toList=pow10Tab.map λz=>Value.int .u64 z:=cells_of_tab (zs:=pow10Tab) underlying368 underlying289 (by kernel_rfl) (by kernel_rfl) j;have K:G.toList=yN.map λz=>Value.int .u32 z:=cells_of_tab (zs:=yN) underlying128 underlying126 (by kernel_rfl) (by kernel_rfl) o;intro g a;change g∈(2,0,mj)::(3,0,mj)::(1,0,ZN)::(lF 6 .u64 pow10Tab++lF 0 .u32 yN)at a;simp only[e9,ff]at a;rcases a with rfl|rfl|rfl|a|a
 ·exact ⟨V5 c,_,c,D⟩
 ·exact ⟨V5 b,_,b,C⟩
 ·exact ⟨V5 E,_,E⟩
 ·exact uV pe i J g a
 ·exact uV pd n K g a
set_option maxRecDepth 100000 in
theorem uW (os:Os) (a:Array Value):((World.laidAll prog os W4).forCall (λ_ _=>0) ⟨#[],a,[]⟩).Shaped prog:=
 World.shaped_of_ZipB (by kernel_rfl) (by kernel_rfl)
set_option maxRecDepth 100000 in
theorem m_ (os:Os) (a:Array Value):laidMetH prog W4 ((World.laidAll prog os W4).forCall (λ_ _=>0) ⟨#[],a,[]⟩).memory:=by rw[MakeChecks.laidMetH_plain _ _ _ (by kernel_rfl)];exact laidMet_laidAll _ (by kernel_rfl) (by kernel_rfl)
end Go.Proofs.YtobhohikfmlccaaGreatDoor
