/- The reference's Sum is the code's. -/
import Derived.Test.YtobhohikfmlccaaGreatDoorRows
import Derived.OpenShut
import Derived.LaidMore
import Derived.LaidLaws
import Derived.Lay
import Derived.Handed
import Derived.Shelf.Vars
import Derived.Stop.Joined
import Derived.Test.YtobhohikfmlccaaGreatDoorC18
set_option linter.all false
set_option maxRecDepth 100000
set_option maxHeartbeats 4000000
open Go.RowKit Go.Proofs Go.ChangeShapes Go.WideShapes Go.ChangeAt Tryz Go.Lib Go.IntKind
namespace Go.Proofs.YtobhohikfmlccaaGreatDoor
abbrev vy:= @Nat.xor_lt_two_pow
theorem DM (l:Ξ) (s:Ab) (u:l.length<=1000000):QA 18 [.sl 1 (l.map str),str s] (λr=>r=Af (decide (s∈l))):=by
 refine Zs [] func18 ⟨_,rfl⟩ ?_;refine Ak (rl [6,12]) [5] (λn m=>∃j:Nat,j+n=l.length/\(∀x∈l.take j,x≠s)/\m=[num j]) ⟨l.length,_,⟨0,om,oS,rfl⟩,?_⟩ ?_
 ·exact Zw
 ·rintro n m ⟨j,v,b,rfl⟩;simp only[PU];rcases cq j l.length with g|hge
  ·have f:=eT j l.length;obtain⟨x,i,w⟩:=Bj g;have c:=Cd i;have o:=wS j;cases d:(x==s)
   ·have k:x≠s:=λe=>by rw[e]at d;simp at d
    refine Z4 f c o d ?_
    exact Zl (n-1) ⟨j+1,om,λy a=>by
     rw[fc,i]at a;rcases ff.1 a with a|a
     ·exact b y a
     ·simp at a;subst a;exact k,rfl⟩
   have p:x=s:=by simpa using d
   subst p;have q:decide (x∈l)=true:=decide_eq_true (cu i);refine Z4 f c o d ?_;rw[q]
  have f:=eU j l.length;have t:decide (s∈l)=false:=decide_eq_false λh=>b s (by rw[Are hge];exact h) rfl;refine Z1 f ?_;rw[t]
def dz (n:Nat):Nat:=if n % 2=1 then n / 2 ^^^ 2197175160 else n / 2
theorem x5 (a b:Nat):dz (a ^^^ b)=dz a ^^^ dz b:=by
 have h1:(a ^^^ b) / 2=a / 2 ^^^ b / 2:=Nat.xor_div_two;have d:(a ^^^ b) % 2=1↔¬(a % 2=1↔b % 2=1):=Nat.xor_mod_two_eq_one;have k:∀x y z:Nat,x ^^^ z ^^^ (y ^^^ z)=x ^^^ y:=λx y z=>by rw[Nat.xor_assoc,Nat.xor_comm z,Nat.xor_assoc,Nat.xor_self,Nat.xor_zero]
 unfold dz;by_cases h:a % 2=1<;>by_cases c:b % 2=1
 ·rw [ar (by rw[d];simp [h,c]),bn h,bn c,h1,k]
 ·rw [bn (by rw[d];simp [h,c]),bn h,ar c,h1,Nat.xor_assoc,Nat.xor_assoc,Nat.xor_comm (b / 2)]
 ·rw [bn (by rw[d];simp [h,c]),ar h,bn c,h1,Nat.xor_assoc]
 ·rw [ar (by rw[d];simp [h,c]),ar h,ar c,h1]
def m5:Θ:=yN.map Int.toNat
theorem vp (n:Nat):dz (dz (dz (dz n)))=n / 16 ^^^ m5.getD (n % 16) 0:=by
 have h:n=16*(n / 16) ^^^ n % 16:=by
  apply Nat.eq_of_testBit_eq;intro i;rw[Nat.testBit_xor,show(16:Nat)=2 ^ 4 from rfl,Nat.testBit_two_pow_mul,Nat.testBit_mod_two_pow,Nat.testBit_div_two_pow];by_cases a:i<4
  ·simp [a,Nat.not_le.2 a]
  ·simp [a,Nat.le_of_not_lt a]
 have e:∀m,dz (2*m)=m:=λm=>by unfold dz;rw[ar om];omega
 have b:dz (dz (dz (dz (16*(n / 16)))))=n / 16:=by rw[show 16*(n / 16)=2*(2*(2*(2*(n / 16)))) by omega,e,e,e,e]
 have t:∀m:Nat,m<16->dz (dz (dz (dz m)))=m5.getD m 0:=oK
 conv=>lhs;rw[h]
 rw[x5,x5,x5,x5,b,t _ (Nat.mod_lt _ oD)]
theorem nd {a b:Nat} (c:a<4294967296) (d:b<4294967296):gp .u32 (a:Int) (b:Int)=((a ^^^ b:Nat):Int):=by unfold gp;have h:∀n:Nat,BitVec.ofInt u32.bits (n:Int)=BitVec.ofNat 32 n:=λn=>rfl;rw[h,h];show u32.wrap (((BitVec.ofNat 32 a ^^^ BitVec.ofNat 32 b).toNat:Nat):Int)=_;rw[BitVec.toNat_xor,BitVec.toNat_ofNat,BitVec.toNat_ofNat,Nat.mod_eq_of_lt c,Nat.mod_eq_of_lt d,IntKind.wrap_u32];have:=vy (n:=32) c d;omega
theorem DS {n:Nat} (h:n<4294967296):dz n<4294967296:=by
 unfold dz;split
 ·exact vy (n:=32) om oD
 ·omega
def ii:Nat->Δ
 |0,n=>n
 |k+1,n=>dz (ii k n)
theorem yj {n:Nat} (h:n<4294967296):∀k,ii k n<4294967296
 |0=>h
 |k+1=>DS (yj h k)
theorem Alm {n:Nat} (h:n<4294967296):fG n=(dz (dz (dz (dz n))):Nat):=by
 have e1:qz .u32 (n:Int) 4=((n / 16:Nat):Int):=by unfold qz;rw[show(2:Int) ^ (min (4:Int).toNat u32.bits)=16 from rfl,Int.fdiv_eq_ediv_of_nonneg _ oD];omega
 have e2:((n:Int).tmod 16).toNat=n % 16:=by rw[oa om];omega
 have t:∀m:Nat,m<16->yN.getD m 0=((m5.getD m 0:Nat):Int)/\m5.getD m 0<4294967296:=oK;obtain⟨a,b⟩:=t (n % 16) (Nat.mod_lt _ oD);unfold fG;rw[e1,e2,a,nd om b,vp]
theorem Aiz (c:UInt8):u32.wrap ((c.toNat:Nat):Int)=((c.toNat:Nat):Int):=by have:=c.toNat_lt;rw[IntKind.wrap_u32];omega
theorem DQ {n:Nat} (h:n<4294967296) (c:UInt8):oc n c=(ii 8 (n ^^^ c.toNat):Nat):=by have b:=c.toNat_lt;have a:=vy (n:=32) h (show c.toNat<2 ^ 32 by omega);unfold oc;rw[Aiz,nd h om,Alm a];show fG ((ii 4 (n ^^^ c.toNat):Nat):Int)=_;rw[Alm (yj a 4)];rfl
def fx (s:Ab):Nat:=s.foldl (λn c=>ii 8 (n ^^^ c.toNat)) 4294967295
theorem AcX (s:Ab):fx s<4294967296/\AB s=(fx s:Nat):=by
 have k:∀(s:Ab) (n:Nat),n<4294967296->s.foldl (λn c=>ii 8 (n ^^^ c.toNat)) n<4294967296/\s.foldl oc (n:Int)=((s.foldl (λn c=>ii 8 (n ^^^ c.toNat)) n:Nat):Int):=by
  intro s
  induction s with
  |nil=>exact λn h=>⟨h,rfl⟩
  |cons c s ih=>intro n h;have b:=c.toNat_lt;have a:=yj (vy (n:=32) h (show c.toNat<2 ^ 32 by omega)) 8;simp only[lc];rw[DQ h];exact ih _ a
 exact k s 4294967295 oD
theorem Ai0 (s:Ab) (G:s.length<=1000000):QA 24 [str s] (λr=>r=num (Qq s)):=by
 have A:num (Qq s)=num (i64.wrap (gp .u32 4294967295 (fx s:Nat))):=by unfold Qq;rw[(AcX s).2]
 rw[A];refine ai (Zt [] [13] [] func24 ?_) ⟨_,rfl⟩;refine Ad (rl [5,29]) [3,4] (λm x c=>c=[]/\∃i:Nat,i+m=s.length/\x=[.raw (.int .u32 (fx (s.take i):Nat)),num i]) ⟨s.length,_,_,⟨rfl,0,om,rfl⟩,hent (aa _) ?_⟩ ?_
 ·simp only[gx];exact Zw
 ·rintro m x c ⟨rfl,i,H,rfl⟩;simp only[PU];by_cases h:i<s.length;rotate_left
  ·have g:=eU i s.length;refine Z1 g ?_;rw[Are om];refine Tu b3 Dc zZ [] (by simp only[go_sem,reduceIte];rfl) ?_;refine Z0 ?_;exact Zx
  have g:=eT i s.length;have t:=wS i
  have j:fx (s.take (i+1))=ii 8 (fx (s.take i) ^^^ (s.getD i 0).toNat):=by
   have l:s.getD i 0=s[i]:=by simp [fk,h]
   unfold fx;rw[nk h,mw,l];rfl
  have u:=(AcX (s.take i)).1;have I:=(s.getD i 0).toNat_lt;have B:=Aiz (s.getD i 0);have o:=nd u (show(s.getD i 0).toNat<4294967296 by omega);have C:=vy (n:=32) u (show(s.getD i 0).toNat<2 ^ 32 by omega);generalize fx (s.take i) ^^^ (s.getD i 0).toNat=r1 at *;refine Z4 g t B o ?_;refine Ad (rl [6,28]) [3,5] (λf x c=>c=[]/\∃k:Nat,k+f=8/\x=[.raw (.int .u32 (ii k r1:Nat)),num k]) ⟨8,_,_,⟨rfl,0,om,rfl⟩,hent (aa _) ?_⟩ ?_
  ·exact Zw
  ·rintro f x c ⟨rfl,k,J,rfl⟩;simp only[PU];by_cases D:k<8;rotate_left
   ·have ek:((k:Int)<8)=False:=bd om;refine Z2 ek t ?_;have E:k=8:=om;subst E;rw[<-j];exact Zm (m-1) ⟨rfl,i+1,om,rfl⟩
   have ek:((k:Int)<8)=True:=bc om;have d:=wS k;have K:=yj C k;have e:ii (k+1) r1=dz (ii k r1):=rfl;generalize ii k r1=n at *;have v:(n:Int).tmod 2=((n % 2:Nat):Int):=by rw[oa om];omega
   have w:(n:Int).tdiv 2=((n / 2:Nat):Int):=by rw[sq om];omega
   have y:u32.wrap ((n / 2:Nat):Int)=((n / 2:Nat):Int):=by rw[IntKind.wrap_u32];omega
   by_cases z:n % 2=1
   ·have p:(((n % 2:Nat):Int)=1)=True:=bc om;have F:gp .u32 ((n / 2:Nat):Int) 2197175160=((n / 2 ^^^ 2197175160:Nat):Int):=nd (a:=n / 2) (b:=2197175160) om oD;have q:dz n=n / 2 ^^^ 2197175160:=bn z;refine Z7 ek d v w y p F ?_;rw[<-q,<-e];exact Zm (f-1) ⟨rfl,k+1,om,rfl⟩
   ·have p:(((n % 2:Nat):Int)=1)=False:=bd om;have q:dz n=n / 2:=ar z;refine Z6 ek d v w y p ?_;rw[<-q,<-e];exact Zm (f-1) ⟨rfl,k+1,om,rfl⟩
section
variable {v w : Ab -> Ab} {bf : Ab -> Ab -> Option Ab} {S b : Nc}
def tv (v w:Ab->Ab) (a:Ξ):Prop:=∀k∈a,v k=w k
def gh {a:Type} (v w:Ab->Ab) (c:Ξ) (x y:a×List Ab):Prop:=(∀k∈c,k∈x.2)/\(tv v w x.2->y=x)
def ru:K5->Ξ
 |.ok s=>s.ks
 |.bad _ s=>s.ks
def Zqb5 (v w:Ab->Ab) (s:EvS) (o a:K5):Prop:=(∀k∈s.ks,k∈ru o)/\(tv v w (ru o)->a=o)
theorem Zqb5.same {s:EvS} {o:K5} (h:∀k∈s.ks,k∈ru o):Zqb5 v w s o o:=⟨h,λ_=>rfl⟩
theorem Zqb5.from {s s1:EvS} {o a:K5} (h:∀k∈s.ks,k∈s1.ks) (c:Zqb5 v w s1 o a):Zqb5 v w s o a:=⟨λk d=>c.1 k (h k d),c.2⟩
theorem Zqb5.bind {d:EvS} {o g:K5} {f f':EvS->K5} (h1:Zqb5 v w d o g) (a:∀s,Zqb5 v w s (f s) (f' s)):Zqb5 v w d (o.bind f) (g.bind f'):=by
 cases o with
 |ok s=>exact⟨λk c=>(a s).1 k (h1.1 k c),λh=>by rw[h1.2 λk c=>h k ((a s).1 k c)];exact(a s).2 h⟩
 |bad e s=>exact⟨h1.1,λh=>by rw[h1.2 h];rfl⟩
theorem Zqb5.head {a:Type} {s:EvS} {p q:a×List Ab} {g g':a×List Ab->K5} (h:gh v w s.ks p q) (c:∀x:a×List Ab,Zqb5 v w {s with ks:=x.2} (g x) (g' x)):Zqb5 v w s (g p) (g' q):=
 ⟨λk d=>(c p).1 k (h.1 k d),λe=>by rw[h.2 λk d=>e k ((c p).1 k d)];exact(c p).2 e⟩
theorem xg (x:Ab) (s:EvS):Zqb5 v w s (Nf x s) (Nf x s):=Zqb5.same (by unfold Nf;split<;>exact λk h=>h)
theorem p_ {f f':Nd->EvS->K5} (h:∀x s,Zqb5 v w s (f x s) (f' x s)):∀(l:List Nd) (s:EvS),Zqb5 v w s (O8 f l s) (O8 f' l s)
 |[],s=>Zqb5.same λk h=>h
 |x::l,s=>by
  unfold O8;split
  ·exact Zqb5.same λk h=>h
  ·exact Zqb5.bind (Zqb5.from (s1:={s with steps:=s.steps+1}) (λk h=>h) (h x _)) λs=>p_ h l s
theorem tz {g g':Int->EvS->K5} (h:∀x s,Zqb5 v w s (g x s) (g' x s)):∀(l:List Int) (s:EvS),Zqb5 v w s (Kf g l s) (Kf g' l s)
 |[],s=>Zqb5.same λk h=>h
 |x::l,s=>by unfold Kf;exact Zqb5.bind (h x s) λs=>tz h l s
structure xc (v w:Ab->Ab) (S b:Nc):Prop where
 f:∀id n ks,gh v w ks (S.ja id n ks) (b.ja id n ks)
 l:∀id n a c ks,gh v w ks (S.j6 id n a c ks) (b.j6 id n a c ks)
 i:∀n ks,gh v w ks (S.inl n ks) (b.inl n ks)
theorem Aju (H:xc v w S b) {j r:List Nd->Int->EvS->K5} (h:∀l m s,Zqb5 v w s (j l m s) (r l m s)) (x:Nd) (m:Int) (s:EvS):Zqb5 v w s (Eg bf S j x m s) (Eg bf b r x m s):=by
 obtain⟨k,t,n,a,c,q,d,o⟩:=x;by_cases h1:k=1
 ·subst h1;exact xg t s
 by_cases z:k=2
 ·subst z
  refine Zqb5.head (g:=λp=>match p.1 with
   |none=>.bad 110 {s with ks:=p.2}
   |some x=>(match En bf q x with
    |none=>.bad 110 {s with ks:=p.2}
    |some y=>Nf y {s with ks:=p.2})) (g':=λp=>match p.1 with
   |none=>.bad 110 {s with ks:=p.2}
   |some x=>(match En bf q x with
    |none=>.bad 110 {s with ks:=p.2}
    |some y=>Nf y {s with ks:=p.2})) (H.f m n s.ks) λx=> ?_
  split
  ·exact Zqb5.same λk h=>h
  ·split
   ·exact Zqb5.same λk h=>h
   ·exact xg _ _
 by_cases A:k=3
 ·subst A;refine Zqb5.head (g:=λp=>if p.1=[]then .ok {s with ks:=p.2}else if d=[]then .ok {s with ks:=p.2}else Kf (λi s=>j d i s) (p.1.take 2001) {s with ks:=p.2}) (g':=λp=>if p.1=[]then .ok {s with ks:=p.2}else if d=[]then .ok {s with ks:=p.2}else Kf (λi s=>r d i s) (p.1.take 2001) {s with ks:=p.2}) (H.l m n a c s.ks) λx=> ?_;split
  ·exact Zqb5.same λk h=>h
  ·split
   ·exact Zqb5.same λk h=>h
   ·exact tz (λi s=>h d i s) _ _
 by_cases B:k=4
 ·subst B;refine Zqb5.head (g:=λp=>if p.1.getD []=[]then j o m {s with ks:=p.2}else j d m {s with ks:=p.2}) (g':=λp=>if p.1.getD []=[]then r o m {s with ks:=p.2}else r d m {s with ks:=p.2}) (H.f m n s.ks) λx=> ?_;split
  ·exact h _ _ _
  ·exact h _ _ _
 by_cases C:k=5
 ·subst C;show Zqb5 v w s (if 3<=s.inc then _ else _) (if 3<=s.inc then _ else _);split
  ·exact Zqb5.same λk h=>h
  refine Zqb5.head (g:=λp=>match p.1 with
   |none=>.bad 110 {s with ks:=p.2}
   |some l=>(j l m {s with ks:=p.2,inc:=s.inc+1}).bind λs=>.ok {s with inc:=s.inc-1}) (g':=λp=>match p.1 with
   |none=>.bad 110 {s with ks:=p.2}
   |some l=>(r l m {s with ks:=p.2,inc:=s.inc+1}).bind λs=>.ok {s with inc:=s.inc-1}) (H.i n s.ks) λx=> ?_
  split
  ·exact Zqb5.same λk h=>h
  ·exact Zqb5.bind (Zqb5.from (s1:={s with ks:=x.2,inc:=s.inc+1}) (λk h=>h) (h _ _ _)) λs=>Zqb5.same λk h=>h
 have e:∀S j,Eg bf S j (.mk k t n a c q d o) m s=.bad 110 s:=λS j=>by unfold Eg;split<;>first|rfl|(rename_i u;injection u with u;omega)
 rw[e,e];exact Zqb5.same λk h=>h
theorem x7 (H:xc v w S b):∀(f:Nat) (l:List Nd) (i:Int) (s:EvS),Zqb5 v w s (Me bf S f l i s) (Me bf b f l i s)
 |0,l,i,s=>p_ (f:=λ_ s=>.bad 111 s) (f':=λ_ s=>.bad 111 s) (λ_ s=>Zqb5.same λk h=>h) l s
 |f+1,l,i,s=>p_ (λx s=>Aju H (λl i s=>x7 H f l i s) x i s) l s
theorem Ai2 (H:xc v w S b) (l:List Nd) (i:Int) (a:Ξ):(∀k∈a,k∈(Ry bf S l i a).2.2)/\(tv v w (Ry bf S l i a).2.2->Ry bf b l i a=Ry bf S l i a):=by
 have h:=x7 (bf:=bf) H 2001 l i ⟨[],0,0,a⟩;unfold Ry;generalize Me bf S 2001 l i ⟨[],0,0,a⟩=o at *
 cases o with
 |ok s=>exact⟨h.1,λc=>by rw[h.2 c]⟩
 |bad e s=>exact⟨h.1,λc=>by rw[h.2 c]⟩
end
section
variable {v w : Ab -> Ab} (b : ∀ k : Ab, 1000000 < k.length -> v k = w k)
include b
theorem q9 (a:Ξ) (k:Ab):(∀x∈a,x∈De a k)/\(tv v w (De a k)->w k=v k):=by
 unfold De;by_cases h:k∈a\/1000000<k.length
 ·rw [bn h];exact⟨λx h=>h,λc=>h.elim (λh=>(c k h).symm) λh=>(b k h).symm⟩
 ·rw [ar h];exact⟨λx h=>qr _ h,λc=>(c k oS).symm⟩
theorem gh.refl {c:Type} (x:c) (a:Ξ):gh v w a (x,a) (x,a):=⟨λk h=>h,λ_=>rfl⟩
theorem gh.key {c:Type} {g g':Ab->c} (a:Ξ) (k:Ab) (h:w k=v k->g' k=g k):gh v w a (g k,De a k) (g' k,De a k):=
 ⟨(q9 b a k).1,λd=>by rw[h ((q9 b a k).2 d)]⟩
theorem gh.ite {f:Type} {c:Prop} [Decidable c] {a:Ξ} {x y d e:f×List Ab} (h1:gh v w a x d) (h:gh v w a y e):gh v w a (if c then x else y) (if c then d else e):=by split<;>assumption
theorem Aj5 (a:Ej) (u d:Ab):xc v w (uK v a u d) (uK w a u d) where
 f id n ks:=by
   show gh v w ks (Gl v a u d id n ks) (Gl w a u d id n ks)
   have h:∀g:Int->Ab,gh v w ks (some (if a.kind=3 then g (Li v a)else[]),if a.kind=3 then De ks (Eh a)else ks) (some (if a.kind=3 then g (Li w a)else[]),if a.kind=3 then De ks (Eh a)else ks):=λg=>by
    by_cases j:a.kind=3
    ·simp only[bn j];exact gh.key b (g:=λ_=>some (g (Li v a))) (g':=λ_=>some (g (Li w a))) ks (Eh a) λe=>by unfold Li;rw[e]
    ·simp only[ar j];exact gh.refl b _ ks
   unfold Gl Jn;repeat' refine gh.ite b ?_ ?_
   all_goals first
    |exact gh.refl b _ ks
    |exact gh.key b (g:=λk=>some (v k)) (g':=λk=>some (w k)) ks _ λe=>by rw[e]
    |exact h λp=>itoa p
    |exact h λp=>if p<=a.n then[]else Rz a (a.n+1)
    |exact gh.key b (g:=λ_=>Ug v a id n) (g':=λ_=>Ug w a id n) ks _ λe=>by unfold Ug;rw[e]
 l id n x c ks:=by show gh v w ks (Uh v a id n x c ks) (Uh w a id n x c ks);unfold Uh;refine gh.ite b (gh.refl b _ ks) ?_;exact gh.key b (g:=λk=>if(cut (v k) [32,111,102,32]).1=[]then[]else(R3 (cut (v k) [32,111,102,32]).1 [44]).map Bi) (g':=λk=>if(cut (w k) [32,111,102,32]).1=[]then[]else(R3 (cut (w k) [32,111,102,32]).1 [44]).map Bi) ks (Bn a id n x c) λe=>by simp only[e]
 i n ks:=by show gh v w ks (W3 v n ks) (W3 w n ks);unfold W3;exact gh.key b (g:=λk=>if v k=[]then none else if(Cy ((v k).drop 1)).2.2=0 then some (Cy ((v k).drop 1)).1 else none) (g':=λk=>if w k=[]then none else if(Cy ((w k).drop 1)).2.2=0 then some (Cy ((w k).drop 1)).1 else none) ks _ λe=>by simp only[e]
theorem Aj9 {u:Ab} {x:Ab×List Ab} (h:uS v u=some x) (c:tv v w x.2):uS w u=some x:=by
 unfold uS Il at h⊢
 cases i:Gv u with
 |none=>rw[i]at h;cases h
 |some a=>
  rw[i]at h;simp only at h⊢;by_cases e:v ([97,100,100,114,101,115,115]++u)=[]
  ·rw [bn e]at h;cases h
  rw[ar e]at h;injection h with h;generalize m:([97,100,100,114,101,115,115]++u:Ab)=k0 at *;have o:=q9 b [] k0;have j:=q9 b (De [] k0) ([116,101,109,112,108,97,116,101,47]++(Bh a.kind).1)
  have f:(∀k∈De (De [] k0) ([116,101,109,112,108,97,116,101,47]++(Bh a.kind).1),k∈x.2)/\V3 (Fh Vu Hh) (uK w a u (Bh a.kind).1) (eI v a.kind) (if a.kind=2 then a.n else 0) (De (De [] k0) ([116,101,109,112,108,97,116,101,47]++(Bh a.kind).1))=x:=by
   generalize De (De [] k0) ([116,101,109,112,108,97,116,101,47]++(Bh a.kind).1)=ks at *;have l:=Ai2 (bf:=Fh Vu Hh) (Aj5 b a u (Bh a.kind).1) (Cy (eI v a.kind)).1 (if a.kind=2 then a.n else 0) ks;rw[<-h]at c⊢;unfold V3 at c⊢;by_cases d:(Cy (eI v a.kind)).2.2=0
   ·rw [bn d]at c⊢;rw[bn d];exact⟨l.1,by rw[l.2 c]⟩
   ·rw [ar d,ar d];exact⟨λk h=>h,rfl⟩
  have e1:=j.2 λk g=>c k (f.1 k g);have p:=o.2 λk g=>c k (f.1 k (j.1 k g));have q:eI w a.kind=eI v a.kind:=by unfold eI;rw[e1]
  rw[p,ar e,q,f.2]
end
def mz (v w:Ab->Ab) (r:Ab×Int):Bool:= !(v r.1==w r.1)&&decide (Qq (v r.1)=Qq (w r.1))
def ji (v w:Ab->Ab) (a:List Pg):Bool:=a.any λp=>p.rd.any (mz v w)
theorem Adn {M M2:List Bq} {T T2:List (Ab×Ab)} (B:MB M T) (R:MB M2 T2) (a:List Pg) (X:a.length<=1000000) (J:∀p∈a,W9 p):QA 16 [.agg [.sl 8 ((M.map Bq.s).map ci),.sl 2 (T.map A4)],.agg [.sl 8 ((M2.map Bq.s).map ci),.sl 2 (T2.map A4)],.sl 3 (a.map Ll)] (λr=>r=num (if ji (iY M T) (iY M2 T2) a=true then 1 else 0)):=by
 have U:=B.rv;have K:=R.rv;have L:=B.v.len;have u:=R.v.len;generalize iY M T=v at *;generalize iY M2 T2=w at *;generalize (M.map Bq.s).map ci=SA at *;generalize T.map A4=TA at *;generalize (M2.map Bq.s).map ci=SB at *;generalize T2.map A4=TB at *;obtain⟨Y,n⟩:∃b,ji v w a=b:=⟨_,rfl⟩;rw[n];refine ai (Zt [] [] [(7,[],[1,2,3,4,6,2000,2005,7,8,2009],[],[3010,11]),(8,[],[1,2,3,4,6,2000,2005,7,8,2009],[],[3010,11])] func16 ?_) ⟨_,rfl⟩;refine Ad (rl [8,51]) [7] (λm x y=>y=[]/\∃i:Nat,i+m=a.length/\x=[num i]/\ji v w (a.take i)=false) ⟨a.length,_,_,⟨rfl,0,om,rfl,rfl⟩,hent (aa _) ?_⟩ ?_
 ·exact Zw
 rintro m x y ⟨rfl,i,Z,rfl,o⟩;simp only[PU];by_cases N:i<a.length;rotate_left
 ·have e:=eU i a.length;rw[Are om,n]at o;subst o;refine Z1 e ?_;exact Zx
 have e:=eT i a.length;obtain⟨p,t,_⟩:=Bj N;have h:=pv t;have z:=wS i;have A:=cu t;obtain⟨V,C⟩:=J p A
 have O:ji v w (a.take (i+1))=p.rd.any (mz v w):=by
  have:ji v w (a.take (i+1))=(ji v w (a.take i)||p.rd.any (mz v w)):=by rw[fc,t];simp [ji]
  rw[this,o,qm]
 refine Z3 e h z ?_;refine Ad (rl [9,50]) [8] (λH x y=>y=[]/\∃j:Nat,j+H=p.rd.length/\x=[num j]/\(p.rd.take j).any (mz v w)=false) ⟨p.rd.length,_,_,⟨rfl,0,om,rfl,rfl⟩,hent (aa _) ?_⟩ ?_
 ·exact Zw
 rintro H x y ⟨rfl,j,W,rfl,f⟩;simp only[PU];by_cases D:j<p.rd.length;rotate_left
 ·have k:=eU j p.rd.length;rw[Are om]at f;refine Z4 e h z k ?_;exact Zm (m-1) ⟨rfl,i+1,om,rfl,by rw[O,f]⟩
 have k:=eT j p.rd.length;obtain⟨q,hq,_⟩:=Bj D;have c:=v0 hq;have d:=wS j;have E:=C q (cu hq);have P:=cu hq;have g:(p.rd.take (j+1)).any (mz v w)=mz v w q:=by rw[fc,hq,List.any_append,f];simp
 have cV:=U q.1 E;have F:=K q.1 E;have cS:=Ai0 (v q.1) (L q.1);have G:=Ai0 (w q.1) (u q.1);simp only[str,num]at cV F cS G;refine Z5 k e h c d ?_;refine ae cV ?_;rintro r rfl;refine Z5 k e h c d ?_;refine ae F ?_;rintro r rfl;unfold mz at g;cases l:(v q.1==w q.1);rotate_left
 ·rw [l]at g;refine Z6 k e h c d l ?_;exact Zm (H-1) ⟨rfl,j+1,om,rfl,g⟩
 refine Z6 k e h c d l ?_;refine ae cS ?_;rintro r rfl;refine Z6 k e h c d l ?_;refine ae G ?_;rintro r rfl;by_cases I:Qq (v q.1)=Qq (w q.1)
 ·have Q:=bc I;have S:ji v w a=true:=List.any_eq_true.2 ⟨p,A,List.any_eq_true.2 ⟨q,P,by unfold mz;rw[l,decide_eq_true I];rfl⟩⟩;rw[n]at S;subst S;refine Z7 k e h c d l Q ?_;exact Zx
 ·have Q:=bd I;rw[l,decide_eq_false I]at g;refine Z7 k e h c d l Q ?_;exact Zm (H-1) ⟨rfl,j+1,om,rfl,g⟩
theorem AjW {v w:Ab->Ab} (f:∀k:Ab,1000000<k.length->v k=w k) {u:Ab} {x:Ab×List Ab} (a:uS v u=some x) (g:Ca w (vB v u).rd=true) (i:(vB v u).rd.any (mz v w)=false):vB w u=vB v u/\(uS w u).isSome=true:=by
 have c:tv v w x.2:=λk b=>by
  have d:(k,Qq (v k))∈(vB v u).rd:=by unfold vB;rw[a];exact dm.2 ⟨k,((Cv x.2).2 k).2 b,rfl⟩
  have h1:=of_decide_eq_true (ib.1 g _ d);have h:=List.any_eq_false.1 i _ d;unfold mz at h;simp only at h1 h;rw[decide_eq_true h1,qn]at h;simpa using h
 have e:=Aj9 f a c;refine⟨?_,by rw[e];rfl⟩;unfold vB;rw[e,a];have:vQ w x.2=vQ v x.2:=by unfold vQ;exact te λk b=>by rw[c k (((Cv x.2).2 k).1 b)]
 show(⟨u,x.1,vQ w x.2⟩:Pg)=⟨u,x.1,vQ v x.2⟩;rw[this]
theorem xf (M m:List Bq) (T t:List (Ab×Ab)) (k:Ab) (h:1000000<k.length):iY M T k=iY m t k:=by unfold iY;rw[ar om,ar om]
theorem AjX {M M2:List Bq} {T T2:List (Ab×Ab)} (B:MB M T) {p:Pg} (a:p∈Jb M T) (b:Ca (iY M2 T2) p.rd=true) (c:ji (iY M T) (iY M2 T2) (Jb M T)=false):vB (iY M2 T2) p.ad=p/\(uS (iY M2 T2) p.ad).isSome=true:=by have h:=List.any_eq_false.1 c p a;obtain⟨u,d,rfl,e⟩:=GO B a;obtain⟨x,f⟩:=B.has d;rw[e];exact AjW (xf M M2 T T2) f b (by simpa using h)
theorem AcW (l:List X5) (N:l.length<=9223372036854775807) (O:∀x∈l,HR x) (a:Int) (P:Db a):QA 4 [.sl 5 (l.map xA),num a] (λr=>r=Af true):=by
 refine ai (G7 [] [12] [(11,[],[0,1,2,3,4,2005,2006],[],[3007,8]),(13,[],[0,1,2,3,4,5,6,8,9,10,11,2007,2012,13,14,15,16,19,20,21,22,2017,18,2023,24,25,26,27],[],[])] func4 ?_) ⟨_,rfl⟩;refine Z0 ?_;refine ae wV ?_;rintro r rfl;simp only[Af];refine Z0 ?_;refine ae (xh l N O a P) ?_;rintro r ⟨L,T,Z,T2,rfl,y,z⟩;obtain⟨M,rfl,B⟩:=rk y;obtain⟨M2,rfl,o⟩:=rk z;have Q:=B.pages;have A:=o.all;have C:=Qf o.g;have D:=λp (h:W9 p)=>GJ o.v p h.1 h.2;have R:=o.ren;obtain⟨E,f⟩:=cU B;have S:=Adn B o _ E f;have U:=λp (j:p∈Jb M T)=>AjX (M2:=M2) (T2:=T2) B j;have hlen:∀p∈Jb M T,p.ad.length<=1000:=λp j=>by obtain⟨u,V,_,e⟩:=GO B j;rw[e];exact X7 V
 generalize Jb M T=ps at *;generalize iY M T=v at *;generalize iY M2 T2=w at *;generalize Dd (M2.map Bq.s)=all at *;generalize (M.map Bq.s).map ci=SA at *;generalize T.map A4=TA at *;generalize (M2.map Bq.s).map ci=SB at *;generalize T2.map A4=TB at *;refine Z0 ?_;refine ae Q ?_;rintro r rfl;refine Z0 ?_;refine ae S ?_;rintro r rfl;cases F:ji v w ps;rotate_left
 ·have e1:((0:Int)<1)=True:=bc oD;simp only[if_true,num];refine Z1 e1 ?_;exact Zx
 have e1:((0:Int)<0)=False:=bd oD;simp only[f0,if_false,num];refine Z1 e1 ?_;refine ae A ?_;rintro r rfl;refine Z0 ?_;refine Ad (rl [11,80]) [5,10] (λm H I=>I=[]/\∃i:Nat,i+m=ps.length/\H=[Af true,num i]) ⟨ps.length,_,_,⟨rfl,0,om,rfl⟩,hent (aa _) ?_⟩ ?_
 ·exact Zw
 rintro m H I ⟨rfl,i,hm,rfl⟩;simp only[PU,Af];by_cases G:i<ps.length;rotate_left
 ·have d:=eU i ps.length;refine Z1 d ?_;exact Zx
 have d:=eT i ps.length;obtain⟨p,j,_⟩:=Bj G;have b:=pv j;have k:=wS i;have c:=cu j;obtain⟨W,J⟩:=f p c;have cH:=DM all p.ad C;have cF:=D p (f p c);have cR:=R p.ad (hlen p c);refine Z3 d b k ?_;refine ae cH ?_;rintro r rfl;simp only[Af];by_cases q:p.ad∈all;rotate_left
 ·have n:=decide_eq_false q;refine Z4 d b k n ?_;exact Zm (m-1) ⟨rfl,i+1,om,rfl⟩
 have n:=decide_eq_true q;refine Z4 d b k n ?_;refine ae cF ?_;rintro r rfl;simp only[Af];cases t:Ca w p.rd
 ·refine Z5 d b k n t ?_;exact Zm (m-1) ⟨rfl,i+1,om,rfl⟩
 obtain⟨e2,X⟩:=U p c t F;rw[e2,X]at cR;simp only[if_true,num,Ll,str]at cR;refine Z5 d b k n t ?_;refine eF b3 Dc Cl (λ_=>True) (λ_:Unit=>[(0,54,.agg [.sl 8 SB,.sl 2 TB]),(1,55,.sl 3 (ps.map Ll)),(2,56,num i),(3,57,.elt (.agg [str p.ad,str p.tx,.sl 2 (p.rd.map jm)])),(4,58,.elt (str p.ad)),(5,59,str p.ad),(6,60,.a6 [.agg [str p.ad,str p.tx,.sl 2 (p.rd.map jm)],num 0]),(7,53,.a6 [.agg [str p.ad,str p.tx,.sl 2 (p.rd.map jm)],num 0]),(8,61,.agg [str p.ad,str p.tx,.sl 2 (p.rd.map jm)]),(9,62,num 0),(10,12,.box 43 [str [],str [],.nil]),(11,12,.box 43 [str p.ad,str p.tx,.sl 2 (p.rd.map jm)]),(12,13,num 0)]) [(0,[],[]),(1,[],[]),(2,[],[]),(3,[1,2],[]),(4,[3],[]),(5,[4],[]),(7,[6],[]),(8,[7],[]),(9,[7],[]),(10,[],[11]),(11,[10,8],[]),(12,[9],[]),(6,[0,5],[])] () trivial oK (λ_=>rfl) pM (by rfl) ?_ ?_
 ·simp only[Sk];exact⟨Dt,Dt,Dt,Dt,Dt,Dt,Dt,Dt,Dt,Dt,Dt,Dt,Sl cR,trivial⟩
 intro x hx;simp only[cond_true];have Y:(p.tx==p.tx)=true:=oS;refine Z6 d b k n t Y ?_;exact Zm (m-1) ⟨rfl,i+1,om,rfl⟩
theorem AmU (x:Φ) (h:Sg prog [32,3] x):QA 4 x (λr=>r=Af true):=by
 obtain⟨_,y,_,rfl,h1,h⟩:=qC h;obtain⟨_,z,_,rfl,o,k2⟩:=qC h;obtain⟨p,rfl,q⟩:=Pz underlying3 o;obtain rfl:=x3 k2;obtain⟨m,es,rfl,n,j⟩:=IK (e:=145) (k:=5) underlying32 (by kernel_rfl) oD h1;have i:j1 prog 3=false:=by simp [j1,underlying3]
 obtain⟨s,rfl,l⟩:=UK (f:=xA) (Q:=HR) (es:=es) λy t=>by obtain⟨k,L,rfl,g⟩:=IM underlying145 (j y t);simp only[mc,ml]at g;obtain⟨a,_,rfl,u,g⟩:=Sq i g;obtain⟨b,_,rfl,v,g⟩:=Sq i g;obtain⟨c,_,rfl,w,g⟩:=Sq i g;obtain⟨d,_,rfl,A,g⟩:=Sq i g;obtain⟨e,_,rfl,B,g⟩:=Sq i g;obtain rfl:=v8 g;obtain⟨C,rfl,D⟩:=Pz underlying3 u;obtain⟨E,rfl,F⟩:=Pz underlying3 v;obtain⟨G,rfl,H⟩:=Pz underlying3 w;obtain⟨I,rfl,J⟩:=Pz underlying3 A;obtain⟨K,rfl,ie⟩:=Pz underlying3 B;exact⟨⟨C,E,G,I,K⟩,rfl,D,F,H,J,ie⟩
 unfold maxLen at n;rw[dB]at n;exact AcW s om l p q
theorem uT {H:Type} {enc:TypeId×Value->H} {a:Assume} {C:Checked} {os:Os} {f:FuncId} {p:Func} {s:ChangeSpec} {l:List PathCond} {c fresh h m:Bool} {X:World->Array Value->Prop}
 (G:∀(w w':World) (b:Array Value),w.heap=w'.heap->X w b->X w' b)
 (own:ownKnob C.prog.godebug=none) (n:os.Started) (q:C.prog.inits.idxOf? f=none) (z:C.prog.funcs[f]? =some p)
 (o:∃(w:World) (d:Tape) (i:Input),w.os=os/\(w.forCall d i).Shaped C.prog/\i.vars=[]/\Input.okWide C.prog (w.forCall d i) .any w.heap.size f i/\
  ((s.pre enc C.prog p l c (w.forCall d i).memory i.args/\X (w.forCall d i).memory i.args)/\sizedMet enc C.prog p (OpenSpec.ofChange s) c (w.forCall d i).memory i.args)/\a.holds C.prog (lone (Frame.enter C.prog f i.args .normal) [] (w.forCall d i)))
 (k:∀(W:World) (r:Nat) (b:Array Value) (A B:List (DataW H)) (g:List MemPlace),
  (∀(j:Nat) t v,p.params[j]? =some t->b[j]? =some v->Value.okWide C.prog W .any r t v)->DataW.Whole enc C.prog p.params.toList s.vars c W b.toList A B g->X W b->W.ShapedOpen C.prog->
  Calls C.prog f b W λe F=>∃v,e=.returned v/\s.post enc C.prog p c fresh h m W b v F):
 ReturnsInHanded a C os f .any (λw b=>(s.pre enc C.prog p l c w b/\X w b)/\sizedMet enc C.prog p (OpenSpec.ofChange s) c w b) (s.post enc C.prog p c fresh h m):=by
 refine returnsInHanded_of_calls own n q o λw d i _ D _ E u _=> ?_;obtain⟨_,_,_,I,x,_,_,_,_,y⟩:=E;obtain rfl:=aj (x.symm.trans z);obtain⟨⟨⟨A,B,g,J,_⟩,K⟩,_⟩:=u;exact(k (w.forCall d i) w.heap.size i.args A B g y (DataW.Whole.of_heap (w':=w.forCall d i) (by rfl) J) (G _ _ _ (by rfl) K) D).mono λe F ⟨v,L,M⟩=>by subst L;exact ChangeSpec.post_blind M
theorem V5 {w:World} {g:Nat} {v:Value} (h:w.cell? ⟨g,0,none⟩=some v):0<Sb w g:=(kP h).2
theorem sc:prog.globalNamed "strconv.ErrSyntax" =some 2:=by kernel_rfl
theorem sb:prog.globalNamed "strconv.ErrRange" =some 3:=by kernel_rfl
theorem pe:prog.globalNamed "internal/strconv.uint64pow10" =some 6:=by kernel_rfl
theorem pd:prog.globalNamed "copydesk/wire.shifts" =some 0:=by kernel_rfl
theorem uU {w:World} {n:String} {g a t:Nat} {c:Array Value} {f:Nat} {e:String} {d:DataW Unit} {p:List MemPlace} {m:Array (String×TypeId)} (i:prog.globalNamed n=some a) (b:prog.globalNamed n=some g) (j:(prog.globals[g]?).map (·.type)=some t) (k:∀u,(prog.globals[a]?).map (·.type)=some u->prog.underlying u=some (.interface m))
 (l:w.var? prog n=some c) (o:DataW.trod (λ_=>()) prog w 0 (λ_=>true) false f t c.toList=some (.iface e d,p)):∃v,w.cell? ⟨a,0,none⟩=some v/\(v=.nilIface\/∃q r,v=.iface q r):=by
 obtain rfl:=aj (i.symm.trans b);obtain⟨_,u,v,h,_,_⟩:=iface_of_trod (k t j) o;refine⟨.iface u v,?_,.inr ⟨u,v,rfl⟩⟩;rw[World.var?_cell b l 0,<-ak,h];rfl
theorem uV {w:World} {g:Nat} {n:String} {k:IntKind} {zs:List Int} {c:Array Value} (d:prog.globalNamed n=some g) (h:w.var? prog n=some c) (e:c.toList=zs.map λz=>Value.int k z):
 ∀x∈lF g k zs,x.2.1<Sb w x.1/\x.2.2 (w.cell? ⟨x.1,x.2.1,none⟩):=by
 have l:c.size=zs.length:=by rw[<-ot,e,dB]
 have m:c.size<Sb w g:=by
  unfold World.var? at h;rw[d]at h;simp only[pk]at h;unfold Sb;split at h
  ·rename_i f;cases h;rw[f];exact Nat.lt_succ_self _
  ·cases h
 intro x a;rcases ff.1 a with a|a
 ·obtain ⟨⟨z,i⟩,b,rfl⟩:=dm.1 a;have b:=su.1 b;have j:=(ab.1 b).1;simp only at b j⊢;refine⟨om,?_⟩;rw[World.var?_cell d h i,<-ak,e,ao,b];rfl
 ·rw [ga]at a;subst a;refine⟨by show zs.length<Sb w g;omega,?_⟩;show w.cell? ⟨g,zs.length,none⟩=none;rw[World.var?_cell d h,cj om]
def W4:List (String×DataW Unit):=Rows.dependFreshSameRow.laid
theorem DB {w:World} (h:laidMetH prog W4 w) (d:w.ShapedOpen prog):Gs w (Sb w):=by
 rw[MakeChecks.laidMetH_plain _ _ _ (by kernel_rfl)]at h;obtain⟨L,⟨_,_,_,_,_,_,_,_,_,_,⟨_,_,_,_,_,_,_,_,_,_,⟨g3,M,F,N,O,Q,e,f,i,j,⟨_,_,_,_,_,_,_,_,_,_,⟨g5,R,G,S,T,U,k,l,n,o,⟨g6,V,W,X,Y,Z,p,q,r,s,⟨g7,t7,c7,n7,p7,q7,v,x,y,A,_,_⟩,_⟩,_⟩,_⟩,_⟩,_⟩,_⟩,_⟩:=h;have H:∀u,(prog.globals[3]?).map (·.type)=some u->prog.underlying u=some (.interface _):=λu B=>by obtain rfl:=aj ((show(prog.globals[3]?).map (·.type)=some 151 by kernel_rfl).symm.trans B);exact underlying151
 have I:∀u,(prog.globals[2]?).map (·.type)=some u->prog.underlying u=some (.interface _):=λu B=>by obtain rfl:=aj ((show(prog.globals[2]?).map (·.type)=some 151 by kernel_rfl).symm.trans B);exact underlying151
 obtain⟨v2,b,C⟩:=uU sb p q H r s;obtain⟨v1,c,D⟩:=uU sc v x I y A;obtain⟨m,E⟩:=cell_of_shapedOpen_int (P:=prog) (g:=1) (t:=3) (zero:= #[.int .i64 0]) d (of_decide_eq_true (by kernel_rfl)) (by kernel_rfl) rfl (by kernel_rfl) (by kernel_rfl) underlying3;obtain rfl:=aj (pe.symm.trans e);obtain rfl:=aj ((show(prog.globals[6]?).map (·.type)=some 368 by kernel_rfl).symm.trans f);obtain rfl:=aj (pd.symm.trans k);obtain rfl:=aj ((show(prog.globals[0]?).map (·.type)=some 128 by kernel_rfl).symm.trans l);have J:F.toList=pow10Tab.map λz=>Value.int .u64 z:=cells_of_tab (zs:=pow10Tab) underlying368 underlying289 (by kernel_rfl) (by kernel_rfl) j;have K:G.toList=yN.map λz=>Value.int .u32 z:=cells_of_tab (zs:=yN) underlying128 underlying126 (by kernel_rfl) (by kernel_rfl) o;intro g a;change g∈(2,0,mj)::(3,0,mj)::(1,0,ZN)::(lF 6 .u64 pow10Tab++lF 0 .u32 yN)at a;simp only[e9,ff]at a;rcases a with rfl|rfl|rfl|a|a
 ·exact ⟨V5 c,_,c,D⟩
 ·exact ⟨V5 b,_,b,C⟩
 ·exact ⟨V5 E,_,E⟩
 ·exact uV pe i J g a
 ·exact uV pd n K g a
set_option maxRecDepth 100000 in
theorem uW (os:Os) (a:Array Value):((World.laidAll prog os W4).forCall (λ_ _=>0) ⟨#[],a,[]⟩).Shaped prog:=
 World.shaped_of_ZipB (by kernel_rfl) (by kernel_rfl)
set_option maxRecDepth 100000 in
theorem m_ (os:Os) (a:Array Value):laidMetH prog W4 ((World.laidAll prog os W4).forCall (λ_ _=>0) ⟨#[],a,[]⟩).memory:=by rw[MakeChecks.laidMetH_plain _ _ _ (by kernel_rfl)];exact laidMet_laidAll _ (by kernel_rfl) (by kernel_rfl)
end Go.Proofs.YtobhohikfmlccaaGreatDoor
