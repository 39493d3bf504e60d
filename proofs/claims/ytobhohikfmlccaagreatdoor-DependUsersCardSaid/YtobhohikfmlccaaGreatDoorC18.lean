/- Sums of values, each reckoned once; whether a page is fresh. -/
import Derived.Test.YtobhohikfmlccaaGreatDoorC17
set_option linter.all false
set_option maxRecDepth 100000
set_option maxHeartbeats 4000000
open Go.RowKit Go.Proofs Tryz Go.IntKind
namespace Go.Proofs.YtobhohikfmlccaaGreatDoor
def cQ(m:Nat)(v:Ab->Ab)(a:Ξ):Φ:=[.bw m (a.map Kq) (a.map λk=>num (Qq (v k)))]
structure Pg where
 ad:Ab
 tx:Ab
 rd:List (Ab×Int)
def jm(r:Ab×Int):AV:=.agg [str r.1,num r.2]
def Ll(p:Pg):AV:=.agg [str p.ad,str p.tx,.sl 2 (p.rd.map jm)]
def Ca(val:Ab->Ab)(rd:List (Ab×Int)):Bool:=rd.all λr=>decide (r.2=Qq (val r.1))
def BN(v:Ab->Ab)(l)(x:Ab×Int):Ca v (l++[x])=(Ca v l&&decide (x.2=Qq (v x.1))):=by simp[Ca]
def t_{l:List (Ab×Int)}{j:Nat}{x:Ab×Int}(h:l[j]? =some x):(l.map jm).getD j .any=.agg [.raw (.string ⟨x.1.toArray⟩),.raw (.int .i64 x.2)]:=by exact QC
theorem nI(i):view (.raw (.int .i64 i))=.raw (.int .i64 i):=rfl
theorem Um(i):B8 (.int .i64 i)=.raw (.int .i64 i):=rfl
section
variable{L:List Ap}{T:List (Ab × Ab)}{a:Ab->Ab}{m:Nat}(V:Gb L T a)
include V
def AbW(b:Ab)(i:b.length<=1000000)(c:Ξ):QH 109 [str b,.elt (.agg [.raw (.map (some m))]),.elt (.agg [.sl 8 (L.map ci),.sl 2 (T.map A4)])] (cQ m a c) (λr n=>r=num (Qq (a b))/\n=cQ m a (De c b)) (λ_ _=>False):=by
 refine G7 [] [] [] func109 ?_;have e:(m=m)=True:=bc rfl;have k1:HH.mp 148=some (9,3):=rfl;have k2:HH.zr 3=some (.int .i64 0):=rfl;have k3:HH.kd 9=some .string:=rfl;have h:=Mo b c;rw[k3]at h;simp only[Kq]at h;rcases Jz b c with⟨f,j,o,d,p⟩|⟨f,d⟩
 .have g:De c b=c:=by simp[De,f]
  have l:(c.map λk=>num (Qq (a k))).getD j .any=num (Qq (a b)):=by simp[fk,o,p]
  simp only[Kq]at d;simp only[cQ,num,str,Kq]at l⊢;refine Wq (nA e (nA k1 (nA k2 (nA k3 (nA h (nA d (nA l (nA @nI @Um)))))))) ?_;rw[g];exact Zx
 have g:=tZ f i;simp only[Kq]at d;simp only[cQ,num,str,Kq];refine Z8 e k1 k2 k3 h d @nI @Um ?_;refine ae (V.call b i) ?_;rintro r rfl;simp only[num,str];repeat' first|apply Aq.on<;>intro _|refine gD ?_|simp only[go_sem,e,k1,k2,k3,h,d,nI,Um]
 refine ae (AiJ (a b) (V.len b)) ?_;rintro r rfl;simp only[num,str];repeat' first|apply Aq.on<;>intro _|refine gD ?_|simp only[go_sem,e,k1,k2,k3,h,d,nI,Um]
 rw[g];simp only[ip,ev,db];exact Zx
def GI(p:Pg)(w:p.rd.length<=1000000)(u:∀r∈p.rd,r.1.length<=1000000)(c):QH 52 [Ll p,.ee 109 [.elt (.agg [.raw (.map (some m))]),.elt (.agg [.sl 8 (L.map ci),.sl 2 (T.map A4)])]] (cQ m a c) (λr d=>r=Af (Ca a p.rd)/\∃b,d=cQ m a b) (λ_ _=>False):=by
 refine HC.weak ?_;simp only[Ll];refine Cc [] [] [(4,[14,17,10006],[0,2,3,1001,1004],[2005],[6])] b3 Dc Cl func52 oD oK (by simp only[go_sem,reduceIte];rfl) ntmps52 results52 rfl ?_;simp only[LS,Nat.reduceAdd,Nat.reduceSub];refine Zu ?_;refine Ad (rl [0,1,1,6,3,11]) [10] (λk t d=>∃j b,j+k=p.rd.length/\Ca a (p.rd.take j)=true/\d=cQ m a b/\t=[num j]) ⟨p.rd.length,_,_,⟨0,c,om,rfl,rfl,rfl⟩,hent (aa _) ?_⟩ ?_
 .exact Zw
 .rintro k t d ⟨j,c,y,g,rfl,rfl⟩;simp only[PU];rcases cq j p.rd.length with i|hge
  .have l:=eT j p.rd.length;obtain⟨x,e,z⟩:=Bj i;have n:=t_ e;have v:=wS j;have o:=u x (cu e);have q:p.rd.take (j+1)=p.rd.take j++[x]:=by rw[fc,e];rfl
   simp only[go_sem,l,n,v];refine Zu ?_;refine b7 (AbW V x.1 o c) ?_ (λ_ _ h=>h.elim);rintro r d ⟨rfl,rfl⟩;simp only[num];by_cases f:x.2=Qq (a x.1)
   .have h1:=bc f;refine Zu ?_;exact Zm (k-1) ⟨j+1,De c x.1,om,by rw[q,BN,g];simp[f],rfl,rfl⟩
   have h1:=bd f;refine Zu ?_;have s:Ca a p.rd=false:=by unfold Ca;rw[List.all_eq_false];exact⟨x,cu e,by simpa using f⟩
   exact⟨_,_,bh _,rfl,aa _,by rw[s],_,rfl⟩
  have l:=eU j p.rd.length;simp only[go_sem,l];refine Zu ?_;have s:Ca a p.rd=true:=by rw[Are om]at g;exact g
  exact⟨_,_,bh _,rfl,aa _,by rw[s],_,rfl⟩
omit V in
def AbX:QH 53 [.agg [.sl 8 (L.map ci),.sl 2 (T.map A4)]] [] (λr b=>∃m,r=.ee 109 [.elt (.agg [.raw (.map (some m))]),.elt (.agg [.sl 8 (L.map ci),.sl 2 (T.map A4)])]/\b=[.bw m [] []]) (λ_ _=>False):=by refine G7 [(2,[1,3],[])] [] [] func53 ?_;have k1:HH.mp 148=some (9,3):=rfl;refine Zu ?_;intro m h;refine Zu ?_;exact⟨_,_,bh _,rfl,aa _,m,rfl,rfl⟩
def GJ(p:Pg)(b:p.rd.length<=1000000)(c:∀r∈p.rd,r.1.length<=1000000):QA 19 [Ll p,.agg [.sl 8 (L.map ci),.sl 2 (T.map A4)]] (λr=>r=Af (Ca a p.rd)):=by
 simp only[Ll];refine ai (Zt [] [] [(1,[10002,10003],[1000,1001],[2002],[3003,4])] func19 ?_) ⟨_,rfl⟩;refine b7 (AbX (L:=L) (T:=T)) ?_ (λ_ _ h=>h.elim);rintro r d ⟨m,rfl,rfl⟩;refine Zu ?_;refine HC.wk (b7 (GI V p b c [] (m:=m)) ?_ (λ_ _ h=>h.elim)) ?_;rotate_left
 .simp only[Ll,str];exact Zw
 rintro r d ⟨rfl,k,rfl⟩;refine Zn ?_;exact⟨_,_,bh _,rfl,Gw.none _,rfl,rfl⟩
end
def GK(X:Ξ)(h1:X.length<=1000000)(b:∀x∈X,x.length<=1000000):QA 60 [.mine 9 1 (X.map str),.raw (.func (.func 61) #[] #[])] (λr=>∃D:Ξ,r=.own 9 1 (D.map str)/\(D.Pairwise λx y=>cP x y<0)/\∀x,x∈D↔x∈X):=
 uQ 61 cP X h1 (enters_of func61 (by kernel_rfl) rfl) (λx _=>by rw[Ul];exact λh=>h.elim (Int.lt_irrefl _) λh=>F8 x h.2)
  (λx _ y _ z _ h a=>by
   rw[Ul]at h a⊢;rcases h with h|⟨h,g⟩<;>rcases a with a|⟨a,g'⟩
   .exact .inl om
   .exact .inl om
   .exact .inl om
   .exact .inr ⟨om,Ci x y z g g'⟩)
  (λx _ y _=>by
   rw[Ul,Ul];rcases Int.lt_trichotomy (N5 x) (N5 y)with h|h|h
   .exact .inl (.inl h)
   .rcases Std.lt_trichotomy x y with g|g|g
    .exact .inl (.inr ⟨h,g⟩)
    .exact .inr (.inl g)
    .exact .inr (.inr (.inr ⟨h.symm,g⟩))
   .exact .inr (.inr (.inl h)))
  (λx c y d=>NS x y (b x c) (b y d))
def X6(X:Ξ)(h1:X.length<=1000000):QA 60 [.mine 9 1 (X.map str),.raw (.func (.func 65) #[] #[])] (λr=>∃D:Ξ,r=.own 9 1 (D.map str)/\(D.Pairwise λx y=>Ko x y<0)/\∀x,x∈D↔x∈X):=
 uQ 65 Ko X h1 (enters_of func65 (by kernel_rfl) rfl) (λx _=>by rw[Gp];exact F8 x)
  (λx _ y _ z _ h a=>by rw[Gp]at h a⊢;exact Ci x y z h a)
  (λx _ y _=>by
   rw[Gp,Gp];rcases Std.lt_trichotomy x y with g|g|g
   .exact .inl g
   .exact .inr (.inl g)
   .exact .inr (.inr g))
  (λx _ y _=>V4 x y)
theorem v0{l:List (Ab×Int)}{j:Nat}{x:Ab×Int}(h:l[j]? =some x):(l.map jm).getD j .any=.agg [.raw (.string ⟨x.1.toArray⟩),.raw (.int .i64 x.2)]:=t_ h
theorem pv{l:List Pg}{j:Nat}{x:Pg}(h:l[j]? =some x):(l.map Ll).getD j .any=.agg [.raw (.string ⟨x.ad.toArray⟩),.raw (.string ⟨x.tx.toArray⟩),.sl 2 (x.rd.map jm)]:=by exact QC
def AbZ{a}{l:List a}{j}{x:a}{p:a->Bool}(h:l[j]? =some x):(l.take (j+1)).any p=((l.take j).any p||p x):=by rw[fc,h];simp
def NT(R:List (Ab×Int))(g:Nat)(c)(p:Ab×Int->Bool)(l:R.length<=1000000)(f:∀s∈R,QA g (jm s::c) (λr=>r=Af (p s))):QA 124 [.sl 2 (R.map jm),.ee g c] (λr=>∃i:Int,r=num i/\decide (0<=i)=R.any p):=by
 refine Zs [] func124 ⟨num (if R.any p then 0 else -1),_,rfl,by cases R.any p<;>rfl⟩ ?_;refine Ak (rl [5,1,3,10]) [8] (λn x=>∃i:Nat,i<=R.length/\i+n=R.length/\(R.take i).any p=false/\x=[num i]) ⟨R.length,_,⟨0,om,om,oS,rfl⟩,?_⟩ ?_
 .exact Zw
 .rintro n x ⟨i,j,m,h,rfl⟩;simp only[PU];rcases cq i R.length with b|hge
  .have e:=eT i R.length;obtain⟨s,a,o⟩:=Bj b;have k:=t_ a;have q:=wS i;refine Zu ?_;refine((f s (cu a)).wk ?_).mono ?_
   .simp only[jm,num,str];exact Zw
   rintro r rfl;simp only[Af];cases d:p s
   .refine Zu ?_;exact Zl (n-1) ⟨i+1,om,om,by rw[AbZ a,h,d];rfl,rfl⟩
   refine Zu ?_;exact⟨(i:Int),rfl,by have:R.any p=true:=List.any_eq_true.2 ⟨s,cu a,d⟩;rw[this];simp⟩
  have e:=eU i R.length;rw[Are hge]at h;refine Z1 e ?_;exact⟨-1,rfl,by rw[h];rfl⟩
def Aga(R:List (Ab×Int))(g:Nat)(c)(p:Ab×Int->Bool)(h:R.length<=1000000)(a:∀s∈R,QA g (jm s::c) (λr=>r=Af (p s))):QA 66 [.sl 2 (R.map jm),.ee g c] (λr=>r=Af (R.any p)):=by
 refine G6 [] func66 ⟨_,rfl⟩ ?_;repeat' first|apply Aq.on<;>intro _|refine gD ?_|simp only[go_sem]
 refine((NT R g c p h a).wk ?_).mono ?_
 .exact Gq
 rintro r ⟨i,rfl,b⟩;simp only[num];repeat' first|apply Aq.on<;>intro _|refine gD ?_|simp only[go_sem]
 simp only[ge_iff_le,b]
def Ms(k:Ab)(p:Pg):Bool:=p.rd.any λr=>r.1==k
def NU(k)(r:Ab×Int):QA 67 [jm r,.elt (.agg [str k])] (λx=>x=Af (r.1==k)):=by simp only[jm];refine G6 [] func67 ⟨_,rfl⟩ ?_;exact Ze
def AlU(ps:List Pg)(key)(q:ps.length<=1000000)(k:∀p∈ps,p.rd.length<=1000000):QA 23 [.sl 3 (ps.map Ll),str key] (λr=>∃D:Ξ,r=.own 9 1 (D.map str)/\(D.Pairwise λx y=>Ko x y<0)/\∀x,x∈D↔x∈(ps.filter (Ms key)).map (·.ad)):=by
 have h:∀j,((ps.take j).filter (Ms key)).length<=ps.length:=λj=>cp (kh _ _) (by simp;omega);obtain⟨_,l,_,b,c⟩:=(X6 ((ps.filter (Ms key)).map (·.ad)) (by have:=h ps.length;rw[lr]at this;simp;omega)).2.1;refine Zs [(2,[3],[])] func23 ⟨_,l,rfl,b,c⟩ ?_;refine Ak (rl [7,1,3,15]) [5,10] (λn g=>∃j:Nat,j+n=ps.length/\g=[.mine 9 1 ((((ps.take j).filter (Ms key)).map (·.ad)).map str),num j]) ⟨ps.length,_,⟨0,om,rfl⟩,?_⟩ ?_
 .simp only[PU];simp only[gx,po,db];exact Zw
 .rintro n g ⟨j,t,rfl⟩;simp only[PU];rcases cq j ps.length with d|hge
  .have e:=eT j ps.length;obtain⟨x,f,u⟩:=Bj d;have m:=pv f;have v:=wS j;refine Zu ?_;refine Zb (Aga x.rd 67 [.elt (.agg [str key])] (λr=>r.1==key) (k x (cu f)) (λs _=>NU key s)) ?_;rintro r rfl;simp only[Af];have a:ps.take (j+1)=ps.take j++[x]:=by rw[fc,f];rfl
   cases i:(x.rd.any λr=>r.1==key)
   .have hf:(ps.take (j+1)).filter (Ms key)=(ps.take j).filter (Ms key):=by rw[a,Ast];simp[Ms,i]
    exact Ag5
   have hq:=h j;have hf:(((ps.take (j+1)).filter (Ms key)).map (·.ad)).map str=(((ps.take j).filter (Ms key)).map (·.ad)).map str++[.raw (.string ⟨x.ad.toArray⟩)]:=by rw[a,Ast];simp[Ms,i,str]
   exact Ag5
  have e:=eU j ps.length;rw[Are hge];refine Z1 e ?_;refine(X6 ((ps.filter (Ms key)).map (·.ad)) (by have:=h ps.length;rw[lr]at this;simp;omega)).mono ?_;rintro r ⟨D,rfl,h1,o⟩;refine Z1 e ?_;exact⟨D,rfl,h1,o⟩
def nJ(a b:Ξ)(z:a.length<=1000000)(A:b.length<=1000000):QA 48 [.sl 1 (a.map str),.sl 1 (b.map str)] (λr=>r=Af (decide (a=b))):=by
 refine G6 [(2000006,[0,1,2,4,5,6,2003,2007,8],[])] func48 ⟨_,rfl⟩ ?_;rcases Nat.decEq a.length b.length with hlen|hlen
 .have u:=bd (show¬(a.length:Int)=(b.length:Int) by omega);refine Zu ?_;rw[decide_eq_false (show¬a=b from λh=>hlen (by rw[h]))]
 have u:=bc (show(a.length:Int)=(b.length:Int) by omega);refine Zu ?_;refine Ak (rl [6,20]) [5] (λn s=>∃j:Nat,j+n=a.length/\a.take j=b.take j/\s=[num j]) ⟨a.length,_,⟨0,om,oS,rfl⟩,?_⟩ ?_
 .exact Zw
 .rintro n s ⟨j,B,c,rfl⟩;simp only[PU];rcases cq j a.length with m|hge
  .have l:=eT j a.length;obtain⟨x,o,C⟩:=Bj m;have f:=Cd o;have t:=wS j;have g:=eT j b.length;obtain⟨y,d,v⟩:=Bj (show j<b.length by omega);have i:=Cd d;cases k:(x==y)
   .have p:x≠y:=λe=>by rw[e]at k;simp at k
    have q:decide (a=b)=false:=decide_eq_false λh=>by subst h;rw[o]at d;injection d with d;exact p d
    refine Z6 l g f i t k ?_;rw[q]
   have w:x=y:=by simpa using k
   subst w;refine Z6 l g f i t k ?_;exact Zl (n-1) ⟨j+1,om,by rw[fc,fc,o,d,c],rfl⟩
  have l:=eU j a.length;have q:decide (a=b)=true:=decide_eq_true (by rw[Are hge,Are om]at c;exact c);refine Z1 l ?_;rw[q]
def bM(b:Nat)(k:Ξ)(f:Ab->Bool):AV:=.bw b (k.map Kq) (k.map λa=>Af (f a))
theorem nK(z:Value)(v:Φ)(j:Nat):M5 false z v (some j)=view (v.getD j .any):=rfl
theorem Un(b):B8 (.bool b)=.raw (.bool b):=rfl
theorem nL(b):view (.raw (.bool b))=.raw (.bool b):=rfl
def K9(v:Ab->Ab)(b:Ξ)(s:(Ab->Bool)×List Ab)(p:Pg):(Ab->Bool)×List Ab:=
 if p.ad∈b then(if s.1 p.ad=true then s else(λa=>if a=p.ad then Ca v p.rd else s.1 a,s.2))else(s.1,s.2++[p.ad])
def B4(val:Ab->Ab)(a:Ξ)(p:List Pg):(Ab->Bool)×List Ab:=p.foldl (K9 val a) (λ_=>false,[])
def AoK{b:Ξ}(c:b.Nodup){j:Nat}(g:j<b.length)(f:Ab->Bool)(v:Bool):(b.map λa=>Af (f a)).set j (.raw (.bool v))=b.map λa=>Af (if a=b[j]then v else f a):=by
 apply List.ext_getElem
 .simp
 .intro i h1 d;rw[List.getElem_set];simp only[List.getElem_map];by_cases h:j=i
  .subst h;simp[Af]
  .have:b[i]'(by simpa using d)≠b[j]:=λe=>h ((List.getElem_inj c).1 e).symm;simp[h,this]
def La(v:Ab->Ab)(a:Ξ)(b p):B4 v a (b++[p])=K9 v a (B4 v a b) p:=by simp[B4]
section
variable{L:List Ap}{T:List (Ab × Ab)}{val:Ab->Ab}
def Aca (c:List Pg) (hA:QA 59 [.agg [.sl 8 (L.map ci),.sl 2 (T.map A4)]] (λr=>r=.sl 1 ((Dd L).map str))) (hl:(Dd L).length<=1000000) (P:∀a∈Dd L,a.length<=1000000) (hV:c≠[]->Gb L T val)
 (hp:c.length<=1000000) (Q:∀p∈c,p.rd.length<=1000000/\∀r∈p.rd,r.1.length<=1000000):
 QA 21 [.sl 3 (c.map Ll),.agg [.sl 8 (L.map ci),.sl 2 (T.map A4)]] (λr=>∃D E:Ξ,r=.a6 [.sl 1 (D.map str),.sl 1 (E.map str)]/\(D.Pairwise λx y=>cP x y<0)/\(∀x,x∈D↔x∈Dd L/\(B4 val (Dd L) c).1 x=false)/\(E.Pairwise λx y=>Ko x y<0)/\∀x,x∈E↔x∈(B4 val (Dd L) c).2):=by
 obtain⟨all,z⟩:∃all,Dd L=all:=⟨_,rfl⟩;have hn:all.Nodup:=by rw[<-z];unfold Dd;exact(Cv _).1.imp λh e=>by subst e;exact F8 _ h
 rw[z]at hA hl P⊢
 have H:∀j,(B4 val all (c.take j)).2.length<=j:=by
  intro j
  induction j with
  |zero=>simp[B4]
  |succ j ih=>
   cases d:c[j]? with
   |none=>have e:c.take (j+1)=c.take j:=by rw[fc,d];simp
          rw[e];omega
   |some p=>
    have e:c.take (j+1)=c.take j++[p]:=by rw[fc,d];rfl
    rw[e,La];unfold K9;split
    .split<;>simp<;>omega
    .simp;omega
 have I:∀f:Ab->Bool,(all.filter λa=> !f a).length<=1000000:=λf=>cp (kh _ _) hl;have B:=H c.length;rw[lr]at B;obtain⟨_,D0,_,R,S⟩:=(GK (all.filter λa=> !(B4 val all c).1 a) (I _) (λx d=>P x (jq.1 d).1)).2.1;obtain⟨_,E0,_,U,W⟩:=(X6 (B4 val all c).2 om).2.1;refine ai (G7 [(13,[14],[])] [] [(17,[],[0,1,4,1002,1003],[2005],[3006])] func21 ?_) ⟨_,D0,E0,rfl,R,λx=>by rw[S,jq];simp,U,W⟩;have k1:HH.mp 119=some (9,4):=rfl;have k2:HH.zr 4=some (.bool false):=rfl;have k3:HH.kd 9=some .string:=rfl;refine Zu ?_;refine b7 (AbX (L:=L) (T:=T)) ?_ (λ_ _ h=>h.elim);rintro r t ⟨m,rfl,rfl⟩;refine Zu ?_;refine Zh hA ?_;intro b hb;have hbb:(b=b)=True:=bc rfl;have hmm:(m=m)=True:=bc rfl;have wu:(b=m)=False:=bd λh=>hb _ (.head _) (fq some h.symm);have hmb:(m=b)=False:=bd λh=>hb _ (.head _) (fq some h);refine Zu ?_;refine Ad (rl [1,3,5,15,3,57]) [26] (λk A t=>∃j:Nat,j+k=all.length/\t=bM b (all.take j) (λ_=>false)::cQ m val []/\A=[num j]) ⟨all.length,_,_,⟨0,om,rfl,rfl⟩,hent (aa _) ?_⟩ ?_
 .exact Zw
 .rintro k A t ⟨j,X,rfl,rfl⟩;simp only[PU];rcases cq j all.length with l|hge
  .have ej:=eT j all.length;obtain⟨x,d,hd⟩:=Bj l;have hgx:=Cd d;have hw:=wS j;have n:all.take (j+1)=all.take j++[x]:=by rw[fc,d];rfl
   have Y:x∉all.take j:=λh=>by have h2:=hn.sublist (List.take_sublist (j+1) all);rw[n,List.nodup_append]at h2;exact h2.2.2 x h x oS rfl
   have hky:=Mo x (all.take j);rw[k3]at hky
   have hf:Bu (Kq x) ((all.take j).map Kq)=none:=by
    rcases Jz x (all.take j)with⟨u,_⟩|⟨_,hf⟩
    .exact cw u Y
    .exact hf
   simp only[Kq]at hky hf;simp only[bM,cQ,num,str,Kq,Af];refine Zu ?_;refine Am (k-1) _ _ om ⟨j+1,om,rfl,rfl⟩ (hent (by rw[n];simp only[bM,cQ,ip,ev,db,Kq,Af,num];exact aa _) ?_);exact Zw
  rw[Are hge];have ej:=eU j all.length;simp only[go_sem,ej];refine Zu ?_;refine Ad (rl [1,3,5,2,2,20,3,48]) [12,35] (λk A t=>∃(j:Nat) (ks':Ξ),j+k=c.length/\t=bM b all (B4 val all (c.take j)).1::cQ m val ks'/\A=[.mine 9 1 ((B4 val all (c.take j)).2.map str),num j]) ⟨c.length,_,_,⟨0,[],om,rfl,rfl⟩,hent (aa _) ?_⟩ ?_
  .simp only[gx,B4,oq,db];exact Zw
  .clear X;rintro k A t ⟨j,ks',X,rfl,rfl⟩;simp only[PU];rcases cq j c.length with l|hge
   .have ej:=eT j c.length;obtain⟨x,d,hd⟩:=Bj l;have hgx:=pv d;have hw:=wS j;have n:c.take (j+1)=c.take j++[x]:=by rw[fc,d];rfl
    have o:=La val all (c.take j) x;rw[<-n]at o;have J:=H j;obtain⟨⟨F,G⟩,C⟩:∃q,B4 val all (c.take j)=q:=⟨_,rfl⟩;rw[C]at o J⊢;simp only at J;have K:=Q x (cu d);have hky:=Mo x.ad all;rw[k3]at hky;simp only[Kq]at hky;rcases Jz x.ad all with⟨u,i,v,hf,O⟩|⟨u,hf⟩;rotate_left
    .simp only[Kq]at hf;have g:B4 val all (c.take (j+1))=(F,G++[x.ad]):=by rw[o];simp[K9,u]
     have Z:(G++[x.ad]).map str=G.map str++[.raw (.string ⟨x.ad.toArray⟩)]:=by simp[str]
     simp only[bM,cQ,num,str,Kq,Af];refine Zu ?_;refine Am (k-1) [.mine 9 1 ((G++[x.ad]).map str),num ((j+1:Nat):Int)] (bM b all F::cQ m val ks') om ⟨j+1,ks',om,by rw[g];rfl,by rw[g];rfl⟩ (hent (aa _) ?_);rw[Z];exact Zw
    simp only[Kq]at hf;have hg:(all.map λa=>Af (F a)).getD i .any=Af (F x.ad):=by simp[fk,v,O]
    simp only[Af]at hg;cases w:F x.ad;rotate_left
    .rw[w]at hg;have g:B4 val all (c.take (j+1))=(F,G):=by rw[o];simp[K9,u,w]
     simp only[bM,cQ,num,str,Kq,Af];refine Wq (nA ej (nA hgx (nA hw (nA hky (nA hf (nA hg (nA hbb (nA hmm (nA wu (nA hmb (nA k1 (nA k2 (nA k3 (nA @nK (nA @Un @nL))))))))))))))) ?_;refine Am (k-1) [.mine 9 1 (G.map str),num ((j+1:Nat):Int)] (bM b all F::cQ m val ks') om ⟨j+1,ks',om,by rw[g];rfl,by rw[g];rfl⟩ (hent (aa _) ?_);exact Zw
    rw[w]at hg;have g:B4 val all (c.take (j+1))=(λa=>if a=x.ad then Ca val x.rd else F a,G):=by rw[o];simp[K9,u,w]
    simp only[bM,cQ,num,str,Kq,Af];refine Wq (nA ej (nA hgx (nA hw (nA hky (nA hf (nA hg (nA hbb (nA hmm (nA wu (nA hmb (nA k1 (nA k2 (nA k3 (nA @nK (nA @Un @nL))))))))))))))) ?_;have V:=hV (λe=>by rw[e]at l;simp at l);have M:=GI V x K.1 K.2 ks' (m:=m);simp only[Ll,str]at M;refine HC.perm (γ':=cQ m val ks'++[bM b all F]) (fy (b7 M ?_ (λ_ _ h=>h.elim))) (by simp only[bM,cQ,num,str,Kq,Af,fj,fm];exact .swap _ _ _);rintro r t ⟨rfl,N,rfl⟩;have s:=AoK hn v F (Ca val x.rd);rw[O]at s;simp only[Af]at s;simp only[bM,cQ,num,str,Kq,Af,fj,fm];repeat' first|apply Aq.on<;>intro _|refine gD ?_|simp only[go_sem,ej,hgx,hw,hky,hf,hg,s,hbb,hmm,wu,hmb,k1,k2,k3,nK,Un,nL]
    refine Am (k-1) [.mine 9 1 (G.map str),num ((j+1:Nat):Int)] (bM b all (λa=>if a=x.ad then Ca val x.rd else F a)::cQ m val N) om ⟨j+1,N,om,by rw[g];rfl,by rw[g];rfl⟩ (hent (Gw.perm (.swap _ _ _)) ?_);exact Zw
   rw[Are hge];have ej:=eU j c.length;simp only[go_sem,ej];refine Zu ?_;obtain⟨⟨F,G⟩,C⟩:∃q,B4 val all c=q:=⟨_,rfl⟩;rw[C]at B⊢;simp only at B;refine Ad (rl [0,4,2,1,2,2,2,51,3,17]) [11,66] (λk A t=>∃j:Nat,j+k=all.length/\t=bM b all F::cQ m val ks'/\A=[.mine 9 1 (((all.take j).filter λa=> !F a).map str),num j]) ⟨all.length,_,_,⟨0,om,rfl,rfl⟩,hent (aa _) ?_⟩ ?_
   .simp only[gx,po,db];exact Zw
   .rintro k A t ⟨j,X,rfl,rfl⟩;simp only[PU];rcases cq j all.length with l|hge
    .have ej:=eT j all.length;obtain⟨x,d,hd⟩:=Bj l;have hgx:=Cd d;have hw:=wS j;have n:all.take (j+1)=all.take j++[x]:=by rw[fc,d];rfl
     have hky:=Mo x all;rw[k3]at hky;simp only[Kq]at hky;rcases Jz x all with⟨u,i,v,hf,O⟩|⟨u,hf⟩;rotate_left
     .exact cw (cu d) u
     simp only[Kq]at hf;have hg:(all.map λa=>Af (F a)).getD i .any=Af (F x):=by simp[fk,v,O]
     simp only[Af]at hg;have hq:((all.take j).filter λa=> !F a).length<=all.length:=cp (kh _ _) (by simp;omega);cases w:F x
     .rw[w]at hg;have vf:((all.take (j+1)).filter λa=> !F a).map str=((all.take j).filter λa=> !F a).map str++[.raw (.string ⟨x.toArray⟩)]:=by rw[n,Ast];simp[w,str]
      exact ϯ
     rw[w]at hg;have vf:(all.take (j+1)).filter (λa=> !F a)=(all.take j).filter λa=> !F a:=by rw[n,Ast];simp[w]
     exact ϯ
    rw[Are hge];have ej:=eU j all.length;simp only[go_sem,ej];refine Zu ?_;refine ae (GK (all.filter λa=> !F a) (I _) (λx d=>P x (jq.1 d).1)) ?_;rintro r ⟨D,rfl,d1,d2⟩;refine Zu ?_;refine ae (X6 G om) ?_;rintro r ⟨E,rfl,e1,e2⟩;refine Zu ?_;exact⟨.a6 [.sl 1 (D.map str),.sl 1 (E.map str)],_,eu (Bl (Bl .nil)),rfl,Gw.none _,rfl,D,E,rfl,d1,λx=>by rw[d2,jq];simp,e1,e2⟩
end
def D_:AV:=.agg [num 0,str [],.nil,.nil,num 0,.nil,Af false,Af false]
def cR[Env]{P:Program}{T:Br}{b:Φ}{K}(d a t:Nat)(v)(y:Operand):On P T (some d) (.call ⟨.builtin .append,#[.const v,y],#[a,t]⟩) b K=(a=t/\match T a with
 |some i=>match i.td.elem with
  |some e=>match T e with
   |some j=>D9 b e j (.const v) y (some d) K
   |none=>False
  |none=>False
 |none=>False):=by
 unfold On Wb;simp only[Gm];rfl
def BO(t i):QA 192 [.agg [.sl 8 [],.sl 2 t],num i] (λr=>r=.a6 [D_,Af false]):=by
 refine ai (G7 [] [] [] func192 ?_) ⟨_,rfl⟩;have e:=bd (show¬(0:Int)<0 by omega);simp only[go_sem,e];refine Ad (rl [3,1,2,3,3,10]) [11] (λm x a=>a=[]/\x=[num 0]) ⟨0,_,_,⟨rfl,rfl⟩,hent (aa _) ?_⟩ ?_
 .exact Zw
 .rintro m x a ⟨rfl,rfl⟩;simp only[PU];have e1:=bd (show¬(0:Int)<((0:Nat):Int) by omega);simp only[go_sem,e,e1];exact Zx
def RU:AV:=.agg [num 0,str [],.sl 1 [],.sl 5 [],num 0,.sl 5 [],Af false,Af false]
def Acb(t i):QA 132 [.agg [.sl 8 [],.sl 2 t],num i] (λr=>r=.a6 [RU,Af false]):=by
 refine ai (G7 [] [] [(7,[29,32,36,10006],[0,2,3,5,1001,1004,6,7,1008],[2009],[10,11,3012])] func132 ?_) ⟨_,rfl⟩;have e:=bd (show¬(0:Int)<0 by omega);have e1:=bd (show¬(0:Int)<((0:Nat):Int) by omega);simp only[go_sem,e];refine Zu ?_;refine ae (BO t i) ?_;rintro r rfl;simp only[D_,num,str,Af];simp only[go_sem,e,e1];refine Y1 @cR ?_;refine Ad (rl [3,1,4,17,2,21]) [26] (λm x a=>a=[]/\x=[num 0]) ⟨0,_,_,⟨rfl,rfl⟩,hent (aa _) ?_⟩ ?_
 .exact Zw
 .rintro m x a ⟨rfl,rfl⟩;simp only[PU];simp only[go_sem,e,e1];refine Y1 @cR ?_;exact⟨.a6 [RU,Af false],_,eu (.cons (W1.agg (.same (.same (Bl (.same (.same (Bl (.same (.same .nil))))))))) rfl (.same .nil)),rfl,aa _,rfl,rfl⟩
def Acc(t i g):QA 78 [.agg [.sl 8 [],.sl 2 t],num i,str g] (λr=>r=str []):=by refine ai (G7 [] [] [(26,[89,91,93,95,10009,10007],[0,2,4,6,9,10,11,12,1001,1003,1005,1007],[2008,2013],[3014,3015,16])] func78 ?_) ⟨_,rfl⟩;simp only[go_sem];refine Zu ?_;refine ae (Acb t i) ?_;rintro r rfl;simp only[RU,num,str,Af];simp only[go_sem];exact Ze
def Acd(T:List (Ab×Ab)):Nn [] T (λ_ _=>[]):=
 ⟨λi b _ _=>Acc (T.map A4) i b,λ_ _=>oS⟩
def θ:An [] []:=by constructor<;>simp
def Jq:Ab->Ab:=B0 [] [] (λ_ _=>[])
def cS:Gb [] [] Jq:=val_ok θ (Acd []) oK oK (λ_ _=>oS)
def uR:Dd []=[[47],[47,109,97,112]]:=by have k4:vA (mL [])=[[47],[47,109,97,112]]:=oK;unfold Dd;rw[k4];exact lG oS (λx=>Iff.rfl)
def k0:Ξ:=[[97,100,100,114,101,115,115,47],[116,101,109,112,108,97,116,101,47,102,114,111,110,116],[108,97,116,101,115,116,47,47,53]]
def k1:Ξ:=[[97,100,100,114,101,115,115,47,109,97,112],[116,101,109,112,108,97,116,101,47,109,97,112],[116,111,112,105,99,115],[97,117,116,104,111,114,115],[108,97,116,101,115,116,47,47,54,52]]
def Pu(a:Ξ):List (Ab×Int):=(dst a).map λk=>(k,Qq (Jq k))
def p0:Pg:=⟨[47],[70,114,111,110,116,32,112,97,103,101,10],Pu k0⟩
def p1:Pg:=⟨[47,109,97,112],[10,10],Pu k1⟩
def pO:Pg:=⟨[47],[],[([116,111,112,105,99,115],-1)]⟩
def pS:Pg:=⟨[47,115,116,111,114,121,47,49,47,101,110],[],[]⟩
def AoM:Il (Fh Vu Hh) Jq [47]=some (p0.tx,k0):=by
 have a:Jq ([97,100,100,114,101,115,115]++[47])=[49]:=by unfold Jq B0;rw[bn oD,bn (by rw[uR];decide)]
 have h:V3 (Fh Vu Hh) (uK Jq ⟨1,[],0,[]⟩ [47] (Bh 1).1) (eI Jq 1) 0 (De (De [] ([97,100,100,114,101,115,115]++[47])) ([116,101,109,112,108,97,116,101,47]++(Bh 1).1))=(p0.tx,k0):=oK;unfold Il;rw[show Gv [47]=some ⟨1,[],0,[]⟩from by rfl];simp only[a];rw[ar oS];exact fq some h
def AoN:Il (Fh Vu Hh) Jq [47,109,97,112]=some (p1.tx,k1):=by
 have a:Jq ([97,100,100,114,101,115,115]++[47,109,97,112])=[49]:=by unfold Jq B0;rw[bn oD,bn (by rw[uR];decide)]
 have h:V3 (Fh Vu Hh) (uK Jq ⟨6,[],0,[]⟩ [47,109,97,112] (Bh 6).1) (eI Jq 6) 0 (De (De [] ([97,100,100,114,101,115,115]++[47,109,97,112])) ([116,101,109,112,108,97,116,101,47]++(Bh 6).1))=(p1.tx,k1):=oK;unfold Il;rw[show Gv [47,109,97,112]=some ⟨6,[],0,[]⟩from by rfl];simp only[a];rw[ar oS];exact fq some h
def AiV(k):(Pu k).map jm=eH Jq k:=by unfold Pu eH;rw[lq];rfl
def AlV:QA 20 [.agg [.sl 8 [],.sl 2 []],str [47]] (λr=>r=.a6 [Ll p0,num 0]):=by have h:=nG (L:=[]) (T:=[]) (url:=[47]) cS AI oD (λa b=>BM oD b);rw[AoM]at h;simp only[Ll,p0,AiV];exact h
def AlW:QA 20 [.agg [.sl 8 [],.sl 2 []],str [47,109,97,112]] (λr=>r=.a6 [Ll p1,num 0]):=by have h:=nG (L:=[]) (T:=[]) (url:=[47,109,97,112]) cS AI oD (λa b=>BM oD b);rw[AoN]at h;simp only[Ll,p1,AiV];exact h
def Mt(a):Ca Jq (Pu a)=true:=by unfold Ca Pu;rw[ib];intro r h;obtain⟨k,_,rfl⟩:=dm.1 h;simp
def Ace(a:Ξ)(d:a.length<=10)(h:∀k∈a,k.length<=100):(Pu a).length<=1000000/\∀r∈Pu a,r.1.length<=1000000:=by refine⟨by unfold Pu;rw[dB];have:=P5 a;omega,λr c=> ?_⟩;obtain⟨k,b,rfl⟩:=dm.1 c;have:=h k (((Cv a).2 k).1 b);show k.length<=1000000;omega
def W9(p:Pg):Prop:=p.rd.length<=1000000/\∀r∈p.rd,r.1.length<=1000000
def H_:W9 p0:=Ace k0 oD oD
def HP:W9 p1:=Ace k1 oD oD
def vP:W9 pO:=⟨oD,oD⟩
def pkS:W9 pS:=⟨oD,oD⟩
def GL:Ca Jq pO.rd=false:=by have:0<=Qq (Jq [116,111,112,105,99,115]):=oK;simp only[Ca,pO,sn,List.all_nil,qn];exact decide_eq_false om
def o_{R:Ab->Ab->Prop}(a:∀x,¬R x x)(b:∀x y,R x y->R y x->False):∀{l m:Ξ},l.Pairwise R->m.Pairwise R->(∀x,x∈l↔x∈m)->l=m
 |[],[],_,_,_=>rfl
 |[],y::m,_,_,h=>cw ((h y).2 oS) oS
 |x::l,[],_,_,h=>cw ((h x).1 oS) oS
 |x::l,y::m,h1,h2,h=>by
  rw[mh]at h1 h2
  have d:x=y:=by
   rcases e9.1 ((h x).1 oS)with e|e
   .exact e
   .rcases e9.1 ((h y).2 oS)with f|f
    .exact f.symm
    .exact(b x y (h1.1 y f) (h2.1 x e)).elim
  subst d;rw[o_ a b h1.2 h2.2 λz=> ?_];have:=h z;simp only[e9]at this;constructor
  .intro c;rcases this.1 (.inr c)with e|e
   .subst e;exact(a z (h1.1 z c)).elim
   .exact e
  .intro c;rcases this.2 (.inr c)with e|e
   .subst e;exact(a z (h2.1 z c)).elim
   .exact e
def GM(x y:Ab)(h:cP x y<0)(a:cP y x<0):False:=by
 rw[Ul]at h a;rcases h with h|⟨h,g⟩<;>rcases a with a|⟨a,g'⟩
 .omega
 .omega
 .omega
 .exact F8 x (Ci x y x g g')
def GN(x:Ab):¬cP x x<0:=λh=>GM x x h h
def Agc(x:Ab):¬Ko x x<0:=by rw[Gp];exact F8 x
def Agd(x y:Ab)(h:Ko x y<0)(a:Ko y x<0):False:=by rw[Gp]at h a;exact F8 x (Ci x y x h a)
abbrev Age:Ξ:=[[47],[47,109,97,112]]
def AoP:QA 59 [.agg [.sl 8 (([]:List Ap).map ci),.sl 2 (([]:List (Ab×Ab)).map A4)]] (λr=>r=.sl 1 ((Dd []).map str)):=GS θ
def nM (a:List Pg) (g:a.length<=1000000) (b:∀p∈a,W9 p) (d e:Ξ) (i:d.Pairwise λx y=>cP x y<0) (j:e.Pairwise λx y=>Ko x y<0)
 (c:∀x,x∈d↔x∈Age/\(B4 Jq Age a).1 x=false) (f:∀x,x∈e↔x∈(B4 Jq Age a).2):QA 21 [.sl 3 (a.map Ll),.agg [.sl 8 [],.sl 2 []]] (λr=>r=.a6 [.sl 1 (d.map str),.sl 1 (e.map str)]):=by
 have h:=Aca (L:=[]) (T:=[]) (val:=Jq) a AoP (by rw[uR];decide) (by rw[uR];decide) (λ_=>cS) g b;rw[uR]at h;refine h.mono ?_;rintro r ⟨D,E,rfl,h1,k,l,m⟩;rw[o_ GN GM h1 i λx=>(k x).trans (c x).symm,o_ Agc Agd l j λx=>(m x).trans (f x).symm]
def vQ(v:Ab->Ab)(a:Ξ):List (Ab×Int):=(dst a).map λk=>(k,Qq (v k))
def uS(v:Ab->Ab):Ab->Option (Ab×List Ab):=Il (Fh Vu Hh) v
def vB(v:Ab->Ab)(url:Ab):Pg:=match uS v url with
 |none=>⟨[],[],[]⟩
 |some x=>⟨url,x.1,vQ v x.2⟩
def AoR(v:Ab->Ab)(k):(vQ v k).map jm=eH v k:=by unfold vQ eH;rw[lq];rfl
def Agf(v:Ab->Ab)(url:Ab):u_ v url (uS v url)=.a6 [Ll (vB v url),num (if(uS v url).isSome=true then 0 else 130)]:=by
 unfold vB
 cases uS v url with
 |none=>rfl
 |some x=>simp[u_,Ll,AoR]
def AlX{v:Ab->Ab}{u:Ab}(g:u.length<=1000):W9 (vB v u):=by
 unfold vB;split
 .exact⟨gu _,oS⟩
 rename_i x b
 have d:qy x.2/\x.2.length<=3000:=by
  unfold uS Il at b;split at b
  .cases b
  rename_i a i;split at b
  .cases b
  injection b with b;rw[<-b];have h:=GF (Fh Vu Hh) v a u (Bh a.kind).1 (eI v a.kind) (if a.kind=2 then a.n else 0) (De (De [] ([97,100,100,114,101,115,115]++u)) ([116,101,109,112,108,97,116,101,47]++(Bh a.kind).1));have h1:=Jp [] ([97,100,100,114,101,115,115]++u);have e:=Jp (De [] ([97,100,100,114,101,115,115]++u)) ([116,101,109,112,108,97,116,101,47]++(Bh a.kind).1);refine⟨h.1 (e.1 (h1.1 ⟨List.nodup_nil,oS⟩)),?_⟩;have:=h.2;have:=h1.2;have:=e.2;simp only[eh]at *;omega
 refine⟨?_,λr f=> ?_⟩
 .show(vQ v x.2).length<=_;unfold vQ;rw[dB];have:=P5 x.2;have:=d.2;omega
 .obtain⟨k,c,rfl⟩:=dm.1 f;exact d.1.2 k (((Cv x.2).2 k).1 c)
theorem jH{L:List Ap}{t:Ab}(h:t∈Dd L):∃a,Gv t=some a:=by unfold Dd at h;rw[(Cv _).2]at h;obtain⟨a,b,rfl⟩:=dm.1 h;exact⟨a,KL (jq.1 b).2⟩
def X7{L}{t:Ab}(h:t∈Dd L):t.length<=1000:=by unfold Dd at h;rw[(Cv _).2]at h;obtain⟨a,b,rfl⟩:=dm.1 h;have:=gG (jq.1 b).2;omega
section
variable{M:List Bq}{T:List (Ab × Ab)}(B:MB M T)
include B
def MB.all:QA 17 [.agg [.sl 8 ((M.map Bq.s).map ci),.sl 2 (T.map A4)]] (λr=>r=.sl 1 ((Dd (M.map Bq.s)).map str)):=by have G:=B.g;have:=K6 G;have:=K7 G;exact AbB (M.map Bq.s) (T.map A4) G.len G.ok G.tp G.eo om om (tY G) (λt a=>by obtain⟨s,b,_,h⟩:=Ub.1 a;have:=G.tn s b t h;omega) (λt a=>by obtain⟨s,b,_,rfl⟩:=Uc.1 a;have:=G.an s b;omega) G.en
def MB.ren(url:Ab)(b:url.length<=1000):QA 20 [.agg [.sl 8 ((M.map Bq.s).map ci),.sl 2 (T.map A4)],str url] (λr=>r=.a6 [Ll (vB (iY M T) url),num (if(uS (iY M T) url).isSome=true then 0 else 130)]):=by have h:=nG (url:=url) B.v AI b λa c=>BM b c;rw[<-Agf];exact h
def MB.rv(k:Ab)(a:k.length<=1000000):QA 12 [.agg [.sl 8 ((M.map Bq.s).map ci),.sl 2 (T.map A4)],str k] (λr=>r=str (iY M T k)):=by have h:=AbC M T B.g B.ok B.yn k a;rw[Nk]at h;simp only[iY,bn a];exact h
theorem AlY{u:Ab}(h:u∈Dd (M.map Bq.s)):iY M T ([97,100,100,114,101,115,115]++u)=[49]:=by have d:=X7 h;unfold iY;rw[bn (by simp only[dc,dg,eh];omega)];obtain⟨a,c⟩:=jH h;have b:∃t,u=47::t:=⟨_,((aC c).2.symm)⟩;obtain⟨t,rfl⟩:=b;unfold B0;rw[bn (by rfl)];exact bn h
theorem MB.has {url:Ab} (h:url∈Dd (M.map Bq.s)):∃x,uS (iY M T) url=some x:=by obtain⟨a,b⟩:=jH h;unfold uS Il;rw[b];simp only[AlY B h];exact⟨_,ar oS⟩
def Jb(M:List Bq)(T:List (Ab×Ab)):List Pg:=(Dd (M.map Bq.s)).map (vB (iY M T))
def MB.pages:QA 15 [.agg [.sl 8 ((M.map Bq.s).map ci),.sl 2 (T.map A4)]] (λr=>r=.sl 3 ((Jb M T).map Ll)):=by
 have o:=B.all;have b:=λurl q=>B.ren url q;have hlen:=Qf B.g;have c:=λt (u:t∈Dd (M.map Bq.s))=>X7 u;refine Aa.lf (R:=λr=>r=.own 43 3 ((Jb M T).map Ll)) ?_ (λr h=>⟨_,by rw[h];exact dy _ _ _,rfl,rfl⟩);unfold Jb;generalize Dd (M.map Bq.s)=all at *;generalize iY M T=val at *;generalize (M.map Bq.s).map ci=SA at *;generalize T.map A4=TA at *;refine ai (G7 [] [6] [] func15 ?_) ⟨_,rfl⟩;refine Z0 ?_;refine Zh o ?_;refine Ad (rl [6,24]) [3,5] (λm k l=>l=[]/\∃j:Nat,j+m=all.length/\k=[.own 43 3 (((all.take j).map (vB val)).map Ll),num j]) ⟨all.length,_,_,⟨rfl,0,om,rfl⟩,?_⟩ ?_
 .simp only[PU,gx,db];exact hent (aa _) Zv
 .rintro m k l ⟨rfl,j,v,rfl⟩;simp only[PU];by_cases f:j<all.length;rotate_left
  .have e:=eU j all.length;refine Z1 e ?_;rw[Are om];exact Zx
  have e:=eT j all.length;obtain⟨x,hx,w⟩:=Bj f;have d:=Cd hx;have n:=wS j;have b:=b x (c x (cu hx));have a:((all.take (j+1)).map (vB val)).map Ll=((all.take j).map (vB val)).map Ll++[Ll (vB val x)]:=by rw[fc,hx];simp
  have i:(all.take j).length=j:=by simp;omega
  refine Z3 e d n ?_;generalize (if(uS val x).isSome=true then(0:Int)else 130)=N at b;generalize vB val x=p at b a;simp only[Ll,num,str]at b;refine eF b3 Dc Cl (λ_=>True) (λ_:Unit=>[(0,17,.agg [.sl 8 SA,.sl 2 TA]),(1,18,.sl 1 (all.map str)),(2,19,num j),(3,20,.elt (str x)),(4,21,str x),(5,22,.a6 [Ll p,num N]),(6,16,.a6 [Ll p,num N]),(7,23,Ll p),(8,24,num N),(9,6,.box 43 [str [],str [],.nil]),(10,6,.box 43 [str p.ad,str p.tx,.sl 2 (p.rd.map jm)]),(11,7,num N)]) [(0,[],[]),(1,[],[]),(2,[],[]),(3,[1,2],[]),(4,[3],[]),(6,[5],[]),(7,[6],[]),(8,[6],[]),(9,[],[10]),(10,[9,7],[]),(11,[8],[]),(5,[0,4],[])] () trivial oK (λ_=>rfl) pM (by rfl) ?_ ?_
  .simp only[Sk,Ll,str];exact⟨Dt,Dt,Dt,Dt,Dt,Dt,Dt,Dt,Dt,Dt,Dt,Sl b,trivial⟩
  .intro x hx;simp only[cond_true,Ll,num,str]at a⊢;refine Z4 e d n i ?_;rw[<-a];exact Zm (m-1) ⟨rfl,j+1,om,rfl⟩
end
def Aqp:QA 21 [.sl 3 [],.agg [.sl 8 [],.sl 2 []]] (λr=>r=.a6 [.sl 1 [str [47],str [47,109,97,112]],.sl 1 []]):=
 nM [] oD oS Age [] oK oS (λx=>by simp[B4]) (λx=>by simp[B4])
def Aqq:QA 21 [.sl 3 [Ll p0,Ll p1],.agg [.sl 8 [],.sl 2 []]] (λr=>r=.a6 [.sl 1 [],.sl 1 []]):=by
 refine nM [p0,p1] oD (λp b=> ?_) [] [] oS oS (λx=> ?_) (λx=> ?_)
 .simp only[e9,lv,or_false]at b;rcases b with rfl|rfl
  .exact H_
  .exact HP
 .have a:p0.ad=[47]:=rfl;have h1:p1.ad=[47,109,97,112]:=rfl;have f:Ca Jq p0.rd=true:=Mt k0;have f1:Ca Jq p1.rd=true:=Mt k1;simp[B4,K9,a,h1,f,f1];all_goals exact λh n=>h.resolve_right n
 .have a:p0.ad=[47]:=rfl;have h1:p1.ad=[47,109,97,112]:=rfl;simp[B4,K9,a,h1]
def Aqr:QA 21 [.sl 3 [Ll p1,Ll p0,Ll pS],.agg [.sl 8 [],.sl 2 []]] (λr=>r=.a6 [.sl 1 [],.sl 1 [str [47,115,116,111,114,121,47,49,47,101,110]]]):=by
 refine nM [p1,p0,pS] oD (λp b=> ?_) [] [[47,115,116,111,114,121,47,49,47,101,110]] oS oS (λx=> ?_) (λx=> ?_)
 .simp only[e9,lv,or_false]at b;rcases b with rfl|rfl|rfl
  .exact HP
  .exact H_
  .exact pkS
 .have h:p0.ad=[47]:=rfl;have h1:p1.ad=[47,109,97,112]:=rfl;have a:pS.ad=[47,115,116,111,114,121,47,49,47,101,110]:=rfl;have f:Ca Jq p0.rd=true:=Mt k0;have f1:Ca Jq p1.rd=true:=Mt k1;simp[B4,K9,h,h1,a,f,f1];exact Ah6
 .have h:p0.ad=[47]:=rfl;have h1:p1.ad=[47,109,97,112]:=rfl;have a:pS.ad=[47,115,116,111,114,121,47,49,47,101,110]:=rfl;simp[B4,K9,h,h1,a]
def Aqs:∃E:Ξ,QA 21 [.sl 3 [Ll pO,Ll p1],.agg [.sl 8 [],.sl 2 []]] (λr=>r=.a6 [.sl 1 [str [47]],.sl 1 (E.map str)]):=by
 refine⟨[],nM [pO,p1] oD (λp a=> ?_) [[47]] [] oS oS (λx=> ?_) (λx=> ?_)⟩
 .simp only[e9,lv,or_false]at a;rcases a with rfl|rfl
  .exact vP
  .exact HP
 .have h:pO.ad=[47]:=rfl;have h1:p1.ad=[47,109,97,112]:=rfl;have f1:Ca Jq p1.rd=true:=Mt k1;have f:=GL;simp[B4,K9,h,h1,f,f1];exact Ah6
 .have h:pO.ad=[47]:=rfl;have h1:p1.ad=[47,109,97,112]:=rfl;simp[B4,K9,h,h1]
def Aqt:QA 23 [.sl 3 [Ll pO,Ll pO,Ll p1],str [116,111,112,105,99,115]] (λr=>∃D:Ξ,r=.own 9 1 (D.map str)/\D[0]? =some [47]):=by
 refine Aa.mono (AlU [pO,pO,p1] [116,111,112,105,99,115] oD (λp h=> ?_)) ?_
 .simp only[e9,lv,or_false]at h;rcases h with rfl|rfl|rfl
  .exact vP.1
  .exact vP.1
  .exact HP.1
 .rintro r ⟨D,rfl,h1,a⟩;refine⟨D,rfl,?_⟩;have b:[47]∈D:=(a _).2 (by simp[Ms,pO])
  have c:∀x∈D,x=[47]\/x=[47,109,97,112]:=λx d=>by
   have:=(a x).1 d;rw[dm]at this;obtain⟨p,h,rfl⟩:=this;have h:=(jq.1 h).1;simp only[e9,lv,or_false]at h;rcases h with rfl|rfl|rfl
   .exact J1
   .exact J1
   .exact .inr rfl
  cases D with
  |nil=>simp at b
  |cons y D=>
   rw[mh]at h1;show some y=some [47];rcases c y oS with rfl|rfl
   .rfl
   .rcases e9.1 b with e|e
    .exact cw e oD
    .exact cw (h1.1 _ e) oK
theorem AoS{a b:AV}{x y:Φ}(h:Wk x y):Wk (.agg [a,b,.nil]::x) (.agg [a,b,.sl 2 []]::y):=Oh (.same (.same (B7 .nil))) h
def Aqu:QA 19 [.agg [str [],str [],.sl 2 []],.agg [.sl 8 [],.sl 2 []]] (λr=>r=Af true):=
 GJ cS ⟨[],[],[]⟩ oD oD
def Aqv:QA 19 [Ll pO,.agg [.sl 8 [],.sl 2 []]] (λr=>r=Af false):=by have h:=GJ cS pO vP.1 vP.2;rw[GL]at h;exact h
def Aqw:QA 48 [.sl 1 [str [47],str [47,109,97,112]],.sl 1 [str [47],str [47,109,97,112]]] (λr=>r=Af true):=nJ [[47],[47,109,97,112]] [[47],[47,109,97,112]] oD oD
def Aqx:QA 48 [.sl 1 [str [47,115,116,111,114,121,47,49,47,101,110]],.sl 1 [str [47,115,116,111,114,121,47,49,47,101,110]]] (λr=>r=Af true):=nJ [[47,115,116,111,114,121,47,49,47,101,110]] [[47,115,116,111,114,121,47,49,47,101,110]] oD oD
def Aqy:QA 48 [.sl 1 [str [47]],.sl 1 [str [47]]] (λr=>r=Af true):=nJ [[47]] [[47]] oD oD
theorem wV:QA 13 [] (λr=>r=Af true):=by
 have e:((0:Int)<((0:Nat):Int))=False:=bd oD;refine ai (Zt [] [6] [] func13 ?_) ⟨_,rfl⟩;refine HC.wk (ae (Aqp) ?_) ?_;rotate_left
 .exact CR
 rintro r rfl;refine Zn ?_;refine HC.wk (ae (AlV) ?_) ?_;rotate_left
 .exact CR
 rintro r rfl;try simp only[Ll,num,str,Af]
 refine Zu ?_;refine HC.wk (ae (AlW) ?_) ?_;rotate_left
 .exact CR
 rintro r rfl;try simp only[Ll,num,str,Af]
 refine Zu ?_;refine HC.wk (ae (Aqq) ?_) ?_;rotate_left
 .exact CR
 rintro r rfl;refine Zn ?_;refine Kh (cs1:= ?c1) (cs2:= ?c2) b3 Dc 3 ?e1 ?e2 ?h1
 case e1=>rfl
 case e2=>rfl
 simp only[py,qx,qw];simp only[go_sem];refine Zu ?_;apply Qb
 .repeat first|exact fb|apply AoS|apply c9
 refine Zu ?_;refine HC.wk (ae (Aqr) ?_) ?_;rotate_left
 .try simp only[num,str,Ll,db,pS,jm]
  exact Zw
 rintro r rfl;refine Zn ?_;obtain⟨E,a⟩:=Aqs;refine HC.wk (ae (a) ?_) ?_;rotate_left
 .exact PM
 rintro r rfl;refine Zn ?_;refine HC.wk (ae (Aqt) ?_) ?_;rotate_left
 .exact PM
 rintro r ⟨D,rfl,h⟩
 obtain⟨d,rfl⟩:∃d,D=[47]::d:=by
  cases D with
  |nil=>simp at h
  |cons y d=>simp at h;exact⟨d,by rw[h]⟩
 have b:((0:Int)<((d.length+1:Nat):Int))=True:=bc om;try simp only[num,str,Af]
 repeat' first|apply Aq.on<;>intro _|refine gD ?_|simp only[go_sem,e]
 refine HC.wk (ae (Aqw) ?_) ?_;rotate_left
 .try simp only[str]
  exact Zw
 rintro r rfl;try simp only[num,str,Af]
 repeat' first|apply Aq.on<;>intro _|refine gD ?_|simp only[go_sem,e]
 refine HC.wk (ae (Aqx) ?_) ?_;rotate_left
 .try simp only[str]
  exact Zw
 rintro r rfl;try simp only[num,str,Af]
 repeat' first|apply Aq.on<;>intro _|refine gD ?_|simp only[go_sem,e]
 refine HC.wk (ae (Aqy) ?_) ?_;rotate_left
 .try simp only[str]
  exact Zw
 rintro r rfl;refine Zn ?_;refine HC.wk (ae (Aqu) ?_) ?_;rotate_left
 .try simp only[str]
  exact Zw
 rintro r rfl;refine Zn ?_;refine HC.wk (ae (Aqv) ?_) ?_;rotate_left
 .exact PM
 rintro r rfl;refine Zn ?_;exact cZ
def fi(c:Int)(n:Nat):Nat:=(if c<0 then -(c+1)else c).toNat % n
theorem E8(c:Int){n:Nat}(h:0<n):fi c n<n:=Nat.mod_lt _ h
theorem jI(x:Int):Db (i64.wrap x):=by unfold Db;rw[IntKind.wrap_i64];omega
theorem Acg(x:Int):∃d:UInt8,IntKind.u8.wrap x=((d.toNat:Nat):Int):=by refine⟨UInt8.ofNat (IntKind.u8.wrap x).toNat,?_⟩;rw[UInt8.toNat_ofNat',IntKind.wrap_u8];omega
theorem Gf(a:Int)(h:Db a)(n:Nat)(i:0<n)(b:n<=1000000):QA 22 [num a,num n] (λr=>r=num (fi a n:Nat)):=by
 obtain⟨h1,j⟩:=h;refine G6 [] func22 ⟨_,rfl⟩ ?_;have c:¬(n:Int)=0:=om;by_cases h:a<0
 .have e:=bc h;have d:i64.wrap (a+1)=a+1:=Aw om om;have f:i64.wrap (0-(a+1))= -(a+1):=by rw[Aw om om];omega
  have g:=L5 (x:= -(a+1)) (n:=n) om;refine Zu ?_;simp only[fi,e,if_true]
 have e:=bd h;have g:=L5 (x:=a) (n:=n) om;refine Zu ?_;simp only[fi,e,if_false]
theorem BP(a:Int)(b:Db a):QA 165 [num a] (λr=>∃s:Ab,s.length=9/\r=str s):=by have h:=b;obtain⟨h1,g⟩:=h;refine Zs [] func165 ⟨str (List.replicate 9 0),_,oS,rfl⟩ ?_;refine(Gf a b 26 om om).mono ?_;rintro r rfl;simp only[num];have i:=E8 a (n:=26) om;have c:=E8 (i64.wrap (a.tdiv 26)) (n:=26) om;obtain⟨d,j⟩:∃d:UInt8,IntKind.u8.wrap (i64.wrap (97+(fi a 26:Nat)))=((d.toNat:Nat):Int):=Acg _;obtain⟨e,k⟩:∃d:UInt8,IntKind.u8.wrap (i64.wrap (97+(fi (i64.wrap (a.tdiv 26)) 26:Nat)))=((d.toNat:Nat):Int):=Acg _;have f:[AV.raw (.int .u8 ((d.toNat:Nat):Int)),.raw (.int .u8 ((e.toNat:Nat):Int))].map view=Aj [d,e]:=rfl;refine Zu ?_;refine Za (Gf (i64.wrap (a.tdiv 26)) (jI _) 26 om om) ?_;exact⟨[87,111,114,100,115,32]++[d,e]++[46],rfl,oS⟩
theorem AlZ{l:List Ξ}{j:Nat}{x:Ξ}(h:l[j]? =some x):(l.map λy=>AV.sl 1 (y.map str)).getD j .any=.sl 1 (x.map str):=by simp[h]
theorem BQ(i:Nat)(hi:i<=100)(a b c d e:Int)(ha:Db a)(U:Db b)(V:Db c)(N:Db d)(he:Db e):QA 166 [num i,.agg [num a,num b,num c,num d,num e]] (λr=>∃f:Fc,r=Qd f/\N3 f/\f.st=0):=by
 have C:=wS i;refine ai (G7 [(1000008,[],[]),(1000012,[],[])] [1,2] [(7,[],[0,2,3,2001,4],[],[3005]),(9,[69,75,10003],[0,1,2,4,8,1003,5,1009],[2006,7],[3010,11,3012,3013])] func166 ?_) ⟨_,⟨0,0,0,0,[],0,0,[],[],[],[],0,[],0,0,0,0,0,[],[],0,0,0⟩,rfl,⟨oS,oS,oS,oS,oS,oS,oS,oS⟩,rfl⟩;refine Z0 ?_;refine Kh (cs1:= ?c1) (cs2:= ?c2) b3 Dc 4 ?e1 ?e2 ?h1
 case e1=>rfl
 case e2=>rfl
 simp only[py,qx,qw];simp only[go_sem];refine Z0 ?_;apply Qb
 .exact CK
 have p1:=Gf c V 3 om om;have W:=Gf d N (i+1) om om;have X:=Gf d N 2 om om;have Y:=Gf e he 4 om om;have E:=E8 c (n:=3) om;have F:=E8 d (n:=2) om;have G:=E8 e (n:=4) om;generalize fi c 3=k1 at E p1;generalize fi d (i+1)=k2 at W;generalize fi d 2=k3 at F X;generalize fi e 4=k4 at G Y;obtain⟨v,H,_⟩:=Bj (show k1<([[101,110],[101,110],[100,101]]:Ξ).length from E);have hg1:([.raw (.string ⟨#[101,110]⟩),.raw (.string ⟨#[101,110]⟩),.raw (.string ⟨#[100,101]⟩)]:Φ).getD k1 .any=.raw (.string ⟨v.toArray⟩):=Cd H;have O:v.length<=20:=(by decide:∀y∈([[101,110],[101,110],[100,101]]:Ξ),y.length<=20) _ (cu H);obtain⟨o,I,_⟩:=Bj (show k3<([[97,110,110],[98,111,98]]:Ξ).length from F);have hg3:([.raw (.string ⟨#[97,110,110]⟩),.raw (.string ⟨#[98,111,98]⟩)]:Φ).getD k3 .any=.raw (.string ⟨o.toArray⟩):=Cd I;have hl3:o.length<=20:=(by decide:∀y∈([[97,110,110],[98,111,98]]:Ξ),y.length<=20) _ (cu I);obtain⟨p,J,_⟩:=Bj (show k4<([[[99,105,116,121]],[[114,97,105,110]],[[99,105,116,121],[114,97,105,110]],[]]:List Ξ).length from G);have hg4:([.sl 1 [.raw (.string ⟨#[99,105,116,121]⟩)],.sl 1 [.raw (.string ⟨#[114,97,105,110]⟩)],.sl 1 [.raw (.string ⟨#[99,105,116,121]⟩),.raw (.string ⟨#[114,97,105,110]⟩)],.sl 1 []]:Φ).getD k4 .any=.sl 1 (p.map str):=AlZ J;have L:p.length<=10/\∀t∈p,t.length<=20:=(by decide:∀y∈([[[99,105,116,121]],[[114,97,105,110]],[[99,105,116,121],[114,97,105,110]],[]]:List Ξ),y.length<=10/\∀t∈y,t.length<=20) _ (cu J);refine Z1 C ?_;refine eF b3 Dc Cl (λw:Ab=>w.length=9) (λw=>[(0,14,.own 9 1 [str [101,110],str [101,110],str [100,101]]),(1,15,.ref 3 2),(2,16,num c),(3,17,num k1),(4,18,.elt (str v)),(5,19,str v),(6,20,num i),(7,21,num (i+1:Nat)),(8,22,.ref 3 3),(9,23,num d),(10,24,num i),(11,25,num (i+1:Nat)),(12,26,num k2),(13,27,.ref 3 3),(14,28,num d),(15,29,str w),(16,30,.own 9 1 [str [97,110,110],str [98,111,98]]),(17,31,.ref 3 3),(18,32,num d),(19,33,num k3),(20,34,.elt (str o)),(21,35,str o),(22,5,.sl 1 ([[[99,105,116,121]],[[114,97,105,110]],[[99,105,116,121],[114,97,105,110]],[]].map λl:Ξ=>.sl 1 (l.map str))),(22,36,.own 38 1 ([[[99,105,116,121]],[[114,97,105,110]],[[99,105,116,121],[114,97,105,110]],[]].map λl:Ξ=>.sl 1 (l.map str))),(23,37,.ref 3 4),(24,38,num e),(25,39,num k4),(26,40,.elt (.sl 1 (p.map str))),(27,41,.sl 1 (p.map str)),(28,42,.agg [num 0,num 0,num 1,num 0,str v,num (i+1:Nat),num k2,str w,str o,.sl 1 (p.map str),.nil,num 0,.nil,num 0,num 0,num 0,num 0,num 0,str [],str [],num 0,num 0,num 0]),(29,6,.box 67 [num 0,num 0,num 0,num 0,str [],num 0,num 0,str [],str [],.nil,.nil,num 0,.nil,num 0,num 0,num 0,num 0,num 0,str [],str [],num 0,num 0,num 0]),(30,6,.box 67 [num 0,num 0,num 1,num 0,str v,num (i+1:Nat),num k2,str w,str o,.sl 1 (p.map str),.nil,num 0,.nil,num 0,num 0,num 0,num 0,num 0,str [],str [],num 0,num 0,num 0])]) [(0,[],[]),(1,[],[]),(2,[1],[]),(4,[0,3],[]),(5,[4],[]),(6,[],[]),(7,[6],[]),(8,[],[]),(9,[8],[]),(10,[],[]),(11,[10],[]),(13,[],[]),(14,[13],[]),(16,[],[]),(17,[],[]),(18,[17],[]),(20,[16,19],[]),(21,[20],[]),(22,[],[]),(23,[],[]),(24,[23],[]),(26,[22,25],[]),(27,[26],[]),(28,[5,7,12,15,21,27],[]),(29,[],[30]),(30,[29,28],[]),(3,[2],[]),(12,[9,11],[]),(19,[18],[]),(25,[24],[]),(15,[14],[28,30])] (List.replicate 9 0) oS oK (λ_=>rfl) pM (by rfl) ?_ ?_
 .simp only[Sk];refine⟨Dt,Dt,Dt,Dt,Dt,Dt,Dt,Dt,Dt,Dt,Dt,Dt,Dt,Dt,Dt,Dt,Dt,Dt,Dt,Dt,Dt,Dt,Dt,Dt,Dt,Dt,Sl p1,Sl W,Sl X,Sl Y,?_,trivial⟩;simp only[kC,List.getElem?_toArray,aw,ba,s5];intro D x hx h0
  intros
  generalize hK:pL _ _ _ _ _=K;repeat' first|apply Aq.on<;>intro _|refine gD ?_|simp only[go_sem, *]
  refine ae (BP d N) ?_;rintro r ⟨w,Z,rfl⟩;simp only[go_sem,str, *];rw[<-hK];exact DH w Z (by simp only[KK,Nat.reduceBEq,cond_true,cond_false, *])
 intro P hti;simp only[cond_true];refine Z0 ?_;refine Ad (rl [1,2,2,1,2,84]) [6,7] (λm z A=>A=[]/\∃(j:Nat) (u:List Bk),j+m=4/\u.length<=j/\(∀b∈u,b.tx.length<=9/\b.af.length<=9)/\z=[.box 67 [num 0,num 0,num 1,num 0,str v,num ((i+1:Nat):Int),num k2,str P,str o,.sl 1 (p.map str),.own 77 9 (u.map b8),num 0,.sl 1 [],num 0,num 0,num 0,num 0,num 0,str [],str [],num 0,num 0,num 0],num j]) ⟨4,_,_,⟨rfl,0,[],om,oS,oS,rfl⟩,hent (aa _) ?_⟩ ?_
 .simp only[db];simp only[PU];try simp only[num,str]
  exact Gq
 rintro m z A ⟨rfl,j,u,hm,hbl,M,rfl⟩;simp only[PU];simp only[str];have hj4:(j:Int)<=4:=om;refine Z1 C ?_;refine ae (Gf (i64.wrap (e.tdiv 4)) (jI _) 4 om om) ?_;rintro r rfl;simp only[num];have Q:=E8 (i64.wrap (e.tdiv 4)) (n:=4) om;generalize fi (i64.wrap (e.tdiv 4)) 4=kp at Q⊢;rcases cq j kp with hlt|hge;rotate_left
 .have B:=eU j kp;refine Z1 B ?_;refine⟨Qd ⟨0,0,1,0,v,((i+1:Nat):Int),k2,P,o,p,u,0,[],0,0,0,0,0,[],[],0,0,0⟩,_,W1.agg ?_,rfl,aa _,rfl,_,rfl,⟨?_,?_,?_,?_,?_,?_,?_,?_⟩,rfl⟩
  .simp only[num,str,Ar,db];exact Gq
  .show u.length<=4;omega
  .exact λb U=>by have:=M b U;omega
  .exact L.1
  .exact λt ht=>by have:=L.2 t ht;omega
  .exact O
  .show P.length<=20;omega
  .show o.length<=20;omega
  .exact gu _
 have B:=eT j kp;have g:=wS j;refine Wq (nA B g) ?_;refine ae (BP (i64.wrap (e+j)) (jI _)) ?_;rintro r ⟨w,Z,rfl⟩;simp only[str];repeat' first|apply Aq.on<;>intro _|refine gD ?_|simp only[go_sem,B,g]
 refine Bv (rl [1,2,2,1,3,83]) [8] (λz A=>A=[]/\∃b:Bk,b.tx.length<=9/\b.af.length<=9/\z=[.box 77 [num b.id,num b.kd,str b.tx,num b.so,num b.rf,num b.un,.sl 1 (Ar b.af),num b.ap,num b.de]]) ?_ ?_;rotate_left
 .rintro z A ⟨rfl,k,R,S,rfl⟩;simp only[PU];refine Z1 g ?_;have T:(u++[k]).map b8=u.map b8++[.agg [.raw (.int .i64 k.id),.raw (.int .i64 k.kd),.raw (.string ⟨k.tx.toArray⟩),.raw (.int .i64 k.so),.raw (.int .i64 k.rf),.raw (.int .i64 k.un),.sl 1 (Ar k.af),.raw (.int .i64 k.ap),.raw (.int .i64 k.de)]]:=by simp[b8,num,str]
  refine Am (m-1) _ _ om ⟨rfl,j+1,u++[k],om,by simp;omega,λy hy=>by
   rcases ff.1 hy with h|h
   .exact M y h
   .rw[ga]at h;subst h;exact⟨R,S⟩,rfl⟩ (hent (aa _) ?_)
  rw[T];simp only[PU];try simp only[num,str]
  exact Gq
 refine Wq (nA B g) ?_;refine Bv (rl [1,2,2,1,3,55,1,27]) [64] (λz A=>A=[]/\∃q:Nat,z=[num q]) ?_ ?_
 .refine Wq (nA B g) ?_;refine⟨(by decide+kernel:∀j:Nat,j<3->¬xy i64 16 (j:Int)=0) j om,?_⟩;refine ae (Gf (i64.wrap (e.tdiv (xy i64 16 ↑j))) (jI _) 4 om om) ?_;rintro r rfl;simp only[num];generalize fi (i64.wrap (e.tdiv (xy i64 16 ↑j))) 4=q0;refine Wq (nA B g) ?_;refine Bw _ [] ⟨rfl,q0,rfl⟩ (hent (aa _) ?_);simp only[PU];try simp only[num,str]
  exact Gq
 rintro z A ⟨rfl,q,rfl⟩;simp only[PU];try simp only[str]
 by_cases h0:q=0
 .have e0:=bc (show(q:Int)=0 by omega);refine Wq (nA e0 g) ?_;refine ae (Gf (i64.wrap (d+j)) (jI _) 3 om om) ?_;rintro r rfl;simp only[num];generalize fi (i64.wrap (d+j)) 3=q1;obtain⟨s1,hs1⟩:∃s,i64.wrap (1+(q1:Int))=s:=⟨_,rfl⟩;refine Zu ?_;refine ae (Gf c V 3 om om) ?_;rintro r rfl;simp only[num];generalize fi c 3=q2;obtain⟨s2,hs2⟩:∃s,i64.wrap (1+(q2:Int))=s:=⟨_,rfl⟩;refine Zu ?_;refine Bw _ [] ⟨rfl,⟨((j+1:Nat):Int),3,[],s1,s2,0,[],0,0⟩,oS,oS,rfl⟩ (hent (aa _) ?_);simp only[Ar,db];simp only[PU];try simp only[num,str]
  exact Gq
 have e0:=bd (show¬(q:Int)=0 by omega);by_cases h1:q=1
 .have e1:=bc (show(q:Int)=1 by omega);refine Zu ?_;refine Bw _ [] ⟨rfl,⟨((j+1:Nat):Int),5,[99,105,116,121],0,0,0,[],0,0⟩,oS,oS,rfl⟩ (hent (aa _) ?_);simp only[Ar,db];simp only[PU];try simp only[num,str]
  exact Gq
 have e1:=bd (show¬(q:Int)=1 by omega);refine Zu ?_;refine Bw _ [] ⟨rfl,⟨((j+1:Nat):Int),2,w,0,0,0,[],0,0⟩,by show w.length<=9;omega,oS,rfl⟩ (hent (aa _) ?_);simp only[Ar,db];simp only[PU];try simp only[num,str]
 exact Gq
theorem Ama(i:Nat)(R:i<=100)(a b c d e:Int)(J:Db a)(L:Db b)(S:Db c)(H:Db d)(I:Db e):QA 107 [num i,.agg [num a,num b,num c,num d,num e]] (λr=>∃f:Fc,r=Qd f/\N3 f/\Db f.st):=by
 have g:=wS i;refine ai (G7 [(1000006,[],[]),(1000017,[],[])] [16] [(10,[23,27,10003],[0,4,1001,1005],[2002,3],[3006,3007,3008])] func107 ?_) ⟨_,⟨0,0,0,0,[],0,0,[],[],[],[],0,[],0,0,0,0,0,[],[],0,0,0⟩,rfl,⟨oS,oS,oS,oS,oS,oS,oS,oS⟩,⟨oS,oS⟩⟩;refine Wq g ?_;refine Bv (rl [2,1,2,2,1,55]) [7] (λA B=>B=[]/\∃f:Fc,N3 f/\A=[.box 67 [num f.n,num f.tm,num f.kd,num f.st,str f.lg,num f.rv,num f.bs,str f.ti,str f.au,.sl 1 (f.tp.map str),.sl 9 (f.bl.map b8),num f.un,.sl 1 (Ar f.af),num f.ap,num f.de,num f.ed,num f.bk,num f.se,str f.tx,str f.nm,num f.pa,num f.cl,num f.ul]]) ?_ ?_;rotate_left
 .rintro A B ⟨rfl,f,k,rfl⟩;simp only[PU];refine Wq g ?_;refine ae (Gf b L 3 om om) ?_;rintro r rfl;simp only[num];obtain⟨F,t⟩:∃s,i64.wrap (1+(fi b 3:Int))=s:=⟨_,rfl⟩;have T:Db F:=by rw[<-t];exact jI _
  refine Z2 g t ?_;refine⟨_,_,bh _,rfl,aa _,rfl,{f with n:=((i+1:Nat):Int),st:=F},rfl,⟨k.bl,k.bk,k.tp,k.tn,k.lg,k.ti,k.au,k.tx⟩,T⟩
 refine Wq g ?_;refine Bv (rl [2,1,5,5,1,49]) [13] (λA B=>B=[]/\∃q:Nat,q<10/\A=[num q]) ?_ ?_
 .refine Wq g ?_;refine ae (Gf a J 10 om om) ?_;rintro r rfl;simp only[num];have m:=E8 a (n:=10) om;generalize fi a 10=q0 at m⊢;refine Wq g ?_;refine Bw _ [] ⟨rfl,q0,m,rfl⟩ (hent (aa _) ?_);simp only[PU];try simp only[num,str]
  exact Gq
 rintro A B ⟨rfl,q,hq,rfl⟩;simp only[PU];try simp only[str]
 rcases(by omega:q=0\/q=1\/q=6\/q=7\/q=8\/q=9\/(q≠0/\q≠1/\q≠6/\q≠7/\q≠8/\q≠9))with h|h|h|h|h|h|h
 .have l:=bc (show(q:Int)=0 by omega);refine Wq (nA l g) ?_;refine Bw _ [] ⟨rfl,⟨0,0,3,0,[],0,0,[],[],[],[],0,[],0,0,0,0,0,[],[],0,0,0⟩,⟨oS,oS,oS,oS,oS,oS,oS,oS⟩,rfl⟩ (hent (aa _) ?_);simp only[Ar,db];simp only[PU];try simp only[num,str]
  exact Gq
 .have l:=bd (show¬(q:Int)=0 by omega);have e1:=bc (show(q:Int)=1 by omega);refine Zu ?_;refine Bw _ [] ⟨rfl,⟨0,0,3,0,[],0,0,[],[],[],[],0,[],0,0,0,0,0,[],[],0,0,0⟩,⟨oS,oS,oS,oS,oS,oS,oS,oS⟩,rfl⟩ (hent (aa _) ?_);simp only[Ar,db];simp only[PU];try simp only[num,str]
  exact Gq
 .have l:=bd (show¬(q:Int)=0 by omega);have e1:=bd (show¬(q:Int)=1 by omega);have u:=bc (show(q:Int)=6 by omega);refine Zu ?_;refine ae (Gf d H 3 om om) ?_;rintro r rfl;simp only[num];have j:=E8 d (n:=3) om;generalize fi d 3=q1 at j⊢;obtain⟨F,t⟩:∃s,i64.wrap (1+(q1:Int))=s:=⟨_,rfl⟩;refine Zu ?_;refine ae (BP e I) ?_;rintro r ⟨w,V,rfl⟩;refine Zn ?_;refine Bw _ [] ⟨rfl,⟨0,0,4,0,[101,110],0,0,[],[],[],[],0,[],0,0,0,F,0,w,[],0,0,0⟩,⟨oS,oS,oS,oS,oS,oS,oS,by show w.length<=100;omega⟩,rfl⟩ (hent (aa _) ?_);simp only[Ar,db];simp only[PU];try simp only[num,str]
  exact Gq
 .have l:=bd (show¬(q:Int)=0 by omega);have e1:=bd (show¬(q:Int)=1 by omega);have u:=bd (show¬(q:Int)=6 by omega);have z:=bc (show(q:Int)=7 by omega);refine Zu ?_;refine Bw _ [] ⟨rfl,⟨0,0,5,0,[],0,0,[],[],[],[],0,[],0,0,0,0,0,[87,114,111,110,103,46],[],0,0,0⟩,⟨oS,oS,oS,oS,oS,oS,oS,oS⟩,rfl⟩ (hent (aa _) ?_);simp only[Ar,db];simp only[PU];try simp only[num,str]
  exact Gq
 .have l:=bd (show¬(q:Int)=0 by omega);have e1:=bd (show¬(q:Int)=1 by omega);have u:=bd (show¬(q:Int)=6 by omega);have z:=bd (show¬(q:Int)=7 by omega);have C:=bc (show(q:Int)=8 by omega);refine Zu ?_;refine Bw _ [] ⟨rfl,⟨0,0,6,0,[],0,0,[],[],[],[],0,[],0,0,0,0,0,[],[],0,0,0⟩,⟨oS,oS,oS,oS,oS,oS,oS,oS⟩,rfl⟩ (hent (aa _) ?_);simp only[Ar,db];simp only[PU];try simp only[num,str]
  exact Gq
 .have l:=bd (show¬(q:Int)=0 by omega);have e1:=bd (show¬(q:Int)=1 by omega);have u:=bd (show¬(q:Int)=6 by omega);have z:=bd (show¬(q:Int)=7 by omega);have C:=bd (show¬(q:Int)=8 by omega);have G:=bc (show(q:Int)=9 by omega);have p1:=Gf d H 7 om om;have M:=Gf e I 7 om om;have j:=E8 d (n:=7) om;have o:=E8 e (n:=7) om;generalize fi d 7=q1 at j p1;generalize fi e 7=q2 at o M;obtain⟨v,D,_⟩:=Bj (show q1<([[102,114,111,110,116],[115,116,111,114,121],[116,111,112,105,99],[97,117,116,104,111,114],[102,101,101,100],[109,97,112],[102,111,111,116]]:Ξ).length from j);have N:([.raw (.string ⟨#[102,114,111,110,116]⟩),.raw (.string ⟨#[115,116,111,114,121]⟩),.raw (.string ⟨#[116,111,112,105,99]⟩),.raw (.string ⟨#[97,117,116,104,111,114]⟩),.raw (.string ⟨#[102,101,101,100]⟩),.raw (.string ⟨#[109,97,112]⟩),.raw (.string ⟨#[102,111,111,116]⟩)]:Φ).getD q1 .any=.raw (.string ⟨v.toArray⟩):=Cd D;have O:v.length<=100:=(by decide:∀y∈([[102,114,111,110,116],[115,116,111,114,121],[116,111,112,105,99],[97,117,116,104,111,114],[102,101,101,100],[109,97,112],[102,111,111,116]]:Ξ),y.length<=100) _ (cu D);obtain⟨p,E,_⟩:=Bj (show q2<([[123,116,105,116,108,101,125,58,32,123,116,101,120,116,125],[123,102,111,114,32,108,97,116,101,115,116,32,34,114,97,105,110,34,32,51,125,123,116,105,116,108,101,125,123,101,110,100,125],[123,102,111,114,32,108,97,116,101,115,116,32,50,125,123,116,105,116,108,101,125,44,123,101,110,100,125,123,105,110,99,108,117,100,101,32,102,111,111,116,125],[123,105,102,32,114,101,116,114,97,99,116,101,100,125,120,123,101,108,115,101,125,123,97,117,116,104,111,114,125,123,101,110,100,125],[101,110,100],[123,102,111,114,32,114,101,108,97,116,101,100,32,50,125,123,116,105,116,108,101,124,117,112,112,101,114,125,123,101,110,100,125],[123,111,111,112,115]]:Ξ).length from o);have P:([.raw (.string ⟨#[123,116,105,116,108,101,125,58,32,123,116,101,120,116,125]⟩),.raw (.string ⟨#[123,102,111,114,32,108,97,116,101,115,116,32,34,114,97,105,110,34,32,51,125,123,116,105,116,108,101,125,123,101,110,100,125]⟩),.raw (.string ⟨#[123,102,111,114,32,108,97,116,101,115,116,32,50,125,123,116,105,116,108,101,125,44,123,101,110,100,125,123,105,110,99,108,117,100,101,32,102,111,111,116,125]⟩),.raw (.string ⟨#[123,105,102,32,114,101,116,114,97,99,116,101,100,125,120,123,101,108,115,101,125,123,97,117,116,104,111,114,125,123,101,110,100,125]⟩),.raw (.string ⟨#[101,110,100]⟩),.raw (.string ⟨#[123,102,111,114,32,114,101,108,97,116,101,100,32,50,125,123,116,105,116,108,101,124,117,112,112,101,114,125,123,101,110,100,125]⟩),.raw (.string ⟨#[123,111,111,112,115]⟩)]:Φ).getD q2 .any=.raw (.string ⟨p.toArray⟩):=Cd E
  have Q:p.length<=100:=(by decide:∀y∈([[123,116,105,116,108,101,125,58,32,123,116,101,120,116,125],[123,102,111,114,32,108,97,116,101,115,116,32,34,114,97,105,110,34,32,51,125,123,116,105,116,108,101,125,123,101,110,100,125],[123,102,111,114,32,108,97,116,101,115,116,32,50,125,123,116,105,116,108,101,125,44,123,101,110,100,125,123,105,110,99,108,117,100,101,32,102,111,111,116,125],[123,105,102,32,114,101,116,114,97,99,116,101,100,125,120,123,101,108,115,101,125,123,97,117,116,104,111,114,125,123,101,110,100,125],[101,110,100],[123,102,111,114,32,114,101,108,97,116,101,100,32,50,125,123,116,105,116,108,101,124,117,112,112,101,114,125,123,101,110,100,125],[123,111,111,112,115]]:Ξ),y.length<=100) _ (cu E);refine Z7 l e1 u z C G g ?_;clear h;refine eF b3 Dc Cl (λ_=>True) (λ_:Unit=>[(0,39,num i),(1,40,num (i+1:Nat)),(2,5,.sl 1 ([[102,114,111,110,116],[115,116,111,114,121],[116,111,112,105,99],[97,117,116,104,111,114],[102,101,101,100],[109,97,112],[102,111,111,116]].map str)),(2,41,.own 9 1 ([[102,114,111,110,116],[115,116,111,114,121],[116,111,112,105,99],[97,117,116,104,111,114],[102,101,101,100],[109,97,112],[102,111,111,116]].map str)),(3,42,.ref 3 3),(4,43,num d),(5,44,num q1),(6,45,.elt (str v)),(7,46,str v),(8,6,.sl 1 ([[123,116,105,116,108,101,125,58,32,123,116,101,120,116,125],[123,102,111,114,32,108,97,116,101,115,116,32,34,114,97,105,110,34,32,51,125,123,116,105,116,108,101,125,123,101,110,100,125],[123,102,111,114,32,108,97,116,101,115,116,32,50,125,123,116,105,116,108,101,125,44,123,101,110,100,125,123,105,110,99,108,117,100,101,32,102,111,111,116,125],[123,105,102,32,114,101,116,114,97,99,116,101,100,125,120,123,101,108,115,101,125,123,97,117,116,104,111,114,125,123,101,110,100,125],[101,110,100],[123,102,111,114,32,114,101,108,97,116,101,100,32,50,125,123,116,105,116,108,101,124,117,112,112,101,114,125,123,101,110,100,125],[123,111,111,112,115]].map str)),(8,47,.own 9 1 ([[123,116,105,116,108,101,125,58,32,123,116,101,120,116,125],[123,102,111,114,32,108,97,116,101,115,116,32,34,114,97,105,110,34,32,51,125,123,116,105,116,108,101,125,123,101,110,100,125],[123,102,111,114,32,108,97,116,101,115,116,32,50,125,123,116,105,116,108,101,125,44,123,101,110,100,125,123,105,110,99,108,117,100,101,32,102,111,111,116,125],[123,105,102,32,114,101,116,114,97,99,116,101,100,125,120,123,101,108,115,101,125,123,97,117,116,104,111,114,125,123,101,110,100,125],[101,110,100],[123,102,111,114,32,114,101,108,97,116,101,100,32,50,125,123,116,105,116,108,101,124,117,112,112,101,114,125,123,101,110,100,125],[123,111,111,112,115]].map str)),(9,48,.ref 3 4),(10,49,num e),(11,50,num q2),(12,51,.elt (str p)),(13,52,str p),(14,53,.agg [num (i+1:Nat),num 0,num 7,num 0,str [],num 0,num 0,str [],str [],.nil,.nil,num 0,.nil,num 0,num 0,num 0,num 0,num 0,str p,str v,num 0,num 0,num 0]),(15,4,.box 67 [num (i+1:Nat),num 0,num 7,num 0,str [],num 0,num 0,str [],str [],.nil,.nil,num 0,.nil,num 0,num 0,num 0,num 0,num 0,str p,str v,num 0,num 0,num 0])]) [(0,[],[]),(1,[0],[]),(2,[],[]),(3,[],[]),(4,[3],[]),(6,[2,5],[]),(7,[6],[]),(8,[],[]),(9,[],[]),(10,[9],[]),(12,[8,11],[]),(13,[12],[]),(14,[1,7,13],[]),(15,[14],[]),(5,[4],[]),(11,[10],[])] () trivial oK (λ_=>rfl) pM (by rfl) ?_ ?_
  .simp only[Sk];exact⟨Dt,Dt,Dt,Dt,Dt,Dt,Dt,Dt,Dt,Dt,Dt,Dt,Dt,Dt,Sl p1,Sl M,trivial⟩
  intro x hx;simp only[cond_true];refine Z0 ?_;refine⟨Qd ⟨((i+1:Nat):Int),0,7,0,[],0,0,[],[],[],[],0,[],0,0,0,0,0,p,v,0,0,0⟩,_,W1.agg ?_,rfl,aa _,rfl,_,rfl,⟨oS,oS,oS,oS,oS,oS,oS,by show p.length<=100;omega⟩,⟨oS,oS⟩⟩;simp only[num,str,Ar,db];exact Gq
 .have l:=bd (show¬(q:Int)=0 by omega);have e1:=bd (show¬(q:Int)=1 by omega);have u:=bd (show¬(q:Int)=6 by omega);have z:=bd (show¬(q:Int)=7 by omega);have C:=bd (show¬(q:Int)=8 by omega);have G:=bd (show¬(q:Int)=9 by omega);refine Z7 l e1 u z C G g ?_;refine ae (BQ i R a b c d e J L S H I) ?_;rintro r ⟨f,rfl,k,U⟩;simp only[Qd,num,str];refine Z7 l e1 u z C G g ?_;refine Bw _ [] ⟨rfl,f,k,rfl⟩ (hent (aa _) ?_);simp only[Ar,db];simp only[PU];try simp only[num,str]
  exact Gq
structure X5 where
 a:Int
 b:Int
 c:Int
 d:Int
 e:Int
def xA(x:X5):AV:=.agg [num x.a,num x.b,num x.c,num x.d,num x.e]
def HR(x:X5):Prop:=Db x.a/\Db x.b/\Db x.c/\Db x.d/\Db x.e
def Aqz{l:List X5}{j:Nat}{x:X5}(h:l[j]? =some x):(l.map xA).getD j .any=.agg [.raw (.int .i64 x.a),.raw (.int .i64 x.b),.raw (.int .i64 x.c),.raw (.int .i64 x.d),.raw (.int .i64 x.e)]:=by simp[h,xA,num]
theorem Agg(l:List X5)(K:l.length<=9223372036854775807)(z:∀x∈l,HR x):QA 49 [.sl 5 (l.map xA)] (λr=>∃f:List Fc,r=.own 67 23 (f.map Qd)/\f.length<=16/\∀x∈f,N3 x/\Db x.st):=by
 refine Zs [] func49 ⟨_,[],rfl,oS,oS⟩ ?_;refine Ak (rl [1,1,3,20]) [3,4] (λn u=>∃(j:Nat) (f:List Fc),j<=l.length/\j+n=l.length/\f.length<=j/\f.length<=16/\(∀x∈f,N3 x/\Db x.st)/\u=[.own 67 23 (f.map Qd),num j]) ⟨l.length,_,⟨0,[],om,om,oS,oS,oS,rfl⟩,?_⟩ ?_
 .simp only[PU];simp only[db];exact Gq
 .rintro n u ⟨j,f,A,L,B,m,i,rfl⟩;simp only[PU];by_cases k:j<l.length/\j<16;rotate_left
  .have v:∃f:List Fc,(AV.own 67 23 (f.map Qd))=.own 67 23 (f.map Qd):=⟨f,rfl⟩;by_cases h1:j<l.length
   .have q:=bc (show(j:Int)<(l.length:Int) by omega);have w:=bd (show¬(j:Int)<16 by omega);refine Wq (nA q w) ?_;exact⟨f,rfl,m,i⟩
   have q:=eU j l.length;refine Zu ?_;exact⟨f,rfl,m,i⟩
  obtain⟨k,M⟩:=k;have q:=bc (show(j:Int)<(l.length:Int) by omega);have w:=bc (show(j:Int)<16 by omega);obtain⟨x,o,C⟩:=Bj k;have D:=Aqz o;have N:=wS j;obtain⟨E,F,G,H,I⟩:=z x (cu o);refine Zu ?_;refine(Ama j om x.a x.b x.c x.d x.e E F G H I).mono ?_;rintro r ⟨g,rfl,s,t⟩;have p:(f++[g]).map Qd=f.map Qd++[Qd g]:=oS;simp only[Qd,num,str]at p⊢;refine Zu ?_
  refine Av (n-1) _ om ⟨j+1,f++[g],om,om,by simp;omega,by simp;omega,λy J=>by
   rcases ff.1 J with h|h
   .exact i y h
   .rw[ga]at h;subst h;exact⟨s,t⟩,rfl⟩ ?_
  rw[p];exact Zw
def WA.le{n m:Nat}{L:List Ap}{T}(h:WA n L T)(a:n<=m):WA m L T:=⟨cp h.len a,h.st,cp h.tl a,h.tt⟩
theorem xh(l:List X5)(j:l.length<=9223372036854775807)(m:∀x∈l,HR x)(a:Int)(o:Db a):QA 14 [.sl 5 (l.map xA),num a] (λr=>∃(L:List Ap) (T:List (Ab×Ab)) (M:List Ap) (U:List (Ab×Ab)),r=.a6 [.agg [.sl 8 (L.map ci),.sl 2 (T.map A4)],.agg [.sl 8 (M.map ci),.sl 2 (U.map A4)]]/\WA 16 L T/\WA 16 M U):=by refine ai (Zt [] [] [] func14 ?_) ⟨_,[],[],[],[],rfl,⟨oS,oS,oS,oS⟩,⟨oS,oS,oS,oS⟩⟩;refine ae (Agg l j m) ?_;rintro r ⟨f,rfl,d,b⟩;have p:i64.wrap ((f.length:Int)+1)=((f.length+1:Nat):Int):=Da om;refine Zu ?_;refine ae (Gf a o (f.length+1) om om) ?_;rintro r rfl;simp only[num];have q:=E8 a (n:=f.length+1) om;generalize fi a (f.length+1)=k at q⊢;refine Zu ?_;have i:∀x∈f.take k,x∈f:=λx h=>i7 h;have c:=AiR (f.take k) (by simp;omega) (λx h=>(b x (i x h)).1) (λx h=>(b x (i x h)).2);rw[ol]at c;refine ae c ?_;rintro r ⟨L,T,rfl,e⟩;refine Zu ?_;refine ae (AiR f om (λx h=>(b x h).1) (λx h=>(b x h).2)) ?_;rintro r ⟨M,U,rfl,g⟩;refine Zu ?_;exact⟨_,_,bh _,rfl,aa _,rfl,L,T,M,U,rfl,e.le (by simp;omega),g.le d⟩
def cT{a}{P:List a->Prop}(l:List a)(b:P [])(h1:∀l x,P l->P (l++[x])):P l:=by
 have:∀m:List a,P m.reverse:=λm=>by
  induction m with
  |nil=>exact b
  |cons x m ih=>rw[List.reverse_cons];exact h1 _ _ ih
 have h:=this l.reverse;rwa [List.reverse_reverse]at h
def x6:∀{l m:Ξ},l.Nodup->(∀x∈l,x∈m)->l.length<=m.length
 |[],_,_,_=>gu _
 |a::l,m,h,hs=>by have c:=x6 (l:=l) (m:=m.erase a) (qp.1 h).2 λx b=>(List.mem_erase_of_ne λe:x=a=>(qp.1 h).1 (by rw[<-e];exact b)).2 (hs x (.tail _ b));have d:=List.length_erase_of_mem (hs a (.head _));have f:=List.length_pos_of_mem (hs a (.head _));exact V6
def Aci(val:Ab->Ab)(a:Ξ)(x b):(B4 val a b).1 x=true↔∃p∈b,p.ad=x/\x∈a/\Ca val p.rd=true:=by
 refine cT (P:=λb=>(B4 val a b).1 x=true↔∃p∈b,p.ad=x/\x∈a/\Ca val p.rd=true) b (by simp[B4]) λl p i=> ?_;rw[La];generalize B4 val a l=s at *;unfold K9;have f:(∃q∈l++[p],q.ad=x/\x∈a/\Ca val q.rd=true)↔(∃q∈l,q.ad=x/\x∈a/\Ca val q.rd=true)\/(p.ad=x/\x∈a/\Ca val p.rd=true):=by exact Agn
 rw[f,<-i];split
 .rename_i c;split
  .rename_i d;constructor
   .exact .inl
   .rintro(h|⟨rfl,_⟩)
    .exact h
    .exact d
  .rename_i d;by_cases e:x=p.ad
   .subst e;show(if p.ad=p.ad then _ else _)=true↔_;rw[bn rfl];constructor
    .exact λh=>.inr ⟨rfl,c,h⟩
    .rintro(h|h)
     .exact cw h d
     .exact h.2.2
   .show(if x=p.ad then _ else _)=true↔_;rw[ar e];constructor
    .exact .inl
    .rintro(h|h)
     .exact h
     .exact cw h.1.symm e
 .rename_i c;constructor
  .exact .inl
  .rintro(h|⟨rfl,h,_⟩)
   .exact h
   .exact cw h c
def Acj(val:Ab->Ab)(a:Ξ)(x b):x∈(B4 val a b).2↔∃p∈b,p.ad=x/\x∉a:=by
 refine cT (P:=λb=>x∈(B4 val a b).2↔∃p∈b,p.ad=x/\x∉a) b (by simp[B4]) λl p i=> ?_;rw[La];generalize B4 val a l=s at *;unfold K9;have d:(∃q∈l++[p],q.ad=x/\x∉a)↔(∃q∈l,q.ad=x/\x∉a)\/(p.ad=x/\x∉a):=by exact Agn
 rw[d,<-i];split
 .rename_i c;have:¬(p.ad=x/\x∉a):=by rintro⟨rfl,h⟩;exact h c
  split<;>simp[this]
 .rename_i c;rw[ff,ga];constructor
  .rintro(h|rfl)
   .exact .inl h
   .exact .inr ⟨rfl,c⟩
  .rintro(h|h)
   .exact .inl h
   .exact .inr h.1.symm
theorem n_{v:Ab->Ab}{u:Ab}{r:Ab×Int}(h:r∈(vB v u).rd):r.2=Qq (v r.1):=by
 unfold vB at h;split at h
 .cases h
 .obtain⟨k,_,rfl⟩:=dm.1 h;rfl
theorem NV(v:Ab->Ab)(u:Ab):Ca v (vB v u).rd=true:=by unfold Ca;rw[ib];intro r h;exact decide_eq_true (n_ h)
def Acl{L}:∀a∈Dd L,a.length<=1000000:=λa h=>by have:=X7 h;omega
section
variable{M:List Bq}{T:List (Ab × Ab)}(B:MB M T)
include B
theorem MB.pg{u:Ab}(h:u∈Dd (M.map Bq.s)):(vB (iY M T) u).ad=u:=by obtain⟨x,a⟩:=B.has h;unfold vB;rw[a]
theorem cU:(Jb M T).length<=1000000/\∀p∈Jb M T,W9 p:=by refine⟨by unfold Jb;rw[dB];exact Qf B.g,λp h=> ?_⟩;obtain⟨u,a,rfl⟩:=dm.1 h;exact AlX (X7 a)
theorem GO{p:Pg}(h:p∈Jb M T):∃u∈Dd (M.map Bq.s),p=vB (iY M T) u/\p.ad=u:=by obtain⟨u,a,rfl⟩:=dm.1 h;exact⟨u,a,rfl,B.pg a⟩
def MB.stale(c:List Pg)(h:c.length<=1000000)(j:∀p∈c,W9 p):QA 21 [.sl 3 (c.map Ll),.agg [.sl 8 ((M.map Bq.s).map ci),.sl 2 (T.map A4)]] (λr=>∃D E:Ξ,r=.a6 [.sl 1 (D.map str),.sl 1 (E.map str)]/\D.length<=1000000/\(D.Pairwise λx y=>cP x y<0)/\(∀x,x∈D↔x∈Dd (M.map Bq.s)/\¬∃p∈c,p.ad=x/\Ca (iY M T) p.rd=true)/\(E.Pairwise λx y=>Ko x y<0)/\∀x,x∈E↔∃p∈c,p.ad=x/\x∉Dd (M.map Bq.s)):=by
 refine Aa.mono (Aca (val:=iY M T) c (GS B.g) (Qf B.g) Acl (λ_=>B.v) h j) ?_;rintro r ⟨D,E,rfl,h1,k,l,m⟩
 have d:∀x,x∈D↔x∈Dd (M.map Bq.s)/\¬∃p∈c,p.ad=x/\Ca (iY M T) p.rd=true:=λx=>by
  rw[k,<-Bool.not_eq_true,Aci];constructor
  .rintro⟨a,b⟩;exact⟨a,λ⟨p,h,e,f⟩=>b ⟨p,h,e,a,f⟩⟩
  .rintro⟨a,b⟩;exact⟨a,λ⟨p,h,e,_,f⟩=>b ⟨p,h,e,f⟩⟩
 refine⟨D,E,rfl,?_,h1,d,l,λx=>(m x).trans (Acj _ _ _ _)⟩;have n:D.Nodup:=h1.imp λ{a b} i e=>by subst e;exact GN a i
 have:=x6 n λx o=>((d x).1 o).1;have:=Qf B.g;omega
theorem NW:QA 21 [.sl 3 ((Jb M T).map Ll),.agg [.sl 8 ((M.map Bq.s).map ci),.sl 2 (T.map A4)]] (λr=>r=.a6 [.sl 1 [],.sl 1 []]):=by
 refine Aa.mono (B.stale _ (cU B).1 (cU B).2) ?_;rintro r ⟨D,E,rfl,_,_,d,_,g⟩;have i:D=[]:=tb.2 λx h=>by obtain⟨a,b⟩:=(d x).1 h;exact b ⟨_,List.mem_map_of_mem a,B.pg a,NV _ _⟩
 have j:E=[]:=tb.2 λx h=>by obtain⟨p,k,e,f⟩:=(g x).1 h;obtain⟨u,l,rfl,c⟩:=GO B k;exact f (by rw[<-e,c];exact l)
 rw[i,j];rfl
end
def cV(v w:Ab->Ab)(rd:List (Ab×Int)):Bool:=rd.any λr=> !(v r.1==w r.1)
def eK(v w:Ab->Ab)(u:Ab)(a:List Pg):Bool:=a.foldl (λc p=>if p.ad=u then cV v w p.rd else c) true
theorem jJ(v w:Ab->Ab)(u:Ab)(l:List Pg)(p:Pg):eK v w u (l++[p])=if p.ad=u then cV v w p.rd else eK v w u l:=by simp[eK]
theorem NX{v w:Ab->Ab}{u:Ab}(a:List Pg)(h:∀p∈a,p.ad=u->cV v w p.rd=true):eK v w u a=true:=by
 revert h;refine cT (P:=λa=>(∀p∈a,p.ad=u->cV v w p.rd=true)->eK v w u a=true) a (λ_=>rfl) λl p i h=> ?_;rw[jJ];split
 .exact h p oS ‹_›
 .exact i λq hq=>h q (qr _ hq)
theorem Agi{v w:Ab->Ab}{rd:List (Ab×Int)}(h1:∀r∈rd,r.2=Qq (v r.1))(b:¬Ca w rd=true):cV v w rd=true:=by
 cases h:cV v w rd with
 |true=>rfl
 |false=>
  refine cw ?_ b;unfold Ca;rw[ib];intro r a;unfold cV at h;rw[List.any_eq_false]at h;have:=h r a;have e:v r.1=w r.1:=by simpa using this
  exact decide_eq_true (by rw[h1 r a,e])
end Go.Proofs.YtobhohikfmlccaaGreatDoor
