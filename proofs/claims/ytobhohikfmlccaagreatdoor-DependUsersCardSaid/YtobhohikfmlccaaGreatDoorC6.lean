/- Calls that take blocks along and may panic; interfaces; panics. -/
import Derived.MapKept
import Derived.Lib.AppendStr
import Derived.Test.YtobhohikfmlccaaGreatDoorC5
set_option linter.all false
open Go.RowKit Go.Lib Go.Region
namespace Go.Proofs.YtobhohikfmlccaaGreatDoor
section
variable[Env]
variable{bg:Ϙ}
def HC(P:Program)(g:Nat)(args i:Φ)(K:AV->Ψ)(E:Value->Ψ):Prop:=
 Hr P g/\∀w S h j c c1,Sz w S->Ac w S args h c->Ac w S i j c1->(∀b,c b+c1 b<=1)->Calls P g h.toArray w λe w'=>
  (∃v r γ' S' f a d,e=.returned v/\K r γ'/\pb r=true/\Ac w' S' [r] [v] f/\Ac w' S' γ' d a/\(∀b,f b+a b<=1)/\Sz w' S'/\Stp w S (λb=>c b+c1 b) w' S' (λb=>f b+a b))\/
  (∃v γ' S' a d,e=.panicked [{v:=v,recovered:=false}]/\E v γ'/\Ac w' S' γ' d a/\(∀b,a b<=1)/\Sz w' S'/\Stp w S (λb=>c b+c1 b) w' S' a)
section
variable{P:Program}{g:Nat}{args a:Φ}{K i:AV->Φ->Prop}{E f:Value->Φ->Prop}
def HC.mono(h:HC P g args a K E)(t:∀r a,K r a->i r a)(l:∀v a,E v a->f v a):HC P g args a i f:=
 ⟨h.1,λw S m n c c1 o p q s=>(h.2 w S m n c c1 o p q s).mono λe w' hq=>by
  rcases hq with⟨v,r,γ',S',u,b,d,h1,j,k⟩|⟨v,γ',S',b,d,h1,j,k⟩
  grind
  exact .inr ⟨v,γ',S',b,d,h1,l _ _ j,k⟩⟩
abbrev b7:=@HC.mono
def HC.old{R:AV->Prop}(h:Aa P g args R)(m:∀r,R r->K r a):HC P g args a K E:=
 ⟨h.1,λw S n o c c1 p q hg y=>(h.2.2 w S n c p q (λb=>by grind)).mono λe w' ⟨v,r,S',s,t,u,x,d,h1,j,k⟩=>by
  refine .inl ⟨v,r,a,S',s,c1,o,t,m r u,x,d,hg.step k (λb=>by grind),λb=> ?_,j,k.frame (λb=>rfl)⟩;rcases cq b w.heap.size with l|l;have:=k.own b l;grind
  have:c1 b=0:=by
   exact Aik
  have:=h1 b;omega⟩
abbrev ae:=@HC.old
def HC.plain{R:AV->Prop}(h:HC P g args [] (λr a=>a=[]/\R r) (λ_ _=>False))(o:∃r,R r):Aa P g args R:=
 ⟨h.1,o,λw S p c q s y=>(h.2 w S p [] c (λ_=>0) q s (.nil Al) (λb=>by grind)).mono λe w' hq=>by
  rcases hq with⟨v,r,γ',S',j,d,k,h1,⟨rfl,l⟩,n,t,u,z,x,A⟩|⟨v,γ',S',d,k,h1,l,n⟩;obtain⟨rfl,m⟩:=u.zero;refine⟨v,r,S',j,h1,l,n,t,λb=>by grind,x,?_⟩;have e1:(λb=>c b+0)=c:=by grind
  have e2:(λb=>j b+d b)=j:=by funext b;have:=m b;omega
  grind
  exact l.elim⟩
abbrev ai:=@HC.plain
def HC.wk{j:Φ}(h:HC P g args a K E)(x:Wk j args):HC P g j a K E:=
 ⟨h.1,λw S y z c c1 A B C F=>by
  obtain⟨n,o,D⟩:=x.rep B
  have conv:∀{w' S' d},Stp w S (λb=>n b+c1 b) w' S' d->Stp w S (λb=>c b+c1 b) w' S' d:=λk=>
   ⟨k.os,k.tape,k.output,k.size,λb p G=>k.keep b p (by grind),k.cell,k.le,λb p=>cp (k.own b p) (by grind)⟩
  refine(h.2 w S y z n c1 A o C (λb=>by grind)).mono λe w' hq=> ?_;rcases hq with⟨v,r,γ',S',n,l,m,h1,q,s,t,u,k,H,I⟩|⟨v,γ',S',l,m,h1,q,s,t,u,k⟩
  grind
  exact .inr ⟨v,γ',S',l,m,h1,q,s,t,u,conv k⟩⟩
def Ac.perm{w S xs ys}(j:xs.Perm ys):∀{vs:ϴ} {c:Δ},Ac w S xs vs c->∃us,Ac w S ys us c:=by
 induction j with
 |nil=>grind
 |cons x j ih=>intro vs c h;obtain⟨v,us,m,n,rfl,h1,d,k⟩:=h.bu;obtain⟨u,e⟩:=ih d;exact⟨_,b4 h1 e k⟩
 |swap x y l=>intro vs c h;obtain⟨v,us,m,n,rfl,h1,d,k⟩:=h.bu;obtain⟨v2,o,e1,e2,rfl,e,p,q⟩:=d.bu;exact⟨_,b4 e (b4 h1 p (λb=>rfl)) (λb=>by grind)⟩
 |trans h1 d ih1 ih2=>
  grind
def HC.perm{γ'}(h:HC P g args γ' K E)(e:a.Perm γ'):HC P g args a K E:=
 ⟨h.1,λw S v n c c1 j k l m=>by obtain⟨b,d⟩:=l.perm e;exact h.2 w S v b c c1 j k d m⟩
def HC.frame{jr j2}(h:HC P g args jr (λr a=>K r (a++j2)) (λv a=>E v (a++j2))):HC P g args (jr++j2) K E:=
 ⟨h.1,λw S A J c c1 B C D L=>by
  obtain⟨F,G,p,j,rfl,q,k,M⟩:=D.ku;refine(h.2 w S A F c p B C q (λb=>by grind)).mono λe w' hq=> ?_;have l:∀{w' S' d},Stp w S (λb=>c b+p b) w' S' d->Stp w S (λb=>c b+c1 b) w' S' (λb=>d b+j b):=λh=>h.frame (λb=>by grind);have m:∀{w' S' d},Stp w S (λb=>c b+p b) w' S' d->Ac w' S' j2 G j:=λh=>k.step h (λb=>by grind)
  have s:∀b,w.heap.size<=b->j b=0:=λb hb=>by
   rcases jz (j b)with h|h;exact h;have:=k.lt b h;omega
  rcases hq with⟨v,r,γ',S',H,n,t,h1,u,x,y,z,o,I,h8⟩|⟨v,γ',S',n,t,h1,u,x,y,z,o⟩;refine .inl ⟨v,r,_,S',H,_,_,h1,u,x,y,du z (m h8) (λb=>rfl),λb=> ?_,I,(l h8).drop λb=>by grind⟩;exact Aii;refine .inr ⟨v,_,S',_,_,h1,u,du x (m o) (λb=>rfl),λb=> ?_,z,l o⟩;rcases cq b w.heap.size with hb|hb;have:=o.own b hb;grind;have:=s b hb;have:=y b;show n b+j b<=1;omega⟩
abbrev fy:=@HC.frame
end
structure HTab where
 mp:Nat->Option (Nat×Nat)
 cn:Nat->Bool
 me:Nat->String->Γ
 zr:Nat->Option Value
structure AjU (P:Program) (H:HTab):Prop where
 mp:∀t k e,H.mp t=some (k,e)->P.underlying t=some (.map k e)
 cn:∀t,H.cn t=true->∃d,P.underlying t=some d/\∀ms,d≠ .interface ms
 me:∀t n g,H.me t n=some g->∀ad w,(method (P.types.size+Made.depth) t (.pointer (some ad)) n).run P w=.ok (g,.pointer (some ad)) w
 zr:∀t v,H.zr t=some v->∀w,(zeroValue t).run P w=.ok v w
section
variable{P:Program}{T:Br}{i w:World}{j k:Nat->Nat}{l f:Φ}{a:Act}{o:Oper}{Q:Exit->Act->World->Prop}
def qL {g:Nat} {z:List Operand} {V W:Φ} {X Y:ϴ} {K:Ω} {E:Value->Ω} (q:Ah bg i j k l f a w) (H:∀S c,Ac w S f a.tmps.toList c->∃e,Ac w S V X e/\Zc e) (I:∀S c,Ac w S f a.tmps.toList c->∃e,Ac w S W Y e/\Zc e)
 (t:Hr P g->(execOp a.eval o).run P w=.ok (.enter g (X++(z.map a.eval++Y)).toArray) w)
 (h:HC P g (V++((bi f z).1++W)) l (λr m=>K m (am (bi f z).2 o.dst r)) (λv m=>E v m (bi f z).2))
 (hE:∀v m p n,E v m p->Ah bg i j k m p a n->Q (.panic [{v:=v,recovered:=false}]) a n):
 o.wp P a w (λa' n=>∃m p,K m p/\Ah bg i j k m p a' n) Q:=by
 obtain⟨S,J,F,gv,A,L,hg,h1,Z,hz,hs⟩:=q;obtain⟨c1,c2,hv,hr2,hcc⟩:=R8 z L;obtain⟨e0,B,M⟩:=I S J L;obtain⟨e1,C,N⟩:=H S J L;have O:=du C (du hv B (c:=c1) (λb=>by rw[M b];omega)) (c:=c1) (λb=>by rw[N b];omega);have hc:=h.2 w S _ gv c1 F hz O hg (λb=>by grind);unfold Oper.wp;rw[t h.1,Oper.upon_enter];have D:∀{n s d},Stp w S (λb=>c1 b+F b) n s d->Stp w S (λb=>J b+F b) n s (λb=>d b+c2 b):=λh=>h.frame (λb=>by grind);have q:∀{n s d},Stp w S (λb=>c1 b+F b) n s d->Ac n s (bi f z).2 a.tmps.toList c2:=λh=>hr2.step h (λb=>by grind);have hlt:∀b,w.heap.size<=b->c2 b=0:=λb hb=>by exact OZ
 refine hc.mono λe n hq=> ?_;rcases hq with⟨v,r,m,s,c',u,x,R,hK,hp,U,y,G,h7,h8⟩|⟨v,m,s,u,x,R,hEv,y,h4,h5,G⟩;subst R;obtain⟨c4,h9,h10⟩:=(q h8).am U o.dst;refine⟨_,_,hK,s,c4,u,x,(A.bi _).am _ _ hp,h9,y,λb=> ?_,by rw[G5];exact Z,h7,(hs.trans (D h8)).drop λb=> ?_⟩;exact Aii
 grind
 subst R;refine hE v m _ n hEv ⟨s,c2,u,x,A.bi _,q G,y,λb=> ?_,Z,h5,(hs.trans (D G)).drop λb=> ?_⟩;rcases cq b w.heap.size with hb|hb;have:=G.own b hb;grind
 grind
 grind
end
end
section
variable[Env]
variable{bg:Ϙ}
def Ew:TypeDesc->Value->Prop
 |.string,.string _=>True
 |.int _,.int .i64 _=>True
 |_,_=>False
def dJ:Value->Value->Bool
 |.string a,.string b=>a==b
 |.int _ a,.int _ b=>a==b
 |_,_=>false
def Bu(k:Value)(a:ϴ):Γ:=a.findIdx? (dJ k)
def Jv{d:TypeDesc}{k}(h:Ew d k):(∃s,d=.string/\k=.string s)\/∃i n,d=.int i/\k=.int .i64 n:=by
 unfold Ew at h
 grind
def xC{d:TypeDesc}{k x}(h1:Ew d k)(h:Ew d x):Instr.sameNow d k x=some (dJ k x):=by
 rcases Jv h1 with⟨s,rfl,rfl⟩|⟨ik,n,rfl,rfl⟩<;>rcases Jv h with⟨a,e,rfl⟩|⟨ik2,n2,e,rfl⟩<;>first
  |cases e;done
  |simp[Instr.sameNow,dJ]
def AdN{d:TypeDesc}{k x}(h1:Ew d k)(a:Ew d x)(h:dJ k x=true):k=x:=by
 rcases Jv h1 with⟨s,rfl,rfl⟩|⟨ik,n,rfl,rfl⟩<;>rcases Jv a with⟨b,e,rfl⟩|⟨ik2,n2,e,rfl⟩<;>first
  |cases e;done
  |(have:=(Go.MapKept.bytes_beq _ _).1 h;rw[this])
  |(simp only[dJ,beq_iff_eq]at h;rw[h])
def AdO{d:TypeDesc}{k}(h1:Ew d k):Instr.sameBits 10000 k k=true:=by rcases Jv h1 with⟨s,rfl,rfl⟩|⟨ik,n,rfl,rfl⟩;exact(Go.MapKept.bytes_beq s s).2 rfl;simp[Instr.sameBits]
def Zd{d:TypeDesc}{k}(h1:Ew d k):∀(a:List MapEntry) (i:Nat),(∀x∈a.map (·.key),Ew d x)->
 Instr.findNow d k a i=some ((Bu k (a.map (·.key))).map λj=>(i+j,(a.map (·.val)).getD j undef))
 |[],i,h=>rfl
 |e::a,i,h=>by
  have b:=xC h1 (h e.key oS);unfold Instr.findNow;rw[b];simp only[Bu,ev,List.findIdx?_cons]
  cases c:dJ k e.key with
  |true=>simp
  |false=>simp only[f0,if_false];rw[Zd h1 a (i+1) λx f=>h x (by grind)];simp only[Bu];cases (a.map (·.key)).findIdx? (dJ k)<;>simp;omega
section
variable{P:Program}{w:World}{g i h b c:Nat}{d:TypeDesc}{a:Array MapEntry}{k:Value}
def run_checkKey(f:P.underlying g=some d)(h1:Ew d k)(e):(Instr.checkKey e 10000 g k).run P w=.ok () w:=by unfold Instr.checkKey;rw[ft,fp f w];rcases Jv h1 with⟨s,rfl,rfl⟩|⟨ik,n,rfl,rfl⟩<;>simp
def run_findKey(e:P.underlying g=some d)(h1:Ew d k)(f:∀x∈a.toList.map (·.key),Ew d x):
 (Instr.findKey g k a.toList).run P w=.ok ((Bu k (a.toList.map (·.key))).map λj=>(j,(a.toList.map (·.val)).getD j undef)) w:=by
 unfold Instr.findKey;rw[ft,fp e w];simp only[gq];rw[Zd h1 a.toList 0 f];simp
def xD{z}(f:P.underlying h=some (.map g i))(e:P.underlying g=some d)(p:∀w,(zeroValue i).run P w=.ok z w)(l:w.heap[b]? =some (.map a c))(h1:Ew d k)(m:∀x∈a.toList.map (·.key),Ew d x)(o):
 (Instr.lookup h (.map (some b)) k o).run P w=.ok (match Bu k (a.toList.map (·.key))with
  |some j=>if o then .tuple #[(a.toList.map (·.val)).getD j undef,.bool true]else(a.toList.map (·.val)).getD j undef
  |none=>if o then .tuple #[z,.bool false]else z) w:=by
 have n:(getObj b).run P w=.ok (.map a c) w:=by simp[getObj,Sem.run,l]
 unfold Instr.lookup;simp only[ft,fp f w,gq,n,ia,run_checkKey e h1,run_findKey e h1 m]
 cases Bu k (a.toList.map (·.key))with
 |none=>simp_all
 |some j=>cases o<;>simp
def dK{v}(C:P.underlying h=some (.map g i))(u:P.underlying g=some d)(y:w.heap[b]? =some (.map a c))(h1:Ew d k)(z:∀x∈a.toList.map (·.key),Ew d x):
 ∃l m,(Instr.mapUpdate h (.map (some b)) k v).run P w=.ok () {w with heap:=w.heap.setIfInBounds b (.map l m)}/\
  l.toList.map (·.key)=(match Bu k (a.toList.map (·.key))with|some j=>a.toList.map (·.key)|none=>a.toList.map (·.key)++[k])/\
  l.toList.map (·.val)=(match Bu k (a.toList.map (·.key))with|some j=>(a.toList.map (·.val)).set j v|none=>a.toList.map (·.val)++[v])/\
  (((a.toList.map (·.born)).Pairwise (·< ·)/\∀e∈a.toList,e.born<c)->(l.toList.map (·.born)).Pairwise (·< ·)/\∀e∈l.toList,e.born<m):=by
 have D:(getObj b).run P w=.ok (.map a c) w:=by simp[getObj,Sem.run,y]
 have E:∀o,(setObj b o).run P w=.ok () {w with heap:=w.heap.setIfInBounds b o}:=λo=>by simp[setObj,Sem.run,y]
 have n:(Instr.mapUpdate h (.map (some b)) k v).run P w=((match Bu k (a.toList.map (·.key))with
  |some j=>do
   let key<-Instr.keyThatStays (((a[j]?).map (·.key)).getD k) k
   setObj b (.map (a.modify j λe=>{e with key,val:=v}) c)
  |none=>setObj b (.map (a.push {key:=k,val:=v,born:=c}) (c+1)):Sem Unit)).run P w:=by
  unfold Instr.mapUpdate;simp only[ft,fp C w,gq,D,run_checkKey u h1,run_findKey u h1 z]
  grind
 cases s:Bu k (a.toList.map (·.key))with
 |none=>
  rw[s]at n;refine⟨_,_,n.trans (E _),oS,oS,λ⟨g1,g2⟩=>⟨?_,λe A=> ?_⟩⟩
  grind
  grind
 |some j=>
  rw[s]at n;unfold Bu at s;obtain⟨B,F,_⟩:=List.findIdx?_eq_some_iff_getElem.1 s;have t:j<a.size:=by simpa using B
  have G:k=a[j].key:=by
   have:=AdN h1 (z _ (ko B)) F
   grind
  have H:(Instr.keyThatStays (((a[j]?).map (·.key)).getD k) k).run P w=.ok k w:=by
   have:((a[j]?).map (·.key)).getD k=k:=by
    grind
   rw[this];unfold Instr.keyThatStays;rw[AdO h1];simp
  have r:(Instr.mapUpdate h (.map (some b)) k v).run P w=.ok () {w with heap:=w.heap.setIfInBounds b (.map (a.modify j λe=>{e with key:=k,val:=v}) c)}:=by simp_all
  have p:∀{I:Type} (f:MapEntry->I),(a.modify j λe=>{e with key:=k,val:=v}).toList.map f=(a.toList.map f).set j (f {a[j]with key:=k,val:=v}):=λf=>by exact Yb
  refine⟨_,_,r,?_,?_,λ⟨g1,g2⟩=>⟨?_,λe A=> ?_⟩⟩;rw[p];exact Ag (by grind);rw[p];rw[p];have:(a.toList.map (·.born)).set j a[j].born=a.toList.map (·.born):=Ag (by simp[t])
  grind
  obtain⟨q,hq⟩:=dn A
  grind
end
section
variable{P:Program}{w0 w:World}{S0 c0:Nat->Nat}{f σ:Φ}{a:Act}{o:Oper}{Q:Exit->Act->World->Prop}
def Ah.jt{gi b:Nat}{p:ϴ}{q:Φ}{j:ϴ}{S c1:Δ}(u:Ac w S f j c1)(r:f[gi]? =some (.bw b p q)):
 ∃es k t c2,w.heap[b]? =some (.map es k)/\S b=0/\es.toList.map (·.key)=p/\((es.toList.map (·.born)).Pairwise (·< ·)/\∀e∈es.toList,e.born<k)/\Ac w S q (es.toList.map (·.val)) t/\Ac w S (f.set gi .any) j c2/\(∀x,c1 x=(if x=b then 1 else 0)+t x+c2 x)/\
  ∀(w':World) (s:Δ) (c:Array MapEntry) (l:Nat) (g:ϴ) (i:Φ) (d m:Δ),Ac w' s (f.set gi .any) j m->w'.heap[b]? =some (.map c l)->s b=0->c.toList.map (·.key)=g->((c.toList.map (·.born)).Pairwise (·< ·)/\∀e∈c.toList,e.born<l)->Ac w' s i (c.toList.map (·.val)) d->
   Ac w' s (f.set gi (.bw b g i)) j (λx=>(if x=b then 1 else 0)+d x+m x):=by
 obtain⟨v,e1,e2,y,z,A,B⟩:=u.take gi r
 cases z with
 |bw hb hS hks hbn h1 h hcc=>
  cases h with|nil hz=>
  refine⟨_,_,_,e2,hb,hS,hks,hbn,h1,A,λx=>by rw[B,hcc,hz x];omega,λw' s c l g i d m k1 k2 k3 k4 k5 k6=> ?_⟩;have C:=(ab.1 r).1;have n:=k1.fill (Ac.bw (v:=v) k2 k3 k4 k5 k6 (.nil Al) (λx=>rfl)) gi (by grind);rw[lu,Ag y]at n
  grind
theorem Stp.obj{S c:Δ}{b:Nat}(d:Obj)(h:c b≠0)(e:S b=0):Stp w S c {w with heap:=w.heap.setIfInBounds b d} S c where
 os:=rfl
 tape:=rfl
 output:=⟨rfl,λ_=>bx _⟩
 size:=oS
 keep x hx hx0:=by
  grind
 cell x o ho:=by
  have:b≠x:=by grind
  exact World.cell?_of_block (by grind)
 le _:=bx _
 own _ _:=bx _
def e_(P:Program)(b:Nat)(k:Value)(c:ϴ):Prop:=∃d,P.underlying b=some d/\Ew d k/\∀x∈c,Ew d x
def dL {N O R b Y q:Nat} {x:Operand} {k z:Value} {p:ϴ} {m:Φ} {l:Bool} (ho:o.op=.lookup N (.tmp q) x l) (Z:P.underlying N=some (.map O R)) (hz:∀w,(zeroValue R).run P w=.ok z w) (g:Ah bg w0 S0 c0 f σ a w)
 (hq:σ.getD q .any=.raw (.map (some b))) (hk:bj σ x=.raw k) (hx:f[Y]? =some (.bw b p m)) (B:e_ P O k p):
 o.wp P a w (λC w'=>Ah bg w0 S0 c0 f (am σ o.dst (match Bu k p with
  |some j=>if l then .a6 [view (m.getD j .any),.raw (.bool true)]else view (m.getD j .any)
  |none=>if l then .a6 [B8 z,.raw (.bool false)]else B8 z)) C w') Q:=by
 obtain⟨d,hd,D,hks⟩:=B;have e1:=g.raw hq;have e2:=g.ic hk;have T:=g;obtain⟨S,c,c1,gv,E,hr,U,h1,F,G,hs⟩:=g;obtain⟨H,BT,d1,c2,hb,hS,n,hbn,r,hg2,hc,V⟩:=Ah.jt U hx;have e:=xD Z hd hz hb D (by grind) l;rw[n]at e
 have h:(execOp a.eval o).run P w=.ok (.value (match Bu k p with
  |some j=>if l then .tuple #[(H.toList.map (·.val)).getD j undef,.bool true]else(H.toList.map (·.val)).getD j undef
  |none=>if l then .tuple #[z,.bool false]else z)) w:=by
  exact Yc
 have i:∀{y:AV} {v:Value},pb y=true->(∃I,Ac w S [y] [v] I/\Zc I)->(execOp a.eval o).run P w=.ok (.value v) w->o.wp P a w (λC w'=>Ah bg w0 S0 c0 f (am σ o.dst y) C w') Q:=λ{y v} hp ⟨I,J,s⟩ e=>by obtain⟨W,h2,X⟩:=hr.am J o.dst;exact Au e ⟨S,W,c1,gv,E.am _ _ hp,h2,U,λx=>by have:=X x;have:=h1 x;have:=s x;omega,by rw[G5];exact F,G,hs.drop λx=>by have:=X x;have:=s x;show W x+c1 x<=c x+c1 x;omega⟩
 have K:∀y:AV,pb (view y)=true:=λy=>by cases y<;>first|rfl|exact AmL _
 cases A:Bu k p with
 |none=>
  rw[A]at h;have t:Ac w S [B8 z] [z] (λ_=>0):=Hy z
  have L:pb (B8 z)=true:=by
   unfold B8;split;split<;>rfl;unfold R5;split<;>rfl
  cases l with
  |true=>exact i (y:=.a6 [B8 z,.raw (.bool false)]) rfl ⟨λ_=>0,fh (c1:=λ_=>0) (b4 (c2:=λ_=>0) t (.raw rfl (.nil Al)) (λb=>rfl)) (.nil Al) (λb=>rfl),Al⟩ h
  |false=>exact i L ⟨_,t,Al⟩ h
 |some j=>
  rw[A]at h;unfold Bu at A;obtain⟨hj,_,_⟩:=List.findIdx?_eq_some_iff_getElem.1 A
  have M:j<m.length:=by
   have:=r.length
   grind
  obtain⟨v,f1,f2,hv,J,_,_⟩:=r.take j (ac M);have e3:(H.toList.map (·.val)).getD j undef=v:=by grind
  have e4:m.getD j .any=m[j]:=by grind
  simp only[e3]at h;simp only[e4];have u:=J.view
  cases l with
  |true=>exact i (y:=.a6 [view m[j],.raw (.bool true)]) rfl ⟨λ_=>0,fh (c1:=λ_=>0) (b4 (c2:=λ_=>0) u (.raw rfl (.nil Al)) (λb=>rfl)) (.nil Al) (λb=>rfl),Al⟩ h
  |false=>exact i (K _) ⟨_,u,Al⟩ h
theorem Qv {J T et b U q:Nat} {x y:Operand} {k:Value} {A:ϴ} {B:Φ} (G:o.op=.mapUpdate J (.tmp q) x y\/o.op=.insert J (.tmp q) x y) (hm:P.underlying J=some (.map T et)) (t:Ah bg w0 S0 c0 f σ a w)
 (hq:σ.getD q .any=.raw (.map (some b))) (hk:bj σ x=.raw k) (hx:f[U]? =some (.bw b A B)) (K:e_ P T k A):
 o.wp P a w (λa' w'=>Ah bg w0 S0 c0 (f.set U (match Bu k A with
  |some j=>.bw b A (B.set j (bj σ y))
  |none=>.bw b (A++[k]) (B++[bj σ y]))) (am (d7 σ y) o.dst .any) a' w') Q:=by
 obtain⟨d,hd,L,hks⟩:=K;have e1:=t.raw hq;have e2:=t.ic hk;obtain⟨S,c,c1,gv,hrf,hr,hg,h1,hdf,V,hs⟩:=t;obtain⟨W,cr,hy,M,hc⟩:=Lm hr y;obtain⟨es,BT,X,c2,Y,H,u,hbn,C,N,hcg,n⟩:=Ah.jt hg hx;obtain⟨g,e,D,h,i,p⟩:=dK (v:=a.eval y) hm hd Y L (by grind);rw[u]at h i;have hlt:b<w.heap.size:=(ah.1 Y).1;obtain⟨w',l⟩:∃w':World,{w with heap:=w.heap.setIfInBounds b (.map g e)}=w':=⟨_,rfl⟩;have m:Stp w S (λx=>if x=b then 1 else 0) w' S (λx=>if x=b then 1 else 0):=by rw[<-l];exact Stp.obj _ oS H
 have hk2:Stp w S (λx=>c x+c1 x) w' S (λx=>c x+c1 x):=by rw[<-l];exact Stp.obj _ (by grind) H
 have Z:∀x,c x+c1 x=W x+cr x+((if x=b then 1 else 0)+X x+c2 x):=λx=>by grind
 have E:=hy.step m (λx=>by grind);have r:=C.step m (λx=>by grind);have O:=M.step m (λx=>by grind);have s:=N.step m (λx=>by grind);have F:w'.heap[b]? =some (.map g e):=by grind
 have hz':Sz w' S:=V.nn hk2 (λx hx=>by rw[<-l]at hx;simp at hx;exact V.z x hx);have kx:(execOp a.eval o).run P w=.ok .skip w':=by rw[<-l];unfold execOp;rcases G with G|G<;>simp only[G,e1,e2,ft,D,gq,ia]
 obtain⟨c4,h2,h3⟩:=O.am (.any (v:=undef) (.nil Al)) o.dst
 cases I:Bu k A with
 |none=>rw[I]at h i;have hg3:=n w' S g e _ (B++[bj σ y]) (λx=>X x+W x) c2 s F H h (p hbn) (by rw[i];exact du r E (λx=>rfl));exact AgE
 |some j=>
  rw[I]at h i;unfold Bu at I;obtain⟨hj,_,_⟩:=List.findIdx?_eq_some_iff_getElem.1 I
  have R:j<B.length:=by
   have:=C.length
   grind
  obtain⟨c5,hset,zg⟩:=r.put E j R;have hg3:=n w' S g e _ (B.set j (bj σ y)) c5 c2 s F H h (p hbn) (by grind);exact AgE
def qM{s}(t:o.op=.makeMap s none)(k:Ah bg w0 S0 c0 f σ a w):
 o.wp P a w (λy w'=>∃b,(∀x∈f,Qm x≠some b)/\Ah bg w0 S0 c0 (.bw b [] []::f) (am σ o.dst (.raw (.map (some b)))) y w') Q:=by
 obtain⟨S,c,c1,A,l,hr,m,h1,n,e,B⟩:=k;have d:upd S w.heap.size 0=S:=by funext x;unfold upd;split<;>simp_all [e.z]
 have p:=b6 (w:=w) (S:=S) (c:=λ_=>0) e (.map #[] 0) 0;rw[d]at p;have g:=b6 (w:=w) (S:=S) (c:=λb=>c b+c1 b) e (.map #[] 0) 0;rw[d]at g;have i:=e.alloc (.map #[] 0) 0;rw[d]at i;have q:=hr.step p (λb=>by grind);have r:=m.step p (λb=>by grind)
 have H:c w.heap.size=0/\c1 w.heap.size=0:=by
  constructor;exact Ah0;rcases jz (c1 w.heap.size)with h|h;exact h;exact cw (m.lt _ h) (Nat.lt_irrefl _)
 obtain⟨C,D,I⟩:=q.am (.raw (v:=.map (some w.heap.size)) rfl (.nil Al)) o.dst;refine Au (w':=w.alloc (.map #[] 0)) (v:=.map (some w.heap.size)) ?_ ⟨w.heap.size,λx E he=> ?_,S,C,_,undef::A,l.am _ _ rfl,D,Ac.bw (heap_alloc_new w _) (e.z _ (bx _)) rfl ⟨oS,oS⟩ (c1:=λ_=>0) (by simpa using Ac.nil Al) r (λx=>rfl),λx=> ?_,by rw[G5];exact n,i,(B.trans g).drop λx=> ?_⟩;unfold execOp;simp[t,Instr.makeMap];obtain⟨j,F⟩:=dn E;obtain⟨u,f1,f2,_,hu,_,G⟩:=m.take j F;have:0<f1 w.heap.size:=by exact Agv
 grind
 grind
 grind
end
end
section
variable[Env]
variable{p:Ϙ}
section
variable{P:Program}{T:Br}{w:World}
variable{k:World}{m c0:Nat->Nat}{f:Φ}{a:Act}{K:Φ->Prop}{Q:Exit->Act->World->Prop}{o:Oper}
def xE(f:Φ)(e:Nat)(j:TI)(x y:Operand)(d:Γ)(K:Ψ):Prop:=
 match Mx e 1 (bj f x),bj (d7 f x) y with
 |some xs,.raw (.string s)=>j.size=1/\j.bytes=1/\j.zero.length=1/\xs.length+s.data.toList.length<=140737488355328/\(match bj f x with
  |.mine _ _ _=>False
  |_=>True)/\K (am (d7 f x) d (.own e 1 (xs++Aj s.data.toList)))
 |_,_=>False
def AdP{S}(s):Ac w S (flat (Aj s.data.toList)) (strCells s) (λ_=>0):=by
 unfold strCells;generalize s.data.toList=l
 induction l with
 |nil=>exact .nil Al
 |cons b l ih=>exact .raw rfl ih
def xF{t u e x y c i j}(ho:o.op=.call c)(hc:c.callee=.builtin .append)(hca:c.args= #[x,y])(hct:c.argTypes= #[t,u])(hi:Df P t i)(hu:P.underlying u=some .string)(he:i.td.elem=some e)(hj:Df P e j)(hst:Bc p k m c0 f a w)(h:xE f e j x y o.dst K):o.wp P a w (λa' w'=>∃F,K F/\Bc p k m c0 F a' w') Q:=by
 obtain⟨inf,z,d,g1,gz,pc,g4,_,g6,g7⟩:=hi.get;obtain⟨C,H,d2,f1,fz,sd,f4,f5,f6,f7⟩:=hj.get;have hd':d=.slice e:=D7 (P:=P) (by rw[g7];exact he);subst hd';unfold xE at h;split at h
 .rename_i r s hx hys;obtain⟨hj1,W,hjz,X,hm,hK⟩:=h;obtain⟨hrf,S,c',hr,h1,hd,hz,hs⟩:=hst;obtain⟨cx,cr,hZ,hr1,hcc⟩:=Lm hr x;obtain⟨cy,Y⟩:=Ay hr1 y;rw[hys]at Y;have eY:=(Az Y).1;have hcv:Ac w S (flat (Aj s.data.toList)) (strCells s) (λ_=>0):=AdP s;generalize B:strCells s=cv at hcv;have kw:∀u∈cv,u.oneCell'=true:=by rw[<-B];exact strCells_oneCell s
  have Z:cv.length=s.size:=by rw[<-B];exact strCells_length s
  have hky:∀x∈Aj s.data.toList,(cellsOf x).length=1:=λx hx=>by obtain⟨b,_,rfl⟩:=dm.1 hx;rfl
  have hsl:s.data.toList.length=s.size:=ot;have D:(Aj s.data.toList).length=s.size:=by rw[Aj,dB,hsl]
  rw[hsl]at X;generalize hyse:Aj s.data.toList=ys at *;have nu:H.cells.size=1:=by have:=fq List.length sd;simp at this;omega
  have hwp:∀{v:Value} {w':World},(Builtin.append_ #[t,u] o.type #[a.eval x,a.eval y]).run P w=.ok v w'->∀{next:Ϣ},next (a.put o.dst v) w'->o.wp P a w next Q:=by
   intro v w' hrun next hn
   refine Au (v:=v) (w':=w') ?_ hn;unfold execOp;simp only[ho,resolve,hc,hca,hct,invoke,builtin,ft,ia,gq,List.map_toArray,ev,db,hrun]
  have r6:a.eval y=.string s:=eY;rw[r6]at hwp
  have fresh:∀(q:ϴ) (l:Nat) (v:Value),Ac w S (flat r) q (λ_=>0)->(∀u∈q,u.oneCell'=true)->(∀x∈r,(cellsOf x).length=1)->r.length+ys.length<=l->l<=maxLen->
   v=.slice (some ⟨w.heap.size,0,none⟩) (r.length+ys.length) l->
   Bc p k m c0 (am (d7 f x) o.dst (.own e 1 (r++ys))) (a.put o.dst v) (w.drew.alloc (.cells (q.toArray++cv.toArray++Builtin.zeroCells H.cells (l-(r.length+ys.length))) e)):=by
   intro q l v hxc hone hkx J hcm hv;have hxl:=hxc.length;have r5:=D8 hkx;have jl:=Hb r ys;have hxw:Ac w.drew S (flat r) q (λ_=>0):=hxc.keep (λ_ _ _=>rfl) (λ_=>bx _) (λ_ _=>⟨rfl,rfl⟩);have rx:Ac w.drew S (flat ys) cv (λ_=>0):=hcv.keep (λ_ _ _=>rfl) (λ_=>bx _) (λ_ _=>⟨rfl,rfl⟩);have hrw:Ac w.drew S (d7 f x) a.tmps.toList cr:=hr1.keep (λ_ _ _=>rfl) (λ_=>bx _) (λ_ _=>⟨rfl,rfl⟩);generalize hcur:(q.toArray++cv.toArray++Builtin.zeroCells H.cells (l-(r.length+ys.length)))=cur;have hcl:cur.toList=q++cv++(Builtin.zeroCells H.cells (l-(r.length+ys.length))).toList:=by rw[<-hcur];simp
   have htake:cur.toList.take ((r++ys).length*1)=q++cv:=by
    have:(q++cv).length=(r++ys).length*1:=by simp;omega
    rw[hcl,<-this,qq]
   have hk:=b6 (w:=w.drew) (c:=λ_=>0) (S:=S) hz.drew (.cells cur e) ((r++ys).length*1);have hboth:=(du hxw rx (c:=λ_=>0) (λb=>oS)).step hk (λb=>oS);rw[hv];refine Bc.new (w:=w.drew) (s:=(r++ys).length*1) (hrf.d7 x) rfl h1 hr.lt hd hz.drew (hs.trans Stp.drew) hrw (c1:=λ_=>0) ?_ (λb=>by rw[hcc];omega) _;have hlen:r.length+ys.length=(r++ys).length:=oS;rw[hlen];refine .own (cap:=l) (cur:=cur) (c0:=λ_=>0) (c2:=λ_=>0) om hcm (λx hx=> ?_) (heap_alloc_new _ _) ?_ (by simp[upd]) ?_ Al ?_ (.nil Al) (λx=>rfl);exact PI;have hl2:=fq List.length hcl;have hzc:(Builtin.zeroCells H.cells (l-(r.length+ys.length))).size=(l-(r.length+ys.length))*1:=by rw[size_zeroCells,nu]
   simp at hl2;omega;exact eM;exact ON
  have L:r.length+ys.length<=maxLen:=by unfold maxLen;omega
  by_cases I:s.size=0
  .have hyn:ys=[]:=List.length_eq_zero_iff.1 om;subst hyn
   have N:∃cz,Ac w S [.own e 1 (r++[])] [a.eval x] cz/\(∀b,cz b<=cx b)/\∃A n cap,a.eval x=.slice A n cap/\n<=cap:=by
    unfold Mx at hx;split at hx;exact Agt;exact Agk;rename_i hxe;rw[hxe]at hm;exact hm.elim
    .cases hx
   obtain⟨cz,hrz,hcz,A,n,cap,e1,hn⟩:=N
   have hrun:(Builtin.append_ #[t,u] o.type #[.slice A n cap,.string s]).run P w=.ok (.slice A n cap) w:=by
    have hcn:strCells s=[]:=kq (by rw[B,Z];exact I);have hf:=run_firstCells_string (P:=P) w C.size s;rw[I,hcn]at hf
    cases A with
    |none=>simp[Builtin.append_,fp g6,fp hu,sizeOf,typeInfo,f1,Builtin.lenOf,I,hn,hf]
    |some A=>simp[Builtin.append_,fp g6,fp hu,sizeOf,typeInfo,f1,Builtin.lenOf,I,hn,hf,storeCells]
   rw[<-e1]at hrun;exact Ahw
  .have r7:=hcv.length;have r4:=D8 hky
   have jv:r=[]->a.eval x=.slice none 0 0->o.wp P a w (λa' w'=>∃F,K F/\Bc p k m c0 F a' w') Q:=by
    intro hxe G;subst hxe;have hrun:=run_append_nil_string (P:=P) w t u o.type e C H g6 hu f1 fz s om om (by rw[f5,W];simp only[eh,jp]at X;omega);have e1:(s.data.map λb=>Value.int .u8 b.toNat)=cv.toArray:=by rw[<-B];apply Array.ext';simp[strCells]
    rw[e1,<-G]at hrun;have O:=grownCap_ge w s.size 0 e;have E:=grownCap_le_maxLen w s.size 0 e (by simpa[D]using L);have:=fresh [] (grownCap w s.size 0 e) _ (.nil Al) oS oS (by simpa[D]using O) E rfl;simp only[eh,jp,D]at this;have e0:([]:ϴ).toArray++cv.toArray++Builtin.zeroCells H.cells (grownCap w s.size 0 e-s.size)=cv.toArray++Builtin.zeroCells H.cells (grownCap w s.size 0 e-s.size):=oS;rw[e0]at this;exact hwp hrun ⟨_,hK,this⟩
   unfold Mx at hx;split at hx;exact AgN
   .rename_i e' k' es hxe;split at hx
    .rename_i hee;obtain⟨rfl,rfl⟩:=hee;injection hx with hx;subst hx;rw[hxe]at hZ;revert hZ;generalize G:a.eval x=v;intro hZ
     cases hZ with
     |g9 h=>exact jv rfl G
     |own hn J hk hb hsz' hS h1c nf hoc hnil hcnt=>
      rename_i g cap cur R c2;cases hnil with|nil hzz=>
      have kb:(cur.toList.take es.length).length=es.length:=by simp;omega
      rw[md]at h1c hoc;by_cases U:es.length+s.size<=cap;have hfit:es.length+s.size<=cur.size:=om;have hrun:=run_append_room_string (P:=P) w t u o.type e' C g6 hu f1 om g es.length cap cur hb s U hfit;rw[<-G,B]at hrun;generalize hnew:(cur.toList.take es.length++cv++cur.toList.drop (es.length+s.size)).toArray=new at hrun;have hnl:new.toList=cur.toList.take es.length++cv++cur.toList.drop (es.length+s.size):=by rw[<-hnew]
      have M:∀o',o'<S g->new[o']? =cur[o']? :=by intro o' ho';rw[hS,md]at ho';exact AgA
      have hcg:∀x,cx x=(if x=g then 1 else 0):=λx=>by rw[hcnt,hzz x];omega
      have E:S g<=(es++ys).length*1:=by rw[hS];simp
      have hk1:=fl (S:=S) (c:=cx) (s:=(es++ys).length*1) (new:=new) hb (by rw[hcg];simp) M E;have hk2:=fl (S:=S) (c:=c') (s:=(es++ys).length*1) (new:=new) hb (by rw[hcc,hcg];simp) M E;have hr3:=hr1.step hk1 (λb=>by rw[Nat.add_comm,<-hcc];exact h1 b);have jl:=Hb es ys;have hboth:=(du h1c hcv (c:=λb=>R b+0) (λb=>rfl)).step hk1 (λb=>by rw[nf b,hcg];split<;>omega)
      have htake:new.toList.take ((es++ys).length*1)=cur.toList.take es.length++cv:=by
       have:(cur.toList.take es.length++cv).length=(es++ys).length*1:=by simp at kb⊢;omega
       rw[hnl,<-this,qq]
      refine hwp hrun ⟨_,hK,Bc.value (hrf.d7 x) rfl h1 hd (hz.row hb hk2) (hs.trans hk2) hr3 (c1:=cx) (y:=.own e' 1 (es++ys)) ?_ (λb=>by rw[hcc];omega) _⟩;have hlen:es.length+s.size=(es++ys).length:=by simp;omega
      rw[hlen];refine .own (cur:=new) (c0:=λb=>R b+0) (c2:=λ_=>0) om J (λx hx=> ?_) (setRow_heap w g cur new e' (0,0) hb) ?_ (by simp[upd]) ?_ (λb=>by show R b+0=0;rw[nf b]) ?_ (.nil Al) (λx=>by rw[hcg];simp);exact PK;exact QD;exact eM;exact OO
      have V:∀jj u,(cur.toList.take es.length)[jj]? =some u->w.cell? ((⟨g,0,none⟩:Addr).add jj)=some u:=by
       exact AgQ
      have hrun:=run_append_grow_string (P:=P) w t u o.type e' C H g6 hu f1 fz ⟨g,0,none⟩ es.length cap (cur.toList.take es.length) (by rw[f4,hj1,md];exact kb) V s om om (by rw[f5,W];exact growslice_fits om om);rw[<-G,B]at hrun;have O:=grownCap_ge w (es.length+s.size) cap e';have E:=grownCap_le_maxLen w (es.length+s.size) cap e' (by rw[<-D];exact L);have:=fresh (cur.toList.take es.length) (grownCap w (es.length+s.size) cap e') _ (h1c.congr λb=>(nf b).symm) hoc hk (by rw[D];exact O) E rfl;rw[D]at this;exact hwp hrun ⟨_,hK,this⟩
    .cases hx
   rename_i hxe;rw[hxe]at hm;exact hm.elim
   .cases hx
 exact A7
end
end
section
variable[Env]
variable{bg:Ϙ}
def Jf:AV->Option (Nat×Nat)
 |.raw (.pointer (some ⟨b,off,none⟩))=>some (b,off)
 |_=>none
def Gi:AV->Γ
 |.raw (.map (some b))=>some b
 |_=>none
def Jw{x b o}(h:Jf x=some (b,o)):x=.raw (.pointer (some ⟨b,o,none⟩)):=by
 unfold Jf at h
 grind
def M4{x b}(h:Gi x=some b):x=.raw (.map (some b)):=by
 unfold Gi at h
 grind
def kX:AV->Option Value
 |.raw v=>some v
 |.nil=>some (.slice none 0 0)
 |_=>none
def VA:AV->Option Value
 |.agg cs=>(cs.mapM kX).map λv=>.agg v.toArray
 |x=>kX x
def VB{w:World}{S c:Δ}{x:AV}{v u:Value}(a:Ac w S [x] [v] c)(h:kX x=some u):v=u:=by
 unfold kX at h;split at h;injection h with h;subst h;exact(Az a).1
 .injection h with h;subst h;cases a with|gn h=>rfl
 .cases h
theorem VC{w:World}{S:Δ}:∀{b:Φ} {d e:ϴ} {c:Δ},Ac w S b d c->b.mapM kX=some e->d=e
 |[],d,e,c,hr,h=>by
  obtain⟨rfl,_⟩:=hr.zero
  grind
 |x::b,d,e,c,hr,h=>by
  obtain⟨v,g,c1,c2,rfl,h1,i,_⟩:=hr.bu;simp only[List.mapM_cons,Option.bind_eq_bind]at h
  cases f:kX x with
  |none=>grind
  |some u=>
   rw[f]at h;simp only[pk]at h
   cases a:b.mapM kX with
   |none=>grind
   |some us'=>rw[a]at h;injection h with h;subst h;rw[VB h1 f,VC i a]
def xG{w:World}{S c:Δ}{x:AV}{v u:Value}(b:Ac w S [x] [v] c)(h:VA x=some u):v=u:=by
 unfold VA at h;split at h
 .rename_i d
  cases b with
  |agg h1 ho h2 hc=>
   cases h2 with|nil _=>
   obtain⟨e,a,rfl⟩:=tj.1 h;rw[VC h1 a]
 exact VB b h
structure Hw extends HTab where
 kd:Nat->Option TypeDesc
 mv:Nat->String->Γ
 ek:Nat->Γ
def wI:Value->AV->Ϫ
 |.nilIface,.raw (.iface _ _)=>some (0,false)
 |.nilIface,.raw .nilIface=>some (0,true)
 |.pointer none,.raw (.pointer (some _))=>some (1,false)
 |.pointer none,.raw (.pointer none)=>some (1,true)
 |.map none,.raw (.map (some _))=>some (2,false)
 |.map none,.raw (.map none)=>some (2,true)
 |.nilFunc,.raw (.func _ _ _)=>some (3,false)
 |.nilFunc,.raw .nilFunc=>some (3,true)
 |_,_=>none
def DF:Nat->TypeDesc->Prop
 |0,.interface _=>True
 |1,.pointer _=>True
 |2,.map _ _=>True
 |3,.func _ _ _=>True
 |_,_=>False
structure C1 (P:Program) (H:Hw):Prop where
 base:AjU P H.toHTab
 kd:∀t d,H.kd t=some d->P.underlying t=some d
 mv:∀t n g,H.mv t n=some g->∀v w,(method (P.types.size+Made.depth) t v n).run P w=.ok (g,v) w
 ek:∀t k,H.ek t=some k->∃d,P.underlying t=some d/\DF k d
def Yt(o:Option TI)(f b a:Nat)(K:AV->Prop):Prop:=match o with
 |some i=>(match i.td.ig[f]? with
  |some (fo,some n,_)=>n≠0/\K (.raw (.pointer (some ⟨b,a+fo,none⟩)))
  |_=>False)
 |none=>False
def hld(o:Option TI)(g:Γ)(a:Nat)(d:Γ)(c e:Φ)(K:Ω):Prop:=match o,g with
 |some i,some g=>(match c.getD g .any with
  |.bp b Te cs=>a+dh i<=cs.length/\K (c.set g (.bp b Te (bv cs a (dh i) ((aq cs a (dh i)).map v1)))) (am e d (pl (em i.td.agg (aq cs a (dh i)))))
  |_=>False)
 |_,_=>False
def xH(o:Option TI)(g:Γ)(a:Nat)(y:Operand)(d:Γ)(e c:Φ)(K:Ω):Prop:=match o,g with
 |some i,some g=>(match e.getD g .any with
  |.bp b Te cs=>a+i.size<=cs.length/\Lb (bj c y)=true/\(cellsOf (bj c y)).length=i.size/\K (e.set g (.bp b Te (bv cs a i.size (cellsOf (bj c y))))) (am (d7 c y) d .any)
  |_=>False)
 |_,_=>False
def hnc(x:AV)(A:Prop)(K:AV->Prop):Prop:=match x with
 |.raw (.pointer (some ad))=>K (.raw (.pointer (some ad)))
 |.raw (.iface t v)=>K (.raw (.iface t v))
 |.raw (.func (.func g) xs bs)=>K (.raw (.func (.func g) xs bs))
 |.ee g cs=>K (.ee g cs)
 |_=>A
def DG(H:Hw)(t:Nat)(x:Option Value)(K:AV->Prop):Prop:=match x with
 |some v=>H.cn t=true/\K (.raw (.iface t v))
 |none=>False
def fK(H:Hw)(t:Nat)(d:Γ)(a b:Φ)(K:Ω):AV->Prop
 |.elt y=>H.cn t=true/\∀c,K (.fu c y::a) (am b d (.raw (.iface t (.pointer (some c)))))
 |x=>DG H t (VA x) λy=>K a (am b d y)
def xI(z:Option Value)(o:Bool)(K:AV->Prop):Prop:=match z with
 |some z=>o=true/\K (.a6 [B8 z,.raw (.bool false)])
 |none=>False
def x1(c:Bool)(t:Nat)(v:Value)(a:Nat)(o:Bool)(z:Option Value)(K:AV->Prop):Prop:=
 c=true/\if t=a then K (if o then .a6 [B8 v,.raw (.bool true)]else B8 v)else xI z o K
def mr(H:Hw)(t:Nat)(o:Bool)(x:AV)(K:AV->Prop):Prop:=match x with
 |.raw (.iface t' v)=>x1 (H.cn t) t' v t o (H.zr t) K
 |.raw .nilIface=>H.cn t=true/\xI (H.zr t) o K
 |_=>False
def hbn(H:Hw)(b:BinOp)(t:Nat)(A:Prop)(K:AV->Prop):Ϫ->Prop
 |some (k,e)=>(match b with
  |.eql=>H.ek t=some k/\K (.raw (.bool e))
  |.neq=>H.ek t=some k/\K (.raw (.bool (!e)))
  |_=>A)
 |none=>A
def hpn(x:AV)(E:Value->Prop):Prop:=match x with
 |.raw (.iface t v)=>E (.iface t v)
 |_=>False
def Rj(d:Option TypeDesc)(k:Value)(a:ϴ):Prop:=match d with
 |some d=>Ew d k/\∀x∈a,Ew d x
 |none=>False
def M5(o:Bool)(z:Value)(v:Φ):Γ->AV
 |some j=>if o then .a6 [view (v.getD j .any),.raw (.bool true)]else view (v.getD j .any)
 |none=>if o then .a6 [B8 z,.raw (.bool false)]else B8 z
def VD(H:Hw)(a e:Nat)(x y:AV)(o:Bool)(K:AV->Prop):Prop:=match x,y,H.zr e with
 |.bw b ks vs,.raw k,some z=>Rj (H.kd a) k ks/\K (M5 o z vs (Bu k ks))
 |_,_,_=>False
def hlk(H:Hw)(m:Option (Nat×Nat))(g:Γ)(y:AV)(o:Bool)(a:Φ)(K:AV->Prop):Prop:=match m,g with
 |some (kt,et),some g=>VD H kt et (a.getD g .any) y o K
 |_,_=>False
def IR(b:Nat)(a:ϴ)(v:Φ)(k:Value)(y:AV):Γ->AV
 |some j=>.bw b a (v.set j y)
 |none=>.bw b (a++[k]) (v++[y])
def VE(d:Option TypeDesc)(x k y:AV)(K:AV->Prop):Prop:=match x,k with
 |.bw b ks vs,.raw k=>Rj d k ks/\K (IR b ks vs k y (Bu k ks))
 |_,_=>False
def Ob(H:Hw)(m:Option (Nat×Nat))(g:Γ)(x y:Operand)(d:Γ)(b a:Φ)(K:Ω):Prop:=match m,g with
 |some (kt,et),some g=>VE (H.kd kt) (b.getD g .any) (bj a x) (bj a y) λz=>K (b.set g z) (am (d7 a y) d .any)
 |_,_=>False
def hlen(m:Option (Nat×Nat))(x:AV)(K:AV->Prop):Prop:=match m,x with
 |some _,.bw _ ks _=>K (.raw (.int .i64 (ks.length:Int)))
 |_,_=>False
def hcg(P:Program)(p:Φ)(g:Nat)(c:Φ)(b:List AV×List AV)(d:Γ)(e:Φ)(K:Ω)(E:Value->Ω):Prop:=
 HC P g (p++(b.1++c)) e (λr a=>K a (am b.2 d r)) (λv a=>E v a b.2)
def hcv(P:Program)(f:AV)(a:List AV×List AV)(d:Γ)(b:Φ)(K:Ω)(E:Value->Ω):Prop:=match f with
 |.raw (.func (.func g) first caps)=>first.toList=[]/\hcg P [] g (caps.toList.map R5) a d b K E
 |.ee g cs=>hcg P [] g cs a d b K E
 |_=>False
def hinv(P:Program)(H:Hw)(r:AV)(n:String)(a:List AV×List AV)(d:Γ)(b:Φ)(K:Ω)(E:Value->Ω):Prop:=match r with
 |.raw (.iface t (.pointer (some ad)))=>(match H.me t n with
  |some g=>hcg P [.raw (.pointer (some ad))] g [] a d b K E
  |none=>False)
 |.raw (.iface t v)=>(match H.mv t n with
  |some g=>hcg P [B8 v] g [] a d b K E
  |none=>False)
 |_=>False
def hrow(σ:Φ):List Operand->Bool
 |.tmp t::_=>(Gz σ t).isSome
 |_=>false
def EI(H:Hw)(x:Γ)(t:Θ)(a:Φ)(A:Prop)(K:AV->Prop):Prop:=match x,t with
 |some b,[t]=>(match Lu b a with
  |some gi=>hlen (H.mp t) (a.getD gi .any) K
  |none=>False)
 |_,_=>A
def xz(T:Br)(a:Φ)(x y:Operand)(d:Γ)(K:Ψ):Option TI->Option TI->Prop
 |some i,some u=>u.td.str=true/\(match i.td.elem with
  |some e=>(match T e with
   |some j=>xE a e j x y d K
   |none=>False)
  |none=>False)
 |_,_=>False
def hop(P:Program)(T:Br)(H:Hw)(d:Γ)(o:Op)(e a:Φ)(K:Ω)(E:Value->Ω):Prop:=
 match o with
 |.fieldAddr t (.tmp q) f=>(match Jf (a.getD q .any)with
  |some (b,off)=>Yt (T t) f b off λy=>K e (am a d y)
  |none=>On P T d o a (K e))
 |.load t (.tmp q)=>(match Jf (a.getD q .any)with
  |some (b,off)=>hld (T t) (Lu b e) off d e a K
  |none=>On P T d o a (K e))
 |.store t (.tmp q) y=>(match Jf (a.getD q .any)with
  |some (b,off)=>xH (T t) (Lu b e) off y d e a K
  |none=>On P T d o a (K e))
 |.nilCheck x=>hnc (bj a x) (On P T d o a (K e)) λy=>K e (am a d y)
 |.makeInterface t x=>fK H t d e a K (bj a x)
 |.typeAssert x _ t ok=>mr H t ok (bj a x) λy=>K e (am a d y)
 |.binOp b t x (.const v) t'=>hbn H b t (On P T d o a (K e)) (λy=>K e (am a d y)) (wI v (bj a x))
 |.panic x=>hpn (bj a x) λv=>E v e a
 |.makeMap t none=>∀b,(∀x∈e,Qm x≠some b)->K (.bw b [] []::e) (am a d (.raw (.map (some b))))
 |.lookup t (.tmp q) x ok=>(match Gi (a.getD q .any)with
  |some b=>hlk H (H.mp t) (Lu b e) (bj a x) ok e λy=>K e (am a d y)
  |none=>On P T d o a (K e))
 |.mapUpdate t (.tmp q) x y=>(match Gi (a.getD q .any)with
  |some b=>Ob H (H.mp t) (Lu b e) x y d e a K
  |none=>On P T d o a (K e))
 |.insert t (.tmp q) x y=>(match Gi (a.getD q .any)with
  |some b=>Ob H (H.mp t) (Lu b e) x y d e a K
  |none=>On P T d o a (K e))
 |.call c=>(match c.callee with
  |.builtin .len=>(match c.args.toList with
   |[.tmp t]=>EI H (Gi (a.getD t .any)) c.argTypes.toList e (On P T d o a (K e)) λy=>K e (am a d y)
   |_=>On P T d o a (K e))
  |.builtin .append=>(match c.args.toList,c.argTypes.toList with
   |[x,y],[t,t']=>bif t==t' then On P T d o a (K e)else xz T a x y d (K e) (T t) (T t')
   |_,_=>On P T d o a (K e))
  |.value f=>bif hrow a c.args.toList then On P T d o a (K e)else hcv P (bj a f) (bi a c.args.toList) d e K E
  |.invoke r n=>hinv P H (bj a r) n (bi a c.args.toList) d e K E
  |_=>On P T d o a (K e))
 |_=>On P T d o a (K e)
section
variable{P:Program}{T:Br}{H:Hw}{w0 w:World}{S0 c0:Nat->Nat}{l σ:Φ}{a:Act}{o:Oper}{Q:Exit->Act->World->Prop}{K:Φ->Φ->Prop}{E:Value->Φ->Φ->Prop}
def Io{b g}(h:Lu b l=some g):l[g]? =some (l.getD g .any)/\Qm (l.getD g .any)=some b:=by
 obtain⟨x,h1,c⟩:=qJ h
 grind
def AdT(g:Ax P T)(d:Ah bg w0 S0 c0 l σ a w)(h:Wb P T o σ (K l)):o.wp P a w (λf w'=>∃c b,K c b/\Ah bg w0 S0 c0 c b f w') Q:=
 Ba (λf w' ⟨b,i,e⟩=>⟨l,b,i,e⟩) (d.old λw0 S0 c0 e=>Lq g e h)
def AdU(h:On P T o.dst o.op σ (K l)):Wb P T o σ (K l):=h
def hq{v y}(d:Ah bg w0 S0 c0 l σ a w)(f:pb y=true)(h:(execOp a.eval o).run P w=.ok (.value v) w)(g:∀S c,Ac w S σ a.tmps.toList c->∃cy,Ac w S [y] [v] cy/\Zc cy)(i:K l (am σ o.dst y)):
 o.wp P a w (λe w'=>∃γ' b,K γ' b/\Ah bg w0 S0 c0 γ' b e w') Q:=
 Ba (λe w' j=>⟨l,_,i,j⟩) (UZ d f h g)
def Ah.ns(b:Ah bg w0 S0 c0 l σ a w)(x):∃S c,Ac w S [bj σ x] [a.eval x] c:=by
 obtain⟨S,c,c1,g,d,e,_⟩:=b;obtain⟨cy,h⟩:=Ay e x
 grind
def U6{b k c}(e:C1 P H)(h:Rj (H.kd b) k c):e_ P b k c:=by
 unfold Rj at h;split at h;rename_i d f;exact⟨d,e.kd _ _ f,h.1,h.2⟩
 grind
def IS(v):pb (B8 v)=true:=by unfold B8;split;split<;>rfl;unfold R5;split<;>rfl
def P0{p y pu us g x}(j:Ah bg w0 S0 c0 l σ a w)(k:∀S c,Ac w S σ a.tmps.toList c->∃e,Ac w S p pu e/\Zc e)(m:∀S c,Ac w S σ a.tmps.toList c->∃e,Ac w S y us e/\Zc e)(f:Hr P g->(execOp a.eval o).run P w=.ok (.enter g (pu++(x.map a.eval++us)).toArray) w)(h:hcg P p g y (bi σ x) o.dst l K E)(n:∀v b d i,E v b d->Ah bg w0 S0 c0 b d a i->Q (.panic [{v:=v,recovered:=false}]) a i):o.wp P a w (λq i=>∃b d,K b d/\Ah bg w0 S0 c0 b d q i) Q:=
 qL j k m f h n
def IU{f c}(ho:o.op=.call c)(hc:c.callee=.value f)(n:Ah bg w0 S0 c0 l σ a w)(h:hcv P (bj σ f) (bi σ c.args.toList) o.dst l K E)(u:∀v k m w',E v k m->Ah bg w0 S0 c0 k m a w'->Q (.panic [{v:=v,recovered:=false}]) a w'):o.wp P a w (λx w'=>∃k m,K k m/\Ah bg w0 S0 c0 k m x w') Q:=by
 unfold hcv at h;split at h;rename_i g first j s
 obtain⟨p,h⟩:=h;have e1:=n.ic s;have t:first= #[]:=Rk p
 subst t;refine P0 (pu:=[]) (us:=j.toList) n (λS c _=>⟨_,.nil Al,Al⟩) (λS c _=>⟨_,N8 _,Al⟩) (λb=> ?_) h u
 have d:([]++(c.args.toList.map a.eval++j.toList)).toArray=c.args.map a.eval++j:=by
  grind
 rw[d];obtain⟨y,r,b,e,i⟩:=b;have hrun:=F2 (P:=P) b i e ((c.args.map a.eval)++j) w;exact BY
 .rename_i g A s;obtain⟨B,c1,hop⟩:=n.ns f;rw[s]at hop
  obtain⟨us,e1⟩:∃us:ϴ,a.eval f=.func (.func g) #[] us.toArray:=by
   generalize a.eval f=v at hop
   cases hop with
   |ee h1 h0 h=>grind
  refine P0 (pu:=[]) (us:=us) n (λS c _=>⟨_,.nil Al,Al⟩) (λS c z=> ?_) (λb=> ?_) h u
  .obtain⟨C,q⟩:=Ay z f;rw[s,e1]at q;generalize D:(Value.func (.func g) #[] us.toArray)=v at q
   cases q with
   |ee h1 h0 h=>
    grind
  have d:([]++(c.args.toList.map a.eval++us)).toArray=c.args.map a.eval++us.toArray:=by
   grind
  rw[d];obtain⟨y,r,b,e,i⟩:=b;have hrun:=F2 (P:=P) b i e ((c.args.map a.eval)++us.toArray) w;exact BY
 grind
def xJ(u:C1 P H){r n c}(A:o.op=.call c)(B:c.callee=.invoke r n)(e:Ah bg w0 S0 c0 l σ a w)(h:hinv P H (bj σ r) n (bi σ c.args.toList) o.dst l K E)(x:∀v b d w',E v b d->Ah bg w0 S0 c0 b d a w'->Q (.panic [{v:=v,recovered:=false}]) a w'):o.wp P a w (λC w'=>∃b d,K b d/\Ah bg w0 S0 c0 b d C w') Q:=by
 have m:∀{t g:Nat} {v:Value},bj σ r=.raw (.iface t v)->(method (P.types.size+Made.depth) t v n).run P w=.ok (g,v) w->Hr P g->(execOp a.eval o).run P w=.ok (.enter g ([v]++(c.args.toList.map a.eval++[])).toArray) w:=λ{t g v} p D f=>by
  have e1:=e.ic p;obtain⟨I,y,f,i,j⟩:=f
  have k:([v]++(c.args.toList.map a.eval++[])).toArray= #[v]++c.args.map a.eval:=by
   grind
  rw[k];have q:=F2 (P:=P) f j i (#[v]++c.args.map a.eval) w
  have F:(#[Value.iface t v]++c.args.map a.eval).extract 1 (1+c.args.size)=c.args.map a.eval:=by
   grind
  unfold execOp;have G:(#[Value.iface t v]++c.args.map a.eval)[0]? =some (.iface t v):=by rw[<-ak,Array.toList_append];rfl
  simp[A,resolve,B,e1,invoke,callMethod,ft,D,q,F,G]
 unfold hinv at h;split at h;rename_i t z p;split at h;rename_i g s;exact P0 (pu:=[.pointer (some z)]) (us:=[]) e (λS c _=>⟨_,.raw rfl (.nil Al),Al⟩) (λS c _=>⟨_,.nil Al,Al⟩) (m p (u.base.me t n g s z w)) h x
 grind
 rename_i t v _ p;split at h;rename_i g s;exact P0 (pu:=[v]) (us:=[]) e (λS c _=>⟨_,Hy v,Al⟩) (λS c _=>⟨_,.nil Al,Al⟩) (m p (u.mv t n g s v w)) h x
 grind
 grind
def VF{t u v e}(h:∀n,(Op.equalIn (n+1) t u v).run P w=.ok e w):(Op.equal t u v).run P w=.ok e w:=h 9999
def xK:Value->Bool
 |.nilIface|.iface _ _|.pointer _|.map _|.nilFunc|.func _ _ _=>true
 |_=>false
def xL{t u v e}(hu:xK u=true)(h:(Op.equal t u v).run P w=.ok e w):(binOp .eql t u v).run P w=.ok (.bool e) w:=by exact Ahf
def xM{t u v e}(hu:xK u=true)(h:(Op.equal t u v).run P w=.ok e w):(binOp .neq t u v).run P w=.ok (.bool (!e)) w:=by exact Ahf
def kY{v u:Value}{x:AV}{k t:Nat}{e:Bool}{S c:Δ}{d:TypeDesc}(h:wI v x=some (k,e))(g:Ac w S [x] [u] c)(i:P.underlying t=some d)(j:DF k d)(f:BinOp)(y:Operand):
 (eqGuard f t y (.const v) u v).run P w=.ok () w/\(Op.equal t u v).run P w=.ok e w/\(binOp .eql t u v).run P w=.ok (.bool e) w/\(binOp .neq t u v).run P w=.ok (.bool (!e)) w:=by
 unfold wI at h
 split at h<;>first
  |cases h;done
  |(injection h with h
    injection h with h1 m;subst h1;subst m;have e1:=(Az g).1;subst e1;cases d<;>simp only[DF]at j;refine⟨by unfold eqGuard;cases f<;>simp,?_⟩;refine(λb=>⟨b,xL rfl b,xM rfl b⟩) (VF λn=> ?_);simp[Op.equalIn,fp i])
theorem F4 (X:Ax P T) (G:C1 P H) (hst:Ah bg w0 S0 c0 l σ a w) (h:hop P T H o.dst o.op l σ K E)
 (hE:∀v s p w',E v s p->Ah bg w0 S0 c0 s p a w'->Q (.panic [{v:=v,recovered:=false}]) a w'):o.wp P a w (λF w'=>∃s p,K s p/\Ah bg w0 S0 c0 s p F w') Q:=by
 have A:On P T o.dst o.op σ (K l)->o.wp P a w (λF w'=>∃s p,K s p/\Ah bg w0 S0 c0 s p F w') Q:=λh=>AdT X hst (AdU h);unfold hop at h;split at h
 .rename_i t q f ho;split at h
  .rename_i b off J;unfold Yt at h;split at h
   .rename_i i Y;split at h
    .rename_i fo n ag hf;exact Ba (λF w' D=>⟨l,_,h.2,D⟩) (wZ ho (X t i Y) hst (Jw J) hf h.1)
    grind
   grind
  .exact A h
 .rename_i t q ho;split at h
  .rename_i b off J;unfold hld at h;split at h
   .rename_i i gi Y B;split at h
    .rename_i b' Te cs hx;obtain⟨g1,g2⟩:=Io B;rw[hx]at g1 g2;injection g2 with g2;subst g2;exact Ba (λF w' D=>⟨_,_,h.2,D⟩) (qK ho (X t i Y) hst (Jw J) g1 rfl h.1)
    grind
   grind
  .exact A h
 .rename_i t q y ho;split at h
  .rename_i b off J;unfold xH at h;split at h
   .rename_i i gi Y B;split at h
    .rename_i b' Te cs hx;obtain⟨g1,g2⟩:=Io B;rw[hx]at g1 g2;injection g2 with g2;subst g2;exact Ba (λF w' D=>⟨_,_,h.2.2.2,D⟩) (kW ho (X t i Y) hst (Jw J) g1 h.2.1 h.2.2.1 h.1)
    grind
   grind
  .exact A h
 .rename_i x ho;have raw:∀{v:Value},bj σ x=.raw v->v.oneCell'=true->(∀w,(execOp a.eval o).run P w=.ok (.value (a.eval x)) w)->K l (am σ o.dst (.raw v))->o.wp P a w (λF w'=>∃s p,K s p/\Ah bg w0 S0 c0 s p F w') Q:=λ{v} hx h1 C Z=>by have e1:=hst.ic hx;exact hq hst rfl (by rw[C,e1]) (λS c M=>⟨_,.raw h1 (.nil Al),Al⟩) Z
  unfold hnc at h;split at h
  .rename_i ad hx;exact PQ
  .rename_i t v hx;exact PQ
  .rename_i g xs bs hx;exact PQ
  .rename_i g cs hx;obtain⟨S1,c1,hop⟩:=hst.ns x;rw[hx]at hop
   obtain⟨us,e1⟩:∃us:ϴ,a.eval x=.func (.func g) #[] us.toArray:=by
    generalize a.eval x=v at hop
    cases hop with
    |ee h1 h0 h=>grind
   refine hq hst rfl (v:=a.eval x) (by unfold execOp;simp[ho,e1]) (λS c M=> ?_) h;obtain⟨cx,hrx⟩:=Ay M x;rw[hx,e1]at hrx;rw[e1]
   cases hrx with
   |ee h1 h0 h=>exact⟨_,.ee h1 h0 (.nil Al),Al⟩
  .exact A h
 .rename_i t x ho;have C:H.cn t=true->∀w,(execOp a.eval o).run P w=.ok (.value (.iface t (a.eval x))) w:=λI w=>by obtain⟨d,L,N⟩:=G.base.cn t I;unfold execOp;simp only[ho,Instr.makeInterface,ft,fp L,gq];simp_all
  unfold fK at h;split at h
  .rename_i y hx;obtain⟨I,h⟩:=h;obtain⟨S,c,c1,gv,hrf,M,hg,h1,L,hz,D⟩:=hst;obtain⟨cy,y0⟩:=Ay M x;rw[hx]at y0;generalize hv:a.eval x=v at y0
   cases y0 with
   |elt hsp k1 k0 hcell hsz k2=>
    rename_i ad cv c0';obtain⟨c4,h2,h3⟩:=M.am (.raw (v:=.iface t (.pointer (some ad))) rfl (.nil Al)) o.dst;refine Au (w':=w) (v:=.iface t (.pointer (some ad))) (by grind) ⟨_,_,h ad,S,c4,c1,undef::gv,hrf.am _ _ rfl,h2,.fu hsp k1 k0 hcell hsz hg,λb=> ?_,by rw[G5];exact L,hz,D.drop λb=> ?_⟩
    .grind
    grind
  .unfold DG at h;split at h
   .rename_i v hv;obtain⟨S1,c1,hop⟩:=hst.ns x;have e1:=xG hop hv;exact hq hst rfl (v:=.iface t v) (by grind) (λS c M=>⟨_,.raw rfl (.nil Al),Al⟩) h.2
   grind
 .rename_i x xt t ok ho
  have O:∀{v:Value},H.cn t=true->bj σ x=.raw v->(v=.nilIface\/∃U u,v=.iface U u/\U≠t)->xI (H.zr t) ok (λy=>K l (am σ o.dst y))->o.wp P a w (λF w'=>∃s p,K s p/\Ah bg w0 S0 c0 s p F w') Q:=λ{v} I hx hv h=>by
   unfold xI at h;split at h
   .rename_i z hz;obtain⟨rfl,Z⟩:=h;have I_:=G.base.zr t z hz;obtain⟨d,L,N⟩:=G.base.cn t I;refine hq hst (y:=.a6 [B8 z,.raw (.bool false)]) (v:=.tuple #[z,.bool false]) rfl ?_ (λS c M=>⟨λ_=>0,fh (c1:=λ_=>0) (b4 (c2:=λ_=>0) (Hy z) (.raw rfl (.nil Al)) (λb=>rfl)) (.nil Al) (λb=>rfl),Al⟩) Z;unfold execOp;simp only[ho,Instr.typeAssert,hst.ic hx,ft,fp L,gq];rcases hv with rfl|⟨U,u,rfl,hne⟩
    .cases d<;>first|exact cw rfl (N _)|simp[I_]
    .cases d<;>first|exact cw rfl (N _)|simp[I_,hne]
   .exact A7
  unfold mr at h;split at h
  .rename_i U v hx;obtain⟨I,h⟩:=h;split at h
   .rename_i ht;subst ht;obtain⟨d,L,N⟩:=G.base.cn U I;have C:(execOp a.eval o).run P w=.ok (.value (if ok then .tuple #[v,.bool true]else v)) w:=by unfold execOp;simp only[ho,Instr.typeAssert,hst.ic hx,ft,fp L,gq];cases d<;>first|exact cw rfl (N _)|simp
    cases ok with
    |true=>exact hq hst (y:=.a6 [B8 v,.raw (.bool true)]) rfl C (λS c M=>⟨λ_=>0,fh (c1:=λ_=>0) (b4 (c2:=λ_=>0) (Hy v) (.raw rfl (.nil Al)) (λb=>rfl)) (.nil Al) (λb=>rfl),Al⟩) h
    |false=>exact hq hst (y:=B8 v) (IS v) C (λS c M=>⟨_,Hy v,Al⟩) h
   .rename_i ht;exact O I hx (.inr ⟨_,_,rfl,ht⟩) h
  .rename_i hx;exact O h.1 hx (.inl rfl) h.2
  .exact A7
 .rename_i b t x v U ho;unfold hbn at h;split at h
  .rename_i k e hn;have key:∀{u:Value},H.ek t=some k->(binOp b t (a.eval x) v).run P w=.ok u w->u.oneCell'=true->K l (am σ o.dst (.raw u))->o.wp P a w (λF w'=>∃s p,K s p/\Ah bg w0 S0 c0 s p F w') Q:=λ{u} hek hb h1 Z=>by obtain⟨d,L,R⟩:=G.ek t k hek;obtain⟨S1,c1,hop⟩:=hst.ns x;have hg:=(kY hn hop L R b x).1;refine hq hst rfl (v:=u) ?_ (λS c M=>⟨_,.raw h1 (.nil Al),Al⟩) Z;unfold execOp;simp only[ho,Act.eval,ft,ia,gq]at hg hb⊢;simp only[hg,hb,gq,ia]
   split at h
   .obtain⟨d,L,R⟩:=G.ek t k h.1;obtain⟨S1,c1,hop⟩:=hst.ns x;exact key h.1 (kY hn hop L R .eql x).2.2.1 rfl h.2
   .obtain⟨d,L,R⟩:=G.ek t k h.1;obtain⟨S1,c1,hop⟩:=hst.ns x;exact key h.1 (kY hn hop L R .eql x).2.2.2 rfl h.2
   .exact A h
  .exact A h
 .rename_i x ho;unfold hpn at h;split at h
  .rename_i t v hx;have C:(execOp a.eval o).run P w=.halt (.panic (.iface t v)) w:=by unfold execOp;simp only[ho,Instr.panic,hst.ic hx];rfl
   unfold Oper.wp;rw[C,Oper.upon_panic];exact hE _ _ _ _ h hst
  .exact A7
 .rename_i t ho;exact Ba (λF w' ⟨b,hb,D⟩=>⟨_,_,h b hb,D⟩) (qM ho hst)
 .rename_i t q x ok ho;split at h
  .rename_i b J;unfold hlk at h;split at h
   .rename_i kt V gi hm B;unfold VD at h;split at h
    .rename_i b' ks vs k z hx hk hz;obtain⟨g1,g2⟩:=Io B;rw[hx]at g1 g2;injection g2 with g2;subst g2;refine Ba (λF w' D=>⟨l,_,h.2,?_⟩) (dL ho (G.base.mp t kt V hm) (G.base.zr V z hz) hst (M4 J) hk g1 (U6 G h.1));unfold M5;exact D
    .exact A7
   .exact A7
  .exact A h
 .rename_i t q x y ho;split at h
  .rename_i b J;unfold Ob at h;split at h
   .rename_i kt V gi hm B;unfold VE at h;split at h
    .rename_i b' ks vs k hx hk;obtain⟨g1,g2⟩:=Io B;rw[hx]at g1 g2;injection g2 with g2;subst g2;refine Ba (λF w' D=>⟨_,_,h.2,?_⟩) (Qv (.inl ho) (G.base.mp t kt V hm) hst (M4 J) hk g1 (U6 G h.1));unfold IR;exact D
    .exact A7
   .exact A7
  .exact A h
 .rename_i t q x y ho;split at h
  .rename_i b J;unfold Ob at h;split at h
   .rename_i kt V gi hm B;unfold VE at h;split at h
    .rename_i b' ks vs k hx hk;obtain⟨g1,g2⟩:=Io B;rw[hx]at g1 g2;injection g2 with g2;subst g2;refine Ba (λF w' D=>⟨_,_,h.2,?_⟩) (Qv (.inr ho) (G.base.mp t kt V hm) hst (M4 J) hk g1 (U6 G h.1));unfold IR;exact D
    .exact A7
   .exact A7
  .exact A h
 .rename_i c ho;split at h
  .rename_i hc;split at h
   .rename_i t hca;unfold EI at h;split at h
    .rename_i b ty J hty;split at h
     .rename_i gi B;unfold hlen at h;split at h
      .rename_i m b' ks vs hm hx;obtain⟨kt,V⟩:=m;obtain⟨g1,g2⟩:=Io B;rw[hx]at g1 g2;injection g2 with g2;subst g2;have W:=hst;obtain⟨S,cc,c1,gv,hrf,M,hg,h1,hdf,hzz,D⟩:=hst;obtain⟨es,BT,d1,c2,hb,hS,hkeys,_⟩:=Ah.jt hg g1;have e1:=W.raw (M4 J);refine hq W rfl (v:=.int .i64 (ks.length:Int)) ?_ (λS c M=>⟨_,.raw rfl (.nil Al),Al⟩) h;have hgo:(getObj b').run P w=.ok (.map es BT) w:=by simp[getObj,Sem.run,hb]
       have hl:es.size=ks.length:=by rw[<-hkeys];simp
       unfold execOp;simp[ho,resolve,hc,Rk hca,Rk hty,invoke,builtin,Builtin.len_,fp (G.base.mp ty kt V hm),e1,ft,hgo,goInt,hl]
      .exact A7
     .exact A7
    .exact A h
   .exact A h
  .rename_i hc;split at h
   .rename_i x y t U hca hct
    cases L_:(t==U)with
    |true=>rw[L_]at h;exact A h
    |false=>
     rw[L_]at h;simp only[cond_false]at h;unfold xz at h;split at h
     .rename_i i iu Y hiu;obtain⟨hstr,h⟩:=h;split at h
      .rename_i e he;split at h
       .rename_i j hj;obtain⟨inf,z,d2,_,_,_,_,_,g6,g7⟩:=(X U iu hiu).get;have hd2:d2=.string:=Up (P:=P) (by rw[g7];exact hstr);subst hd2;exact Ba (λF w' ⟨p,Z,D⟩=>⟨l,p,Z,D⟩) (hst.old λw0 S0 c0 hs'=>xF ho hc (Rk hca) (Rk hct) (X t i Y) g6 he (X e j hj) hs' h)
       .exact A7
      .exact A7
     .exact A7
   .exact A h
  .rename_i f hc
   cases hrw:hrow σ c.args.toList with
   |true=>rw[hrw]at h;exact A h
   |false=>rw[hrw]at h;exact IU ho hc hst h hE
  .rename_i r n hc;exact xJ G ho hc hst h hE
  .exact A h
 .exact A h
end
end
section
variable[Env]
variable{m:Ϙ}
def M6(P:Program)(T:Br)(H:Hw)(K:Ω)(E:Value->Ω):List CO->Ω
 |[],γ,σ=>K γ σ
 |⟨d,op,none⟩::l,γ,σ=>hop P T H d op γ σ (M6 P T H K E l) E
 |⟨d,op,some (t,want)⟩::l,γ,σ=>
  match σ.getD t .any with
  |.raw (.bool e)=>
   Dx e
    (if want then hop P T H d op γ (σ.set t (.raw (.bool true))) (M6 P T H K E l) E else M6 P T H K E l γ (am (σ.set t (.raw (.bool true))) d (.a6 [])))
    (if want then M6 P T H K E l γ (am (σ.set t (.raw (.bool false))) d (.a6 []))else hop P T H d op γ (σ.set t (.raw (.bool false))) (M6 P T H K E l) E)
  |.a6 []=>M6 P T H K E l γ (am σ d (.a6 []))
  |_=>False
section
variable{P:Program}{T:Br}{H:Hw}{d:World}{f k:Nat->Nat}{γ σ:Φ}{a:Act}{w:World}
def Zf(N:Ax P T)(O:C1 P H){n K}{E:Value->Ω}{Q:Exit->Ϣ}:
 ∀(l:Θ) (os:List Oper) (G:List CO) (γ σ:Φ) (a:Act) (w:World),l.map (n[·]?)=os.map some->Dz n os=some G->Ah m d f k γ σ a w->M6 P T H K E G γ σ->
  (∀γ σ B z,Ah m d f k γ σ B z->K γ σ->Q .normal B z)->(∀v γ σ B z,E v γ σ->Ah m d f k γ σ B z->Q (.panic [{v:=v,recovered:=false}]) B z)->wpOps P n Q l a w
 |[],os,G,γ,σ,a,w,hl,hcs,hst,h,hQ,hE=>by exact yb
 |i::l,[],G,γ,σ,a,w,hl,hcs,hst,h,hQ,hE=>by simp at hl
 |i::l,o::os,G,γ,σ,a,w,hl,hcs,hst,h,hQ,hE=>by
  simp only[ev,b5]at hl;obtain⟨R,hl⟩:=hl;simp only[Dz]at hcs;split at hcs
  .rename_i g r s hr;injection hcs with hcs;subst hcs;have q:∀γ σ a w,Ah m d f k γ σ a w->M6 P T H K E r γ σ->wpOps P n Q l a w:=λγ σ a w hst h=>Zf N O l os r γ σ a w hl hr hst h hQ hE
   have one:∀γ σ,Ah m d f k γ σ a w->hop P T H o.dst o.op γ σ (M6 P T H K E r) E->o.wp P a w (wpOps P n Q l) Q:=λγ σ hst h=>
    Ba (λB z ⟨C,D,h1,L⟩=>q C D B z L h1) (F4 N O hst h λv C D z h1 L=>hE v C D a z h1 L)
   simp only[wpOps,R]
   cases u:o.guard with
   |none=>
    rw[u]at s;simp only[El]at s;injection s with s;subst s;have U:wanted o (yielded n a.tmps)=true:=by simp[wanted,u]
    rw[bn U];exact .inl (one γ σ hst h)
   |some jw=>
    obtain⟨j,y⟩:=jw;rw[u]at s;simp only[El]at s;split at s
    .rename_i t ht;injection s with s;subst s;simp only[M6]at h
     have I:∀{x:AV},σ.getD t .any=x->x≠ .any->∃v S c,yielded n a.tmps j=(match v with
      |.bool b=>some b
      |_=>none)/\Ac w S [x] [v] c:=λ{x} hx hne=>by
      exact AgC
     split at h
     .rename_i e J;obtain⟨v,S,c,F,hy⟩:=I J oS;have e1:=(Az hy).1;subst e1;have M:=Us J oS;have A:∀b,e=b->Ah m d f k γ (σ.set t (.raw (.bool b))) a w:=by intro b V;subst V;rw[set_self M J];exact hst
      have p:wanted o (yielded n a.tmps)=(e==y):=by simp[wanted,u,F]
      rw[p]
      cases e with
      |true=>
       have h:=h.1 rfl
       cases y with
       |true=>grind
       |false=>rw[ar oS];exact q _ _ _ w ((A true rfl).skip _) h
      |false=>
       have h:=h.2 rfl
       cases y with
       |true=>rw[ar oS];exact q _ _ _ w ((A false rfl).skip _) h
       |false=>grind
     rename_i J;obtain⟨v,S,c,F,hy⟩:=I J oS;have e1:v=.tuple #[]:=by exact CB
     subst e1;have p:wanted o (yielded n a.tmps)=false:=by simp[wanted,u,F]
     rw[p,ar oS];exact q _ _ _ w (hst.skip _) h
     grind
    .cases s
  .cases hcs
end
end
section
variable[Env]
variable{bg:Ϙ}
section
variable{P:Program}{T:Br}{H:Hw}{k w:World}{l m:Nat->Nat}{g e:Φ}{a:Act}{o:Oper}{E:Value->Φ->Φ->Prop}
def Ap9{K}{E q:Value->Ω}{d j}(r:kc T j<=1)(h:hop P T H d j g e K E):hop P T H d j g e K q:=by
 cases j<;>simp only[kc]at r<;>try (first|exact h|omega)
 case call c=>
  rcases kZ T c with i|i
  .obtain⟨n,p,s⟩:=c;unfold Yq at i;simp only at i;split at i<;>first|exact h|cases i
  grind
 case load t x=>cases x<;>exact h
 case binOp b t x y t'=>cases y<;>exact h
 case fieldAddr t x f=>cases x<;>exact h
def AdW(N:Ax P T){t q d L}(n:Ah bg k l m g e a w)(h:hop P T H d (.load t (.tmp q)) g e L E)(B:xN (e.getD q .any)=true):RV T t q a w:=by
 unfold hop at h;dsimp only at h;split at h;rename_i b f A;have Q:=n.raw (Jw A);unfold hld at h;split at h;rename_i i gi R C;split at h;rename_i O V W D;obtain⟨g1,g2⟩:=Io C;rw[D]at g1 g2;injection g2 with g2;subst g2;obtain⟨S,c,c1,Y,r,F,Z,_⟩:=n;obtain⟨x,d1,c2,hb,hS,G,_⟩:=Ah.ju Z g1;have I:=G.length;simp at I;refine⟨i,O,f,(x.toList.drop f).take (dh i),R,Q,by simp;omega,λj u hj=> ?_⟩;rw[cell_of_row w O (f+j) x V (0,0) hb]
 grind
 grind
 grind
 .rename_i A;obtain⟨S,c,c1,Y,r,F,_⟩:=n
  have z:gE (List.range (e.length+q+1)) q (e.getD q .any)=true\/∃s o,e.getD q .any=.ref s o:=by
   cases hq:e.getD q .any<;>rw[hq]at B A<;>simp only[xN,f0]at B
   case elt y=>exact .inl rfl
   case ref s o=>exact .inr ⟨s,o,rfl⟩
   case box U W=>left;simp[gE];omega
   case raw v=>
    exfalso
    cases v with
    |pointer p=>
     cases p with
     |none=>grind
     |some ad=>obtain⟨bb,oo,sp⟩:=ad;cases sp<;>simp[xN,Jf]at B A
    |_=>grind
  rcases z with z|⟨s,o,z⟩;obtain⟨i,b,f,J,e1,e2,K,M,_⟩:=xO N r F h z;exact⟨i,b,f,J,e1,e2,K,M⟩;obtain⟨i,b,f,J,e1,e2,K,M,_⟩:=xO (X:=[s]) N r F h (by rw[z];simp[gE]);exact⟨i,b,f,J,e1,e2,K,M⟩
theorem At9(c:Ax P T)(d:C1 P H):Dy P T (hop P T H) where
 sound hst h hE:=F4 c d hst h hE
 qE hk h:=Ap9 hk h
 yp h hld:=by
  unfold hop at h;dsimp only at h;split at h
  .rename_i b f i;rw[Jw i]at hld;cases hld
  .exact h
 ld hst h hx:=AdW c hst h hx
end
inductive CH where
 |base (c:CC)
 |hops (l:List CO)
 |ext (c:Code)
 |dr (d:DR)
 |tw (ts:Θ) (c:CH)
 |seq (a b:CH)
 |cut (a b:CH)
 |cond (c:Operand) (x y:CH)
 |block (id:Nat) (c:CH)
 |loop (c:CH)
 |scope (c:CH)
def Zg:Option CC->Option CH
 |some c=>some (.base c)
 |none=>none
abbrev U7:=List (Nat×List Nat×List Nat×List Nat×List Nat)
def Sw:U7->Nat->List Nat×List Nat×List Nat×List Nat
 |[],_=>([],[],[],[])
 |(k,x)::r,id=>if k=id then x else Sw r id
def wx:Option DR->Option CH
 |some d=>some (.dr d)
 |none=>none
def JD:Θ->Option CH->Option CH
 |[],x=>x
 |ts,some c=>some (.tw ts c)
 |_,none=>none
def xT:Option (List CO)->Option CH
 |some c=>some (.hops c)
 |none=>none
def qR(f:CH->CH->CH):Option CH->Option CH->Option CH
 |some x,some y=>some (f x y)
 |_,_=>none
def lA(f:CH->CH):Option CH->Option CH
 |some x=>some (f x)
 |none=>none
def VM:Bool->CH->CH->CH
 |true=>.cut
 |false=>.seq
def Di(A:Pw)(E:Θ)(O:U7):Code->Option CH
 |.region id ops dr=>bif Si E id then some (.ext (.region id ops dr))else bif !(Hv A id).isEmpty||(My A id).isSome then Zg (Cn A (.region id ops dr))else JD (Wd A id) (bif dr then wx (xS ops (Sw O id))else xT (Dz ops ops.toList))
 |.seq a b=>qR (VM (U2 A b)) (Di A E O a) (Di A E O b)
 |.cond c a b=>qR (.cond c) (Di A E O a) (Di A E O b)
 |.block id c=>lA (.block id) (Di A E O c)
 |.loop c=>lA .loop (Di A E O c)
 |.scope c=>lA .scope (Di A E O c)
 |.skip=>Zg (Cn A .skip)
 |.exit id=>Zg (Cn A (.exit id))
 |.label l=>Zg (Cn A (.label l))
 |.ret=>Zg (Cn A .ret)
 |_=>none
def Jg(T:Br)(A:Pw)(E:Θ)(O:U7):Code->Bool
 |.region id ops dr=>Si E id||(bif !(Hv A id).isEmpty||(My A id).isSome then N6 T A (.region id ops dr)else bif dr then v4 T ops (Sw O id)else true)
 |.seq a b=>Jg T A E O a&&Jg T A E O b
 |.cond _ a b=>Jg T A E O a&&Jg T A E O b
 |.block _ c=>Jg T A E O c
 |.loop c=>Jg T A E O c
 |.scope c=>Jg T A E O c
 |_=>true
def Zi(bg:Ϙ)(d:World)(s f:Δ)(Q:Exit->Ω):Exit->Ϣ:=λe a w=>∃b c,Q e b c/\Ah bg d s f b c a w
def M7(f g b c:Φ):Prop:=∀(bg:Ϙ) (d:World) (s e:Δ) (a:Act) (w:World),Ah bg d s e f g a w->Ah bg d s e b c a w
def Gw(d γ':Φ):Prop:=∀(w:World) (S c:Δ) (e:ϴ),Ac w S d e c->∃g a,Ac w S γ' g a/\∀b,a b<=c b
def M7.trans{e f a b c d}(h1:M7 e f a b)(g:M7 a b c d):M7 e f c d:=λ_ _ _ _ _ _ h=>g _ _ _ _ _ _ (h1 _ _ _ _ _ _ h)
def M7.wk{b c a:Φ}(h:Wk c a):M7 b c b a:=λ_ _ _ _ _ _ d=>d.wk h
def Gw.refl(a):Gw a a:=λ_ _ c g h=>⟨g,c,h,λ_=>bx _⟩
abbrev aa:=@Gw.refl
def Gw.trans{a jr j2}(h1:Gw a jr)(b:Gw jr j2):Gw a j2:=λw S c g h=>by
 obtain⟨g1,c1,k1,l⟩:=h1 w S c g h;obtain⟨g2,c2,k2,d⟩:=b w S c1 g1 k1
 grind
def Gw.perm{a γ'}(h:a.Perm γ'):Gw a γ':=λw S c g b=>by
 obtain⟨u,d⟩:=Ac.perm h b
 grind
def Gw.cons{x y a γ'}(h1:W1 x y)(h:Gw a γ'):Gw (x::a) (y::γ'):=λw S c k d=>by obtain⟨v,u,e,f,rfl,g,i,l⟩:=d.bu;obtain⟨e1,g1,m⟩:=h1 w S v e g;obtain⟨j,e2,g2,n⟩:=h w S f u i;exact⟨_,_,b4 g1 g2 (λb=>rfl),λb=>by grind⟩
def Gw.drop(x){a γ'}(h:Gw a γ'):Gw (x::a) γ':=λw S c g b=>by
 obtain⟨v,u,i,d,rfl,j,e,k⟩:=b.bu;obtain⟨f,e2,g2,l⟩:=h w S d u e
 grind
def W1.bp{b T:Nat}{a ds:Φ}(h:Wk a ds):W1 (.bp b T a) (.bp b T ds):=λw S v c d=>by
 cases d with
 |bp hb hS h1 ho h2 hc=>obtain⟨g,e,f⟩:=h.rep h1;exact⟨_,.bp hb hS e ho h2 (λx=>rfl),λx=>by grind⟩
def M7.gw{i d j}(h:Gw i d):M7 i j d j:=λbg s t u a w ⟨S,c,c1,k,e,l,m,h1,n,o,p⟩=>by obtain⟨g,q,f,r⟩:=h w S c1 k m;exact⟨S,c,q,g,e,l,f,λb=>by grind,n,o,p.drop λb=>by grind⟩
def Lw(K:Ω)(Q:Exit->Ω):Exit->Ω
 |.normal,γ,σ=>K γ σ
 |e,γ,σ=>Q e γ σ
def We(i:Nat)(Q:Exit->Ω):Exit->Ω
 |.exit id',γ,σ=>if id'=i then Q .normal γ σ else Q (.exit id') γ σ
 |e,γ,σ=>Q e γ σ
def An6(Q:Exit->Ω):Exit->Ω
 |.goto _,γ,σ=>False
 |e,γ,σ=>Q e γ σ
def xU(Q:Exit->Ω)(v:Value)(a:Φ):Prop:=∀b,Q (.panic [{v:=v,recovered:=false}]) a b
def VN(Q:Exit->Ω)(v:Value)(a b:Φ):Prop:=xU Q v a
def ly(Q:Exit->Ω)(v:Value)(a b:Φ):Prop:=Q (.panic [{v:=v,recovered:=false}]) a b
def Cp(P:Program)(T:Br)(H:Hw):CH->(Exit->Ω)->Ω
 |.base c,Q,γ,σ=>Jt P T c (λe σ=>Q e γ σ) σ
 |.hops l,Q,γ,σ=>M6 P T H (Q .normal) (ly Q) l γ σ
 |.dr d,Q,γ,σ=>Qu (hop P T H) (Q .normal) (VN Q) d γ σ
 |.tw ts c,Q,γ,σ=>vY ts (Cp P T H c Q γ) σ
 |.ext c,Q,γ,σ=>∀(bg:Ϙ) (w0:World) (S0 c0:Δ) (a:Act) (w:World),Ah bg w0 S0 c0 γ σ a w->c.wp P (Zi bg w0 S0 c0 Q) a w
 |.seq x y,Q,γ,σ=>Cp P T H x (Lw (Cp P T H y Q) Q) γ σ
 |.cut x y,Q,γ,σ=>∃I:Ω,(∀b f,I b f->Cp P T H y Q b f)/\Cp P T H x (Lw (λi j=>∃g h,M7 i j g h/\I g h) Q) γ σ
 |.cond c x y,Q,γ,σ=>Sm (bj σ c) (Cp P T H x Q γ σ) (Cp P T H y Q γ σ)
 |.block id c,Q,γ,σ=>Cp P T H c (We id Q) γ σ
 |.loop c,Q,γ,σ=>∃I:Nat->Ω,(∃n b f,M7 γ σ b f/\I n b f)/\∀n b f,I n b f->Cp P T H c (Lw (λi j=>∃m g h,m<n/\M7 i j g h/\I m g h) Q) b f
 |.scope c,Q,γ,σ=>Cp P T H c (An6 Q) γ σ
section
variable{P:Program}{T:Br}{H:Hw}{w0:World}{S0 c0:Nat->Nat}
def gA{f:CH->CH->CH}{x y d}(h:qR f x y=some d):∃a b,x=some a/\y=some b/\d=f a b:=by
 unfold qR at h
 grind
def U8{f:CH->CH}{x d}(h:lA f x=some d):∃a,x=some a/\d=f a:=by
 unfold lA at h
 grind
def J7(l:Ax P T)(m:P.follows .mixedOrders=true){A}(c d)(b:Zg (Cn A c)=some d)(n:N6 T A c=true)(Q:Exit->Ω)(f g a w)(i:Ah bg w0 S0 c0 f g a w)(h:Cp P T H d Q f g):c.wp P (Zi bg w0 S0 c0 Q) a w:=by
 unfold Zg at b;split at b;rename_i o j;injection b with b;subst b;obtain⟨S,r,h1,p⟩:=i.open;exact wp_mono (Eu l m c o j n _ g a w h1 h) λe s t ⟨k,hq,q⟩=>⟨f,k,hq,p _ _ _ q⟩
 .cases b
def Ce(p:Ax P T)(q:C1 P H)(hm:P.follows .mixedOrders=true){A E O}:∀(c:Code) (d:CH),Di A E O c=some d->Jg T A E O c=true->∀(Q:Exit->Ω) (i g:Φ) (a:Act) (w:World),Ah bg w0 S0 c0 i g a w->Cp P T H d Q i g->c.wp P (Zi bg w0 S0 c0 Q) a w
 |.skip,d,b,hk,Q,i,g,a,w,f,h=>J7 p hm .skip d b rfl Q i g a w f h
 |.exit id,d,b,hk,Q,i,g,a,w,f,h=>J7 p hm (.exit id) d b rfl Q i g a w f h
 |.label l,d,b,hk,Q,i,g,a,w,f,h=>J7 p hm (.label l) d b rfl Q i g a w f h
 |.ret,d,b,hk,Q,i,g,a,w,f,h=>J7 p hm .ret d b rfl Q i g a w f h
 |.region id ops dr,d,b,hk,Q,i,g,a,w,f,h=>by
  simp only[Di]at b;simp only[Jg]at hk
  cases G:Si E id with
  |true=>rw[G]at b;simp only[cond_true]at b;injection b with b;subst b;exact h bg w0 S0 c0 a w f
  |false=>
   rw[G]at b hk;simp only[cond_false,qm]at b hk
   cases hb:(!(Hv A id).isEmpty||(My A id).isSome)with
   |true=>rw[hb]at b hk;exact J7 p hm _ d b hk Q i g a w f h
   |false=>
    rw[hb]at b hk;simp only[cond_false]at b hk
    have R:∀{e:Exit} {a':Act} {w':World},QR bg w0 S0 c0 (Q .normal) (xU Q) e a' w'->Zi bg w0 S0 c0 Q e a' w':=λ{e a' w'} hq=>by
     match e,hq with
     |.normal,⟨i,g,h1,K⟩=>exact⟨i,g,h1,K⟩
     |.panic [⟨v,false,false⟩],⟨i,g,h1,K⟩=>exact⟨i,g,h1 g,K⟩
    have core:∀L i g,(bif dr then wx (xS ops (Sw O id))else xT (Dz ops ops.toList))=some L->Ah bg w0 S0 c0 i g a w->Cp P T H L Q i g->(Code.region id ops dr).wp P (Zi bg w0 S0 c0 Q) a w:=λL i g b f h=>by
     cases dr with
     |false=>
      simp only[cond_false]at b;unfold xT at b;split at b;rename_i l hl;injection b with b;subst b;exact wp_region (Zf p q (List.range ops.size) ops.toList l i g a w Yb hl f h (λi g a w U hK=>⟨i,g,hK,U⟩) (λv i g a w hE U=>⟨i,g,hE,U⟩))
      .cases b
     |true=>
      simp only[cond_true]at b hk;unfold wx at b;split at b;rename_i L V;injection b with b;subst b;exact wp_mono (wp_region_any hm (AiO p (At9 p q) V hk f.drew h)) λe a w h=>R h
      .cases b
    unfold JD at b;split at b
    grind
    rename_i ts c W _;injection b with b;subst b;obtain⟨S,cc,h1,K⟩:=f.open;obtain⟨j,h3,h4⟩:=C9 _ h1 h
    grind
    .cases b
 |.seq x y,d,b,hk,Q,i,g,a,w,f,h=>by
  simp only[Di]at b;simp only[Jg,gk]at hk;obtain⟨r,M,s,N,rfl⟩:=gA b
  cases W:U2 A y with
  |false=>
   rw[W]at h;refine wp_seq (wp_mono (Ce p q hm x r s hk.1 _ i g a w f h) λe a w hq=> ?_);obtain⟨k,j,hq,o⟩:=hq
   cases e with
   |normal=>exact Ce p q hm y M N hk.2 Q k j a w o hq
   |_=>exact⟨k,j,hq,o⟩
  |true=>
   rw[W]at h;obtain⟨I,X,h⟩:=h;refine wp_seq (wp_mono (Ce p q hm x r s hk.1 _ i g a w f h) λe a w hq=> ?_);obtain⟨k,j,hq,o⟩:=hq
   cases e with
   |normal=>obtain⟨t,u,B,h3⟩:=hq;exact Ce p q hm y M N hk.2 Q t u a w (B _ _ _ _ _ _ o) (X t u h3)
   |_=>exact⟨k,j,hq,o⟩
 |.cond c x y,d,b,hk,Q,i,g,a,w,f,h=>by
  simp only[Di]at b;simp only[Jg,gk]at hk;obtain⟨r,M,s,N,rfl⟩:=gA b;simp only[Cp,Sm]at h;split at h;rename_i e G;exact wp_cond_split (f.ic G) (λht=>Ce p q hm x r s hk.1 Q i g a w f (h.1 ht)) (λhf=>Ce p q hm y M N hk.2 Q i g a w f (h.2 hf))
  grind
 |.block id c,d,b,hk,Q,i,g,a,w,f,h=>by
  simp only[Di]at b;simp only[Jg]at hk;obtain⟨r,s,rfl⟩:=U8 b;refine wp_block (wp_mono (Ce p q hm c r s hk _ i g a w f h) λe a w hq=> ?_);obtain⟨k,j,hq,o⟩:=hq
  cases e with
  |exit id'=> simp only[We]at hq;simp only[Exit.inBlock];split;rename_i C;rw[bn C]at hq;exact⟨k,j,hq,o⟩;rename_i C;rw[ar C]at hq;exact⟨k,j,hq,o⟩
  |_=>exact⟨k,j,hq,o⟩
 |.loop c,d,b,hk,Q,i,g,a,w,f,h=>by
  simp only[Di]at b;simp only[Jg]at hk;obtain⟨r,s,rfl⟩:=U8 b;obtain⟨I,⟨n0,Y,Z,hw,X⟩,z⟩:=h
  classical
  let J:Act->World->Nat->Prop:=λa w n=>∃i g,I n i g/\Ah bg w0 S0 c0 i g a w;refine wp_loop (λa w=>∃n,J a w n) (λa w=>if h:∃n,J a w n then Classical.choose (least h)else 0) ⟨n0,Y,Z,X,hw _ _ _ _ _ _ f⟩ λa w hJ=> ?_;obtain⟨k,j,hI',D⟩:=(Classical.choose_spec (least hJ)).1;refine wp_mono (Ce p q hm c r s hk _ k j a w D (z _ k j hI')) λe a' w' hq=> ?_;obtain⟨j2,σ2,hq,F⟩:=hq
  cases e with
  |normal=>obtain⟨m,t,u,hm,B,hI3⟩:=hq;have hJ':J a' w' m:=⟨t,u,hI3,B _ _ _ _ _ _ F⟩;exact yd
  |_=>exact⟨j2,σ2,hq,F⟩
 |.scope c,d,b,hk,Q,i,g,a,w,f,h=>by
  simp only[Di]at b;simp only[Jg]at hk;obtain⟨r,s,rfl⟩:=U8 b;refine wp_scope_straight (wp_mono (Ce p q hm c r s hk _ i g a w f h) λe a w hq=> ?_);obtain⟨k,j,hq,o⟩:=hq
  cases e with
  |goto l=>exact hq.elim
  |_=>exact⟨k,j,hq,o⟩
 |.rangeFunc ..,d,b,hk,Q,i,g,a,w,f,h=>by simp[Di]at b
 |.goto ..,d,b,hk,Q,i,g,a,w,f,h=>by simp[Di]at b
 |.refuse ..,d,b,hk,Q,i,g,a,w,f,h=>by simp[Di]at b
end
end
section
variable[Env]
def Xa:Φ->AV
 |[v]=>v
 |vs=>.a6 vs
def hfin(T:Br)(r:List ResultVar)(K:AV->Ψ)(E:Value->Ψ):Exit->Ω
 |.normal,γ,σ=>Jc T r σ λa=>K (Xa a) γ
 |.ret,γ,σ=>Jc T r σ λa=>K (Xa a) γ
 |.panic [⟨v,false,false⟩],γ,σ=>E v γ
 |_,_,_=>False
section
variable{P:Program}{T:Br}{H:Hw}
def An7(z:Ax P T)(N:C1 P H)(B:P.follows .mixedOrders=true){A E O f fn i d args t}{K:AV->List AV->Prop}{F:Value->List AV->Prop}(C:P.funcs[f]? =some fn)(D:fn.body=some i)(hcd:Di A E O i=some d)(x:Jg T A E O i=true)(Q:(fn.name== "runtime.NumGoroutine")=false)(R:args.all pb=true){nt}(U:fn.ntmps=nt){rs}(V:fn.results.toList=rs)(h:Cp P T H d (hfin T rs K F) t (args++List.replicate (nt-args.length) .any)):HC P f args t K F:=by
 refine⟨⟨fn,i,C,D,Q⟩,λw S G W c c1 X hr Y Z=> ?_⟩;have hl:=hr.length;refine calls_of_wp C D (wp_mono (Ce (bg:=[]) (w0:=w) (S0:=S) (c0:=λb=>c b+c1 b) z N B i d hcd x _ t _ _ w ⟨S,c,c1,W,yh,h_,Y,Z,rfl,X,bt w S _⟩ h) λe a l hq=> ?_)
 ·obtain ⟨j,I,hq,s,n,g,k,J,y,o,h1,L,p,hs⟩:=hq
  have q:Jc T rs I (λG=>K (Xa G) j)->a.defers=[]/\∃v,(results fn a.tmps).run P l=.ok v l/\
   ((∃v' r j s n g k,Ending.returned v=.returned v'/\K r j/\pb r=true/\Ac l s [r] [v'] n/\Ac l s j k g/\(∀b,n b+g b<=1)/\Sz l s/\Stp w S (λb=>c b+c1 b) l s (λb=>n b+g b))\/
   (∃v' j s g k,Ending.returned v=.panicked [{v:=v',recovered:=false}]/\F v' j/\Ac l s j k g/\(∀b,g b<=1)/\Sz l s/\Stp w S (λb=>c b+c1 b) l s g)):=by
   intro hq;obtain⟨mi,us,cv,M,hK,hv,hle,yy,m⟩:=Gr z rs I n _ y hq;have B:(fn.results.mapM (J5 a.tmps)).run P l=.ok us.toArray l:=by exact QF
   refine⟨L,(if h:us.toArray.size=1 then us.toArray[0]else .tuple us.toArray),?_,.inl ⟨_,_,j,s,cv,g,k,rfl,hK,?_,?_,o,λb=>by grind,p,hs.drop λb=>by grind⟩⟩;rw [H1];simp_all
   match mi,m with
   |[],_=>rfl
   |[v],m=>exact m v oS
   |v::v'::mi,_=>rfl
   exact OD
  cases e with
  |normal=>exact q hq
  |ret=>exact q hq
  |panic chain=>
   unfold hfin at hq;split at hq
   grind
   grind
   rename_i v h;injection h with h;subst h;exact⟨L,.inr ⟨v,_,s,g,k,rfl,hq,o,λb=>by grind,p,hs.drop λb=>by grind⟩⟩
   grind
  |_=>exact hq.elim
def Cc(A E O)(m:Ax P T)(o:C1 P H)(p:P.follows .mixedOrders=true){f b a j}{K:AV->List AV->Prop}{F:Value->List AV->Prop}{d n r}(q:P.funcs[f]? =some b)(s:(b.name== "runtime.NumGoroutine")=false)(c:(b.body.map (Jg T A E O))=some true)(k:b.body.bind (Di A E O)=some d)(e:b.ntmps=n)(g:b.results=r)(i:a.all pb=true)(h:Cp P T H d (hfin T r.toList K F) j (a++List.replicate (n-a.length) .any)):HC P f a j K F:=by
 cases l:b.body with
 |none=>grind
 |some code=>rw[l]at k c;exact An7 m o p q l k (by grind) s i e (by rw[g]) h
def HC.weak{g args m}{K:AV->Ψ}{F:Value->Ψ}(h:HC P g args m (λr γ'=>∃f a,W1 r f/\pb f=true/\Gw γ' a/\K f a) (λv γ'=>∃a,Gw γ' a/\F v a)):HC P g args m K F:=
 ⟨h.1,λw S s t c c1 x y z A=>(h.2 w S s t c c1 x y z A).mono λe w' hq=>by
  rcases hq with⟨v,r,γ',S',D,i,j,h1,⟨f,a,k1,k2,k3,k4⟩,n,o,k,p,B,C⟩|⟨v,γ',S',i,j,h1,⟨a,k3,k4⟩,n,o,k,p⟩;obtain⟨d,g1,E⟩:=k1 _ _ _ _ o;obtain⟨u,l,g2,q⟩:=k3 _ _ _ _ k;exact .inl ⟨v,f,a,S',d,l,u,h1,k4,k2,g1,g2,λb=>by grind,B,C.drop λb=>by grind⟩;obtain⟨u,l,g2,q⟩:=k3 _ _ _ _ n;exact .inr ⟨v,a,S',l,u,h1,k4,g2,λb=>by grind,k,p.drop q⟩⟩
def HC.gw{g args k γ'}{K:AV->Ψ}{F:Value->Ψ}(h:HC P g args γ' K F)(q:Gw k γ'):HC P g args k K F:=
 ⟨h.1,λw S s z c c1 t u x A=>by
  obtain⟨y,l,g2,B⟩:=q _ _ _ _ x
  have conv:∀{w' S' d},Stp w S (λb=>c b+l b) w' S' d->Stp w S (λb=>c b+c1 b) w' S' d:=λa=>
   ⟨a.os,a.tape,a.output,a.size,λb j C=>a.keep b j (by grind),a.cell,a.le,λb j=>cp (a.own b j) (by grind)⟩
  refine(h.2 w S s y c l t u g2 (λb=>by grind)).mono λe w' hq=> ?_;rcases hq with⟨v,r,γ',S',D,f,i,h1,m,n,o,p,a,E,G⟩|⟨v,γ',S',f,i,h1,m,n,o,p,a⟩
  grind
  exact .inr ⟨v,γ',S',f,i,h1,m,n,o,p,conv a⟩⟩
end
end
end Go.Proofs.YtobhohikfmlccaaGreatDoor
