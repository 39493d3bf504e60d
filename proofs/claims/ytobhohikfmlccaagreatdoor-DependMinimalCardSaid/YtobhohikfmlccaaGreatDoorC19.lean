/- What is built anew needs it. -/
import Derived.Test.YtobhohikfmlccaaGreatDoorRows
import Derived.OpenShut
import Derived.LaidMore
import Derived.LaidLaws
import Derived.Lay
import Derived.Handed
import Derived.Shelf.Vars
import Derived.Stop.Joined
import Derived.Test.YtobhohikfmlccaaGreatDoorC18
set_option linter.all false
set_option maxRecDepth 100000
set_option maxHeartbeats 4000000
open Go.RowKit Go.Proofs Go.ChangeShapes Go.WideShapes Go.ChangeAt Tryz Go.Lib
namespace Go.Proofs.YtobhohikfmlccaaGreatDoor
theorem Acm(l:List X5)(hl:l.length<=9223372036854775807)(hX:∀x∈l,HR x)(a:Int)(ha:Db a):QA 6 [.sl 5 (l.map xA),num a] (λr=>r=Af true):=by
 refine ai (G7 [] [] [(14,[],[0,1,2,3,5,6,7,2004,2008,9],[],[]),(20,[10006,10007],[0,1,3,6,1002,1005],[2004],[3007,8,9,10])] func6 ?_) ⟨_,rfl⟩;refine Z0 ?_;refine ae wV ?_;rintro r rfl;simp only[Af];refine Z0 ?_;refine ae (xh l hl hX a ha) ?_;rintro r ⟨L,T,L2,X,rfl,K,N⟩;obtain⟨M,rfl,B⟩:=rk K;obtain⟨Y,rfl,Z⟩:=rk N;have hV:=B.rv;have O:=Z.rv;have hP:=B.pages;have hS:=NW B;have P:=Z.stale _ (cU B).1 (cU B).2;obtain⟨hpl,Q⟩:=cU B;have R:∀p∈Jb M T,∀r∈p.rd,r.2=Qq (iY M T r.1):=λp f r hr=>by obtain⟨u,S,rfl,_⟩:=GO B f;exact n_ hr
 generalize Jb M T=ps at *;generalize iY M T=v at *;generalize iY Y X=v2 at *;generalize (M.map Bq.s).map ci=SA at *;generalize T.map A4=TA at *;generalize (Y.map Bq.s).map ci=SB at *;generalize X.map A4=TB at *;refine Z0 ?_;refine ae hP ?_;rintro r rfl;refine Z0 ?_;refine ae hS ?_;rintro r rfl;refine Z0 ?_;refine ae P ?_;rintro r ⟨D,E,rfl,hDl,_,hD,_,_⟩;refine Z0 ?_;refine Ad (rl [14,92]) [5,13] (λm g n=>n=[]/\∃i:Nat,i+m=D.length/\g=[Af true,num i]) ⟨D.length,_,_,⟨rfl,0,om,rfl⟩,hent (aa _) ?_⟩ ?_
 .exact Zw
 rintro m g n ⟨rfl,i,hm,rfl⟩;simp only[PU,Af];by_cases U:i<D.length;rotate_left
 .have ej:=eU i D.length;exact eP
 have ej:=eT i D.length;obtain⟨u,S,hdd⟩:=Bj U;have o:=Cd S;have hw:=wS i;have z:eK v v2 u ps=true:=NX ps λp f w=>Agi (R p f) λhf=>((hD u).1 (cu S)).2 ⟨p,f,w,hf⟩;refine Z3 ej o hw ?_;refine Ad (rl [16,90]) [14,15] (λI g n=>n=[]/\∃k:Nat,k+I=ps.length/\g=[Af (eK v v2 u (ps.take k)),num k]) ⟨ps.length,_,_,⟨rfl,0,om,rfl⟩,hent (aa _) ?_⟩ ?_
 .exact Zw
 rintro I g n ⟨rfl,k,hm2,rfl⟩;simp only[PU,Af];by_cases A:k<ps.length;rotate_left
 .have ek:=eU k ps.length;rw[Are om,z];refine Z2 ek hw ?_;exact Zm (m-1) ⟨rfl,i+1,om,rfl⟩
 have ek:=eT k ps.length;obtain⟨p,f,hdp⟩:=Bj A;have h:=pv f;have t:=wS k;have V:=cu f;obtain⟨hpr,C⟩:=Q p V;have b:eK v v2 u (ps.take (k+1))=if p.ad=u then cV v v2 p.rd else eK v v2 u (ps.take k):=by rw[fc,f];exact jJ _ _ _ _ _
 generalize eK v v2 u (ps.take k)=c at *;by_cases w:p.ad=u;rotate_left
 .have e1:(p.ad==u)=false:=by simpa using w
  rw[ar w]at b;refine Z5 ek h o e1 t ?_;rw[<-b];exact Zm (I-1) ⟨rfl,k+1,om,rfl⟩
 have e1:(p.ad==u)=true:=by simpa using w
 rw[bn w]at b;refine Z5 ek h o e1 t ?_;refine Ad (rl [17,89]) [14,16] (λJ g n=>n=[]/\∃(j:Nat) (c:Bool),j+J=p.rd.length/\cV v v2 (p.rd.take j)=c/\g=[Af c,num j]) ⟨p.rd.length,_,_,⟨rfl,0,false,om,rfl,rfl⟩,hent (aa _) ?_⟩ ?_
 .exact Zw
 rintro J g n ⟨rfl,j,c2,hm3,W,rfl⟩;simp only[PU,Af];by_cases F:j<p.rd.length;rotate_left
 .have y:=eU j p.rd.length;rw[Are om,<-b]at W;subst W;refine Z4 ek h y t ?_;exact Zm (I-1) ⟨rfl,k+1,om,rfl⟩
 have y:=eT j p.rd.length;obtain⟨q,hq,hdq⟩:=Bj F;have d:=v0 hq;have e:=wS j;have G:=C q (cu hq);have H:cV v v2 (p.rd.take (j+1))=(c2|| !(v q.1==v2 q.1)):=by rw[fc,hq,<-W];simp[cV]
 cases c2;rotate_left
 .refine Z4 y h d e ?_;exact Zm (J-1) ⟨rfl,j+1,true,om,H,rfl⟩
 refine Z4 y h d e ?_;refine ae (hV q.1 G) ?_;rintro r rfl;simp only[str];refine Z4 y h d e ?_;refine ae (O q.1 G) ?_;rintro r rfl;simp only[str];refine Z4 y h d e ?_;exact Zm (J-1) ⟨rfl,j+1,_,om,H,rfl⟩
theorem AoU(x:Φ)(h:Sg prog [32,3] x):QA 6 x (λr=>r=Af true):=by
 obtain⟨_,y,_,rfl,h1,h⟩:=qC h;obtain⟨_,z,_,rfl,o,k2⟩:=qC h;obtain⟨p,rfl,q⟩:=Pz underlying3 o;obtain rfl:=x3 k2;obtain⟨m,es,rfl,n,j⟩:=IK (e:=145) (k:=5) underlying32 (by kernel_rfl) oD h1;have i:j1 prog 3=false:=by simp[j1,underlying3]
 obtain⟨s,rfl,l⟩:=UK (f:=xA) (Q:=HR) (es:=es) λy t=>by obtain⟨k,L,rfl,g⟩:=IM underlying145 (j y t);simp only[mc,ml]at g;obtain⟨a,_,rfl,u,g⟩:=Sq i g;obtain⟨b,_,rfl,v,g⟩:=Sq i g;obtain⟨c,_,rfl,w,g⟩:=Sq i g;obtain⟨d,_,rfl,A,g⟩:=Sq i g;obtain⟨e,_,rfl,B,g⟩:=Sq i g;obtain rfl:=v8 g;obtain⟨C,rfl,D⟩:=Pz underlying3 u;obtain⟨E,rfl,F⟩:=Pz underlying3 v;obtain⟨G,rfl,H⟩:=Pz underlying3 w;obtain⟨I,rfl,J⟩:=Pz underlying3 A;obtain⟨K,rfl,ie⟩:=Pz underlying3 B;exact⟨⟨C,E,G,I,K⟩,rfl,D,F,H,J,ie⟩
 unfold maxLen at n;rw[dB]at n;exact Acm s om l p q
def uT {H} {enc:TypeId×Value->H} {a:Assume} {C:Checked} {os:Os} {f:FuncId} {p:Func} {s:ChangeSpec} {l:List PathCond} {c fresh h m:Bool} {X:World->Array Value->Prop} (G:∀(w w':World) (b:Array Value),w.heap=w'.heap->X w b->X w' b) (own:ownKnob C.prog.godebug=none) (n:os.Started) (q:C.prog.inits.idxOf? f=none) (z:C.prog.funcs[f]? =some p) (o:∃(w:World) (d:Tape) (i:Input),w.os=os/\(w.forCall d i).Shaped C.prog/\i.vars=[]/\Input.okWide C.prog (w.forCall d i) .any w.heap.size f i/\
  ((s.pre enc C.prog p l c (w.forCall d i).memory i.args/\X (w.forCall d i).memory i.args)/\sizedMet enc C.prog p (OpenSpec.ofChange s) c (w.forCall d i).memory i.args)/\a.holds C.prog (lone (Frame.enter C.prog f i.args .normal) [] (w.forCall d i))) (k:∀(W:World) (r:Nat) (b:Array Value) (A B:List (DataW H)) (g:List MemPlace),
  (∀(j:Nat) t v,p.params[j]? =some t->b[j]? =some v->Value.okWide C.prog W .any r t v)->DataW.Whole enc C.prog p.params.toList s.vars c W b.toList A B g->X W b->W.ShapedOpen C.prog->
  Calls C.prog f b W λe F=>∃v,e=.returned v/\s.post enc C.prog p c fresh h m W b v F):
 ReturnsInHanded a C os f .any (λw b=>(s.pre enc C.prog p l c w b/\X w b)/\sizedMet enc C.prog p (OpenSpec.ofChange s) c w b) (s.post enc C.prog p c fresh h m):=by
 refine returnsInHanded_of_calls own n q o λw d i _ D _ E u _=> ?_;obtain⟨_,_,_,I,x,_,_,_,_,y⟩:=E;obtain rfl:=aj (x.symm.trans z);obtain⟨⟨⟨A,B,g,J,_⟩,K⟩,_⟩:=u;exact(k (w.forCall d i) w.heap.size i.args A B g y (DataW.Whole.of_heap (w':=w.forCall d i) (by rfl) J) (G _ _ _ (by rfl) K) D).mono λe F ⟨v,L,M⟩=>by subst L;exact ChangeSpec.post_blind M
def V5{w:World}{g v}(h:w.cell? ⟨g,0,none⟩=some v):0<Sb w g:=(kP h).2
def sc:prog.globalNamed "strconv.ErrSyntax" =some 2:=by kernel_rfl
def sb:prog.globalNamed "strconv.ErrRange" =some 3:=by kernel_rfl
def pe:prog.globalNamed "internal/strconv.uint64pow10" =some 6:=by kernel_rfl
def pd:prog.globalNamed "copydesk/wire.shifts" =some 0:=by kernel_rfl
def uU{w:World}{n}{g a t:Nat}{c:Array Value}{f:Nat}{e:String}{d:DataW Unit}{p m}(i:prog.globalNamed n=some a)(b:prog.globalNamed n=some g)(j:(prog.globals[g]?).map (·.type)=some t)(k:∀u,(prog.globals[a]?).map (·.type)=some u->prog.underlying u=some (.interface m))(l:w.var? prog n=some c)(o:DataW.trod (λ_=>()) prog w 0 (λ_=>true) false f t c.toList=some (.iface e d,p)):∃v,w.cell? ⟨a,0,none⟩=some v/\(v=.nilIface\/∃q r,v=.iface q r):=by obtain rfl:=aj (i.symm.trans b);obtain⟨_,u,v,h,_,_⟩:=iface_of_trod (k t j) o;refine⟨.iface u v,?_,.inr ⟨u,v,rfl⟩⟩;rw[World.var?_cell b l 0,<-ak,h];rfl
def uV{w:World}{g:Nat}{n}{k:IntKind}{zs:List Int}{c:Array Value}(d:prog.globalNamed n=some g)(h:w.var? prog n=some c)(e:c.toList=zs.map λz=>Value.int k z):
 ∀x∈lF g k zs,x.2.1<Sb w x.1/\x.2.2 (w.cell? ⟨x.1,x.2.1,none⟩):=by
 have l:c.size=zs.length:=by rw[<-ot,e,dB]
 have m:c.size<Sb w g:=by
  unfold World.var? at h;rw[d]at h;simp only[pk]at h;unfold Sb;split at h
  .rename_i f;cases h;rw[f];exact Nat.lt_succ_self _
  .cases h
 intro x a;rcases ff.1 a with a|a
 .obtain⟨⟨z,i⟩,b,rfl⟩:=dm.1 a;have b:=su.1 b;have j:=(ab.1 b).1;simp only at b j⊢;refine⟨om,?_⟩;rw[World.var?_cell d h i,<-ak,e,ao,b];rfl
 .rw[ga]at a;subst a;refine⟨by show zs.length<Sb w g;omega,?_⟩;show w.cell? ⟨g,zs.length,none⟩=none;rw[World.var?_cell d h,cj om]
def W4:List (String×DataW Unit):=Rows.dependMinimalRow.laid
def DB{w:World}(h:laidMetH prog W4 w)(d:w.ShapedOpen prog):Gs w (Sb w):=by
 rw[MakeChecks.laidMetH_plain _ _ _ (by kernel_rfl)]at h;obtain⟨L,⟨_,_,_,_,_,_,_,_,_,_,⟨_,_,_,_,_,_,_,_,_,_,⟨g3,M,F,N,O,Q,e,f,i,j,⟨_,_,_,_,_,_,_,_,_,_,⟨g5,R,G,S,T,U,k,l,n,o,⟨g6,V,W,X,Y,Z,p,q,r,s,⟨g7,t7,c7,n7,p7,q7,v,x,y,A,_,_⟩,_⟩,_⟩,_⟩,_⟩,_⟩,_⟩,_⟩:=h;have H:∀u,(prog.globals[3]?).map (·.type)=some u->prog.underlying u=some (.interface _):=λu B=>by obtain rfl:=aj ((show(prog.globals[3]?).map (·.type)=some 151 by kernel_rfl).symm.trans B);exact underlying151
 have I:∀u,(prog.globals[2]?).map (·.type)=some u->prog.underlying u=some (.interface _):=λu B=>by obtain rfl:=aj ((show(prog.globals[2]?).map (·.type)=some 151 by kernel_rfl).symm.trans B);exact underlying151
 obtain⟨v2,b,C⟩:=uU sb p q H r s;obtain⟨v1,c,D⟩:=uU sc v x I y A;obtain⟨m,E⟩:=cell_of_shapedOpen_int (P:=prog) (g:=1) (t:=3) (zero:= #[.int .i64 0]) d (of_decide_eq_true (by kernel_rfl)) (by kernel_rfl) rfl (by kernel_rfl) (by kernel_rfl) underlying3;obtain rfl:=aj (pe.symm.trans e);obtain rfl:=aj ((show(prog.globals[6]?).map (·.type)=some 368 by kernel_rfl).symm.trans f);obtain rfl:=aj (pd.symm.trans k);obtain rfl:=aj ((show(prog.globals[0]?).map (·.type)=some 128 by kernel_rfl).symm.trans l);have J:F.toList=pow10Tab.map λz=>Value.int .u64 z:=cells_of_tab (zs:=pow10Tab) underlying368 underlying289 (by kernel_rfl) (by kernel_rfl) j;have K:G.toList=yN.map λz=>Value.int .u32 z:=cells_of_tab (zs:=yN) underlying128 underlying126 (by kernel_rfl) (by kernel_rfl) o;intro g a;change g∈(2,0,mj)::(3,0,mj)::(1,0,ZN)::(lF 6 .u64 pow10Tab++lF 0 .u32 yN)at a;simp only[e9,ff]at a;rcases a with rfl|rfl|rfl|a|a
 .exact⟨V5 c,_,c,D⟩
 .exact⟨V5 b,_,b,C⟩
 .exact⟨V5 E,_,E⟩
 .exact uV pe i J g a
 .exact uV pd n K g a
set_option maxRecDepth 100000 in
def uW(os:Os)(a):((World.laidAll prog os W4).forCall (λ_ _=>0) ⟨#[],a,[]⟩).Shaped prog:=
 World.shaped_of_ZipB (by kernel_rfl) (by kernel_rfl)
set_option maxRecDepth 100000 in
def m_(os:Os)(a):laidMetH prog W4 ((World.laidAll prog os W4).forCall (λ_ _=>0) ⟨#[],a,[]⟩).memory:=by rw[MakeChecks.laidMetH_plain _ _ _ (by kernel_rfl)];exact laidMet_laidAll _ (by kernel_rfl) (by kernel_rfl)
end Go.Proofs.YtobhohikfmlccaaGreatDoor
