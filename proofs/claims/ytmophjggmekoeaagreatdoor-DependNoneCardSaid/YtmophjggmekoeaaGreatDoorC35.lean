/- Sentences of the reference. -/
import Derived.Test.YtmophjggmekoeaaGreatDoorC34
set_option linter.all false
set_option maxRecDepth 100000
set_option maxHeartbeats 4000000
namespace Go.Proofs.YtmophjggmekoeaaGreatDoor
section
open Go.RowKit Go.Proofs
theorem Uj (c x:UInt8) (t:Ac):Lib.trimRightB (x::t) c=if Lib.trimRightB t c=[]∧x=c then[]else x::Lib.trimRightB t c:=by
 unfold Lib.trimRightB;rw[List.reverse_cons,List.dropWhile_append]
 cases h:List.dropWhile (·==c) t.reverse with
 |nil=>
  by_cases hx:x=c
  ·subst hx;simp
  ·simp [hx]
 |cons y l=>simp
theorem Js (c:UInt8):∀s:Ac,Lib.trimRightB (Lib.trimLeftB s c) c=Lib.trimB s c
 |[]=>rfl
 |x::t=>by
  have ih:=Js c t;unfold Lib.trimB at ih⊢;rw[Uj];by_cases hx:x=c
  ·subst hx;have h1:Lib.trimLeftB (x::t) x=Lib.trimLeftB t x:=by simp [Lib.trimLeftB]
   rw[h1,ih];split
   ·rename_i h;rw[h.1]
   ·simp [Lib.trimLeftB]
  ·have h1:Lib.trimLeftB (x::t) c=x::t:=by simp [Lib.trimLeftB,hx]
   rw[h1,Uj,if_neg (fun h=>hx h.2)];simp [Lib.trimLeftB,hx]
theorem pX (c:UInt8) (l:Ac):Lib.trimRightB (l++[c]) c=Lib.trimRightB l c:=by simp [Lib.trimRightB]
theorem pY (c x:UInt8) (l:Ac) (h:x≠c):Lib.trimRightB (l++[x]) c=l++[x]:=by simp [Lib.trimRightB,h]
theorem pZ (u:Ac) (h:0<u.length):u=u.take (u.length-1)++[u.getD (u.length-1) 0]:=by have:=Ayv (l:=u) (i:=u.length-1) om;rw[show u.length-1+1=u.length by omega,Ay0]at this;rw[Axy,List.getElem?_eq_getElem om];exact this
theorem iS (c:UInt8):((c.toNat:Nat):Int)=32↔c=32:=by
 constructor
 ·intro h;exact UInt8.toNat_inj.1 (show c.toNat=(32:UInt8).toNat by have:(32:UInt8).toNat=32:=rfl;omega)
 ·rintro rfl;rfl
theorem Uk (s:Ac) (hs:s.length≤1000000000000):Ab Tryz.prog 249 [str s] (fun r=>r=str (Lib.trimB s 32)):=by
 refine A9 [] Bo Cq Tryz.func249 oD oK (by simp only[Tryz.f249,go_sem,reduceIte];rfl) Tryz.ntmps249 Tryz.results249 ⟨_,rfl⟩ rfl ?_;simp only[LS,Nat.reduceAdd,Nat.reduceSub];simp only[go_sem];refine Ap [false,false,false,true,true,true,true,true,true,true,true,true,true,true,true,true,true,true,true,true,true,true,true,true,true,true,true,true] [0] (fun n ys=>∃t:Ac,t.length+1=n∧t.length≤s.length∧Lib.trimLeftB t 32=Lib.trimLeftB s 32∧ys=[str t]) ⟨s.length+1,_,⟨s,rfl,Axu _,rfl,rfl⟩,?_⟩ ?_
 ·exact Aa6
 ·rintro n ys ⟨t,hn,htl,ht,rfl⟩;simp only[Io,Ip,Eh,Ci,Db,Aye,Ayf,str];have other:∀Q:Prop,Q→Q:=fun _ h=>h
  cases t with
  |nil=>
   have q1:(([]:Ac) != [])=false:=rfl;have q2:(([]:Ac)==[])=true:=rfl;have hL:Lib.trimLeftB s 32=[]:=by rw[←ht];rfl
   simp only[go_sem,q1,q2];refine Ap [false,false,false,true,true,true,true,true,true,true,true,true,true,true,true,true,true,true,true,true,true,true,true,true,true,true,true,true] [0] (fun n ys=>∃u:Ac,u.length+1=n∧u.length≤s.length∧Lib.trimRightB u 32=Lib.trimB s 32∧ys=[str u]) ⟨([]:Ac).length+1,_,⟨[],rfl,htl,by rw[←hL];exact Js 32 s,rfl⟩,?_⟩ ?_
   ·exact Aa6
   ·exact AsM
  |cons c t=>
   have q1:((c::t) != [])=true:=rfl;have q2:((c::t)==[])=false:=rfl;have g1:=eq_true (show(0:Int)<(((c::t).length:Nat):Int) by simp only[Axr];omega);have g2:=eq_true (show(1:Int)≤(((c::t).length:Nat):Int) by simp only[Axr];omega);have g3:List.take (t.length+1-1) t=t:=oS;by_cases hc:((c.toNat:Nat):Int)=32
   ·have ec:=eq_true hc;have hc2:c=32:=(iS c).1 hc;simp only[go_sem,q1,q2,g1,g2,g3,ec];refine Z6 q1 q2 g1 g2 g3 ec ?_;refine Az (n-1) [str t] om ⟨t,by simp only[Axr]at hn;omega,by simp only[Axr]at htl;omega,by rw[←ht,hc2];simp [Lib.trimLeftB],rfl⟩ ?_;simp only[Io,Ip,Eh,Ci,Db,Aye,Ayf,str];exact Zw;done
   have ec:=eq_false hc;have hc2:c≠32:=fun h=>hc ((iS c).2 h);have hL:Lib.trimLeftB s 32=c::t:=by rw[←ht];simp [Lib.trimLeftB,hc2]
   simp only[go_sem,q1,q2,g1,g2,g3,ec];refine Z6 q1 q2 g1 g2 g3 ec ?_;refine Ap [false,false,false,true,true,true,true,true,true,true,true,true,true,true,true,true,true,true,true,true,true,true,true,true,true,true,true,true] [0] (fun n ys=>∃u:Ac,u.length+1=n∧u.length≤s.length∧Lib.trimRightB u 32=Lib.trimB s 32∧ys=[str u]) ⟨((c::t):Ac).length+1,_,⟨(c::t),rfl,htl,by rw[←hL];exact Js 32 s,rfl⟩,?_⟩ ?_
   ·exact Aa6
   ·exact AsM
theorem Ahx (t:Ac) (ht:t.length≤1000000000000):Ab Tryz.prog 187 [str t] (fun r=>r=.own 9 1 ((Ahu t).map str)):=by
 refine Ir [] Tryz.func187 ⟨_,rfl⟩ ?_;simp only[go_sem];refine Ap (rl [6,34]) [3,4,5] (fun n ys=>∃(j s:Nat) (pre:List Ac),j+n=t.length∧s≤j∧Ahu t=pre++Q9 t (t.length-j) s j∧pre.length≤j∧ys=[.own 9 1 (pre.map str),num s,num j]) ⟨t.length,_,⟨0,0,[],om,om,rfl,oS,rfl⟩,?_⟩ ?_
 ·exact Zw
 ·rintro n ys ⟨j,s,pre,hn,hsj,he,hpl,rfl⟩;simp only[PU];rcases Axz j t.length with hlt|hge
  ·have ej:=eT j t.length;have hw:=wS j;rw[show t.length-j=(t.length-(j+1))+1 by omega,W8]at he;simp only[go_sem,ej,hw];refine(AlX t j hlt ht).mono ?_;rintro r rfl;simp only[Ai];cases hE:pW t j
   ·rw [if_neg (by rw[hE];decide)]at he;simp only[go_sem,ej,hw];exact Zl (n-1) ⟨j+1,s,pre,om,om,he,om,rfl⟩;done
   rw[if_pos hE]at he;have g1:=eq_true (show(s:Int)≤((j+1:Nat):Int) by omega);have g2:=eq_true (show((j+1:Nat):Int)≤(t.length:Int) by omega);simp only[go_sem,ej,hw,g1,g2];refine Z4 ej hw g1 g2 ?_;refine(Uk ((t.drop s).take (j+1-s)) (by simp;omega)).mono ?_;rintro r rfl;simp only[str];have hsn:pre.map str++[.raw (.string ⟨(Lib.trimB ((t.drop s).take (j+1-s)) 32).toArray⟩)]=(pre++[Lib.trimB ((t.drop s).take (j+1-s)) 32]).map str:=by simp [str]
   have hpp:(pre.map str).length=pre.length:=Axp _;simp only[go_sem,ej,hw,g1,g2,hpp];repeat' first|refine Aj.on (fun _=>?_) (fun _=>?_)|with_reducible refine gd ?_|simp only[go_sem,ej,hw,g1,g2,hsn,hpp]
   refine Az (n-1) [.own 9 1 ((pre++[Lib.trimB ((t.drop s).take (j+1-s)) 32]).map str),num ((j+1:Nat):Int),num ((j+1:Nat):Int)] om ⟨j+1,j+1,_,om,om,AlW he,by simp;omega,rfl⟩ ?_;exact An2
  have ej:=eU j t.length;rw[show t.length-j=0 by omega]at he;have g1:=eq_true (show(s:Int)≤(t.length:Int) by omega);simp only[go_sem,ej,g1];refine Z2 ej g1 ?_;rw[Axw (show(t.drop s).length≤t.length-s by simp)];refine(Uk (t.drop s) (by simp;omega)).mono ?_;rintro r rfl;simp only[str];by_cases hr:Lib.trimB (t.drop s) 32=[]
  ·have er:(Lib.trimB (t.drop s) 32==[])=true:=by simpa using hr
   have er2:(Lib.trimB (t.drop s) 32 != [])=false:=by simpa using hr
   have hS:Q9 t 0 s j=[]:=if_pos hr;rw[hS,AxF]at he;simp only[go_sem,er,er2];rw[he]
  have er:(Lib.trimB (t.drop s) 32==[])=false:=by simpa using hr
  have er2:(Lib.trimB (t.drop s) 32 != [])=true:=by simpa using hr
  have hS:Q9 t 0 s j=[Lib.trimB (t.drop s) 32]:=if_neg hr;rw[hS]at he;have hpp:(pre.map str).length=pre.length:=Axp _;simp only[go_sem,er,er2,hpp];refine Z3 er er2 hpp ?_;rw[he];simp [str]
end
section
open Go.RowKit Go.Proofs
theorem Ul (l:List Bk) (hl:l.length≤1000000) (hb:∀b∈l,Ii b):Ab Tryz.prog 243 [.sl 9 (l.map Dl)] (fun r=>∃b,r=Ai b):=by
 refine Ir [] Tryz.func243 ⟨_,true,rfl⟩ ?_;simp (decide:=true) only[En [0] [] [] [[27,0],[],[29,27],[29],[],[32,0],[],[34,32],[34],[],[]],AxE,AxX,AxY];repeat' first|refine Aj.on (fun _=>?_) (fun _=>?_)|with_reducible refine gd ?_|simp only[go_sem,Axp,nums_length]
 ·exact Zx
 refine Ap (rl [4,34]) [3] (fun n ys=>∃j:Nat,j+n=l.length∧ys=[num j]) ⟨l.length,_,⟨0,om,rfl⟩,?_⟩ ?_
 ·exact Rx
 ·rintro n ys ⟨j,hn,rfl⟩;simp only[PU];rcases Axz j l.length with hlt|hge
  ·have ej:=eT j l.length;obtain⟨x,hx,hd⟩:=drop_at hlt;have hgx:=Ls hx;have hw:=wS j;refine Zu ?_;have hV:=AlZ x (hb x (Axt hx));simp only[Dl,num,str]at hV;refine hV.mono ?_;rintro r ⟨t,rfl⟩;simp only[Ai];cases t
   ·repeat' first|refine Aj.on (fun _=>?_) (fun _=>?_)|with_reducible refine gd ?_|simp only[go_sem,ej,hgx,hw,Axp,nums_length]
    exact bL
   refine Zu ?_;refine Ap (rl [4,1,1,32]) [5] (fun n2 ys=>∃i:Nat,i+n2=j∧ys=[num i]) ⟨j,_,⟨0,om,rfl⟩,?_⟩ ?_
   ·exact Rx
   ·rintro n2 ys ⟨i,hn2,rfl⟩;simp only[PU];rcases Axz i j with hlt2|hge2
    ·have ei:=eT i j;have ei2:=eT i l.length;obtain⟨y,hy,hd2⟩:=drop_at (show i<l.length by omega);have hgy:=Ls hy;have hwi:=wS i;repeat' first|refine Aj.on (fun _=>?_) (fun _=>?_)|with_reducible refine gd ?_|simp only[go_sem,ej,ei,ei2,hgx,hgy,hw,hwi,Axp,nums_length]
     all_goals first
      |(exact⟨_,rfl⟩)
      |(refine Az (n2-1) [num ((i+1:Nat):Int)] om ⟨i+1,om,rfl⟩ ?_
        simp only[PU];exact Wi.h;done)
    have ei:=eU i j;refine Zu ?_;exact Zl (n-1) ⟨j+1,om,rfl⟩;done
  have ej:=eU j l.length;exact Ao6
theorem Ahy (b c:Bk) (hb:Ii b) (hc:Ii c):Ab Tryz.prog 327 [Dl b,Dl c] (fun r=>∃b,r=Ai b):=by
 simp only[Dl];refine Ir [] Tryz.func327 ⟨_,true,rfl⟩ ?_;repeat' first|refine Aj.on (fun _=>?_) (fun _=>?_)|with_reducible refine gd ?_|simp only[go_sem,Axp,nums_length]
 all_goals try exact⟨_,rfl⟩
 have hL:=Ahw b c hb hc;simp only[laA,num]at hL;refine hL.mono ?_;rintro r ⟨t1,rfl⟩;simp only[Ai];repeat' first|refine Aj.on (fun _=>?_) (fun _=>?_)|with_reducible refine gd ?_|simp only[go_sem,Axp,nums_length]
 exact bL
theorem My (l:List Bk) (hl:l.length≤1000000) (id:Int):Ab Tryz.prog 247 [.sl 9 (l.map Dl),num id] (fun r=>∃k:Int,-1≤k∧k<l.length∧r=num k):=by
 refine Zs [] Tryz.func247 ⟨_,-1,om,om,rfl⟩ ?_;refine Ap (rl [6,14]) [5] (fun n ys=>∃j:Nat,j+n=l.length∧ys=[num j]) ⟨l.length,_,⟨0,om,rfl⟩,?_⟩ ?_
 ·exact Rx
 ·rintro n ys ⟨j,hn,rfl⟩;simp only[PU];rcases Axz j l.length with hlt|hge
  ·have ej:=eT j l.length;obtain⟨x,hx,hd⟩:=drop_at hlt;have hgx:=Ls hx;have hw:=wS j;repeat' first|refine Aj.on (fun _=>?_) (fun _=>?_)|with_reducible refine gd ?_|simp only[go_sem,ej,hgx,hw,Axp,nums_length]
   all_goals first
    |(exact⟨j,om,om,rfl⟩)
    |(refine Az (n-1) [num ((j+1:Nat):Int)] om ⟨j+1,om,rfl⟩ ?_
      simp only[PU];exact Wi.h;done)
  have ej:=eU j l.length;refine Zu ?_;exact⟨-1,om,om,rfl⟩
theorem Um (l m:List Bk) (hl:l.length≤1000000) (hm:m.length≤1000000) (hb:∀b∈l,Ii b) (hc:∀b∈m,Ii b) (id:Int):Ab Tryz.prog 289 [.sl 9 (l.map Dl),.sl 9 (m.map Dl),num id] (fun r=>∃b,r=Ai b):=by
 refine Ir [] Tryz.func289 ⟨_,true,rfl⟩ ?_;simp (decide:=true) only[En [] [] [] [[27],[],[27],[],[31],[],[31],[],[],[]],AxE,AxX,AxY];repeat' first|refine Aj.on (fun _=>?_) (fun _=>?_)|with_reducible refine gd ?_|simp only[go_sem,Axp,nums_length]
 refine(My l hl id).mono ?_;rintro r ⟨k1,h1,h2,rfl⟩;refine Zn ?_;refine(My m hm id).mono ?_;rintro r ⟨k2,h3,h4,rfl⟩;simp only[num];by_cases hk:0≤k1∧0≤k2;rotate_left
 ·by_cases hk1:k1<0
  ·have e1:=eq_true hk1;repeat' first|refine Aj.on (fun _=>?_) (fun _=>?_)|with_reducible refine gd ?_|simp only[go_sem,e1,Axp,nums_length]
   exact bL
  have e1:=eq_false hk1;have e2:=eq_true (show k2<0 by omega);repeat' first|refine Aj.on (fun _=>?_) (fun _=>?_)|with_reducible refine gd ?_|simp only[go_sem,e1,e2,Axp,nums_length]
  exact bL
 obtain⟨i,rfl⟩:=Ayy hk.1;obtain⟨j,rfl⟩:=Ayy hk.2;have e1:=eq_false (show¬(i:Int)<0 by omega);have e2:=eq_false (show¬(j:Int)<0 by omega);have e3:=eT i l.length;have e4:=eT j m.length;obtain⟨x,hx,hdx⟩:=drop_at (show i<l.length by omega);obtain⟨y,hy,hdy⟩:=drop_at (show j<m.length by omega);have hgx:=Ls hx;have hgy:=Ls hy;refine Zu ?_;have hS:=Ahy x y (hb x (Axt hx)) (hc y (Axt hy));simp only[Dl,num,str]at hS;refine hS.mono ?_;rintro r ⟨t,rfl⟩;simp only[Ai];repeat' first|refine Aj.on (fun _=>?_) (fun _=>?_)|with_reducible refine gd ?_|simp only[go_sem,e1,e2,e3,e4,hgx,hgy,Axp,nums_length]
 exact bL
theorem Ahz (l m:List Bk) (hl:l.length≤1000000) (hm:m.length≤1000000):Ab Tryz.prog 246 [.sl 9 (l.map Dl),.sl 9 (m.map Dl)] (fun r=>∃b,r=Ai b):=by
 refine Zs [] Tryz.func246 ⟨_,true,rfl⟩ ?_;refine Ap (rl [7,20]) [5,6] (fun n ys=>∃(j:Nat) (z:Int),j+n=m.length∧ys=[num z,num j]) ⟨m.length,_,⟨0,-1,om,rfl⟩,?_⟩ ?_
 ·exact Rx
 ·rintro n ys ⟨j,z,hn,rfl⟩;simp only[PU];rcases Axz j m.length with hlt|hge
  ·have ej:=eT j m.length;obtain⟨x,hx,hd⟩:=drop_at hlt;have hgx:=Ls hx;have hw:=wS j;refine Zu ?_;refine(My l hl x.id).mono ?_;rintro r ⟨k,h1,h2,rfl⟩;simp only[num];repeat' first|refine Aj.on (fun _=>?_) (fun _=>?_)|with_reducible refine gd ?_|simp only[go_sem,ej,hgx,hw,Axp,nums_length]
   all_goals first
    |(exact⟨_,rfl⟩)
    |(refine Az (n-1) [num k,num ((j+1:Nat):Int)] om ⟨j+1,k,om,rfl⟩ ?_
      simp only[PU];exact Wi.h;done)
    |(refine Az (n-1) [num z,num ((j+1:Nat):Int)] om ⟨j+1,z,om,rfl⟩ ?_
      simp only[PU];exact Wi.h;done)
  have ej:=eU j m.length;exact Ao6
end
section
open Go.RowKit Go.Proofs
theorem Asv (l m p:List Bk) (hl:l.length≤1000000) (hm:m.length≤1000000) (hp:p.length≤1000000):Ab Tryz.prog 244 [.sl 9 (l.map Dl),.sl 9 (m.map Dl),.sl 9 (p.map Dl)] (fun r=>∃is:List Int,is.length≤1000∧r=.own 3 1 (nums is)):=by
 refine Zs [] Tryz.func244 ⟨_,[],oS,rfl⟩ ?_;refine Ap (rl [9,25]) [7,8] (fun n ys=>∃(j:Nat) (is:List Int),j+n=1001∧1≤j∧is.length<j∧ys=[.own 3 1 (nums is),num j]) ⟨1000,_,⟨1,[],om,om,oS,rfl⟩,?_⟩ ?_
 ·exact Zw
 ·rintro n ys ⟨j,is,hn,hj1,hil,rfl⟩;simp only[PU];rcases Axz 1000 j with hge|hlt
  ·have ej:=eq_false (show¬(j:Int)≤1000 by omega);refine Zu ?_;exact⟨is,om,rfl⟩
  have ej:=eq_true (show(j:Int)≤1000 by omega);have hw:=wS j;have hsn:nums is++[.raw (.int .i64 (j:Int))]=nums (is++[(j:Int)]):=by simp [nums,num]
  have hnl:(nums is).length=is.length:=nums_length is;refine Zu ?_;refine(My l hl j).mono ?_;rintro r ⟨ke1,h1,h2,rfl⟩;simp only[num];by_cases he1:0≤ke1
  ·have e1:=eq_true he1;exact Aa1
  have e1:=eq_false he1;refine Zu ?_;refine(My m hm j).mono ?_;rintro r ⟨ke2,h1,h2,rfl⟩;simp only[num];by_cases he2:0≤ke2
  ·have e2:=eq_true he2;exact Aa1
  have e2:=eq_false he2;refine Zu ?_;refine(My p hp j).mono ?_;rintro r ⟨ke3,h1,h2,rfl⟩;simp only[num];by_cases he3:0≤ke3
  ·have e3:=eq_true he3;exact Aa1
  have e3:=eq_false he3;refine Zu ?_;exact Zl (n-1) ⟨j+1,is,om,om,om,rfl⟩;done
end
section
open Go.RowKit Go.Proofs
def zA:AV:=.agg [num 0,num 0,str [],num 0,num 0,num 0,.nil,num 0,num 0]
def chR (a b:List Bk) (r:AV):Prop:=∃(x:AV) (h c:Bool),r=.tup [x,Ai h,Ai c]∧(h=true∧(∃y,(y∈a∨y∈b)∧x=Dl y)∨h=false∧x=zA)
theorem Qa (p a b:List Bk) (hp:p.length≤1000000) (ha:a.length≤1000000) (hb:b.length≤1000000) (kp:∀x∈p,Ii x) (ka:∀x∈a,Ii x) (kb:∀x∈b,Ii x) (id:Int):Ab Tryz.prog 245 [.sl 9 (p.map Dl),.sl 9 (a.map Dl),.sl 9 (b.map Dl),num id] (chR a b):=by
 refine Zs [(1000014,[],[])] Tryz.func245 ⟨_,zA,false,false,rfl,.inr ⟨rfl,rfl⟩⟩ ?_;refine(My a ha id).mono ?_;rintro r ⟨k1,h1,h2,rfl⟩;simp only[num];simp only[go_sem];refine(My b hb id).mono ?_;rintro r ⟨k2,h3,h4,rfl⟩;simp only[num];simp only[go_sem];refine(Um p a hp ha kp ka id).mono ?_;rintro r ⟨t1,rfl⟩;simp only[Ai];simp only[go_sem];refine Ya (rl [11,2,3,48]) [13,14,15] (fun xs=>∃(l:List Bk) (k:Int) (c:Bool),(∀x∈l,x∈a∨x∈b)∧l.length≤1000000∧-1≤k∧k<l.length∧xs=[.sl 9 (l.map Dl),num k,Ai c]) ?_ ?_
 ·cases t1;rotate_left
  ·simp only[go_sem];refine K0 [.sl 9 (b.map Dl),num k2,Ai false] ⟨b,k2,false,fun x hx=>.inr hx,hb,om,om,rfl⟩ ?_;exact AaT
  simp only[go_sem];refine(Um p b hp hb kp kb id).mono ?_;rintro r ⟨t2,rfl⟩;simp only[Ai];simp only[go_sem];refine(Um a b ha hb ka kb id).mono ?_;rintro r ⟨t3,rfl⟩;simp only[Ai];by_cases h0:k2<0
  ·have e0:=eq_true h0;cases t2<;>cases t3
   ·simp only[go_sem,e0];refine K0 [.sl 9 (a.map Dl),num k1,Ai true] ⟨a,k1,true,fun x hx=>.inl hx,ha,om,om,rfl⟩ ?_;exact AaT
   ·exact tM
   ·exact tM
   ·exact tM
  have e0:=eq_false h0;cases t2<;>cases t3
  ·simp only[go_sem,e0];refine K0 [.sl 9 (b.map Dl),num k2,Ai true] ⟨b,k2,true,fun x hx=>.inr hx,hb,om,om,rfl⟩ ?_;exact AaT
  ·exact tM
  ·exact tM
  ·exact tM
 ·rintro xs ⟨l,k,c,hlm,hll,hk1,hk2,rfl⟩;simp only[PU];simp only[Ai];by_cases hk:k<0
  ·have ek:=eq_true hk;simp only[go_sem,ek,Axp,nums_length];exact⟨zA,false,c,rfl,.inr ⟨rfl,rfl⟩⟩
  have ek:=eq_false hk;obtain⟨i,rfl⟩:=Ayy (show 0≤k by omega);have ei:=eT i l.length;obtain⟨x,hx,hdx⟩:=drop_at (show i<l.length by omega);have hgx:=Ls hx;simp only[go_sem,ek,ei,hgx,Axp,nums_length];refine Zu ?_;exact⟨Dl x,true,c,rfl,.inl ⟨rfl,x,hlm x (Axt hx),rfl⟩⟩
end
section
open Go.RowKit Go.Proofs
theorem Aw4 (l m p:List Bk) (hl:l.length≤1000000) (hm:m.length≤1000000) (hp:p.length≤1000000):Ab Tryz.prog 244 [.sl 9 (l.map Dl),.sl 9 (m.map Dl),.sl 9 (p.map Dl)] (fun r=>∃is:List Int,is.length≤1000∧r=.sl 1 (nums is)):=
 (Asv l m p hl hm hp).wkr fun r ⟨is,h,e⟩=>⟨_,by rw[e];exact W1.ownsl _ _ _,rfl,is,h,rfl⟩
theorem tF {a b out:List Bk} {z:Bk} (ho:∀x∈out,x∈a∨x∈b) (hz:z∈a∨z∈b):∀x∈out++[z],x∈a∨x∈b:=fun x hx=>by
 rcases Ax5.1 hx with hx|hx
 ·exact ho x hx
 ·rw [Ax6]at hx;rw[hx];exact hz
theorem Ama {a b out:List Bk} {z:Bk} {k:Nat} (ho:∀x∈out,x∈a∨x∈b) (hz:z∈a∨z∈b):∀x∈out.take k++[z]++out.drop k,x∈a∨x∈b:=fun x hx=>by
 rcases Ax5.1 hx with hx|hx
 ·exact tF (fun x hx=>ho x (AxK hx)) hz x hx
 ·exact ho x (AxL hx)
def meR (a b:List Bk) (r:AV):Prop:=r=.tup [.nil,.nil,num 40]∨∃(l:List Bk) (cs:List Int),r=.tup [.own 179 9 (l.map Dl),.own 3 1 (nums cs),num 0]∧l.length≤a.length+b.length∧∀x∈l,x∈a∨x∈b
theorem Ah0 (p a b:List Bk) (hp:p.length≤100000) (ha:a.length≤100000) (hb:b.length≤100000) (kp:∀x∈p,Ii x) (ka:∀x∈a,Ii x) (kb:∀x∈b,Ii x):Ab Tryz.prog 186 [.sl 9 (p.map Dl),.sl 9 (a.map Dl),.sl 9 (b.map Dl)] (meR a b):=by
 replace hp:p.length≤1000000:=om
 replace ha':=ha
 replace hb':=hb
 replace ha:a.length≤1000000:=om
 replace hb:b.length≤1000000:=om
 refine Ir [(1000025,[],[]),(38,[],[22]),(40,[],[22])] Tryz.func186 ⟨_,.inl rfl⟩ ?_;simp only[go_sem];refine(Ul p hp kp).mono ?_;rintro r ⟨t1,rfl⟩;simp only[Ai];simp only[go_sem];refine(Ul a ha ka).mono ?_;rintro r ⟨t2,rfl⟩;simp only[Ai];simp only[go_sem];refine(Ul b hb kb).mono ?_;rintro r ⟨t3,rfl⟩;simp only[Ai];cases t1
 ·simp only[go_sem];exact Ho
 cases t2
 ·simp only[go_sem];exact Ho
 cases t3
 ·simp only[go_sem];exact Ho
 simp only[go_sem];refine(Aw4 p a b hp ha hb).mono ?_;rintro r ⟨is,hil,rfl⟩;simp only[go_sem];refine Ap (rl [3,3,10,151]) [13,14,15] (fun n ys=>∃(j q:Nat) (cs:List Int),j+n=is.length∧q≤j∧cs.length≤j∧ys=[.own 3 1 (nums cs),num q,num j]) ⟨is.length,_,⟨0,0,[],om,om,oS,rfl⟩,?_⟩ ?_
 ·exact Zw
 ·rintro n ys ⟨j,q,cs,hn,hq,hcs,rfl⟩;simp only[PU];rcases Axz j is.length with hlt|hge
  ·have ej:=eT j is.length;obtain⟨y,hy,hd⟩:=drop_at hlt;have hgy:=Og hy;have hw:=wS j;have hwz:=wS q;have hsn:nums cs++[.raw (.int .i64 y)]=nums (cs++[y]):=by simp [nums,num]
   have hnl:(nums cs).length=cs.length:=nums_length cs;simp only[go_sem,ej,hgy,hw,Axp,nums_length];refine Zu ?_;refine(Qa p a b hp ha hb kp ka kb y).mono ?_;rintro r ⟨x,h,c,rfl,hx⟩;rcases hx with⟨rfl,z,hz,rfl⟩|⟨rfl,rfl⟩
   ·simp only[Dl,num,str,Ai];cases c
    ·simp only[go_sem,ej,hgy,hw,hwz,hsn,hnl,Axp,nums_length];refine Zu ?_;exact Zl (n-1) ⟨j+1,q+1,cs,om,om,om,rfl⟩;done
    ·simp only[go_sem,ej,hgy,hw,hwz,hsn,hnl,Axp,nums_length];refine Zu ?_;exact Zl (n-1) ⟨j+1,q+1,cs++[y],om,om,by simp;omega,rfl⟩;done
   ·simp only[zA,num,str,Ai];cases c
    ·simp only[go_sem,ej,hgy,hw,hwz,hsn,hnl,Axp,nums_length];refine Zu ?_;exact Zl (n-1) ⟨j+1,q,cs,om,om,om,rfl⟩;done
    ·simp only[go_sem,ej,hgy,hw,hwz,hsn,hnl,Axp,nums_length];refine Zu ?_;exact Zl (n-1) ⟨j+1,q,cs++[y],om,om,by simp;omega,rfl⟩;done
  have ej:=eU j is.length;by_cases hq24:(24:Int)<q
  ·have eq24:=eq_true hq24;simp only[go_sem,ej,eq24,Axp,nums_length];exact Ho
  have eq24:=eq_false hq24;simp only[go_sem,ej,eq24,Axp,nums_length];refine(Ahz p b hp hb).mono ?_;rintro r ⟨t4,rfl⟩;simp only[Ai];simp only[go_sem];refine Ya (rl [3,3,3,4,1,5,2,146]) [13,19,20] (fun xs=>∃(u v:List Bk) (cs:List Int),(∀x∈u,x∈a∨x∈b)∧u.length+v.length=a.length+b.length∧cs.length≤1000∧xs=[.own 3 1 (nums cs),.sl 9 (u.map Dl),.sl 9 (v.map Dl)]) ?_ ?_
  ·cases t4
   ·simp only[go_sem];refine K0 [.own 3 1 (nums cs),.sl 9 (a.map Dl),.sl 9 (b.map Dl)] ⟨a,b,cs,fun x hx=>.inl hx,rfl,om,rfl⟩ ?_;exact Zw;done
   simp only[go_sem];refine K0 [.own 3 1 (nums cs),.sl 9 (b.map Dl),.sl 9 (a.map Dl)] ⟨b,a,cs,fun x hx=>.inr hx,om,om,rfl⟩ ?_;exact Zw;done
  rintro xs ⟨u,v,cs2,hu,huv,hcs2,rfl⟩;simp only[PU];simp only[go_sem];refine Ap (rl [3,3,3,4,1,5,2,1,2,143]) [22,23] (fun n ys=>∃(j:Nat) (out:List Bk),j+n=u.length∧out.length≤j∧(∀x∈out,x∈a∨x∈b)∧ys=[.own 179 9 (out.map Dl),num j]) ⟨u.length,_,⟨0,[],om,oS,oS,rfl⟩,?_⟩ ?_
  ·exact Zw
  ·rintro n ys ⟨j,out,hn,hol,hob,rfl⟩;simp only[PU];rcases Axz j u.length with hlt|hge
   ·have ej:=eT j u.length;obtain⟨x,hx,hd⟩:=drop_at hlt;have hgx:=Ls hx;have hw:=wS j;simp only[go_sem,ej,hgx,hw,Axp,nums_length];refine Zu ?_;refine(Qa p a b hp ha hb kp ka kb x.id).mono ?_;rintro r ⟨x2,h,c,rfl,hx2⟩;rcases hx2 with⟨rfl,z,hz,rfl⟩|⟨rfl,rfl⟩
    ·simp only[Dl,num,str,Ai];have hsn:out.map Dl++[.agg [.raw (.int .i64 z.id),.raw (.int .i64 z.kd),.raw (.string ⟨z.tx.toArray⟩),.raw (.int .i64 z.so),.raw (.int .i64 z.rf),.raw (.int .i64 z.un),.sl 1 (nums z.af),.raw (.int .i64 z.ap),.raw (.int .i64 z.de)]]=(out++[z]).map Dl:=by simp [Dl,num,str]
     simp only[go_sem,ej,hgx,hw,Axp,nums_length];refine Zu ?_;exact Zl (n-1) ⟨j+1,out++[z],om,by simp;omega,tF hob hz,rfl⟩;done
    simp only[zA,num,str,Ai];simp only[go_sem,ej,hgx,hw,Axp,nums_length];refine Zu ?_;exact Zl (n-1) ⟨j+1,out,om,om,hob,rfl⟩;done
   have ej:=eU j u.length;simp only[go_sem,ej,Axp,nums_length];refine Ap (rl [3,3,3,4,1,5,2,1,1,4,2,138]) [22,27,28] (fun n ys=>∃(j:Nat) (w:Int) (out:List Bk),j+n=v.length∧out.length≤u.length+j∧(∀x∈out,x∈a∨x∈b)∧ys=[.own 179 9 (out.map Dl),num w,num j]) ⟨v.length,_,⟨0,-1,out,om,om,hob,rfl⟩,?_⟩ ?_
   ·exact Zw
   ·clear hob hol hn ej hge;rintro n ys ⟨j,w,out,hn,hol,hob,rfl⟩;simp only[PU];rcases Axz j v.length with hlt|hge
    ·have ej:=eT j v.length;obtain⟨x,hx,hd⟩:=drop_at hlt;have hgx:=Ls hx;have hw:=wS j;simp only[go_sem,ej,hgx,hw,Axp,nums_length];refine Zu ?_;refine(Qa p a b hp ha hb kp ka kb x.id).mono ?_;rintro r ⟨x2,h,c,rfl,hx2⟩;rcases hx2 with⟨rfl,z,hz,rfl⟩|⟨rfl,rfl⟩
     ·simp only[Dl,num,str,Ai];simp only[go_sem,ej,hgx,hw,Axp,nums_length];refine Zu ?_;refine(My u om z.id).mono ?_;rintro r ⟨k1,h1,h2,rfl⟩;simp only[num];by_cases hk1:k1<0;rotate_left
      ·have e1:=eq_false hk1;simp only[go_sem,e1,hw,Axp,nums_length];refine Zu ?_;exact Zl (n-1) ⟨j+1,z.id,out,om,om,hob,rfl⟩;done
      have e1:=eq_true hk1;simp only[go_sem,e1,hw,Axp,nums_length];refine Zu ?_;refine(My out om w).mono ?_;rintro r ⟨k2,h3,h4,rfl⟩;simp only[num];obtain⟨kn,hkn⟩:=Ayy (show 0≤k2+1 by omega);have hwk:IntKind.i64.wrap (k2+1)=(kn:Int):=by rw[Cj om om];exact hkn
      have hkl:kn≤out.length:=om;have ek:=eq_true (show(kn:Int)≤(out.length:Int) by omega);have hz1:[.agg [.raw (.int .i64 z.id),.raw (.int .i64 z.kd),.raw (.string ⟨z.tx.toArray⟩),.raw (.int .i64 z.so),.raw (.int .i64 z.rf),.raw (.int .i64 z.un),.sl 1 (nums z.af),.raw (.int .i64 z.ap),.raw (.int .i64 z.de)]]=[z].map Dl:=by simp [Dl,num,str]
      simp only[go_sem,e1,hw,hwk,ek,Axp,nums_length];rw[←AyK];have htl:(out.take kn).length=kn:=by simp;omega
      have htk:(out.drop kn).take (out.length-kn)=out.drop kn:=Axw oS;repeat' first|refine Aj.on (fun _=>?_) (fun _=>?_)|with_reducible refine gd ?_|simp only[go_sem,e1,hw,hwk,ek,htl,hz1,←AxJ,←AyJ,←AyK,htk,Axs,List.length_singleton,AxQ,Axp,nums_length]
      have hfin:(out.take kn).map Dl++[Dl z]++(out.drop kn).map Dl=(out.take kn++[z]++out.drop kn).map Dl:=oS;rw[hfin];exact Zl (n-1) ⟨j+1,z.id,_,om,by simp;omega,Ama hob hz,rfl⟩;done
     simp only[zA,num,str,Ai];simp only[go_sem,ej,hgx,hw,Axp,nums_length];refine Zu ?_;exact Zl (n-1) ⟨j+1,w,out,om,om,hob,rfl⟩;done
    have ej:=eU j v.length;simp only[go_sem,ej,Axp,nums_length];refine Zu ?_;exact .inr ⟨out,cs2,rfl,om,hob⟩
end
section
open Go.RowKit Go.Proofs
def lens (l:List Ac):Nat:=(l.map List.length).sum+l.length
theorem Un (u:Ac):(Lib.trimB u 32).length≤u.length:=(Ahv u 32).length_le
theorem tG (u:Ac) (h0:0<u.length) (h:(((u.getD 0 0).toNat:Nat):Int)=32):(Lib.trimB u 32).length+1≤u.length:=by
 cases u with
 |nil=>simp at h0
 |cons c v=>
  have hc:c=32:=(iS c).1 h;subst hc;have e:Lib.trimB (32::v) 32=Lib.trimB v 32:=by rw[←Js,←Js];congr 1
  rw[e];have:=Un v;exact Vh
theorem lens_cons (x:Ac) (l:List Ac):lens (x::l)=x.length+1+lens l:=by simp [lens];omega
theorem Qb (t:Ac):∀(m s i:Nat),i+m=t.length→s≤i→(s=0∨s=t.length∨(((t.getD s 0).toNat:Nat):Int)=32)→lens (Q9 t m s i)≤t.length-s+(if s=0 then 1 else 0)
 |0,s,i,him,hsi,hs=>by
  unfold Q9 Ao0;split
  ·simp [lens]
  ·rename_i hne
   have hl:0<(t.drop s).length:=by
    rcases AxG (t.drop s).length with h|h
    ·rw [List.length_eq_zero_iff.1 h]at hne;exact absurd rfl hne
    ·exact h
   have hl2:=hl;rw[AxQ]at hl2;rw[lens_cons];have hb:=Un (t.drop s);rw[AxQ]at hb;have h00:lens []=0:=rfl;split
   ·omega
   ·have:=tG (t.drop s) hl (by
     rcases hs with h|h|h
     ·omega
     ·omega
     ·rw [←h];simp [Axy])
    rw[AxQ]at this;omega
 |m+1,s,i,him,hsi,hs=>by
  rw[W8];split
  ·rename_i hE
   have ih:=Qb t m (i+1) (i+1) om om (by
    unfold pW at hE;rw[Ax3]at hE;have hE2:=hE.2;rw[Ayk,decide_eq_true_eq,decide_eq_true_eq]at hE2;rcases hE2 with h|h
    ·exact .inr (.inl om)
    ·exact .inr (.inr h))
   rw[if_neg om]at ih;rw[lens_cons];have hb:=Un ((t.drop s).take (i+1-s));rw[AxC,AxQ]at hb;split
   ·omega
   ·have:=tG ((t.drop s).take (i+1-s)) (by rw[AxC,AxQ];omega) (by
     rcases hs with h|h|h
     ·omega
     ·omega
     ·rw [←h];simp [Axy,List.getElem?_take,show 0<i+1-s by omega])
    rw[AxC,AxQ]at this;omega
  ·exact Qb t m s (i+1) om om hs
theorem Aaj (t:Ac):lens (Ahu t)≤t.length+1:=by have:=Qb t t.length 0 0 om om (.inl rfl);show lens (Q9 t t.length 0 0)≤_;exact G5
theorem Asw (t:Ac) (ht:t.length≤1000000000000):Ab Tryz.prog 187 [str t] (fun r=>r=.sl 1 ((Ahu t).map str)):=
 (Ahx t ht).wkr fun r h=>⟨_,by rw[h];exact W1.ownsl _ _ _,rfl,rfl⟩
theorem Aak (l:List Bk) (hl:l.length≤1000000) (hb:∀b∈l,Ii b):Ab Tryz.prog 98 [.sl 9 (l.map Dl)] (fun r=>r=.mine 179 9 (l.map Dl)):=by
 refine HC.plain (N7 [] [6] [] Tryz.func98 ?_) ⟨_,rfl⟩;simp only[go_sem];refine Ax (rl [5,23]) [3,4] (fun m xs γ=>γ=[]∧∃j:Nat,j+m=l.length∧xs=[.mine 179 9 ((l.take j).map Dl),num j]) ⟨l.length,_,_,⟨rfl,0,om,rfl⟩,hent (Gw.refl _) ?_⟩ ?_
 ·exact Zw
 ·rintro m xs γ ⟨rfl,j,hn,rfl⟩;simp only[PU];rcases Axz j l.length with hlt|hge
  ·have ej:=eT j l.length;obtain⟨x,hx,hd⟩:=drop_at hlt;have hgx:=Ls hx;have hw:=wS j;have hxa:=(hb x (Axt hx)).af;have hnl:(nums x.af).length=x.af.length:=nums_length _;have htl:(l.take j).length=j:=by simp;omega
   have hsn:(l.take j).map Dl++[.agg [.raw (.int .i64 x.id),.raw (.int .i64 x.kd),.raw (.string ⟨x.tx.toArray⟩),.raw (.int .i64 x.so),.raw (.int .i64 x.rf),.raw (.int .i64 x.un),.sl 1 (nums x.af),.raw (.int .i64 x.ap),.raw (.int .i64 x.de)]]=(l.take (j+1)).map Dl:=by rw[Ax9,hx];simp [Dl,num,str]
   simp only[go_sem,ej,hgx,hw,htl,hnl,Axp,nums_length];refine Zu ?_;refine H5 (cs1:= ?c1) (cs2:= ?c2) Bo Dv 1 ?e1 ?e2 ?h1
   case e1=>rfl
   case e2=>rfl
   simp only[Ayp,Ayr,Ays];simp only[go_sem];refine Zu ?_;apply Ml
   ·exact qH
   simp only[go_sem,ej,hgx,hw,htl,hnl,Axp,nums_length];refine Zu ?_;exact qJ
  have ej:=eU j l.length;rw[Axw hge];simp only[go_sem,ej,Axp,nums_length];exact Zx
structure Crr where
 lg:Ac
 bk:Int
 se:Int
 tx:Ac
 n:Int
def qA (c:Crr):AV:=.agg [str c.lg,num c.bk,num c.se,str c.tx,num c.n]
def bT (b:Bk) (t:Ac):Bk:={b with tx:=t}
theorem aY (l:List Bk) (c:Crr) (M:Nat) (hM:M≤1000000000) (hl:l.length≤1000000) (hb:∀b∈l,b.tx.length≤M) (hc:c.tx.length≤1000000000):Ab Tryz.prog 99 [.mine 179 9 (l.map Dl),qA c] (fun r=>∃l':List Bk,r=.mine 179 9 (l'.map Dl)∧(l'=l∨∃j x t,l[j]? =some x∧t.length≤M+c.tx.length+1∧l'=l.set j (bT x t))):=by
 simp only[qA];refine HC.plain (N7 [(0,[100000],[]),(7,[100000],[]),(18,[100000],[]),(19,[100000],[]),(1000008,[],[])] [] [(4,[],[0,1,2,3,5,2004,2006,7],[],[])] Tryz.func99 ?_) ⟨_,l,rfl,.inl rfl⟩;simp only[go_sem];refine Ax (rl [6,89]) [5] (fun m xs γ=>γ=[]∧∃j:Nat,j+m=l.length∧xs=[num j]) ⟨l.length,_,_,⟨rfl,0,om,rfl⟩,hent (Gw.refl _) ?_⟩ ?_
 ·exact Zw
 ·rintro m xs γ ⟨rfl,j,hn,rfl⟩;simp only[PU];rcases Axz j l.length with hlt|hge
  ·have ej:=eT j l.length;obtain⟨x,hx,hd⟩:=drop_at hlt;have hgx:=Ls hx;have hw:=wS j;have hxm:=hb x (Axt hx);by_cases hbk:x.id=c.bk;rotate_left
   ·have eb:=eq_false hbk;simp only[go_sem,ej,hgx,hw,eb,Axp,nums_length];refine Zu ?_;exact qJ
   have eb:=eq_true hbk;simp only[go_sem,ej,hgx,hw,eb,Axp,nums_length];refine Zu ?_;refine HC.old (Asw x.tx om) ?_;rintro r rfl;have hss:=Aaj x.tx;generalize Ahu x.tx=sl at *;simp only[go_sem,ej,hgx,hw,eb,Axp,nums_length];refine Jh (rl [7,88]) [] (fun xs γ=>γ=[]∧0≤c.se∧c.se<sl.length∧xs=[]) ?_ ?_
   ·by_cases hk:x.kd=1∨x.kd=2∨x.kd=4;rotate_left
    ·have f1:=eN x.kd 1;have f2:=eN x.kd 2;have f4:=eN x.kd 4;simp only[go_sem,ej,hgx,hw,f1,f2,f4,Axp,nums_length];exact bJ
    rcases hk with hk|hk|hk
    ·have g:=eq_true hk;by_cases hs0:c.se<0
     ·have s0:=eq_true hs0;simp only[go_sem,ej,hgx,hw,g,s0,Axp,nums_length];exact bJ
     have s0:=eq_false hs0;by_cases hs1:(sl.length:Int)≤c.se
     ·have s1:=eq_true hs1;simp only[go_sem,ej,hgx,hw,g,s0,s1,Axp,nums_length];exact bJ
     have s1:=eq_false hs1;simp only[go_sem,ej,hgx,hw,g,s0,s1,Axp,nums_length];exact Aa0
    ·have g:=eq_true hk;have f1:=eN x.kd 1;by_cases hs0:c.se<0
     ·have s0:=eq_true hs0;simp only[go_sem,ej,hgx,hw,g,f1,s0,Axp,nums_length];exact bJ
     have s0:=eq_false hs0;by_cases hs1:(sl.length:Int)≤c.se
     ·have s1:=eq_true hs1;simp only[go_sem,ej,hgx,hw,g,f1,s0,s1,Axp,nums_length];exact bJ
     have s1:=eq_false hs1;simp only[go_sem,ej,hgx,hw,g,f1,s0,s1,Axp,nums_length];exact Aa0
    ·have g:=eq_true hk;have f1:=eN x.kd 1;have f2:=eN x.kd 2;by_cases hs0:c.se<0
     ·have s0:=eq_true hs0;simp only[go_sem,ej,hgx,hw,g,f1,f2,s0,Axp,nums_length];exact bJ
     have s0:=eq_false hs0;by_cases hs1:(sl.length:Int)≤c.se
     ·have s1:=eq_true hs1;simp only[go_sem,ej,hgx,hw,g,f1,f2,s0,s1,Axp,nums_length];exact bJ
     have s1:=eq_false hs1;simp only[go_sem,ej,hgx,hw,g,f1,f2,s0,s1,Axp,nums_length];exact Aa0
   rintro xs γ ⟨rfl,hs0,hs1,rfl⟩;simp only[PU];simp only[go_sem];refine Ax (rl [9,86]) [7,8] (fun m2 xs γ=>γ=[]∧∃(k:Nat) (t:Ac),k+m2=sl.length∧t.length≤((sl.take k).map List.length).sum+k+(if(k:Int)≤c.se then 0 else c.tx.length)∧xs=[str t,num k]) ⟨sl.length,_,_,⟨rfl,0,[],om,oS,rfl⟩,hent (Gw.refl _) ?_⟩ ?_
   ·exact Zw
   ·rintro m2 xs γ ⟨rfl,k,t,hm2,htl,rfl⟩;simp only[PU,str]
    have hsum:((sl.take k).map List.length).sum≤(sl.map List.length).sum:=by
     conv=>rhs;rw[←AxR k sl,AxJ,List.sum_append]
     omega
    have hlens:lens sl=(sl.map List.length).sum+sl.length:=rfl;have hf0:(if(k:Int)≤c.se then 0 else c.tx.length)≤c.tx.length:=by split<;>omega
    rcases Axz k sl.length with hlt2|hge2
    ·have ek:=eT k sl.length;obtain⟨y,hy,hdy⟩:=drop_at hlt2;have hgy:=B8 hy;have hwk:=wS k;have hS:((sl.take (k+1)).map List.length).sum=((sl.take k).map List.length).sum+y.length:=by rw[Ax9,hy];simp
     have hsum1:((sl.take (k+1)).map List.length).sum≤(sl.map List.length).sum:=by
      conv=>rhs;rw[←AxR (k+1) sl,AxJ,List.sum_append]
      omega
     have step:∀t2:Ac,t2.length≤t.length+1+(if(k:Int)=c.se then c.tx.length else y.length)→t2.length≤((sl.take (k+1)).map List.length).sum+(k+1)+(if((k+1:Nat):Int)≤c.se then 0 else c.tx.length):=fun t2 h2=>by
      rw[hS];split at h2
      ·rw [if_neg om];rw[if_pos om]at htl;omega
      ·split at htl
       ·rw [if_pos om];omega
       ·rw [if_neg om];omega
     by_cases hse:(k:Int)=c.se
     ·have e1:=eq_true hse;rw[if_pos hse]at step;rcases AxG k with hk0|hk0
      ·have e0:=eq_false (show¬(0:Int)<(k:Int) by omega);simp only[go_sem,ek,hgy,hwk,e1,e0,Axp,nums_length];repeat (refine And.intro (by(try simp only[Axs,Axr,Axq]);omega) ?_)
       refine Z5 ek hgy hwk e1 e0 ?_;refine Au (m2-1) _ _ om ⟨rfl,k+1,t++c.tx,om,step _ (by first|(simp;done)|(simp;omega)),rfl⟩ (hent (Gw.refl _) ?_);exact An2
      have e0:=eq_true (show(0:Int)<(k:Int) by omega);simp only[go_sem,ek,hgy,hwk,e1,e0,Axp,nums_length];repeat (refine And.intro (by(try simp only[Axs,Axr,Axq]);omega) ?_)
      refine Z5 ek hgy hwk e1 e0 ?_;exact Zm (m2-1) ⟨rfl,k+1,t++[32]++c.tx,om,step _ (by first|(simp;done)|(simp;omega)),rfl⟩;done
     have e1:=eq_false hse;rw[if_neg hse]at step;rcases AxG k with hk0|hk0
     ·have e0:=eq_false (show¬(0:Int)<(k:Int) by omega);simp only[go_sem,ek,hgy,hwk,e1,e0,Axp,nums_length];repeat (refine And.intro (by(try simp only[Axs,Axr,Axq]);omega) ?_)
      refine Z5 ek hgy hwk e1 e0 ?_;exact Zm (m2-1) ⟨rfl,k+1,t++y,om,step _ (by first|(simp;done)|(simp;omega)),rfl⟩;done
     have e0:=eq_true (show(0:Int)<(k:Int) by omega);simp only[go_sem,ek,hgy,hwk,e1,e0,Axp,nums_length];repeat (refine And.intro (by(try simp only[Axs,Axr,Axq]);omega) ?_)
     refine Z5 ek hgy hwk e1 e0 ?_;exact Zm (m2-1) ⟨rfl,k+1,t++[32]++y,om,step _ (by first|(simp;done)|(simp;omega)),rfl⟩;done
    have ek:=eU k sl.length;have hgx2:=List.getElem?_eq_some_iff.1 hx;simp only[go_sem,ek,hgx,Axp,nums_length];refine Z3 ek hgx ej ?_;have htk:sl.take k=sl:=Axw hge2;rw[htk]at htl;exact⟨_,_,W1.refl _,rfl,Gw.refl _,rfl,l.set j (bT x t),by rw[List.map_set];rfl,.inr ⟨j,x,t,hx,om,rfl⟩⟩
  have ej:=eU j l.length;simp only[go_sem,ej,Axp,nums_length];exact bJ
end
section
open Go.RowKit Go.Proofs
structure Fc where
 n:Int
 tm:Int
 kd:Int
 st:Int
 lg:Ac
 rv:Int
 bs:Int
 ti:Ac
 au:Ac
 tp:List Ac
 bl:List Bk
 un:Int
 af:List Int
 ap:Int
 de:Int
 ed:Int
 bk:Int
 se:Int
 tx:Ac
 nm:Ac
 pa:Int
 cl:Int
 ul:Int
def Mm (f:Fc):AV:=.agg [num f.n,num f.tm,num f.kd,num f.st,str f.lg,num f.rv,num f.bs,str f.ti,str f.au,.sl 1 (f.tp.map str),.sl 9 (f.bl.map Dl),num f.un,.sl 1 (nums f.af),num f.ap,num f.de,num f.ed,num f.bk,num f.se,str f.tx,str f.nm,num f.pa,num f.cl,num f.ul]
theorem W9 {l:List Fc} {j:Nat} {x:Fc} (h:l[j]? =some x):(l.map Mm).getD j .any=.agg [.raw (.int .i64 x.n),.raw (.int .i64 x.tm),.raw (.int .i64 x.kd),.raw (.int .i64 x.st),.raw (.string ⟨x.lg.toArray⟩),.raw (.int .i64 x.rv),.raw (.int .i64 x.bs),.raw (.string ⟨x.ti.toArray⟩),.raw (.string ⟨x.au.toArray⟩),.sl 1 (x.tp.map str),.sl 9 (x.bl.map Dl),.raw (.int .i64 x.un),.sl 1 (nums x.af),.raw (.int .i64 x.ap),.raw (.int .i64 x.de),.raw (.int .i64 x.ed),.raw (.int .i64 x.bk),.raw (.int .i64 x.se),.raw (.string ⟨x.tx.toArray⟩),.raw (.string ⟨x.nm.toArray⟩),.raw (.int .i64 x.pa),.raw (.int .i64 x.cl),.raw (.int .i64 x.ul)]:=by simp [h,Mm,num,str]
structure Kl (f:Fc):Prop where
 bl:f.bl.length≤100
 bk:∀b∈f.bl,b.tx.length≤1000∧b.af.length≤1000
 tp:f.tp.length≤10
 tn:∀t∈f.tp,t.length≤1000
 lg:f.lg.length≤100
 ti:f.ti.length≤1000
 au:f.au.length≤1000
 tx:f.tx.length≤1000
theorem Ah2 {f:Fc} (h:Kl f):∀b∈f.bl,Ii b:=fun b hb=>⟨by have:=(h.bk b hb).1;omega,by have:=(h.bk b hb).2;omega⟩
def rvR (now:List Bk) (f:Fc) (r:AV):Prop:=∃l':List Bk,(r=.sl 9 (l'.map Dl)∨r=.own 179 9 (l'.map Dl))∧l'.length≤now.length+f.bl.length∧∀x∈l',x∈now∨x∈f.bl
theorem qB (l:List Fc) (now:List Bk) (f:Fc) (hl:l.length≤100000) (hk:∀x∈l,Kl x) (hf:Kl f) (hn:now.length≤100000) (hnk:∀b∈now,Ii b):Ab Tryz.prog 97 [.sl 23 (l.map Mm),.sl 9 (now.map Dl),Mm f] (rvR now f):=by
 simp only[Mm];refine HC.plain (N7 [] [] [(1,[],[0,1,2,3,4,5,6,7,8,9,11,2010,2012,13,14],[],[]),(7,[],[0,1,2,3,5,2004,2006,7],[],[])] Tryz.func97 ?_) ⟨_,f.bl,.inl rfl,om,fun x hx=>.inr hx⟩;rcases AxG l.length with hl0|hl0
 ·have e0:=eq_true (show(l.length:Int)=0 by omega);simp only[go_sem,e0,Axp,nums_length];exact Aaz
 have e0:=eq_false (show¬(l.length:Int)=0 by omega);obtain⟨x,hx,hd⟩:=drop_at (show l.length-1<l.length by omega);have hgx:=W9 hx;have hw1:IntKind.i64.wrap ((l.length:Int)-1)=((l.length-1:Nat):Int):=by rw[Cj om om];omega
 have e1:=eq_true (show((l.length-1:Nat):Int)<(l.length:Int) by omega);by_cases hr:x.rv=f.bs
 ·have e2:=eq_true hr;simp only[go_sem,e0,e1,e2,hgx,hw1,Axp,nums_length];exact Aaz
 have e2:=eq_false hr;simp only[go_sem,e0,e1,e2,hgx,hw1,Axp,nums_length];refine Zu ?_;refine Ax (rl [9,53]) [7,8] (fun m xs γ=>γ=[]∧∃(j:Nat) (bs:List Bk),j+m=l.length∧bs.length≤100∧(∀b∈bs,Ii b)∧xs=[.sl 9 (bs.map Dl),num j]) ⟨l.length,_,_,⟨rfl,0,[],om,oS,oS,rfl⟩,hent (Gw.refl _) ?_⟩ ?_
 ·exact Zw
 ·rintro m xs γ ⟨rfl,j,bs,hm,hb1,hb2,rfl⟩;simp only[PU];rcases Axz j l.length with hlt|hge
  ·have ej:=eT j l.length;obtain⟨y,hy,hdy⟩:=drop_at hlt;have hgy:=W9 hy;have hw:=wS j;have hyo:=hk y (Axt hy);by_cases hr2:y.rv=f.bs
   ·have e3:=eq_true hr2;simp only[go_sem,ej,e3,hgy,hw,Axp,nums_length];refine Zu ?_;exact Zm (m-1) ⟨rfl,j+1,y.bl,om,hyo.bl,Ah2 hyo,rfl⟩;done
   have e3:=eq_false hr2;simp only[go_sem,ej,e3,hgy,hw,Axp,nums_length];refine Zu ?_;exact Zm (m-1) ⟨rfl,j+1,bs,om,hb1,hb2,rfl⟩;done
  have ej:=eU j l.length;simp only[go_sem,ej,Axp,nums_length];refine Zu ?_;have hfl:=hf.bl;refine HC.old (Ah0 bs now f.bl om om om hb2 hnk (Ah2 hf)) ?_;rintro r (rfl|⟨l2,cs,rfl,hl2,hm2⟩)
  ·simp only[num];have h40:((40:Int)=0)=False:=eq_false oD;simp only[go_sem,ej,h40,Axp,nums_length];exact Aaz
  simp only[num];simp only[go_sem,ej,Axp,nums_length];refine Zu ?_;exact⟨_,_,W1.refl _,rfl,Gw.refl _,rfl,l2,.inr rfl,hl2,hm2⟩
end
end Go.Proofs.YtmophjggmekoeaaGreatDoor
