/- Ends of proofs that come again. -/
import Derived.ProofKit
import Derived.Test.YtmophjggmekoeaaGreatDoorC0
set_option linter.all false
namespace Go.Proofs.YtmophjggmekoeaaGreatDoor
theorem jB {G:Prop} (e:G:=by
 all_goals try (exfalso;omega)
 refine Az (n-1) [.own 9 1 ((Gj s (l.take (j+1))).1.map str),Ai (Gj s (l.take (j+1))).2,num ((j+1:Nat):Int)] om ⟨j+1,om,om,rfl⟩ ?_;rw[hstep];simp only[hle,hxe,AxP,AxU,Ayb,Bool.true_and,Bool.false_and,AxW,Bool.or_true,Bool.true_or,Bool.or_false,Aza,Ax0,if_true,if_false,AxF,AxJ,Axx,Axv,str,Ai];exact Zw):G:=e
theorem qz1 {G:Prop} (e:G:=by
 first
  |exact h.elim
  |exact⟨_,h,fun K'=>Iff.rfl⟩
  |exact⟨_,h.2,fun K'=>⟨fun h'=>h'.2,fun h'=>⟨h.1,h'⟩⟩⟩
  |exact⟨_,h.2.2,fun K'=>⟨fun h'=>h'.2.2,fun h'=>⟨h.1,h.2.1,h'⟩⟩⟩
  |exact⟨_,h.2.2.2,fun K'=>⟨fun h'=>h'.2.2.2,fun h'=>⟨h.1,h.2.1,h.2.2.1,h'⟩⟩⟩
  |exact⟨_,h.2.2.2.2,fun K'=>⟨fun h'=>h'.2.2.2.2,fun h'=>⟨h.1,h.2.1,h.2.2.1,h.2.2.2.1,h'⟩⟩⟩
  |exact⟨_,h.2.2.2.2.2,fun K'=>⟨fun h'=>h'.2.2.2.2.2,fun h'=>⟨h.1,h.2.1,h.2.2.1,h.2.2.2.1,h.2.2.2.2.1,h'⟩⟩⟩
  |exact⟨_,h.2.2.2.2.2.2,fun K'=>⟨fun h'=>h'.2.2.2.2.2.2,fun h'=>⟨h.1,h.2.1,h.2.2.1,h.2.2.2.1,h.2.2.2.2.1,h.2.2.2.2.2.1,h'⟩⟩⟩):G:=e
theorem qz2 {G:Prop} (e:G:=by
 cases x with
 |tmp s=>
  revert h;simp only[];generalize σ.getD s .any=v;intro h;cases v<;>simp only[]at h⊢<;>try exact h.elim
  case box U cs=>first
   |exact h.elim
   |exact⟨_,h,fun K'=>Iff.rfl⟩
   |exact⟨_,h.2,fun K'=>⟨fun h'=>h'.2,fun h'=>⟨h.1,h'⟩⟩⟩
   |exact⟨_,h.2.2,fun K'=>⟨fun h'=>h'.2.2,fun h'=>⟨h.1,h.2.1,h'⟩⟩⟩
   |exact⟨_,h.2.2.2,fun K'=>⟨fun h'=>h'.2.2.2,fun h'=>⟨h.1,h.2.1,h.2.2.1,h'⟩⟩⟩
   |exact⟨_,h.2.2.2.2,fun K'=>⟨fun h'=>h'.2.2.2.2,fun h'=>⟨h.1,h.2.1,h.2.2.1,h.2.2.2.1,h'⟩⟩⟩
   |exact⟨_,h.2.2.2.2.2,fun K'=>⟨fun h'=>h'.2.2.2.2.2,fun h'=>⟨h.1,h.2.1,h.2.2.1,h.2.2.2.1,h.2.2.2.2.1,h'⟩⟩⟩
   |exact⟨_,h.2.2.2.2.2.2,fun K'=>⟨fun h'=>h'.2.2.2.2.2.2,fun h'=>⟨h.1,h.2.1,h.2.2.1,h.2.2.2.1,h.2.2.2.2.1,h.2.2.2.2.2.1,h'⟩⟩⟩
  case ref s' off=>
   revert h;generalize σ.getD s' .any=u;intro h;cases u<;>simp only[]at h⊢<;>try exact h.elim
   case box U cs=>first
    |exact h.elim
    |exact⟨_,h,fun K'=>Iff.rfl⟩
    |exact⟨_,h.2,fun K'=>⟨fun h'=>h'.2,fun h'=>⟨h.1,h'⟩⟩⟩
    |exact⟨_,h.2.2,fun K'=>⟨fun h'=>h'.2.2,fun h'=>⟨h.1,h.2.1,h'⟩⟩⟩
    |exact⟨_,h.2.2.2,fun K'=>⟨fun h'=>h'.2.2.2,fun h'=>⟨h.1,h.2.1,h.2.2.1,h'⟩⟩⟩
    |exact⟨_,h.2.2.2.2,fun K'=>⟨fun h'=>h'.2.2.2.2,fun h'=>⟨h.1,h.2.1,h.2.2.1,h.2.2.2.1,h'⟩⟩⟩
    |exact⟨_,h.2.2.2.2.2,fun K'=>⟨fun h'=>h'.2.2.2.2.2,fun h'=>⟨h.1,h.2.1,h.2.2.1,h.2.2.2.1,h.2.2.2.2.1,h'⟩⟩⟩
    |exact⟨_,h.2.2.2.2.2.2,fun K'=>⟨fun h'=>h'.2.2.2.2.2.2,fun h'=>⟨h.1,h.2.1,h.2.2.1,h.2.2.2.1,h.2.2.2.2.1,h.2.2.2.2.2.1,h'⟩⟩⟩
  case elt y=>first
   |exact h.elim
   |exact⟨_,h,fun K'=>Iff.rfl⟩
   |exact⟨_,h.2,fun K'=>⟨fun h'=>h'.2,fun h'=>⟨h.1,h'⟩⟩⟩
   |exact⟨_,h.2.2,fun K'=>⟨fun h'=>h'.2.2,fun h'=>⟨h.1,h.2.1,h'⟩⟩⟩
   |exact⟨_,h.2.2.2,fun K'=>⟨fun h'=>h'.2.2.2,fun h'=>⟨h.1,h.2.1,h.2.2.1,h'⟩⟩⟩
   |exact⟨_,h.2.2.2.2,fun K'=>⟨fun h'=>h'.2.2.2.2,fun h'=>⟨h.1,h.2.1,h.2.2.1,h.2.2.2.1,h'⟩⟩⟩
   |exact⟨_,h.2.2.2.2.2,fun K'=>⟨fun h'=>h'.2.2.2.2.2,fun h'=>⟨h.1,h.2.1,h.2.2.1,h.2.2.2.1,h.2.2.2.2.1,h'⟩⟩⟩
   |exact⟨_,h.2.2.2.2.2.2,fun K'=>⟨fun h'=>h'.2.2.2.2.2.2,fun h'=>⟨h.1,h.2.1,h.2.2.1,h.2.2.2.1,h.2.2.2.2.1,h.2.2.2.2.2.1,h'⟩⟩⟩
 |_=>exact h.elim):G:=e
theorem qz3 {G:Prop} (e:G:=by
 have e1:=eN a.kind 1;have e6:=eN a.kind 6;refine Z7 e2 e3 e4 e5 e1 e6 hv ?_;refine((H4 a).wk ?_).mono ?_
 ·try simp only[num,str]
  first|exact Wi.h|exact Wk.refl _
 rintro r rfl;try simp only[Ai,num,str]
 repeat' first|refine Aj.on (fun _=>?_) (fun _=>?_)|with_reducible refine gd ?_|simp only[go_sem,DT,Int.reduceEq,Axq,e2,e3,e4,e5,e1,e6,hv]
 refine((Oq a hv).wk ?_).mono ?_
 ·try simp only[Dk,num,str]
  exact Zw
 rintro r rfl;simp only[shp,e2,e3,e4,e5,e1,e6,num,if_true,if_false];refine Zu ?_;refine Za (Alu (Gg a) (by have:=gC hv;omega) (by have:=Wr hv;simp only[B0,Axr]at this;omega)) ?_;all_goals first|rfl|(simp [Er,hv,B0,Gg,Lib.join,P2,str,num, *];done)):G:=e
theorem qz4 {G:Prop} (e:G:=by
 repeat' first|exact trivial|exact Gm _|exact Iq _|exact Ha _|exact Fv _|exact Nz _|exact N1 _|exact Jw _|exact Jx _ _ _|exact A0 (N0 _ _ _ _)|exact A0 (Dp _)|refine Cb ?_ (fun _=> ?_)|split):G:=e
theorem qz5 {G:Prop} (e:G:=by
 cases op<;>first
  |exact h.elim
  |exact⟨_,h,fun K'=>Iff.rfl⟩
  |exact⟨_,h.2,fun K'=>⟨fun h'=>h'.2,fun h'=>⟨h.1,h'⟩⟩⟩
  |exact⟨_,h.2.2,fun K'=>⟨fun h'=>h'.2.2,fun h'=>⟨h.1,h.2.1,h'⟩⟩⟩
  |exact⟨_,h.2.2.2,fun K'=>⟨fun h'=>h'.2.2.2,fun h'=>⟨h.1,h.2.1,h.2.2.1,h'⟩⟩⟩
  |exact⟨_,h.2.2.2.2,fun K'=>⟨fun h'=>h'.2.2.2.2,fun h'=>⟨h.1,h.2.1,h.2.2.1,h.2.2.2.1,h'⟩⟩⟩
  |exact⟨_,h.2.2.2.2.2,fun K'=>⟨fun h'=>h'.2.2.2.2.2,fun h'=>⟨h.1,h.2.1,h.2.2.1,h.2.2.2.1,h.2.2.2.2.1,h'⟩⟩⟩
  |exact⟨_,h.2.2.2.2.2.2,fun K'=>⟨fun h'=>h'.2.2.2.2.2.2,fun h'=>⟨h.1,h.2.1,h.2.2.1,h.2.2.2.1,h.2.2.2.2.1,h.2.2.2.2.2.1,h'⟩⟩⟩):G:=e
theorem qz6 {G:Prop} (e:G:=by
 refine Zu ?_;refine Za (Ll a.name ha) ?_;refine Zb (Ll a.lang hb) ?_;rintro r rfl;try simp only[Ai,num,str]
 repeat' first|refine Aj.on (fun _=>?_) (fun _=>?_)|with_reducible refine gd ?_|simp only[go_sem,DT,Int.reduceEq,Axq,e2,e3,e4,e5,e1,e6]
 all_goals first|rfl|(simp [Aq,Kj,Ai,ie, *];done)|(simp_all [Aq,Kj,Ai,ie];done)|(simp_all [Aq,Kj,Ai,ie];omega)):G:=e
theorem qz7 {G:Prop} (e:G:=by
 refine Z7 e2 e3 e4 e5 e1 e6 hv ?_;refine((Md a ha hb).wk ?_).mono ?_
 ·try simp only[num,str]
  first|exact Wi.h|exact Wk.refl _
 rintro r rfl;try simp only[Ai,num,str]
 repeat' first|refine Aj.on (fun _=>?_) (fun _=>?_)|with_reducible refine gd ?_|simp only[go_sem,DT,Int.reduceEq,Axq,e2,e3,e4,e5,e1,e6,hv]
 all_goals first|omega|rfl|(simp [Er,B0,Gg,E6,Lib.join_one,Lib.join,Bq,Bs,Nj,Dd,P2,str,num, *];done)|(refine⟨by simp only[Axs,Axr,Axq];omega,?_⟩;simp [Er,B0,Gg,E6,Lib.join_one,Lib.join,Bq,Bs,Nj,Dd,P2,str,num, *];done)):G:=e
theorem qz8 {G:Prop} (e:G:=by
 obtain⟨γ',σ,hq,S',c',c1',gv',hrf',hr',hg',h1,hd,hz',hs⟩:=hq
 have fin:Hu T rs σ (fun vs=>K (Sy vs) γ')→a.defers=[]∧∃v,(results fn a.tmps).run P w'=.ok v w'∧
  ((∃v' r γ' S' c' c1' gv',Ending.returned v=.returned v'∧K r γ'∧pb r=true∧Aa w' S' [r] [v'] c'∧Aa w' S' γ' gv' c1'∧(∀b,c' b+c1' b≤1)∧Sz w' S'∧Stp w S (fun b=>c b+c1 b) w' S' (fun b=>c' b+c1' b))∨
  (∃v' γ' S' c1' gv',Ending.returned v=.panicked [{v:=v',recovered:=false}]∧F v' γ'∧Aa w' S' γ' gv' c1'∧(∀b,c1' b≤1)∧Sz w' S'∧Stp w S (fun b=>c b+c1 b) w' S' c1')):=by
  intro hq;obtain⟨rvs,us,cv,hrun,hK,hv,hle,hul,hpb⟩:=Gb hT rs σ c' _ hr' hq
  have hm:(fn.results.mapM (I1 a.tmps)).run P w'=.ok us.toArray w':=by
   have he:fn.results=rs.toArray:=by apply Array.ext';simp [hrs]
   rw[he,List.mapM_toArray];simp [hrun]
  refine⟨hd,(if h:us.toArray.size=1 then us.toArray[0]else .tuple us.toArray),?_,.inl ⟨_,_,γ',S',cv,c1',gv',rfl,hK,?_,?_,hg',fun b=>by have:=h1 b;have:=hle b;omega,hz',hs.drop fun b=>by have:=hle b;show cv b+c1' b≤c' b+c1' b;omega⟩⟩
  ·rw [Jv];simp only[Sem.run_bind,hm,Result.andThen_ok,Sem.run_pure]
  ·match rvs,hpb with
   |[],_=>rfl
   |[v],hpb=>exact hpb v oS
   |v::v'::rvs,_=>rfl
  ·have hvl:=hv.length
   match us,rvs,hvl,hv with
   |[],[],_,hv=>exact Aa.tup hv (.nil Al) (fun b=>oS)
   |[u],[v],_,hv=>exact hv
   |u::u'::us,v::v'::rvs,_,hv=>exact Aa.tup hv (.nil Al) (fun b=>oS)
 cases e with
 |normal=>exact fin hq
 |ret=>exact fin hq
 |panic chain=>
  unfold hfin at hq;split at hq
  ·rename_i h;cases h
  ·rename_i h;cases h
  ·rename_i v h;injection h with h;subst h;exact⟨hd,.inr ⟨v,_,S',c1',gv',rfl,hq,hg',fun b=>by have:=h1 b;omega,hz',hs.drop fun b=>by show c1' b≤c' b+c1' b;omega⟩⟩
  ·exact hq.elim
 |_=>exact hq.elim):G:=e
theorem qz9 {G:Prop} (e:G:=by
 have hno:∀{i:Nat} {x:AV},(args++List.replicate (nt-args.length) .any)[i]? =some x→pb x=true:=by
  intro i x hi;rcases Ax5.1 (Axt hi)with h|h
  ·exact Ax7.1 hpa _ h
  ·rw [AyF h];rfl
 exact⟨fun i s off T cs hi hs=>by have:=hno hi;simp [pb]at this,fun i s e k es hi hs=>by have:=hno hi;simp [pb]at this,fun i s k j o e k' es hi hs=>by have:=hno hi;simp [pb]at this⟩):G:=e
theorem O8 {G:Prop} (e:G:=by
 simp only[Io,Ip,Eh,Ci,Db,Aye,Ayf,num];try simp only[num,str]
 first|exact Wi.h|exact Wk.refl _):G:=e
theorem Rt {G:Prop} (e:G:=by
 repeat first|exact Wk.nil|exact Wk.refl _|refine K1 ?_ ?_|refine Ep ?_ ?_|refine Ba ?_|refine A6 ?_|refine A1 ?_|refine Wk.same ?_|refine B7 ?_):G:=e
theorem AsM {G:Prop} (e:G:=by
 clear hn;rintro n ys ⟨u,hn,hul,hu,rfl⟩;simp only[Io,Ip,Eh,Ci,Db,Aye,Ayf,str];by_cases hu0:u=[]
 ·subst hu0;have q1:(([]:Ac) != [])=false:=rfl;have q2:(([]:Ac)==[])=true:=rfl;have hF:Lib.trimB s 32=[]:=by rw[←hu];rfl
  simp only[go_sem,q1,q2];rw[hF]
 have hpos:0<u.length:=AyW.2 hu0;have q1:(u != [])=true:=by simpa using hu0
 have q2:(u==[])=false:=by simpa using hu0
 have hw:IntKind.i64.wrap ((u.length:Int)-1)=((u.length-1:Nat):Int):=by rw[Cj om om];omega
 have g1:=eq_true (show((u.length-1:Nat):Int)<(u.length:Int) by omega);have g2:=eq_true (show((u.length-1:Nat):Int)≤(u.length:Int) by omega);have hsp:=pZ u hpos;by_cases hc:(((u.getD (u.length-1) 0).toNat:Nat):Int)=32
 ·have ec:=eq_true hc;rw[(iS _).1 hc]at hsp
  have hR:Lib.trimRightB (u.take (u.length-1)) 32=Lib.trimB s 32:=by rw[←hu];conv=>rhs;rw[hsp]
                                                                     rw[pX]
  simp only[go_sem,q1,q2,hw,g1,g2,ec];refine Z6 q1 q2 hw g1 g2 ec ?_;refine Az (n-1) [str (u.take (u.length-1))] om ⟨u.take (u.length-1),by simp;omega,by simp;omega,hR,rfl⟩ ?_;simp only[Io,Ip,Eh,Ci,Db,Aye,Ayf,str];exact Zw;done
 have ec:=eq_false hc
 have hF:Lib.trimB s 32=u:=by
  rw[←hu]
  conv=>lhs;rw[hsp]
  rw[pY _ _ _ (fun h=>hc ((iS _).2 h)),←hsp]
 simp only[go_sem,q1,q2,hw,g1,g2,ec];refine Z6 q1 q2 hw g1 g2 ec ?_;rw[hF]):G:=e
theorem AsN {G:Prop} (e:G:=by
 have hwn:IntKind.i64.wrap (np:Int)=(np:Int):=Cj om om;by_cases h1:p<1
 ·have e1:=eq_true h1;refine Z8 hq hm hwq hwm e5 hwp hwn e1 ?_;have hp0:Pz (O.map (·.1.id)) p=[]:=by rw[Pz,if_neg om]
  first|exact .inl ⟨rfl,hp0⟩|exact .inl hp0
 have e1:=eq_false h1;by_cases h2:(np:Int)<p
 ·have e2:=eq_true h2;repeat' first|refine Aj.on (fun _=>?_) (fun _=>?_)|with_reducible refine gd ?_|simp only[go_sem,DT,Int.reduceEq,Int.cast_ofNat_Int,hq,hm,hwq,hwm,e5,hwp,hwn,Axp,e1,e2]
  have hp0:Pz (O.map (·.1.id)) p=[]:=by rw[Pz,if_pos om,AyN (by rw[Axp];omega),List.take_nil]
  first|exact .inl ⟨rfl,hp0⟩|exact .inl hp0
 have e2:=eq_false h2;have hw1:IntKind.i64.wrap (p-1)=p-1:=Cj om om;have hw2:IntKind.i64.wrap ((p-1)*5)=(p-1)*5:=Cj om om;have hdr:List.take (O.length-((p-1)*5).toNat) (List.drop ((p-1)*5).toNat (O.map qY))=(O.drop ((p-1)*5).toNat).map qY:=by rw[←AyJ,Axw oS]
 repeat' first|refine Aj.on (fun _=>?_) (fun _=>?_)|with_reducible refine gd ?_|simp only[go_sem,DT,Int.reduceEq,Int.cast_ofNat_Int,hq,hm,hwq,hwm,e5,hwp,hwn,Axp,e1,e2,hw1,hw2,hdr,AyI]
 refine Za (Wo (O.drop ((p-1)*5).toNat) 5 (by rw[AxQ];omega)) ?_;have hpg:Pz (O.map (·.1.id)) p=((O.drop ((p-1)*5).toNat).map (·.1.id)).take 5:=by rw[Pz,if_pos om,AyJ,show 5*(p-1).toNat=((p-1)*5).toNat by omega]
 all_goals rw[hpg]
 all_goals first|exact .inr rfl|rfl):G:=e
theorem jF {G:Prop} (e:G:=by
 repeat first|exact Wk.nil|exact Wk.refl _|refine Wk.box (W1.box ?_) ?_|refine K1 ?_ ?_|refine Ba ?_|refine A6 ?_|refine M6 ?_|refine A1 ?_|refine Wk.same ?_|refine B7 ?_):G:=e
theorem Ru {G:Prop} (e:G:=by rename_i hu;rw[hu];simp [rowFine,isVar,ht,hu,kindOk]at hf;exact⟨hf.symm,by simp [Value.oneCell'],_,rfl,.any (.nil Al)⟩):G:=e
theorem AsO {G:Prop} (e:G:=by
 have hq:(i+1+4) / 5=i / 5+1:=om;by_cases hp:((i / 5+1:Nat):Int)=p
 ·have ep:=eq_true hp;have hin':=hin hp;have hsn:nums (Pz ((O.map (·.id)).take i) p)++[AV.raw (.int .i64 s.id)]=nums (Pz ((O.map (·.id)).take (i+1)) p):=by rw[hin'];simp [nums,num]
  repeat' first|refine Aj.on (fun _=>?_) (fun _=>?_)|with_reducible refine gd ?_|simp only[go_sem,DT,Int.reduceEq,Int.cast_ofNat_Int,ej,hgx,hw,hm,e5,hwp,ep,hsn,nums_length,Axp]
  refine Az (k-1) [num (((i+1+4) / 5:Nat):Int),.own 3 1 (nums (Pz ((O.map (·.id)).take (i+1)) p)),num ((i+1:Nat):Int)] om ⟨i+1,om,om,rfl⟩ ?_;rw[hq];simp only[PU];exact Wi.h
 ·have ep:=eq_false hp;repeat' first|refine Aj.on (fun _=>?_) (fun _=>?_)|with_reducible refine gd ?_|simp only[go_sem,DT,Int.reduceEq,Int.cast_ofNat_Int,ej,hgx,hw,hm,e5,hwp,ep,nums_length,Axp]
  refine Az (k-1) [num (((i+1+4) / 5:Nat):Int),.own 3 1 (nums (Pz ((O.map (·.id)).take (i+1)) p)),num ((i+1:Nat):Int)] om ⟨i+1,om,om,rfl⟩ ?_;rw[hq,hout hp];simp only[PU];exact Wi.h):G:=e
theorem Mz {G:Prop} (e:G:=by
 all_goals first|rfl|(simp [Aq,Ai,ie, *];done)|(simp_all [Aq,Ai,ie];done)):G:=e
theorem Df {G:Prop} (e:G:=by
 first|exact Wi.h|exact Wk.refl _):G:=e
theorem AsP {G:Prop} (e:G:=by
 cases hgd:o.guard with
 |none=>
  rw[hgd]at hg;simp only[Bf]at hg;injection hg with hg;subst hg;have hw:Region.wanted o (yielded ops a.tmps)=true:=by simp [Region.wanted,hgd]
  rw[if_pos hw];refine .inl ?_;unfold E7 at h;split at h
  ·rename_i v hv;obtain⟨h1,hrun⟩:=hO hst hv;exact A7 (fun a' w' ⟨γ',σ',hk,h2⟩=>by obtain⟨rfl,rfl⟩:=hk;exact rest _ _ a' w' h2 h) (hq (K:=fun γ' σ'=>γ'=γ∧σ'=aset σ o.dst (.raw v)) hst rfl hrun (fun S c hr=>⟨_,.raw h1 (.nil Al),Al⟩) ⟨rfl,rfl⟩)
  ·exact A7 (fun a' w' ⟨γ',σ',h1,h2⟩=>by obtain⟨S,cc,g1,g2⟩:=h2.open;obtain⟨σ2,g3,g4⟩:=Cp _ g1 h1;exact rest γ' σ2 a' w' (g2 _ _ _ g4) g3) (Fj hT hH hst h fun v γ' σ' w' h1 h2=>hE v γ' σ' a w' h1 h2)
 |some jw=>
  obtain⟨j,want⟩:=jw;rw[hgd]at hg;simp only[Bf]at hg;split at hg
  ·rename_i t ht;injection hg with hg;subst hg;simp only[E7]at h
  ·cases hg):G:=e
theorem Ao4 {G:Prop} (e:G:=by
 refine J9 ⟨_,Ug he2 hk,rfl⟩ ?_ ?_
 ·repeat' first|refine Aj.on (fun _=>?_) (fun _=>?_)|with_reducible refine gd ?_|simp only[go_sem,Int.reduceEq,Int.reduceNeg,decide_true,eq_self,hw1]
  all_goals exact .inl (congrArg some (Ahl he2 hk))
 ·repeat' first|refine Aj.on (fun _=>?_) (fun _=>?_)|with_reducible refine gd ?_|simp only[go_sem,Int.reduceEq,Int.reduceNeg,decide_true,eq_self,hw1]
  all_goals first|exact .inr rfl|exact .inr trivial):G:=e
theorem tM {G:Prop} (e:G:=by simp only[go_sem,e0];refine K0 [.sl 9 (a.map Dl),num k1,Ai false] ⟨a,k1,false,fun x hx=>.inl hx,ha,om,om,rfl⟩ ?_;simp only[PU];simp only[Ai];exact Zw;done):G:=e
theorem AsQ {G:Prop} (e:G:=by
 cases hE:(x.1==tn)
 ·have hN:(x.1 != tn)=true:=by simp [bne,hE]
  simp only[go_sem,ej,hgx,hw,hB,hE,hN,Axp,nums_length];refine Zu ?_;exact Zm (m-1) ⟨rfl,j+1,true,O++[x],om,by simp at hO⊢;omega,fun y hy=>Aal hx hOm y (by(try simp at hy);first|exact hy|exact .inl hy|(rcases hy with h|h;exact .inl h;exact .inr (.inl h))|(rcases hy with h|h;exact .inl h;exact .inr (.inr h))),rfl⟩;done
 ·have hN:(x.1 != tn)=false:=by simp [bne,hE]
  simp only[go_sem,ej,hgx,hw,hB,hE,hN,Axp,nums_length];refine Zu ?_;exact Zm (m-1) ⟨rfl,j+1,true,O,om,by simp at hO⊢;omega,fun y hy=>Aal hx hOm y (by(try simp at hy);first|exact hy|exact .inl hy|(rcases hy with h|h;exact .inl h;exact .inr (.inl h))|(rcases hy with h|h;exact .inl h;exact .inr (.inr h))),rfl⟩;done):G:=e
theorem AhQ {G:Prop} (e:G:=by
 rintro r rfl;try simp only[Ai,num,str]
 repeat' first|refine Aj.on (fun _=>?_) (fun _=>?_)|with_reducible refine gd ?_|simp only[go_sem,DT,Int.reduceEq,Axq,e2,e3,e4,e5,e1,e6]
 all_goals first|rfl|(simp [Ag3,shp,Gg,Bq,Bs,Nj,Dd,dec,str,num, *];done)):G:=e
theorem Ut {G:Prop} (e:G:=by simp only[PU];repeat first|exact Wk.nil|refine Ba ?_|refine Wk.same ?_|refine B7 ?_):G:=e
theorem AsR {G:Prop} (e:G:=by
 intro vs hvl
 cases ha:agg with
 |true=>
  have hagg:(isAgg fd.type).run P w=.ok true w:=by unfold isAgg;rw[Sem.run_bind,run_underlying hqu w];rw[ha]at hag;cases d<;>simp_all [O9]
  have he:vs.extract off (off+n)=((vs.toList.drop off).take n).toArray:=by apply Array.ext';simp [Array.toList_extract,List.extract]
  simp [part,hagg,sizeOf,typeInfo,hq,hsz,he]
 |false=>
  have hagg:(isAgg fd.type).run P w=.ok false w:=by unfold isAgg;rw[Sem.run_bind,run_underlying hqu w];rw[ha]at hag;cases d<;>simp_all [O9]
  have hs:=h1 ha;rw[hs]at hvl⊢;have hd:(vs.toList.drop off).take 1=[vs[off]]:=by rw[Ayd (by simp;omega)];simp
  rw[hd];have hc:vs[off]? =some vs[off]:=oS;simp [part,hagg,hc]):G:=e
theorem AsS {G:Prop} (e:G:=by intro hxe hev;subst hxe;have hrun:=run_append_nil (P:=P) w t o.type e inf2 z2 g6 f1 fz ad ys.length cc cv hcvs hmem hm0 (by simp only[Axq]at hmax;omega) (by rw[f5];simp only[Axq,Ayc]at hby;omega);rw[←hev,←eY]at hrun;have hge:=grownCap_ge w ys.length 0 e;have hle:=grownCap_le_maxLen w ys.length 0 e (by simpa using hlim);have:=fresh [] (grownCap w ys.length 0 e) _ (.nil Al) oS oS (by simpa using hge) hle rfl;simp only[Axq,Ayc]at this;have e0:([]:List Value).toArray++cv.toArray++Builtin.zeroCells z2.cells (grownCap w ys.length 0 e-ys.length)=cv.toArray++Builtin.zeroCells z2.cells (grownCap w ys.length 0 e-ys.length):=oS;rw[e0]at this;exact hwp hrun ⟨_,hK,this⟩):G:=e
theorem AsT {G:Prop} (e:G:=by
 simp only[Ayp,Ayr,Ays];simp only[go_sem];refine Z0 ?_;apply Ml
 ·repeat first|exact Wk.nil|apply iR|apply Wk.same
 simp only[go_sem,gj,Axp,nums_length];repeat' first|refine Aj.on (fun _=>?_) (fun _=>?_)|with_reducible refine gd ?_|simp only[go_sem,gj,htk,hnl2,hnl3,htl,Axs,List.length_singleton,AxQ,Axp,nums_length]
 exact⟨_,_,W1.refl _,rfl,Gw.refl _,rfl,l.take j++s::l.drop j,.inr (by simp [str]),by simp;omega,fun y hy=>by
  rcases Ax5.1 hy with hy|hy
  ·exact .inl (AxK hy)
  ·rcases Ax2.1 hy with hy|hy
   ·exact .inr hy
   ·exact .inl (AxL hy)⟩):G:=e
theorem AhR {G:Prop} (e:G:=by
 have hun:∀n,Aa w S (List.replicate n .any) (List.replicate n undef) (fun _=>0):=by
  intro n
  induction n with
  |zero=>exact .nil Al
  |succ n ih=>exact .any ih
 have:=Aa.app hr (hun (nt-args.length)) (c:=c) (fun b=>oS);simpa[hnt,hl]using this):G:=e
theorem Ao5 {G:Prop} (e:G:=by
 have hl2:=congrArg List.length hcl;have hzc:(Builtin.zeroCells z2.cells (newcap-(xs.length+ys.length))).size=(newcap-(xs.length+ys.length))*j.size:=by rw[size_zeroCells,hz2l]
 have e3:newcap*j.size=xs.length*j.size+ys.length*j.size+(newcap-(xs.length+ys.length))*j.size:=by rw[←Ayh,←Ayh];congr 1;omega
 simp at hl2;omega):G:=e
theorem AsU {G:Prop} (e:G:=by
 cases dst<;>simp only[]at h⊢<;>first
  |exact h.elim
  |exact⟨_,h,fun K'=>Iff.rfl⟩
  |exact⟨_,h.2,fun K'=>⟨fun h'=>h'.2,fun h'=>⟨h.1,h'⟩⟩⟩
  |exact⟨_,h.2.2,fun K'=>⟨fun h'=>h'.2.2,fun h'=>⟨h.1,h.2.1,h'⟩⟩⟩
  |exact⟨_,h.2.2.2,fun K'=>⟨fun h'=>h'.2.2.2,fun h'=>⟨h.1,h.2.1,h.2.2.1,h'⟩⟩⟩
  |exact⟨_,h.2.2.2.2,fun K'=>⟨fun h'=>h'.2.2.2.2,fun h'=>⟨h.1,h.2.1,h.2.2.1,h.2.2.2.1,h'⟩⟩⟩
  |exact⟨_,h.2.2.2.2.2,fun K'=>⟨fun h'=>h'.2.2.2.2.2,fun h'=>⟨h.1,h.2.1,h.2.2.1,h.2.2.2.1,h.2.2.2.2.1,h'⟩⟩⟩
  |exact⟨_,h.2.2.2.2.2.2,fun K'=>⟨fun h'=>h'.2.2.2.2.2.2,fun h'=>⟨h.1,h.2.1,h.2.2.1,h.2.2.2.1,h.2.2.2.2.1,h.2.2.2.2.2.1,h'⟩⟩⟩):G:=e
theorem AsV {G:Prop} (e:G:=by
 split at h<;>first
  |exact h.elim
  |exact⟨_,h,fun K'=>Iff.rfl⟩
  |exact⟨_,h.2,fun K'=>⟨fun h'=>h'.2,fun h'=>⟨h.1,h'⟩⟩⟩
  |exact⟨_,h.2.2,fun K'=>⟨fun h'=>h'.2.2,fun h'=>⟨h.1,h.2.1,h'⟩⟩⟩
  |exact⟨_,h.2.2.2,fun K'=>⟨fun h'=>h'.2.2.2,fun h'=>⟨h.1,h.2.1,h.2.2.1,h'⟩⟩⟩
  |exact⟨_,h.2.2.2.2,fun K'=>⟨fun h'=>h'.2.2.2.2,fun h'=>⟨h.1,h.2.1,h.2.2.1,h.2.2.2.1,h'⟩⟩⟩
  |exact⟨_,h.2.2.2.2.2,fun K'=>⟨fun h'=>h'.2.2.2.2.2,fun h'=>⟨h.1,h.2.1,h.2.2.1,h.2.2.2.1,h.2.2.2.2.1,h'⟩⟩⟩
  |exact⟨_,h.2.2.2.2.2.2,fun K'=>⟨fun h'=>h'.2.2.2.2.2.2,fun h'=>⟨h.1,h.2.1,h.2.2.1,h.2.2.2.1,h.2.2.2.2.1,h.2.2.2.2.2.1,h'⟩⟩⟩):G:=e
theorem AwV {G:Prop} (e:G:=by
 intro v w' hrun next hn
 refine Ao (v:=v) (w':=w') ?_ hn;unfold execOp;simp only[ho,resolve,hc,hca,hct,invoke,builtin,Sem.run_bind,Sem.run_pure,Result.andThen_ok,AyS,Axx,Axv,hrun]):G:=e
theorem Ad {G:Prop} (e:G:=by exact h.elim):G:=e
theorem AsW {G:Prop} (e:G:=by
 rw[hu]at hst hsz;refine⟨_,_,_,S,c,rfl,⟨rfl,rfl⟩,rfl,.inr ⟨_,_,_,rfl⟩,?_,hc,hsz,hst⟩;refine Aa.tup (c1:=fun _=>0) (c2:=c) (.nil Al) ?_ (fun b=>oS);have hl2:(Dj enc ss).length=zs.length:=by rw[Gt,hsl']
 rw[←hl2];have htake:(putCells enc 0 ss.toArray cur).toList.take ss.length=ss.map enc:=gG cur ss (by rw[hs];omega);refine .row (c0:=fun _=>0) (c2:=c2) om hcap (Tt ss) (gE _ hb) (by simp [putCells,hs]) hS ?_ Al ?_ (.nil hz2) hcc
 ·rw [Hm,hl2,←hsl',Ay3,htake];exact Ts ho ss
 ·rw [hl2,←hsl',Ay3,htake];exact gD ho ss):G:=e
theorem AsX {G:Prop} (e:G:=by
 unfold Oper.wp;rw[hexec,Oper.upon_enter];refine this.mono fun e w' ⟨v,r,S',c',he,hR,hpb,hrr,hc1,hz',hstp⟩=> ?_;subst he;have hr3:=hr2.step hstp (fun b=>by have:=h1 b;have:=hcc b;omega);have hfr:=hstp.frame (c2:=c2) hcc;refine⟨_,hR,A3.value (c:=fun b=>c' b+c2 b) (hrf.agrab _) hpb ?_ hd hz' (hs.trans hfr) hr3 hrr (fun b=>Axu _) _⟩;intro b;show c' b+c2 b≤1;have:=h1 b;have:=hcc b;have:=hc1 b;rcases Axz b w.heap.size with hb|hb
 ·have:=hstp.own b hb;omega
 ·have:c2 b=0:=by
   rcases AxG (c2 b)with h|h
   ·exact h
   ·have:=hr2.lt b h;omega
  omega):G:=e
theorem AhS {G:Prop} (e:G:=by
 cases x<;>try exact⟨trivial,h⟩
 rename_i s;simp only[Et,Xs]at *;generalize σ.getD s .any=v at *
 cases v<;>first
  |exact⟨trivial,h⟩
  |exact⟨hin s _ (by simp [rA]) h.1 h.2.1,h.2.2⟩):G:=e
theorem tN {G:Prop} (e:G:=by
 repeat first|exact Wk.nil|exact Wk.refl _|refine K1 ?_ ?_|refine Ba ?_|refine A1 ?_|refine Wk.same ?_):G:=e
theorem AsY {G:Prop} (e:G:=by
 rintro r rfl;try simp only[Ai,num,str]
 repeat' first|refine Aj.on (fun _=>?_) (fun _=>?_)|with_reducible refine gd ?_|simp only[go_sem,DT,Int.reduceEq,Axq,e2,e3,e4,e5,e1,e6,hv]
 refine Za (yT a.n hn.1 om) ?_;all_goals first|omega|rfl|(simp [Er,B0,Gg,E6,Lib.join_one,Lib.join,Bq,Bs,Nj,Dd,P2,str,num, *];done)|(refine⟨by simp only[Axs,Axr,Axq];omega,?_⟩;simp [Er,B0,Gg,E6,Lib.join_one,Lib.join,Bq,Bs,Nj,Dd,P2,str,num, *];done)):G:=e
theorem Aaw {G:Prop} (e:G:=by
 repeat' first|refine Aj.on (fun _=>?_) (fun _=>?_)|with_reducible refine gd ?_|simp only[go_sem,DT,Int.reduceEq,Int.cast_ofNat_Int]):G:=e
theorem AhT {G:Prop} (e:G:=by have hex:∃n,J a' w' n:=⟨m,hJ'⟩;refine⟨hex,?_⟩;simp only[dif_pos hex,dif_pos hJ];exact Nat.lt_of_le_of_lt ((Classical.choose_spec (least hex)).2 m hJ') hm):G:=e
theorem AsZ {G:Prop} (e:G:=by
 obtain⟨rfl,hzc⟩:=hg'.zero;have hcc:(fun b=>c' b+c1' b)=c':=by funext b;rw[hzc b];rfl
 rw[hcc]at hs';obtain⟨km,km2⟩:=hs'.keep m hml hm1;obtain⟨kr,kr2⟩:=hs'.keep r hrl hr1;exact⟨S',c',hrf',hr',fun b=>by have:=h1' b;omega,hd',hz',hs.trans hs',⟨by have:=hs'.own m hml;omega,km2.trans hm2⟩,⟨by have:=hs'.own r hrl;omega,kr2.trans hr2⟩,Aym hml hs'.size,Aym hrl hs'.size,hrw,hne,km.trans hhm,kr.trans hhr⟩):G:=e
theorem Ao6 {G:Prop} (e:G:=by
 repeat' first|refine Aj.on (fun _=>?_) (fun _=>?_)|with_reducible refine gd ?_|simp only[go_sem,ej,Axp,nums_length]
 all_goals exact⟨_,rfl⟩):G:=e
theorem bJ {G:Prop} (e:G:=by refine Zu ?_;exact⟨_,_,W1.refl _,rfl,Gw.refl _,rfl,l,rfl,.inl rfl⟩):G:=e
theorem Ata {G:Prop} (e:G:=by
 cases h1:s.re
 ·cases h2:s.tk
  ·by_cases h3:0<s.ed.length
   ·have e3:=eq_true (show(0:Int)<(s.ed.length:Int) by omega);refine Zu ?_;exact tru_t (by simp [D8,h1,h2,h3])
   ·have e3:=eq_false (show¬(0:Int)<(s.ed.length:Int) by omega);refine Zu ?_;exact tru_f (by simp [D8,h1,h2,h3])
  ·refine Zu ?_;exact tru_f (by simp [D8,h1,h2])
 ·refine Zu ?_;exact tru_f (by simp [D8,h1])):G:=e
theorem Qu {G:Prop} (e:G:=by exact⟨_,_,W1.refl _,rfl,Gw.refl _,rfl,rfl⟩):G:=e
theorem Atb {G:Prop} (e:G:=by
 simp only[bM,Ua,num,str,Ic,Ai];repeat' first|refine Aj.on (fun _=>?_) (fun _=>?_)|with_reducible refine gd ?_|simp only[go_sem,ej,hgx,hw,hky,hf,hg,hbb,hmm,hbm,hmb,k1,k2,k3,Axp,aJ,O2,aK]
 refine Au (k-1) [.mine 9 1 (((all.take (j+1)).filter fun a=> !F a).map str),num ((j+1:Nat):Int)] (bM b all F::Ua m val ks') om ⟨j+1,om,rfl,rfl⟩ (hent (Gw.refl _) ?_);rw[hfl2];exact Zw):G:=e
theorem Rv {G:Prop} (e:G:=by
 all_goals first|exact .inr rfl|exact .inr trivial):G:=e
theorem AhU {G:Prop} (e:G:=by
 cases x<;>try exact f h
 rename_i s;simp only[Et]at *;generalize σ.getD s .any=v at *
 cases v<;>first
  |exact f h
  |exact⟨h.1,h.2.1,f h.2.2⟩):G:=e
theorem Ao7 {G:Prop} (e:G:=by
 intro x hx;rw[hc]at hx;rename_i c1 c2;split at hx
 ·rename_i hxb;subst hxb;exact(Array.getElem?_eq_some_iff.1 hb).1
 ·rcases Axz 0 (c1 x)with h|h
  ·exact ih1 x h
  ·exact ih x om):G:=e
theorem jG {G:Prop} (e:G:=by
 all_goals first|rfl|(simp [P3,Dk,I4,num,str];done)|(simp_all;done)):G:=e
theorem Atc {G:Prop} (e:G:=by have s1:∀k code,(Instr.sliceBound (.int k h) cap code).run P w=.ok h.toNat w:=fun k code=>run_sliceBound om om code;have s2:∀k code,(Instr.sliceBound (.int k l) h.toNat code).run P w=.ok l.toNat w:=fun k code=>run_sliceBound om om code;unfold Instr.sliceBounds;rcases hl with⟨rfl,rfl⟩|⟨x,k,rfl,hx⟩<;>rcases hh with⟨rfl,rfl⟩|⟨y,k',rfl,hy⟩<;>simp_all):G:=e
theorem Ao8 {G:Prop} (e:G:=by
 have hvl:=hv.length
 match us,rvs,hvl,hv with
 |[],[],_,hv=>exact Aa.tup hv (.nil Al) (fun b=>oS)
 |[u],[v],_,hv=>exact hv
 |u::u'::us,v::v'::rvs,_,hv=>exact Aa.tup hv (.nil Al) (fun b=>oS)):G:=e
theorem jH {G:Prop} (e:G:=by
 all_goals first|rfl|(simp [P3,Dk,num,str];done)|(simp_all;done)):G:=e
theorem AhV {G:Prop} (e:G:=by
 cases x<;>try exact h
 rename_i s;simp only[Et]at h;generalize σ.getD s .any=v at *
 cases v<;>first
  |exact h
  |exact h.2.2):G:=e
theorem AwW {G:Prop} (e:G:=by
 have hl:lb c=false:=by simp only[lb,decide_eq_false_iff_not];exact h123
 refine Az (n-1) [.own 5 1 (A5 (t++[c])),num ((j+1:Nat):Int)] om ⟨j+1,t++[c],om,om,om,by simp;omega,rfl,?_⟩ ?_
 ·rw [he,hd,Lp ho hb hl];simp only[AxS,Ax4,Ax8];congr 2;omega
 ·exact Zw):G:=e
theorem Ao9 {G:Prop} (e:G:=by
 have g1:=K4 (Ax7.1 k7 p hp);by_cases hp0:p.2=0
 ·exact .inl ⟨hp0,g1.1 hp0,V8 (Ax7.1 k4 p hp) hp0⟩
 ·exact .inr ⟨hp0,g1.2 hp0⟩):G:=e
theorem AhW {G:Prop} (e:G:=by have hl:=(List.getElem?_eq_some_iff.1 hj).1;exact⟨(hs _ _ om).trans (hcell j u hj).1,(hcell j u hj).2⟩):G:=e
theorem Atd {G:Prop} (e:G:=by
 have hj':j<s.length:=om;obtain⟨c,hc,hd⟩:=Gk hj';have he2:toks s=pre++scanF m (s.drop (j+1)) (j+1) (some g):=by rw[he,hd];simp only[scanF,wsp,←hc,hw32,decide_true,Bool.or_true,Bool.true_or,if_true]
 refine Cn m _ om ⟨k,j+1,some g,_,rfl,om,om,he2,hk,rfl⟩ ?_;exact Zw):G:=e
theorem jI {G:Prop} (e:G:=by
 all_goals first|rfl|(simp [P3,Dk,I4,num,str];done)):G:=e
theorem AoA {G:Prop} (e:G:=by have e2:=eN a.kind 2;have e3:=eN a.kind 3;have e4:=eN a.kind 4;have e5:=eN a.kind 5;have e1:=eN a.kind 1;have e6:=eN a.kind 6;exact absurd hk om):G:=e
theorem AoB {G:Prop} (e:G:=by have h1:=hx x (by simp [Op.operands]);have h2:=hx y (by simp [Op.operands]);simp only[Ca,Fg];rw[Bn hl h1,Bn hl h2];simp only[Bu hl _ hd]):G:=e
theorem Aax {G:Prop} (e:G:=by unfold execOp;simp only[ho,he,Sem.run_bind,hrun,Result.andThen_ok,Sem.run_pure]):G:=e
theorem Ate {G:Prop} (e:G:=by
 have hlen:=(List.getElem?_eq_some_iff.1 hk).1;refine L6 _ ⟨rfl,?_⟩ ?_
 ·intro u hu;rw[W5 hk,Ax5]at hu;rcases hu with hu|hu
  ·exact ha u hu
  ·rw [Ax6]at hu;subst hu;assumption
 ·simp only[PU];rw[W5 hk,hp,AlQ];exact Zw):G:=e
theorem AhX {G:Prop} (e:G:=by
 cases os with
 |nil=>simp [B2]at hcs;subst hcs;exact hQ γ σ a w hst h
 |cons o os=>simp at hl):G:=e
theorem AhY {G:Prop} (e:G:=by rw[hd]at hn⊢;simp only[partL,h1,h2,hn,hc,if_true,Ax0,if_false,Lq,tokA,str,num]):G:=e
theorem Atf {G:Prop} (e:G:=by rw[hml,htake];refine Wp oS fun i x cs hx hcx=> ?_;rw[List.getElem?_map,Ay9]at hx hcx;obtain⟨j,hj,rfl⟩:=hx;obtain⟨j',hj',rfl⟩:=hcx;rw[hj]at hj';injection hj' with hj';subst hj';exact(her j).step hst (fun b=>by have:=hc b;simpa using this)):G:=e
theorem AoC {G:Prop} (e:G:=by
 intro jj u hu;rw[Hr,Ayc,cell_of_row w g jj cur e' (0,0) hb];rw[List.getElem?_take]at hu;split at hu
 ·simpa using hu
 ·cases hu):G:=e
theorem F6 {G:Prop} (e:G:=by exact Axu _):G:=e
theorem AhZ {G:Prop} (e:G:=by
 have h1:=hx x (by simp [Op.operands]);cases x<;>try exact Iff.rfl
 simp only[Xs];rw[C4 hl h1]):G:=e
theorem Aia {G:Prop} (e:G:=by
 repeat' first|refine Aj.on (fun _=>?_) (fun _=>?_)|with_reducible refine gd ?_|simp only[go_sem]):G:=e
theorem Atg {G:Prop} (e:G:=by
 rename_i e' k' es hxe;split at hx
 ·rename_i hee;obtain⟨rfl,rfl⟩:=hee;injection hx with hx;subst hx;rw[hxe]at hxr;rw[AxF];obtain⟨A,cap,e1,hn,_⟩:=Jt (F8 hxr);exact⟨cx,hxr,fun b=>Axu _,A,_,cap,e1,hn⟩
 ·cases hx):G:=e
theorem Aib {G:Prop} (e:G:=by
 rw[htake];intro u hu;rcases Ax5.1 hu with h|h
 ·exact hone u h
 ·exact honey u h):G:=e
theorem Ath {G:Prop} (e:G:=by
 have g1:=K4 (Ax7.1 k5 p hp);rcases eC (Ax7.1 k2 p hp)with⟨g2,g3⟩|⟨g2,g3⟩
 ·exact ⟨fun o ho=>by rw[g3 o ho];omega,.inl ⟨g2,g1.1 g2,g3⟩⟩
 ·exact ⟨fun o ho=>by rw[g3 o ho];omega,.inr ⟨g2,g1.2 om,g3⟩⟩):G:=e
theorem Aic {G:Prop} (e:G:=by
 rw[htake];intro u hu;rcases Ax5.1 hu with h|h
 ·exact hoc u h
 ·exact honey u h):G:=e
theorem Ati {G:Prop} (e:G:=by
 obtain⟨σ',hq,hs'⟩:=hq
 cases e with
 |exit id'=>
  simp only[uE]at hq;simp only[Exit.inBlock];split
  ·rename_i hid;rw[if_pos hid]at hq;exact⟨σ',hq,hs'⟩
  ·rename_i hid;rw[if_neg hid]at hq;exact⟨σ',hq,hs'⟩
 |_=>exact⟨σ',hq,hs'⟩):G:=e
theorem Qv {G:Prop} (e:G:=by
 try simp only[num,str]
 exact Zw):G:=e
theorem AoD {G:Prop} (e:G:=by
 intro x hx;rw[hc]at hx;split at hx
 ·rename_i hxb;subst hxb;exact(Array.getElem?_eq_some_iff.1 hb).1
 ·exact ih x om):G:=e
theorem Atj {G:Prop} (e:G:=by
 apply Ayw;intro i;rcases Axz i es.length with hi|hi
 ·rw [hencdef ⟨i,hi⟩,List.getElem?_map,List.getElem?_eq_getElem (by simpa using hi)];simp
 ·rw [List.getElem?_eq_none (by simpa using hi),List.getElem?_eq_none om]):G:=e
theorem Atk {G:Prop} (e:G:=by refine Cp ts ?_ h;obtain⟨hrf,S,c,hr,h1,hd,hz,hs⟩:=hst;obtain⟨v,c1,c2,hv,hxr,hr2,hc⟩:=hr.take s (A4 hr hx oS);exact⟨hrf.less s rfl,S,c2,hr2,fun b=>by have:=h1 b;have:=hc b;omega,hd,hz,hs.drop fun b=>by have:=hc b;omega⟩):G:=e
theorem Aay {G:Prop} (e:G:=by
 cases h1 with
 |rowE h=>exact⟨_,_,rfl⟩
 |row=>exact⟨_,_,rfl⟩):G:=e
theorem Atl {G:Prop} (e:G:=by obtain⟨S,c,c1,gv,hrf,hr,_⟩:=hst;obtain⟨v,d1,d2,hv,hy,_⟩:=hr.take t (A4 hr hx hne);refine⟨v,S,d1,?_,hy⟩;unfold yielded;unfold C9 at ht;rw[ht];simp only[AxD];rw[←Array.getElem?_toList,hv];cases v<;>rfl):G:=e
theorem Atm {G:Prop} (e:G:=by obtain⟨n1,h1⟩:=Af hi (by intro h;cases h);obtain⟨n2,h2⟩:=Af hs2 (by intro h;cases h);obtain⟨b,g1,g2⟩:=h.ref i s2 off2 T2 cs2 h1 h2;exact⟨b,by rw[Ag n2];exact g1,by rw[Ag n1];exact g2⟩):G:=e
theorem AwX {G:Prop} (e:G:=by intro vs c hr;obtain⟨v,us,d1,d2,rfl,h2,h3,hd⟩:=hr.uncons;obtain⟨e1,g1,hle1⟩:=h1 w S v d1 h2;obtain⟨e2,g2,hle2⟩:=ih h3;exact⟨_,Aa.cons g1 g2 (fun b=>rfl),fun b=>by rw[hd];have:=hle1 b;have:=hle2 b;omega⟩):G:=e
theorem Aid {G:Prop} (e:G:=by simp only[Axx,Axv,num,str,Bq,Bs,Nj,Dd];exact Zw):G:=e
theorem Atn {G:Prop} (e:G:=by
 simp only[go_sem,hgx,hw,e3,e7,Axp,nums_length];refine Zu ?_;refine Au (m-1) _ _ om ⟨rfl,j+1,L,T,om,hB',rfl⟩ (hent (Gw.refl _) ?_);simp only[PU];try simp only[stX,num,str]
 exact Zw;done):G:=e
theorem Ato {G:Prop} (e:G:=by
 repeat' first|refine Aj.on (fun _=>?_) (fun _=>?_)|with_reducible refine gd ?_|simp only[go_sem,hc]
 have hc:¬t2.text∈ws:=by simpa using hc
 exact⟨_,Gw.refl _,_,n2,by simp [B6,hlt,hmo,h1,h2,hw,hc],rfl,rfl⟩):G:=e
theorem Atp {G:Prop} (e:G:=by
 repeat' first|refine Aj.on (fun _=>?_) (fun _=>?_)|with_reducible refine gd ?_|simp only[go_sem,DT,Int.reduceEq,Int.cast_ofNat_Int,Ae,ne_eq,Nat.reduceEqDiff,not_false_eq_true,Axp]
 all_goals rfl):G:=e
theorem Atq {G:Prop} (e:G:=by rename_i hxe;injection hx with hx;subst hx;rw[hxe]at hxr;revert hxr;generalize a.eval x=v;intro hxr;cases hxr with|nilS h=>exact⟨fun _=>0,.ownE (.nil Al),fun b=>AxM _,none,0,0,rfl,Axu _⟩):G:=e
theorem AoE {G:Prop} (e:G:=by
 have:(xcells++cv).length=(xs++ys).length*j.size:=by simp [Ayh];omega
 rw[hcl,←this,List.take_left]):G:=e
theorem Aie {G:Prop} (e:G:=by unfold isAgg;rw[Sem.run_bind,run_underlying g6 w];cases d<;>simp_all [O9]):G:=e
theorem Atr {G:Prop} (e:G:=by
 have hz2:(sizeOf t).run P w=.ok i.size w:=by simp [sizeOf,typeInfo,g1,g4]
 have hne:¬(a.eval y).cells.size≠i.size:=om;unfold execOp;simp [ho,he,Instr.storeAt,Instr.sureAddr,storeVar,hz2,hne,hrun]):G:=e
theorem AoF {G:Prop} (e:G:=by unfold execOp;simp [ho,hev,Instr.fieldAt,run_underlying hu,hfd,Instr.sureAddr,jM hsz hn,Hr,hoff]):G:=e
theorem Ats {G:Prop} (e:G:=by
 cases x<;>simp only[M8,reduceCtorEq,Option.some.injEq]at he
 ·subst he;cases hu with|nbox _ _ _ _ _ hcu=>rw[hcu];simp;omega
 ·subst he;cases hu with|nmap _ _ _ _ _ _ hcu=>rw[hcu];simp;omega):G:=e
theorem AoG {G:Prop} (e:G:=by have h1:=hx x (by simp [Op.operands]);simp only[Ca,Fg];rw[Bn hl h1];simp only[Bu hl _ hd]):G:=e
theorem Aif {G:Prop} (e:G:=by
 rcases Ax5.1 hx with h|h
 ·exact hkx x h
 ·exact hky x h):G:=e
theorem Att {G:Prop} (e:G:=by refine Zu ?_;refine Az (n-1) [.sl 8 (((Cr v (L.take (i+1))).reverse).map Dx),num ((i+1:Nat):Int)] om ⟨i+1,om,om,rfl⟩ ?_;rw[Wm hx,if_neg (by simp [hsel])];exact Zw):G:=e
theorem Aig {G:Prop} (e:G:=by
 rcases Ax5.1 hx with h|h
 ·exact hk x h
 ·exact hky x h):G:=e
theorem Atu {G:Prop} (e:G:=by
 repeat' first|refine Aj.on (fun _=>?_) (fun _=>?_)|with_reducible refine gd ?_|simp only[go_sem,decide_true,decide_false,Int.reduceEq,Axq,hv]
 all_goals first|rfl|(simp [num];done)):G:=e
theorem AoH {G:Prop} (e:G:=by
 rw[List.getElem?_take]at hj;split at hj
 ·rw [List.getElem?_drop]at hj;simpa using hj
 ·cases hj):G:=e
theorem Amo {G:Prop} (e:G:=by refine Z3 ep hwp hw ?_;refine Cn (n-1) [.sl 1 ((Bp L).map str),num ((i+1:Nat):Int)] om ⟨i+1,k4,rfl,om,om,by rw[Ox hx,Alz hnm];omega,rfl⟩ ?_;exact Zw):G:=e
theorem Amp {G:Prop} (e:G:=by refine⟨rfl,rfl,rfl,oS,fun k hk hne=> ?_⟩;rw[heap_grow_old _ _ (by simpa using hk)];have:g≠k:=fun e=>hne (by rw[e]);simp [putRow,mapBlock,Sort.ahead,Array.getElem?_modify,this]):G:=e
theorem Aaz {G:Prop} (e:G:=by refine Zu ?_;exact⟨_,_,W1.refl _,rfl,Gw.refl _,rfl,f.bl,.inl rfl,om,fun x hx=>.inr hx⟩):G:=e
theorem Amq {G:Prop} (e:G:=by
 simp only[LS,Nat.reduceAdd,Nat.reduceSub];repeat' first|refine Aj.on (fun _=>?_) (fun _=>?_)|with_reducible refine gd ?_|simp only[go_sem,DT,Int.reduceEq,Axq]
 all_goals rfl):G:=e
theorem Aa0 {G:Prop} (e:G:=by refine Zu ?_;refine Ev [] [] ⟨rfl,om,om,rfl⟩ (hent (Gw.refl _) ?_);exact Zw;done):G:=e
theorem Amr {G:Prop} (e:G:=by
 cases hr with
 |tup h1 h' hc=>
  cases h' with
  |nil hz=>obtain⟨c',h2,hle⟩:=h.rep h1;exact⟨c',.tup h2 (.nil Al) (fun b=>oS),fun b=>by rw[hc];have:=hle b;omega⟩):G:=e
theorem Ams {G:Prop} (e:G:=by
 rw[hnl];intro u hu;simp only[Ax5]at hu;rcases hu with(hu|hu)|hu
 ·exact hone2 u (AxK hu)
 ·exact hone u hu
 ·exact hone2 u (AxL hu)):G:=e
theorem Rw {G:Prop} (e:G:=by dsimp only;cases σ.getD q .any<;>rfl):G:=e
theorem Amt {G:Prop} (e:G:=by rw[List.getElem?_take_of_lt hj']at h1;simp only[World.cell?,hb,Ayc];simp only[AxH,Ax0,if_false];rw[←Array.getElem?_toList,h1];simp [hj']):G:=e
theorem qD {G:Prop} (e:G:=by unfold execOp;simp [ho,resolve,hc,e1,Deferred.ofValue,invoke,hrun]):G:=e
theorem Aa1 {G:Prop} (e:G:=by refine Zu ?_;exact Zl (n-1) ⟨j+1,is++[(j:Int)],om,om,by simp;omega,rfl⟩;done):G:=e
theorem Amu {G:Prop} (e:G:=by
 split
 ·rename_i x y ha;have h1:=hargs x (by rw[ha];simp);have h2:=hargs y (by rw[ha];simp);rw[Bn hl h1,Bn hl h2];simp only[Bu hl _ hd]
 ·exact Iff.rfl):G:=e
theorem J8 {G:Prop} (e:G:=by exact Vr hT hst h):G:=e
theorem Amv {G:Prop} (e:G:=by simp only at h0 h1;subst h0;obtain⟨v,k1,k2,γ',σ',k3,k4⟩:=Gc hT hH hle (fun _=>hh.1) hst1 hh.2;exact .inl ⟨h1,v,.inl ⟨hw,k2 (h2 o ho)⟩,rest γ' σ' v k4 k3⟩):G:=e
theorem Amw {G:Prop} (e:G:=by refine Zu ?_;refine Az (n-1) [.mine 9 1 ((((ps.take (j+1)).filter (Jp key)).map (·.ad)).map str),num ((j+1:Nat):Int)] om ⟨j+1,om,rfl⟩ ?_;rw[hf];exact Zw):G:=e
theorem bK {G:Prop} (e:G:=by simp only[Ayt,Axr];omega):G:=e
theorem Amx {G:Prop} (e:G:=by have hg:g<w.heap.size:=(Array.getElem?_eq_some_iff.1 hb).1;rw[heap_grow_old _ _ (by simpa using hg)];simp [putRow,mapBlock,Sort.ahead,Array.getElem?_modify,hb,onCells]):G:=e
theorem Ij {G:Prop} (e:G:=by rintro r rfl;exact Ze):G:=e
theorem Amy {G:Prop} (e:G:=by
 simp only[PU];try simp only[bE,num,str]
 repeat first|exact Wk.nil|refine Ep ?_ ?_|refine A1 ?_|refine A6 ?_|refine Wk.same ?_|refine B7 ?_
 done):G:=e
theorem Aa2 {G:Prop} (e:G:=by exact hwp hrun ⟨_,hK,fresh _ _ _ (h1c.congr fun b=>(h0c b).symm) hoc hk hge hle rfl⟩):G:=e
theorem Amz {G:Prop} (e:G:=by obtain⟨n1,h1⟩:=Af hi (by intro h;cases h);obtain⟨n2,h2⟩:=Af hs2 (by intro h;cases h);rw[Ag n1,Ag n2];exact h.al i s2 e k es h1 h2):G:=e
theorem Am0 {G:Prop} (e:G:=by rw[←Array.getElem?_toList,←Array.getElem?_toList,hnl,AxS,List.getElem?_append,if_pos (by rw[hcurl];exact ho'),List.getElem?_take,if_pos ho']):G:=e
theorem qE {G:Prop} (e:G:=by cases hy with|tup h1 h hcc=>obtain⟨rfl,_⟩:=h1.zero;rfl):G:=e
theorem Am1 {G:Prop} (e:G:=by
 congr 1
 ·congr 1<;>exact decide_eq_decide.2 om
 ·congr 1
  ·congr 1<;>exact decide_eq_decide.2 om
  ·exact decide_eq_decide.2 om):G:=e
theorem Aa3 {G:Prop} (e:G:=by
 split at h
 ·rename_i hx;left;unfold Rc;simp only[ho,hx];exact h
 ·exact .inr h):G:=e
theorem Am2 {G:Prop} (e:G:=by obtain⟨h1,h2,l,rfl,hK⟩:=h;refine⟨_,hK,fun K'=>⟨fun h=> ?_,fun h=>⟨h1,h2,l,rfl,h⟩⟩⟩;obtain⟨_,_,l',he,hK'⟩:=h;rw[M5 he];exact hK'):G:=e
theorem Aa4 {G:Prop} (e:G:=by simp only[resolve,Bind.bind,Pure.pure,Sem.bind,invoke,builtin]at h;exact Adm h):G:=e
theorem Am3 {G:Prop} (e:G:=by
 cases e with
 |returned v=>exact hn _ _ he
 |panicked ch=>exact hQ _ _ _ oS he
 |outgrown=>obtain⟨a,w,he⟩:=he;exact⟨a,w,hQ _ _ _ oS he⟩):G:=e
theorem qF {G:Prop} (e:G:=by rw[Ax6]at hx;subst hx;exact .inl (hy z hz)):G:=e
theorem Atv {G:Prop} (e:G:=by
 refine propext ⟨?_,?_⟩
 ·rintro ⟨h1,h2,l',h3,h4⟩;rw[M5 h3];exact⟨h1,h2,h4⟩
 ·rintro ⟨h1,h2,h3⟩;exact⟨h1,h2,l,rfl,h3⟩):G:=e
theorem Aa5 {G:Prop} (e:G:=by
 apply Ayw;intro i;by_cases hi:i<ops.size
 ·simp [hi]
 ·simp [hi]):G:=e
theorem Aa6 {G:Prop} (e:G:=by simp only[PU,str];repeat first|exact Wk.nil|refine Wk.same ?_|refine B7 ?_):G:=e
theorem Am4 {G:Prop} (e:G:=by
 have:(cur.toList.take (xs.length*j.size)++cv).length=(xs++ys).length*j.size:=by simp [Ayh]at hcurl⊢;omega
 rw[hnl,←this,List.take_left]):G:=e
theorem Am5 {G:Prop} (e:G:=by simp only[Q8,Ayp,Ayr,Ays,AxT,AxZ];refine Z0 ?_;exact Wi.h):G:=e
theorem Am6 {G:Prop} (e:G:=by have:=hr2.fill hrow s (by simp [hlt]);rw[Ayn,Ak hv]at this;exact⟨cZ hrf hn,S,c,this.congr fun b=>hc b,h1,hd,hz,hs⟩):G:=e
theorem Aa7 {G:Prop} (e:G:=by
 rcases AxG (cm b)with h|h
 ·exact h
 ·have:=hmk.2.2 b h;omega):G:=e
theorem qG {G:Prop} (e:G:=by
 apply List.ext_getElem
 ·simp
 ·intro i h1 h2;simp):G:=e
theorem qH {G:Prop} (e:G:=by
 repeat first|exact Wk.nil|apply iR|apply Wk.same):G:=e
theorem Aa8 {G:Prop} (e:G:=by exact⟨b,n,cap,by rw[Ag n2];exact g1,by rw[Ag n1];exact g2⟩):G:=e
theorem Am7 {G:Prop} (e:G:=by
 have hne:x≠b:=by rintro rfl;omega
 rcases Axz x w.heap.size with h|h
 ·simp only[World.cell?,hother x h hne]
 ·have:=hz x h;omega):G:=e
theorem Aa9 {G:Prop} (e:G:=by
 rcases AxG (c2 b)with h|h
 ·exact h
 ·have:=hr2.lt b h;omega):G:=e
theorem Am8 {G:Prop} (e:G:=by rename_i hxe;injection hx with hx;rw[hxe]at hxr;refine nilcase hx.symm ?_;revert hxr;generalize a.eval x=v;intro hxr;cases hxr with|nilS h=>rfl):G:=e
theorem Am9 {G:Prop} (e:G:=by refine Az (n-1) [.own 9 1 ((Cs (L.take (i+1))).map str),num ((i+1:Nat):Int)] om ⟨i+1,om,om,rfl⟩ ?_;rw[hstep2];exact Zw):G:=e
theorem AaA {G:Prop} (e:G:=by exact⟨_,h.2.2,fun K'=>⟨fun h'=>h'.2.2,fun h'=>⟨h.1,h.2.1,h'⟩⟩⟩):G:=e
theorem AmA {G:Prop} (e:G:=by refine Zu ?_;refine Za (Oo a.n hn.1 om) ?_;all_goals first|rfl|(simp [Ag3,shp,Gg,Bq,Bs,Nj,Dd,dec,str,num, *];done)):G:=e
theorem AwD {G:Prop} (e:G:=by
 all_goals first
  |(exact⟨_,rfl⟩)
  |(refine Az (n-1) [num ((j+1:Nat):Int)] om ⟨j+1,om,rfl⟩ ?_
    exact Zw;done)):G:=e
theorem AaB {G:Prop} (e:G:=by simp only[fM,nd3,nd4,Mw,num,str,Axv];refine W1.agg ?_;exact Zw):G:=e
theorem Qd {G:Prop} (e:G:=by rw[htake,hflat];exact hboth):G:=e
theorem AmB {G:Prop} (e:G:=by obtain⟨n1,h1⟩:=Af hi (by intro h;cases h);obtain⟨n2,h2⟩:=Af hs (by intro h;cases h);exact h.ref i s off T2 cs2 h1 h2):G:=e
theorem AaC {G:Prop} (e:G:=by
 cases e with
 |normal=>exact fin hq
 |ret=>exact fin hq
 |_=>exact hq.elim):G:=e
theorem AaD {G:Prop} (e:G:=by split at h<;>first|cases h;done|(injection h with h;subst h;kernel_rfl)):G:=e
theorem AmC {G:Prop} (e:G:=by injection h with h;simp only[Prod.mk.injEq]at h;obtain⟨rfl,rfl,rfl⟩:=h;exact⟨om,oS,oD,oD,oD⟩):G:=e
theorem AmD {G:Prop} (e:G:=by rename_i j hj;obtain⟨y,h1,h2⟩:=((key 0 _ _ fun l h=>_).and _) K h;exact⟨y,h1,fun K'=>by simp only[Hp,he,hj];exact h2 K'⟩):G:=e
theorem AmE {G:Prop} (e:G:=by
 rcases h with h|h
 ·exact ⟨r,W1.refl _,by rw[h];rfl,l',h,h1,h2⟩
 ·exact ⟨_,by rw[h];exact W1.ownsl _ _ _,rfl,l',rfl,h1,h2⟩):G:=e
theorem qI {G:Prop} (e:G:=by have:=congrArg List.length hnl;simp at this;omega):G:=e
theorem Vh {G:Prop} (e:G:=by simp only[Axr];omega):G:=e
theorem AaE {G:Prop} (e:G:=by
 try simp only[num,str,Nk,pO,rpA,Axx,Axv]
 exact Zw):G:=e
theorem bL {G:Prop} (e:G:=by
 all_goals exact⟨_,rfl⟩):G:=e
theorem AmF {G:Prop} (e:G:=by have h1:=hx x (by simp [Op.operands]);simp only[Ca,Fg];rw[Bn hl h1,Im hl h1,Bu (by rw[Dh];exact hl) _ hd]):G:=e
theorem AmG {G:Prop} (e:G:=by
 repeat' first|refine Aj.on (fun _=>?_) (fun _=>?_)|with_reducible refine gd ?_|simp only[go_sem]
 refine tru_e ?_;simp [nmI,h1,h2]):G:=e
theorem AmH {G:Prop} (e:G:=by rw[hml,htake];intro u hu;obtain⟨cs,hcs,hu⟩:=List.mem_flatten.1 hu;obtain⟨i,_,rfl⟩:=AxB.1 hcs;exact hone i u hu):G:=e
theorem AmI {G:Prop} (e:G:=by cases u<;>simp only[mW,Ax0]at hu<;>(unfold binOp;simp only[Sem.run_bind,h,Result.andThen_ok,Sem.run_pure])):G:=e
theorem AmJ {G:Prop} (e:G:=by
 have hq:cur.toList.length=cap*k:=by simp [hs]
 rw[←hcv,AxC,hq];exact Ay8 (Ayl k hn)):G:=e
theorem AaF {G:Prop} (e:G:=by intro hxb;subst hxb;have:=(Array.getElem?_eq_some_iff.1 hb).1;omega):G:=e
theorem AmK {G:Prop} (e:G:=by
 repeat' first|refine Aj.on (fun _=>?_) (fun _=>?_)|with_reducible refine gd ?_|simp only[go_sem]
 refine tru_e ?_;simp [stI,h1]):G:=e
theorem AmL {G:Prop} (e:G:=by refine⟨_,h.2.2.2,fun K'=> ?_⟩;simp only[Ek,he,hj];exact⟨fun h'=>h'.2.2.2,fun h'=>⟨h.1,h.2.1,h.2.2.1,h'⟩⟩):G:=e
theorem AmM {G:Prop} (e:G:=by rename_i hu;rw[hu];simp [rowFine,isVar,ht,hu,kindOk]at hf;exact⟨hf.2.symm,by simp [Value.oneCell'],_,rfl,.any (.nil Al)⟩):G:=e
theorem qJ {G:Prop} (e:G:=by exact Zm (m-1) ⟨rfl,j+1,om,rfl⟩;done):G:=e
theorem AaG {G:Prop} (e:G:=by exact World.putObj_heap_same (Array.getElem?_eq_some_iff.1 hh3).1):G:=e
theorem AaH {G:Prop} (e:G:=by exact raw hx rfl (fun w=>by unfold execOp;simp [ho,hst.rawOp hx]) h):G:=e
theorem AmN {G:Prop} (e:G:=by
 have:c1 b=0:=by
  rcases AxG (c1 b)with h|h
  ·exact h
  ·exact absurd (hxr.lt b h) hb
 have:=k1 b;omega):G:=e
theorem AmO {G:Prop} (e:G:=by rw[hsz',f4];have:(xs.length+ys.length)*j.size≤cap*j.size:=Ayl _ hroom;rw[Ayh]at this;omega):G:=e
theorem AmP {G:Prop} (e:G:=by
 repeat first|exact Wk.nil|refine Ep ?_ ?_|refine A1 ?_|refine A6 ?_|refine Wk.same ?_|refine B7 ?_):G:=e
theorem qK {G:Prop} (e:G:=by have:=AfU p s w es;rw[h]at this;exact this):G:=e
theorem AaI {G:Prop} (e:G:=by simp only[AxD];rw[←Array.getElem?_toList,hv,e1]):G:=e
theorem AmQ {G:Prop} (e:G:=by refine ho u ?_;rw[hcv,←hmap];exact List.mem_flatten.2 ⟨enc i,AxB.2 ⟨i,List.mem_finRange i,rfl⟩,hu⟩):G:=e
theorem AmR {G:Prop} (e:G:=by
 cases σ.getD t .any<;>try rfl
 ·rename_i v;cases v<;>try rfl
  cases want<;>rfl
 ·rename_i cs;cases cs<;>rfl):G:=e
theorem AaJ {G:Prop} (e:G:=by have ej:=eU i L.length;rw[Axw hge];exact Ze):G:=e
theorem AmS {G:Prop} (e:G:=by
 intro b hb;rw[hc]at hb;rename_i c1 c2;rcases Axz 0 (c1 b)with h|h
 ·exact ih1 b h
 ·exact ih b om):G:=e
theorem AmT {G:Prop} (e:G:=by obtain⟨rfl,σ',h1,h2,h3⟩:=hq;exact⟨σ',h1,h2,fun s hs=>(h3 s (List.mem_append_right _ hs)).trans (hkf s hs)⟩):G:=e
theorem G5 {G:Prop} (e:G:=by simpa using this):G:=e
theorem AaK {G:Prop} (e:G:=by rw[E3 (by rw[List.length_set];omega),E3 om]):G:=e
theorem qL {G:Prop} (e:G:=by
 cases v with
 |raw v=>cases v<;>simp
 |_=>rfl):G:=e
theorem AmU {G:Prop} (e:G:=by
 refine hb.cell (p:=⟨b,o,none⟩) ?_;rcases Axz b w.heap.size with h|h
 ·exact h
 ·have:=hz b h;omega):G:=e
theorem AmV {G:Prop} (e:G:=by
 rcases Ax5.1 hx with h|h
 ·exact Ax7.1 hpa _ h
 ·rw [AyF h];rfl):G:=e
theorem AmW {G:Prop} (e:G:=by rw[Lh (k:=k) _ (fun cs hcs=>by obtain⟨i,_,rfl⟩:=AxB.1 hcs;exact hek i),Axp,hsl]):G:=e
theorem AmX {G:Prop} (e:G:=by rw[he,hd];rw[hd]at ho;simp only[scanF,hws,ho,h7,Ax0,if_false,if_true];rw[←hd,Ay2]):G:=e
theorem AmY {G:Prop} (e:G:=by exact hwp hrun ⟨_,hK,A3.value (hrf.amv x) rfl h1 hd hz hs hr1 hrz (fun b=>by rw[hcc];have:=hcz b;omega) _⟩):G:=e
theorem AaL {G:Prop} (e:G:=by
 repeat' split
 all_goals first|trivial|exact Axu _):G:=e
theorem AmZ {G:Prop} (e:G:=by rw[Ayn,Ak hv]at this;exact⟨hrf.less s rfl,S,c,this.congr fun b=>hc b,h1,hd,hz,hs⟩):G:=e
theorem AaM {G:Prop} (e:G:=by simp only[Axx,Axv,num,str,pt];exact Zw):G:=e
theorem Ana {G:Prop} (e:G:=by
 rcases AxG (c w.heap.size)with h|h
 ·exact h
 ·exact absurd (hr.lt _ h) (Nat.lt_irrefl _)):G:=e
theorem AaN {G:Prop} (e:G:=by rw[E3 (by rw[Aw];omega),E3 om]):G:=e
theorem qM {G:Prop} (e:G:=by simp only[Dx,Q4,num,str,Ai];exact Zw):G:=e
theorem Anb {G:Prop} (e:G:=by
 unfold upd;rw[if_neg]
 ·exact (hs.keep x hx hx0).2
 ·intro hxb;subst hxb;have:=hs.own x hx;omega):G:=e
theorem Anc {G:Prop} (e:G:=by unfold yielded;unfold C9 at ht;rw[ht];simp only[AxD];rw[←Array.getElem?_toList,hv]):G:=e
theorem Ane {G:Prop} (e:G:=by unfold execOp;simp only[hopq,e2,Sem.run_bind,ApG (hT t j e1) e3 hcw,Result.andThen_ok,Sem.run_pure]):G:=e
theorem Rx {G:Prop} (e:G:=by simp only[PU];exact Wi.h):G:=e
theorem Vi {G:Prop} (e:G:=by simp only[Bu hl _ hd]):G:=e
theorem Anf {G:Prop} (e:G:=by
 all_goals first|exact fun h n=>h.resolve_right n|exact fun h n=>h.resolve_left n|grind|trace_state):G:=e
theorem Ang {G:Prop} (e:G:=by exact⟨_,_,rfl,⟨_,rfl,fun h'=>by simp at h',fun _=>⟨_,_,rfl⟩⟩,rfl,fK rfl rfl,hb⟩):G:=e
theorem Anh {G:Prop} (e:G:=by have:=Ayl k' (show j+1≤es.length from hj);rwa [Ayh,Nat.one_mul]at this):G:=e
theorem Ani {G:Prop} (e:G:=by
 cases σ.getD t .any<;>try rfl
 all_goals rename_i v;cases v<;>try rfl
 all_goals cases want<;>rfl):G:=e
theorem qN {G:Prop} (e:G:=by exact Axw om):G:=e
theorem Anj {G:Prop} (e:G:=by
 have he:fn.results=rs.toArray:=by apply Array.ext';simp [hrs]
 rw[he,List.mapM_toArray];simp [hrun]):G:=e
theorem Ank {G:Prop} (e:G:=by rw[List.getElem?_take_of_lt hj,Array.getElem?_toList];simp [putCells,hj,show j<cur.size by omega]):G:=e
theorem Anl {G:Prop} (e:G:=by rw[←AxJ,←AxJ]at hw;exact V4 k1 (fun c a d v w h=>Adp h) hw):G:=e
theorem AaO {G:Prop} (e:G:=by exact Zm (k-1) ⟨i+1,om,by rw[hst];rfl,rfl⟩):G:=e
theorem Anm {G:Prop} (e:G:=by refine Zu ?_;refine Ev [num a] [] ⟨rfl,a,om,rfl⟩ (hent (Gw.refl _) ?_);exact Zw;done):G:=e
theorem Ano {G:Prop} (e:G:=by exact aV 2 oD rfl oK (hL _ _) (zF pU _ _ oK)):G:=e
theorem Anp {G:Prop} (e:G:=by rw[hm]at h;obtain⟨t,k,h1,h⟩:=PR.bind_ok h;injection h with _ h;have:=Bb h1;omega):G:=e
theorem qO {G:Prop} (e:G:=by
 try simp only[Dk,num,str]
 exact Zw):G:=e
theorem Anq {G:Prop} (e:G:=by have:=g3 s hsf;rw[←Array.getElem?_toList,←Array.getElem?_toList]at this;rw[this,hv]):G:=e
theorem Anr {G:Prop} (e:G:=by unfold rem;refine List.filter_eq_self.2 fun i hi=> ?_;have:=Ay6.1 hi;simp [this]):G:=e
theorem Ans {G:Prop} (e:G:=by
 rcases AxG (cgx b)with h|h
 ·exact h
 ·have:=hG.lt _ _ _ _ hgx b h;omega):G:=e
theorem qP {G:Prop} (e:G:=by exact absurd h (Eo (Dp _))):G:=e
theorem AaP {G:Prop} (e:G:=by rintro r rfl;exact⟨_,W1.ownsl _ _ _,rfl,rfl⟩):G:=e
theorem qQ {G:Prop} (e:G:=by simp only[qst,num,str,Ai];exact Zw):G:=e
theorem qR {G:Prop} (e:G:=by
 try simp only[num,str,Nk]
 exact Zw):G:=e
theorem qS {G:Prop} (e:G:=by
 try simp only[stA,num,str]
 exact Zw):G:=e
theorem Ant {G:Prop} (e:G:=by exact⟨_,h.2.2.2,fun K'=>⟨fun h'=>h'.2.2.2,fun h'=>⟨h.1,h.2.1,h.2.2.1,h'⟩⟩⟩):G:=e
theorem Anu {G:Prop} (e:G:=by
 rcases AxG (cg b)with h|h
 ·exact h
 ·have:=hG.lt _ _ _ _ hg b h;omega):G:=e
theorem Fb {G:Prop} (e:G:=by exact Iff.rfl):G:=e
theorem AaQ {G:Prop} (e:G:=by rename_i hx;subst hx;rw[hS];exact AxM _):G:=e
theorem Anv {G:Prop} (e:G:=by rw[AxS,←Ay2,AxR,AxR]):G:=e
theorem Anw {G:Prop} (e:G:=by rw[Axy,List.getElem?_eq_getElem hj];exact Ayz hj):G:=e
theorem Anx {G:Prop} (e:G:=by rw[hfs,←hfsl];exact Alp cur _ (by rw[hfsl,hs];exact Ayl k hn)):G:=e
theorem Anz {G:Prop} (e:G:=by simp only[Act.eval,Array.getD_eq_getD_getElem?];rw[←Array.getElem?_toList,hv];rfl):G:=e
theorem An0 {G:Prop} (e:G:=by
 rw[Oi];unfold G2 at ha;split at ha
 ·simp at ha;omega
 ·simp at ha;omega):G:=e
theorem An1 {G:Prop} (e:G:=by simp [ho,resolve,hc,hca,hct,invoke,builtin,Builtin.len_,run_underlying g6,hev,goInt]):G:=e
theorem An2 {G:Prop} (e:G:=by
 simp only[PU,str];repeat first|exact Wk.nil|refine Wk.same ?_|refine B7 ?_
 done):G:=e
theorem An3 {G:Prop} (e:G:=by
 unfold upd;split
 ·rename_i hxb;subst hxb;have:=hs.le x;omega
 ·exact hs.le x):G:=e
theorem An4 {G:Prop} (e:G:=by simp only[AyT]at this;simp [Instr.loadAt,Instr.sureAddr,loadVar,hagg,this]):G:=e
theorem Nl {G:Prop} (e:G:=by exact .inr (.inr h)):G:=e
theorem bN {G:Prop} (e:G:=by exact h.al i s e k es h1 h2):G:=e
theorem An5 {G:Prop} (e:G:=by have h3b:=h3 b;have:=hc b;show c' b≤(if b=w.heap.size then 1 else 0)+c b;omega):G:=e
theorem AaR {G:Prop} (e:G:=by intro m;simp [Instr.sliceAt,run_underlying g6]):G:=e
theorem An6 {G:Prop} (e:G:=by
 rcases hw with rfl|⟨t,rfl⟩
 ·exact Below.refl _ _
 ·exact fJ _ _ _):G:=e
theorem AaS {G:Prop} (e:G:=by rw[Da hl _ hx,Bu (by simp [hl]) _ hd]):G:=e
theorem An7 {G:Prop} (e:G:=by
 unfold nq at hh;split at hh
 ·exact hh.2
 ·exact hh.2
 ·exact hh.2
 ·exact hh):G:=e
theorem An8 {G:Prop} (e:G:=by have:=Lr f _ _ _ t h;simp only[AxQ,Axr]at *;omega):G:=e
theorem An9 {G:Prop} (e:G:=by rw[Ayd hi];congr 1;exact(List.getElem?_eq_some_iff.1 hx).2):G:=e
theorem AnA {G:Prop} (e:G:=by unfold execOp;simp only[ho,hev,Sem.run_bind,hrun,Result.andThen_ok,Sem.run_pure]):G:=e
theorem Ho {G:Prop} (e:G:=by exact .inl rfl):G:=e
theorem AnB {G:Prop} (e:G:=by obtain⟨e,hd⟩:=hdl h.1;exact key _ es.length e1 (.inr ⟨A,cap,e,rfl,hd⟩) h.2):G:=e
theorem AnC {G:Prop} (e:G:=by exact fin _ _ ⟨⟨_,h,Ja hst' _⟩,fun s hs=>Cu a o.dst _ s hs⟩):G:=e
theorem AnD {G:Prop} (e:G:=by
 all_goals first|rfl|(simp [Er,hv,B0,Gg,Lib.join,P2,str,num, *];done)):G:=e
theorem AnE {G:Prop} (e:G:=by
 rcases AxG (cm b)with h|h
 ·exact h
 ·have:=hm.2.2 b h;omega):G:=e
theorem AnF {G:Prop} (e:G:=by simp only[stA,Axx,Axv,fU,Ag1,cBy,num,str,Ai];exact Zw):G:=e
theorem AnG {G:Prop} (e:G:=by unfold execOp;simp only[ho,Sem.run_bind,hrun,Result.andThen_ok,Sem.run_pure]):G:=e
theorem AnH {G:Prop} (e:G:=by
 rcases AxG (c1 b)with h|h
 ·exact h
 ·have:=hg.lt b h;omega):G:=e
theorem AaT {G:Prop} (e:G:=by simp only[PU];simp only[Ai];exact Zw;done):G:=e
theorem AnI {G:Prop} (e:G:=by have:xs.length*j.size≤cap*j.size:=Ayl _ hn;simp;omega):G:=e
theorem AnJ {G:Prop} (e:G:=by exact aV 0 oD rfl oK (hT _) (yZ pU _ _)):G:=e
theorem AnK {G:Prop} (e:G:=by
 generalize ps.toList=l
 induction l with
 |nil=>rfl
 |cons x l ih=>simp [ih]):G:=e
theorem AnL {G:Prop} (e:G:=by have:=k1.symm.trans (hrun w e4);injection this with this _;injection this):G:=e
theorem AnM {G:Prop} (e:G:=by rintro e w' ⟨rfl,hb⟩;rw[Bv];exact⟨_,rfl,K9 rfl,hb⟩):G:=e
theorem AnN {G:Prop} (e:G:=by rw[Jv];simp only[Sem.run_bind,hm,Result.andThen_ok,Sem.run_pure]):G:=e
theorem AnO {G:Prop} (e:G:=by rw[Ayn,Ak hv]at hfl;exact hfl.congr fun x=>om):G:=e
theorem AnP {G:Prop} (e:G:=by simp only[AxI,Gj,AyC,Axv,Ai];exact Zw):G:=e
theorem AnQ {G:Prop} (e:G:=by exact V2 hm hd es (fun e' h'=>he e' (Aya _ h')) h):G:=e
theorem AnR {G:Prop} (e:G:=by exact⟨b,by rw[Ag n2];exact g1,by rw[Ag n1];exact g2⟩):G:=e
end Go.Proofs.YtmophjggmekoeaaGreatDoor
