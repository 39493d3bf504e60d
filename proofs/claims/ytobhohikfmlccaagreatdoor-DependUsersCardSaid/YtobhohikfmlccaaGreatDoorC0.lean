/- Short words for what is done again and again in a walk: each takes what is behind it as an .. -/
import Derived.WalkKit
import Derived.ProofKit
set_option linter.all false
namespace Go.Proofs.YtobhohikfmlccaaGreatDoor
abbrev ab:=@List.getElem?_eq_some_iff
abbrev ac:=@List.getElem?_eq_getElem
abbrev ah:=@Array.getElem?_eq_some_iff
abbrev ak:=@Array.getElem?_toList
abbrev aw:=@List.getElem?_cons_succ
abbrev ao:=@List.getElem?_map
abbrev ba:=@List.getElem?_cons_zero
abbrev bo:=@List.getElem?_append_right
abbrev bq:=@List.getElem?_set
abbrev bz:=@Array.getElem?_eq_getElem
abbrev b5:=@List.cons.injEq
abbrev ca:=@List.getElem?_set_ne
abbrev b9:=@List.getElem?_take
abbrev aj:=@Option.some.inj
abbrev dq:=@Option.some.injEq
abbrev dn:=@List.getElem?_of_mem
abbrev d8:=@List.find?_cons_of_pos
abbrev d9:=@List.find?_cons_of_neg
abbrev eq:=@List.getElem?_eq_none
abbrev eD:=@List.getElem?_append
abbrev er:=@Array.getElem?_modify
abbrev fe:=@List.getElem?_range
abbrev cj:=@Array.getElem?_eq_none
def gO{A B:Prop}(b:B)(a:A:=by(try simp only[dc,dg,eh]);omega):A/\B:=⟨a,b⟩
structure Hd (P:Prop):Prop where
 h:P
def Zu {Q G:Prop} (q:Q) (e:Hd Q->G:=by
 intro q;repeat' first|apply Aq.on<;>intro _|refine gD ?_|simp only[go_sem,DT,Int.reduceEq,Int.reduceNeg,Int.cast_ofNat_Int,dB,Ao,eh,dg,dc,Ae,ne_eq,Nat.reduceEqDiff,not_false_eq_true,eq_self, *]|refine gO ?_
 all_goals first|exact q.1|(exfalso;omega)):G:=e ⟨q⟩
def Zn {Q G:Prop} (q:Q) (e:Hd Q->G:=by
 intro q;try simp only[num,str,Af]
 refine Zu ?_;exact q.1):G:=e ⟨q⟩
def Y1{A Q G:Prop}(a:A)(q:Q)(z:A->Hd Q->G:=by intro a q;refine Zu ?_;exact q.1):G:=z a ⟨q⟩
def Z0 {Q G:Prop} (q:Q) (e:Hd Q->G:=by
 intro q;repeat' first|apply Aq.on<;>intro _|refine gD ?_|simp only[go_sem,DT,Int.reduceEq,Int.reduceNeg,Int.cast_ofNat_Int,dB,Ao,eh,dg,dc,Ae,ne_eq,Nat.reduceEqDiff,not_false_eq_true,eq_self]|refine gO ?_
 exact q.1):G:=e ⟨q⟩
def Z1 {A Q G:Prop} (a:A) (q:Q) (z:A->Hd Q->G:=by
 intro a q;repeat' first|apply Aq.on<;>intro _|refine gD ?_|simp only[go_sem,DT,Int.reduceEq,Int.reduceNeg,Int.cast_ofNat_Int,dB,Ao,eh,dg,dc,Ae,ne_eq,Nat.reduceEqDiff,not_false_eq_true,eq_self,a]|refine gO ?_
 exact q.1):G:=z a ⟨q⟩
def Z2 {A B Q G:Prop} (a:A) (b:B) (q:Q) (z:A->B->Hd Q->G:=by
 intro a b q;repeat' first|apply Aq.on<;>intro _|refine gD ?_|simp only[go_sem,DT,Int.reduceEq,Int.reduceNeg,Int.cast_ofNat_Int,dB,Ao,eh,dg,dc,Ae,ne_eq,Nat.reduceEqDiff,not_false_eq_true,eq_self,a,b]|refine gO ?_
 exact q.1):G:=z a b ⟨q⟩
def Z3 {A B C Q G:Prop} (a:A) (b:B) (c:C) (q:Q) (z:A->B->C->Hd Q->G:=by
 intro a b c q;repeat' first|apply Aq.on<;>intro _|refine gD ?_|simp only[go_sem,DT,Int.reduceEq,Int.reduceNeg,Int.cast_ofNat_Int,dB,Ao,eh,dg,dc,Ae,ne_eq,Nat.reduceEqDiff,not_false_eq_true,eq_self,a,b,c]|refine gO ?_
 exact q.1):G:=z a b c ⟨q⟩
def Z4 {A B C D Q G:Prop} (a:A) (b:B) (c:C) (d:D) (q:Q) (z:A->B->C->D->Hd Q->G:=by
 intro a b c d q;repeat' first|apply Aq.on<;>intro _|refine gD ?_|simp only[go_sem,DT,Int.reduceEq,Int.reduceNeg,Int.cast_ofNat_Int,dB,Ao,eh,dg,dc,Ae,ne_eq,Nat.reduceEqDiff,not_false_eq_true,eq_self,a,b,c,d]|refine gO ?_
 exact q.1):G:=z a b c d ⟨q⟩
def Z5 {A B C D E Q G:Prop} (a:A) (b:B) (c:C) (d:D) (e1:E) (q:Q) (z:A->B->C->D->E->Hd Q->G:=by
 intro a b c d e1 q;repeat' first|apply Aq.on<;>intro _|refine gD ?_|simp only[go_sem,DT,Int.reduceEq,Int.reduceNeg,Int.cast_ofNat_Int,dB,Ao,eh,dg,dc,Ae,ne_eq,Nat.reduceEqDiff,not_false_eq_true,eq_self,a,b,c,d,e1]|refine gO ?_
 exact q.1):G:=z a b c d e1 ⟨q⟩
def Z6 {A B C D E F Q G:Prop} (a:A) (b:B) (c:C) (d:D) (e1:E) (f:F) (q:Q) (z:A->B->C->D->E->F->Hd Q->G:=by
 intro a b c d e1 f q;repeat' first|apply Aq.on<;>intro _|refine gD ?_|simp only[go_sem,DT,Int.reduceEq,Int.reduceNeg,Int.cast_ofNat_Int,dB,Ao,eh,dg,dc,Ae,ne_eq,Nat.reduceEqDiff,not_false_eq_true,eq_self,a,b,c,d,e1,f]|refine gO ?_
 exact q.1):G:=z a b c d e1 f ⟨q⟩
def Z7 {A B C D E F I Q G:Prop} (a:A) (b:B) (c:C) (d:D) (e1:E) (f:F) (g:I) (q:Q) (z:A->B->C->D->E->F->I->Hd Q->G:=by
 intro a b c d e1 f g q;repeat' first|apply Aq.on<;>intro _|refine gD ?_|simp only[go_sem,DT,Int.reduceEq,Int.reduceNeg,Int.cast_ofNat_Int,dB,Ao,eh,dg,dc,Ae,ne_eq,Nat.reduceEqDiff,not_false_eq_true,eq_self,a,b,c,d,e1,f,g]|refine gO ?_
 exact q.1):G:=z a b c d e1 f g ⟨q⟩
def Z8 {A B C D E F I J Q G:Prop} (a:A) (b:B) (c:C) (d:D) (e1:E) (f:F) (g:I) (h:J) (q:Q) (z:A->B->C->D->E->F->I->J->Hd Q->G:=by
 intro a b c d e1 f g h q;repeat' first|apply Aq.on<;>intro _|refine gD ?_|simp only[go_sem,DT,Int.reduceEq,Int.reduceNeg,Int.cast_ofNat_Int,dB,Ao,eh,dg,dc,Ae,ne_eq,Nat.reduceEqDiff,not_false_eq_true,eq_self,a,b,c,d,e1,f,g,h]|refine gO ?_
 exact q.1):G:=z a b c d e1 f g h ⟨q⟩
def Zx{G:Prop}(e:G:=by first|rfl|exact⟨_,rfl⟩|exact⟨_,_,W1.refl _,rfl,Gw.refl _,rfl,rfl⟩|exact⟨_,_,W1.refl _,rfl,Gw.refl _,rfl⟩|exact⟨_,Gw.refl _,rfl⟩):G:=e
def Ze {G:Prop} (e:G:=by
 repeat' first|apply Aq.on<;>intro _|refine gD ?_|simp only[go_sem,DT,Int.reduceEq,Int.reduceNeg,Int.cast_ofNat_Int,dB,Ao,eh,dg,dc,Ae,ne_eq,Nat.reduceEqDiff,not_false_eq_true,eq_self, *]|refine gO ?_
 all_goals first|exact Zx|(exfalso;omega)):G:=e
def Zw {G:Prop} (e:G:=by
 try simp only[PU]
 first|done|exact Wi.h|exact Wk.refl _|skip
 repeat first|exact Wk.nil|exact Wk.refl _|refine Oh ?_ ?_|refine EZ ?_ ?_|refine Bl ?_|refine Ju ?_|refine B7 ?_|refine Rh ?_|refine Wk.same ?_|refine U3 ?_):G:=e
def Zv {G:Prop} (e:G:=by
 try simp only[PU,str,Af]
 exact Zw):G:=e
def Za {C Q G:Prop} (c:C) (q:Q) (e:C->Hd Q->G:=by
 intro c q;refine(c.wk ?_).mono ?_
 .exact Zv
 rintro r rfl;refine Zn ?_;exact q.1):G:=e c ⟨q⟩
def Zh{C Q G:Prop}(c:C)(q:Q)(e:C->Hd Q->G:=by intro c q;refine HC.old c ?_;rintro r rfl;refine Zn ?_;exact q.1):G:=e c ⟨q⟩
def Zk{C Q G:Prop}(c:C)(q:Q)(e:C->Hd Q->G:=by intro c q;refine HC.mono c ?_ (λ_ _ h=>h.elim);rintro r a ⟨rfl,rfl⟩;refine Zn ?_;exact q.1):G:=e c ⟨q⟩
def om{G:Prop}(e:G:=by omega):G:=e
def oS{G:Prop}(e:G:=by simp):G:=e
def oD{G:Prop}(e:G:=by decide):G:=e
def oK{G:Prop}(e:G:=by decide+kernel):G:=e
abbrev dc:= @List.length_append
abbrev Are:= @List.take_of_length_le
abbrev bd:= @eq_false
abbrev dg:= @List.length_cons
abbrev cu:= @List.mem_of_getElem?
abbrev fk:= @List.getD_eq_getElem?_getD
abbrev ar:= @if_neg
abbrev bc:= @eq_true
abbrev bx:= @Nat.le_refl
abbrev eh:= @List.length_nil
abbrev cp:= @Nat.le_trans
abbrev cq:= @Nat.lt_or_ge
abbrev db:= @List.map_nil
abbrev bn:= @if_pos
abbrev dB:= @List.length_map
abbrev fj:= @List.cons_append
abbrev fc:= @List.take_add_one
abbrev ev:= @List.map_cons
abbrev fm:= @List.nil_append
abbrev ga:= @List.mem_singleton
abbrev f0:= @Bool.false_eq_true
abbrev e9:= @List.mem_cons
abbrev dm:= @List.mem_map
abbrev fw:= @List.length_take
abbrev ff:= @List.mem_append
abbrev fp:= @run_underlying
abbrev gq:= @Result.andThen_ok
abbrev gk:= @Bool.and_eq_true
abbrev i8:= @List.mem_of_find?_eq_some
abbrev ft:= @Sem.run_bind
abbrev gy:= @List.append_nil
abbrev cw:= @absurd
abbrev ir:= @List.append_assoc
abbrev kq:= @List.eq_nil_of_length_eq_zero
abbrev ib:= @List.all_eq_true
abbrev j0:= @List.drop_eq_getElem_cons
abbrev i7:= @List.mem_of_mem_take
abbrev gx:= @List.take_zero
abbrev vx:= @List.zip_cons_cons
abbrev ip:= @List.map_append
abbrev jh:= @Nat.mul_le_mul_right
abbrev fq:= @congrArg
abbrev gu:= @Nat.zero_le
abbrev ia:= @Sem.run_pure
abbrev i6:= @decide_eq_true_eq
abbrev ki:= @List.take_append_drop
abbrev jb:= @List.length_drop
abbrev ArP:= @List.zip_nil_right
abbrev ArQ:= @List.zip_nil_left
abbrev jz:= @Nat.eq_zero_or_pos
abbrev kh:= @List.length_filter_le
abbrev nk:= @List.take_succ_eq_append_getElem
abbrev jq:= @List.mem_filter
abbrev mh:= @List.pairwise_cons
abbrev mg:= @List.mem_of_mem_drop
abbrev ko:= @List.getElem_mem
abbrev jy:= @Option.getD_some
abbrev mf:= @Option.isSome_none
abbrev lr:= @List.take_length
abbrev jp:= @Nat.zero_add
abbrev lv:= @List.not_mem_nil
abbrev n9:= @List.drop_eq_nil_of_le
abbrev ni:= @List.length_reverse
abbrev jx:= @Nat.add_mul
abbrev mc:= @List.replicate_succ
abbrev lc:= @List.foldl_cons
abbrev nh:= @List.mem_cons_of_mem
abbrev ng:= @Option.isSome_some
abbrev oh:= @List.length_pos_iff
abbrev lq:= @List.map_map
abbrev ml:= @List.replicate_zero
abbrev lu:= @List.set_set
abbrev n8:= @Bool.or_eq_true
abbrev og:= @Nat.lt_of_lt_of_le
abbrev oe:= @Option.toList_some
abbrev Ast:= @List.filter_append
abbrev pi:= @List.flatMap_append
abbrev nz:= @Option.getD_none
abbrev mw:= @List.foldl_append
abbrev sw:= @List.take_append_of_le_length
abbrev sv:= @List.drop_append_of_le_length
abbrev py:= @List.getElem_toArray
abbrev rj:= @List.pairwise_append
abbrev DA:= @List.set_cons_zero
abbrev qx:= @List.getElem_cons_zero
abbrev qw:= @List.getElem_cons_succ
abbrev ob:= @List.drop_drop
abbrev sy:= @List.set_eq_of_length_le
abbrev ou:= @List.filter_cons
abbrev md:= @Nat.mul_one
abbrev pq:= @Int.toNat_natCast
abbrev ri:= @Int.eq_ofNat_of_zero_le
abbrev oa:= @Int.tmod_eq_emod_of_nonneg
abbrev Β:= @List.set_cons_succ
abbrev qv:= @List.take_succ_cons
abbrev ot:= @Array.length_toList
abbrev oq:= @List.foldl_nil
abbrev pp:= @Nat.min_eq_left
abbrev qu:= @Nat.le_add_right
abbrev nj:= @Nat.add_zero
abbrev ol:= @List.map_take
abbrev qt:= @List.flatMap_cons
abbrev po:= @List.filter_nil
abbrev pm:= @List.map_drop
abbrev qr:= @List.mem_append_left
abbrev rh:= @List.ext_getElem?
abbrev vw:= @Array.getD_eq_getD_getElem?
abbrev tq:= @List.drop_of_length_le
abbrev tj:= @Option.map_eq_some_iff
abbrev oi:= @Bool.not_true
abbrev pk:= @Option.bind_some
abbrev qq:= @List.take_left
abbrev th:= @List.mem_range
abbrev tg:= @List.length_mergeSort
abbrev vu:= @List.eq_of_mem_replicate
abbrev pj:= @Option.map_some
abbrev qp:= @List.nodup_cons
abbrev sx:= @List.flatten_cons
abbrev ph:= @Bool.true_and
abbrev qo:= @Bool.and_false
abbrev su:= @List.mem_zipIdx_iff_getElem?
abbrev sr:= @List.flatMap_nil
abbrev sq:= @Int.tdiv_eq_ediv_of_nonneg
abbrev vt:= @List.perm_ext_iff_of_nodup
abbrev ww:= @List.mem_or_eq_of_mem_set
abbrev px:= @Bool.not_false
abbrev rg:= @Bool.false_and
abbrev te:= @List.map_congr_left
abbrev qn:= @Bool.and_true
abbrev qm:= @Bool.false_or
abbrev sn:= @List.all_cons
abbrev tb:= @List.eq_nil_iff_forall_not_mem
abbrev rc:= @Bool.true_or
abbrev vq:= @List.mem_cons_self
def nA{A B:Prop}(a:A)(b:B):A/\B:=⟨a,b⟩
def Wp {Q G:Prop} (q:Q) (e:Hd Q->G:=by
 intro q;repeat' first|apply Aq.on<;>intro _|refine gD ?_|simp only[go_sem]
 exact q.1):G:=e ⟨q⟩
def Wq {A Q G:Prop} (a:A) (q:Q) (z:A->Hd Q->G:=by
 intro a q;repeat' first|apply Aq.on<;>intro _|refine gD ?_|simp only[go_sem,a]
 exact q.1):G:=z a ⟨q⟩
section
variable{G:Prop}
def J4(e:G:=by exact Zw):G:=e
def uX (e:G:=by
 all_goals try (exfalso;omega)
 refine Av (n-1) [.own 9 1 ((Ia s (l.take (j+1))).1.map str),Af (Ia s (l.take (j+1))).2,num ((j+1:Nat):Int)] om ⟨j+1,om,om,rfl⟩ ?_;rw[hstep];simp only[hle,hxe,oi,px,qn,ph,rg,qo,Bool.or_true,rc,Bool.or_false,qm,f0,if_true,if_false,gy,ip,ev,db,str,Af];exact Zw):G:=e
def GP(e:G:=by repeat first|exact Wk.nil|exact Wk.refl _|refine Wk.box (W1.box ?_) ?_|refine Oh ?_ ?_|refine Bl ?_|refine Ju ?_|refine Rh ?_|refine B7 ?_|refine Wk.same ?_|refine U3 ?_):G:=e
def Xj (e:G:=by
 refine Zu ?_;refine Za (Tf a.name ha) ?_;refine Zb (Tf a.lang hb) ?_;rintro r rfl;try simp only[Af,num,str]
 repeat' first|apply Aq.on<;>intro _|refine gD ?_|simp only[go_sem,DT,Int.reduceEq,eh,e2,e3,e4,e5,e1,e6]
 all_goals first|rfl|(simp[Be,Ox,Af,ie, *];done)|(simp_all [Be,Ox,Af,ie];done)|(simp_all [Be,Ox,Af,ie];omega)):G:=e
def Kv(e:G:=by repeat' first|exact trivial|exact Ii _|exact Kw _|exact Je _|exact Hf _|exact Sr _|exact Su _|exact M0 _|exact M1 _ _ _|exact A9 (Ss _ _ _ _)|exact A9 (Ep _)|refine Cs ?_ (λ_=> ?_)|split):G:=e
def vR (e:G:=by
 have e1:=eN a.kind 1;have e6:=eN a.kind 6;refine Z7 e2 e3 e4 e5 e1 e6 hv ?_;refine Zb (J9 a) ?_;rintro r rfl;try simp only[Af,num,str]
 repeat' first|apply Aq.on<;>intro _|refine gD ?_|simp only[go_sem,DT,Int.reduceEq,eh,e2,e3,e4,e5,e1,e6,hv]
 refine((Td a hv).wk ?_).mono ?_
 .try simp only[Fe,num,str]
  exact Zw
 rintro r rfl;simp only[kE,e2,e3,e4,e5,e1,e6,num,if_true,if_false];refine Zu ?_;refine Za (Ae2 (H3 a) (by have:=rO hv;omega) (by have:=gG hv;simp only[Fu,dg]at this;omega)) ?_;all_goals first|rfl|(simp[O0,hv,Fu,H3,Lib.join,Oy,str,num, *];done)):G:=e
def yi (e:G:=by
 refine Z7 e2 e3 e4 e5 e1 e6 hv ?_;refine Zb (Vb a ha hb) ?_;rintro r rfl;try simp only[Af,num,str]
 repeat' first|apply Aq.on<;>intro _|refine gD ?_|simp only[go_sem,DT,Int.reduceEq,eh,e2,e3,e4,e5,e1,e6,hv]
 all_goals first|omega|rfl|(simp[O0,Fu,H3,Dp,Lib.join_one,Lib.join,D5,D6,cX,F9,Oy,str,num, *];done)|(refine⟨by simp only[dc,dg,eh];omega,?_⟩;simp[O0,Fu,H3,Dp,Lib.join_one,Lib.join,D5,D6,cX,F9,Oy,str,num, *];done)):G:=e
def Amp (e:G:=by
 clear hn;rintro n ys ⟨u,hn,yy,hu,rfl⟩;simp only[PU,str];by_cases hu0:u=[]
 .subst hu0;have q1:(([]:Ab) != [])=false:=rfl;have q2:(([]:Ab)==[])=true:=rfl;have hF:Lib.trimB s 32=[]:=by rw[<-hu];rfl
  simp only[go_sem,q1,q2];rw[hF]
 have hpos:0<u.length:=oh.2 hu0;have q1:(u != [])=true:=by simpa using hu0
 have q2:(u==[])=false:=by simpa using hu0
 have hw:IntKind.i64.wrap ((u.length:Int)-1)=((u.length-1:Nat):Int):=by rw[Aw om om];omega
 have g1:=bc (show((u.length-1:Nat):Int)<(u.length:Int) by omega);have g2:=bc (show((u.length-1:Nat):Int)<=(u.length:Int) by omega);have hsp:=yV u hpos;by_cases hc:(((u.getD (u.length-1) 0).toNat:Nat):Int)=32
 .have ec:=bc hc;rw[(rQ _).1 hc]at hsp
  have hR:Lib.trimRightB (u.take (u.length-1)) 32=Lib.trimB s 32:=by rw[<-hu];conv=>rhs;rw[hsp]
                                                                     rw[yT]
  simp only[go_sem,q1,q2,hw,g1,g2,ec];refine Z6 q1 q2 hw g1 g2 ec ?_;refine Av (n-1) [str (u.take (u.length-1))] om ⟨u.take (u.length-1),by simp;omega,by simp;omega,hR,rfl⟩ ?_;simp only[PU,str];exact Zw;done
 have ec:=bd hc
 have hF:Lib.trimB s 32=u:=by
  rw[<-hu]
  conv=>lhs;rw[hsp]
  rw[yU _ _ _ (λh=>hc ((rQ _).2 h)),<-hsp]
 simp only[go_sem,q1,q2,hw,g1,g2,ec];refine Z6 q1 q2 hw g1 g2 ec ?_;rw[hF]):G:=e
def Gq(e:G:=by first|exact Wi.h|exact Wk.refl _):G:=e
def ϝ (e:G:=by
 have hwn:IntKind.i64.wrap (np:Int)=(np:Int):=Aw om om;by_cases h1:p<1
 .have e1:=bc h1;refine Z8 hq hm hwq yu e5 hwp hwn e1 ?_;have hp0:O5 (O.map (·.1.id)) p=[]:=by rw[O5,ar om]
  first|exact .inl ⟨rfl,hp0⟩|exact .inl hp0
 have e1:=bd h1;by_cases h2:(np:Int)<p
 .have e2:=bc h2;refine Wq (nA hq (nA hm (nA hwq (nA yu (nA e5 (nA hwp (nA hwn (nA e1 e2)))))))) ?_;have hp0:O5 (O.map (·.1.id)) p=[]:=by rw[O5,bn om,tq (by rw[dB];omega),List.take_nil]
  first|exact .inl ⟨rfl,hp0⟩|exact .inl hp0
 have e2:=bd h2;have hw1:IntKind.i64.wrap (p-1)=p-1:=Aw om om;have hw2:IntKind.i64.wrap ((p-1)*5)=(p-1)*5:=Aw om om;have hdr:List.take (O.length-((p-1)*5).toNat) (List.drop ((p-1)*5).toNat (O.map qY))=(O.drop ((p-1)*5).toNat).map qY:=by rw[<-pm,Are oS]
 refine Wq (nA hq (nA hm (nA hwq (nA yu (nA e5 (nA hwp (nA hwn (nA e1 (nA e2 (nA hw1 (nA hw2 (nA hdr @Int.toNat_natCast)))))))))))) ?_;refine Za (Vj (O.drop ((p-1)*5).toNat) 5 (by rw[jb];omega)) ?_;have hpg:O5 (O.map (·.1.id)) p=((O.drop ((p-1)*5).toNat).map (·.1.id)).take 5:=by rw[O5,bn om,pm,show 5*(p-1).toNat=((p-1)*5).toNat by omega]
 all_goals rw[hpg]
 all_goals first|exact .inr rfl|rfl):G:=e
def cZ(e:G:=by exact⟨_,_,W1.refl _,rfl,Gw.refl _,rfl,rfl⟩):G:=e
def Im(e:G:=by refine Bw _ [] ⟨rfl,rfl⟩ (hent (Gw.refl _) ?_);exact Zw):G:=e
def yh (e:G:=by
 have hno:∀{i:Nat} {x:AV},(args++List.replicate (nt-args.length) .any)[i]? =some x->pb x=true:=by
  intro i x hi;rcases ff.1 (cu hi)with h|h
  .grind
  .rw[vu h];rfl
 exact⟨λi s off T cs hi hs=>by have:=hno hi;simp[pb]at this,λi s e k es hi hs=>by have:=hno hi;simp[pb]at this,λi s k j o e k' es hi hs=>by have:=hno hi;simp[pb]at this⟩):G:=e
def X8(e:G:=by rename_i hu;rw[hu];simp[rowFine,isVar,ht,hu,kindOk]at hf;exact⟨hf.symm,by simp[Value.oneCell'],_,rfl,.any (.nil Al)⟩):G:=e
def Q9(e:G:=by all_goals first|rfl|(simp[Be,Af,ie, *];done)|(simp_all [Be,Af,ie];done)):G:=e
def Ϝ (e:G:=by
 cases hgd:o.guard with
 |none=>
  rw[hgd]at hg;simp only[El]at hg;injection hg with hg;subst hg;have hw:Region.wanted o (yielded ops a.tmps)=true:=by simp[Region.wanted,hgd]
  rw[bn hw];refine .inl ?_;unfold fa at h;split at h
  .rename_i v hv;obtain⟨h1,hrun⟩:=hO hst hv;exact Ba (λa' w' ⟨γ',σ',hk,h2⟩=>by obtain⟨rfl,rfl⟩:=hk;exact rest _ _ a' w' h2 h) (hq (K:=λγ' σ'=>γ'=γ/\σ'=am σ o.dst (.raw v)) hst rfl hrun (λS c hr=>⟨_,.raw h1 (.nil Al),Al⟩) ⟨rfl,rfl⟩)
  .exact Ba (λa' w' ⟨γ',σ',h1,h2⟩=>by obtain⟨S,cc,g1,g2⟩:=h2.open;obtain⟨σ2,g3,g4⟩:=C9 _ g1 h1;exact rest γ' σ2 a' w' (g2 _ _ _ g4) g3) (F4 hT hH hst h λv γ' σ' w' h1 h2=>hE v γ' σ' a w' h1 h2)
 |some jw=>
  obtain⟨j,want⟩:=jw;rw[hgd]at hg;simp only[El]at hg;split at hg
  .rename_i t ht;injection hg with hg;subst hg;simp only[fa]at h
  .cases hg):G:=e
def yg(e:G:=by have hinv:=Vs (S:=S) (bf:=bf) (λl id s s' h=>⟨hinc l id s s' h,hmono l id s s' h⟩) _ _ _ _ (ho);simp only[Rp,Dr,Ng,fj,fm,num,str];refine Z4 n1 n2 n3 hwi ?_;exact Zm (k-1) ⟨i+1,s2,om,hs2,by have:=hinv.2;simp only at this;omega,rfl,rfl,by rw[hit,hal];rw[ho];rfl⟩):G:=e
def i_ (e:G:=by
 refine Kx ⟨_,cD he2 hk,rfl⟩ ?_ ?_
 .repeat' first|apply Aq.on<;>intro _|refine gD ?_|simp only[go_sem,Int.reduceEq,Int.reduceNeg,decide_true,eq_self,hw1]
  all_goals exact .inl (fq some (AbO he2 hk))
 .repeat' first|apply Aq.on<;>intro _|refine gD ?_|simp only[go_sem,Int.reduceEq,Int.reduceNeg,decide_true,eq_self,hw1]
  all_goals first|exact .inr rfl|exact .inr trivial):G:=e
def GQ(e:G:=by simp only[go_sem,e0];refine Gt [.sl 9 (a.map b8),num k1,Af false] ⟨a,k1,false,λx hx=>.inl hx,ha,om,om,rfl⟩ ?_;simp only[PU];simp only[Af];exact Zw;done):G:=e
def ϛ (e:G:=by
 rintro m xs a ⟨rfl,i,hi,rfl,hd⟩;simp only[PU];by_cases hlt:i<t.ed.length;rotate_left
 .have ej:=eU i t.ed.length;refine Z1 ej ?_;have hn:Ki t.ed la=none:=by rw[hd,n9 om];rfl
  rw[hn];exact⟨.a6 [Mf zE,Af false],_,W1.a6 (.cons W1.ze rfl (.same .nil)),rfl,Gw.refl _,rfl,rfl⟩
 have ej:=eT i t.ed.length;have hg:=AD hlt;simp only[Mf,num,str]at hg;by_cases he:t.ed[i].1=la
 .have e1:(t.ed[i].1==la)=true:=by simpa using he
  have hn:Ki t.ed la=some t.ed[i]:=by rw[hd];unfold Ki;rw[j0 hlt,d8 (by simpa using he)]
  rw[hn];refine Z3 ej hg e1 ?_;exact Zx
 .have e1:(t.ed[i].1==la)=false:=by simpa using he
  have hw:=wS i;refine Z4 ej hg e1 hw ?_;refine Zm (m-1) ⟨rfl,i+1,om,rfl,?_⟩;rw[hd];exact AaS hlt he):G:=e
def Ϛ (e:G:=by
 have hq:(i+1+4) / 5=i / 5+1:=om;by_cases hp:((i / 5+1:Nat):Int)=p
 .have ep:=bc hp;have hin':=hin hp;have hsn:Ar (O5 ((O.map (·.id)).take i) p)++[AV.raw (.int .i64 s.id)]=Ar (O5 ((O.map (·.id)).take (i+1)) p):=by rw[hin'];simp[Ar,num]
  refine Wq (nA ej (nA hgx (nA hw (nA hm (nA e5 (nA hwp (nA ep hsn))))))) ?_;refine Av (k-1) [num (((i+1+4) / 5:Nat):Int),.own 3 1 (Ar (O5 ((O.map (·.id)).take (i+1)) p)),num ((i+1:Nat):Int)] om ⟨i+1,om,om,rfl⟩ ?_;rw[hq];simp only[PU];exact Wi.h
 .have ep:=bd hp;refine Wq (nA ej (nA hgx (nA hw (nA hm (nA e5 (nA hwp ep)))))) ?_;refine Av (k-1) [num (((i+1+4) / 5:Nat):Int),.own 3 1 (Ar (O5 ((O.map (·.id)).take (i+1)) p)),num ((i+1:Nat):Int)] om ⟨i+1,om,om,rfl⟩ ?_;rw[hq,hout hp];simp only[PU];exact Wi.h):G:=e
def ϙ (e:G:=by
 cases hE:(x.1==tn)
 .have hN:(x.1 != tn)=true:=by simp[bne,hE]
  simp only[go_sem,ej,hgx,hw,hB,hE,hN,dB,Ao];refine Zu ?_;exact Zm (m-1) ⟨rfl,j+1,true,O++[x],om,by simp at hO⊢;omega,λy hy=>LH hx ra y (by(try simp at hy);first|exact hy|exact .inl hy|(rcases hy with h|h;exact .inl h;exact .inr (.inl h))|(rcases hy with h|h;exact .inl h;exact .inr (.inr h))),rfl⟩;done
 .have hN:(x.1 != tn)=false:=by simp[bne,hE]
  simp only[go_sem,ej,hgx,hw,hB,hE,hN,dB,Ao];refine Zu ?_;exact Zm (m-1) ⟨rfl,j+1,true,O,om,by simp at hO⊢;omega,λy hy=>LH hx ra y (by(try simp at hy);first|exact hy|exact .inl hy|(rcases hy with h|h;exact .inl h;exact .inr (.inl h))|(rcases hy with h|h;exact .inl h;exact .inr (.inr h))),rfl⟩;done):G:=e
def yf (e:G:=by
 rintro r rfl;try simp only[Af,num,str]
 repeat' first|apply Aq.on<;>intro _|refine gD ?_|simp only[go_sem,DT,Int.reduceEq,eh,e2,e3,e4,e5,e1,e6]
 all_goals first|rfl|(simp[wc,kE,H3,D5,D6,cX,F9,dec,str,num, *];done)):G:=e
def ϗ (e:G:=by
 rintro m xs a ⟨rfl,i,hi,rfl,hd⟩;simp only[PU];by_cases hlt:i<M.length;rotate_left
 .have ej:=eU i M.length;refine Z1 ej ?_;have hn:Ga M id=none:=by rw[hd,n9 om];rfl
  rw[hn];exact⟨.a6 [Tv zT,Af false],_,W1.a6 (.cons W1.zs rfl (.same .nil)),rfl,Gw.refl _,rfl,rfl⟩
 have ej:=eT i M.length;have hg:=A_ hlt;simp only[Tv]at hg;by_cases he:M[i].id=id
 .have e1:=bc he;have hn:Ga M id=some M[i]:=by rw[hd];unfold Ga;rw[j0 hlt,d8 (by simpa using he)]
  rw[hn];simp only[num,str,Af]at hg;refine Z3 ej hg e1 ?_;exact Zx
 .have e1:=bd he;have hw:=wS i;simp only[num,str,Af]at hg;refine Z4 ej hg e1 hw ?_;refine Zm (m-1) ⟨rfl,i+1,om,rfl,?_⟩;rw[hd];exact AaR hlt he):G:=e
def dA(e:G:=by exact Zw):G:=e
def OD (e:G:=by
 have hvl:=hv.length
 match us,mi,hvl,hv with
 |[],[],_,hv=>exact Ac.a6 hv (.nil Al) (λb=>oS)
 |[u],[v],_,hv=>exact hv
 |u::u'::us,v::v'::mi,_,hv=>exact Ac.a6 hv (.nil Al) (λb=>oS)):G:=e
def ye(e:G:=by refine Zu ?_;refine Av (n-1) [num (Ho t.tp [] (s.tp.take (i+1)):Nat),num ((i+1:Nat):Int)] om ⟨i+1,om,om,rfl⟩ ?_;rw[hstep];simp only[hi1,hi2,not_true_eq_false,not_false_eq_true,and_true,and_false,if_true,if_false,nj];exact Zw):G:=e
def ϖ(e:G:=by intro hxe hev;subst hxe;have hrun:=run_append_nil (P:=P) w t o.type e il z2 g6 f1 fz ad ys.length cc cv nw hmem hm0 (by simp only[eh]at hmax;omega) (by rw[f5];simp only[eh,jp]at hby;omega);rw[<-hev,<-eY]at hrun;have hge:=grownCap_ge w ys.length 0 e;have hle:=grownCap_le_maxLen w ys.length 0 e (by simpa using hlim);have:=fresh [] (grownCap w ys.length 0 e) _ (.nil Al) oS oS (by simpa using hge) hle rfl;simp only[eh,jp]at this;have e0:([]:List Value).toArray++cv.toArray++Builtin.zeroCells z2.cells (grownCap w ys.length 0 e-ys.length)=cv.toArray++Builtin.zeroCells z2.cells (grownCap w ys.length 0 e-ys.length):=oS;rw[e0]at this;exact hwp hrun ⟨_,hK,this⟩):G:=e
def ϕ (e:G:=by
 simp only[py,qx,qw];simp only[go_sem];refine Z0 ?_;apply Qb
 .repeat first|exact Wk.nil|apply sY|apply Wk.same
 simp only[go_sem,gj,dB,Ao];repeat' first|apply Aq.on<;>intro _|refine gD ?_|simp only[go_sem,gj,htk,qh,u0,htl,dc,List.length_singleton,jb,dB,Ao]
 exact⟨_,_,W1.refl _,rfl,Gw.refl _,rfl,l.take j++s::l.drop j,.inr (by simp[str]),by simp;omega,λy hy=>by
  rcases ff.1 hy with hy|hy
  .exact .inl (i7 hy)
  .rcases e9.1 hy with hy|hy
   .exact .inr hy
   .exact .inl (mg hy)⟩):G:=e
def ϔ (e:G:=by
 intro vs hvl
 cases ha:agg with
 |true=>
  have hagg:(isAgg fd.type).run P w=.ok true w:=by unfold isAgg;rw[ft,fp ux w];rw[ha]at hag;cases d<;>simp_all [Uo]
  have he:vs.extract off (off+n)=((vs.toList.drop off).take n).toArray:=by
   grind
  simp[part,hagg,sizeOf,typeInfo,hq,hsz,he]
 |false=>
  have hagg:(isAgg fd.type).run P w=.ok false w:=by unfold isAgg;rw[ft,fp ux w];rw[ha]at hag;cases d<;>simp_all [Uo]
  have hs:=h1 ha;rw[hs]at hvl⊢;have hd:(vs.toList.drop off).take 1=[vs[off]]:=by rw[j0 (by simp;omega)];simp
  rw[hd];have hc:vs[off]? =some vs[off]:=oS;simp[part,hagg,hc]):G:=e
def ϓ (e:G:=by
 rintro r (⟨rfl,hfn⟩|⟨j,q,rfl,hj,Q_⟩)
 .have hq2:Hl M la b=(zB,Vp):=by rw[hq,hfn]
  rw[hq2];have hm1:=bc (show(-1:Int)<0 by decide);simp only[num];refine Z1 hm1 ?_;exact⟨_,_,W1.a6 (.cons W1.zb rfl (.same .nil)),rfl,Gw.refl _,rfl,rfl⟩
 have hjl:=(ab.1 hj).1;have hgx:=Iq hj;have hj0:=bd (show¬(j:Int)<0 by omega);cases hre:t.re
 .have hq2:Hl M la b=(q,[]):=by rw[hq,Q_];simp[hre]
  rw[hq2];simp only[num];refine Z3 hgx hj0 hre ?_;exact Zx
 .have hq2:Hl M la b=(zB,wd):=by rw[hq,Q_];simp[hre]
  rw[hq2];simp only[num];refine Z3 hgx hj0 hre ?_;exact⟨_,_,W1.a6 (.cons W1.zb rfl (.same .nil)),rfl,Gw.refl _,rfl,rfl⟩):G:=e
def ϻ (e:G:=by
 have e4:=eN a.kind 4;have e5:=eN a.kind 5;have e1:=eN a.kind 1;have e6:=eN a.kind 6;refine Z7 e2 e3 e4 e5 e1 e6 hv ?_;refine Zb (Vb a ha hb) ?_;rintro r rfl;try simp only[Af,num,str]
 repeat' first|apply Aq.on<;>intro _|refine gD ?_|simp only[go_sem,DT,Int.reduceEq,eh,e2,e3,e4,e5,e1,e6,hv]
 refine Za (KM a.n hn.1 om) ?_;all_goals first|omega|rfl|(simp[O0,Fu,H3,Dp,Lib.join_one,Lib.join,D5,D6,cX,F9,Oy,str,num, *];done)|(refine⟨by simp only[dc,dg,eh];omega,?_⟩;simp[O0,Fu,H3,Dp,Lib.join_one,Lib.join,D5,D6,cX,F9,Oy,str,num, *];done)):G:=e
def vC(e:G:=by exact Zw):G:=e
def Ϻ (e:G:=by
 rw[hu]at hst hsz;refine⟨_,_,_,S,c,rfl,⟨rfl,rfl⟩,rfl,.inr ⟨_,_,_,rfl⟩,?_,hc,hsz,hst⟩;refine Ac.a6 (c1:=λ_=>0) (c2:=c) (.nil Al) ?_ (λb=>oS);have hl2:(Eo enc ss).length=zs.length:=by rw[Ir,qd]
 rw[<-hl2];have htake:(putCells enc 0 ss.toArray cur).toList.take ss.length=ss.map enc:=rV cur ss (by rw[hs];omega);refine .row (c0:=λ_=>0) (c2:=c2) om hcap (aJ ss) (rT _ hb) (by simp[putCells,hs]) hS ?_ Al ?_ (.nil hz2) hcc
 .rw[Jy,hl2,<-qd,md,htake];exact aI ho ss
 .rw[hl2,<-qd,md,htake];exact rS ho ss):G:=e
def Ϲ (e:G:=by
 unfold Oper.wp;rw[kx,Oper.upon_enter];refine this.mono λe w' ⟨v,r,S',c',he,hR,hpb,hrr,hc1,hz',hstp⟩=> ?_;subst he;have hr3:=hr2.step hstp (λb=>by grind);have hfr:=hstp.frame (c2:=c2) hcc;refine⟨_,hR,Bc.value (c:=λb=>c' b+c2 b) (hrf.bi _) hpb ?_ hd hz' (hs.trans hfr) hr3 hrr (λb=>bx _) _⟩;intro b;show c' b+c2 b<=1;have:=h1 b;have:=hcc b;have:=hc1 b;rcases cq b w.heap.size with hb|hb
 .have:=hstp.own b hb;omega
 .have:c2 b=0:=by
   rcases jz (c2 b)with h|h
   .exact h
   .have:=hr2.lt b h;omega
  omega):G:=e
def ϸ (e:G:=by
 refine jL hz ⟨hb.os,hb.tape,⟨hb.output,λ_=>bx _⟩,hb.size,λb hb' _=>⟨hb.block b hb',by simp[upd,Nat.ne_of_lt hb']⟩,λb o ho=> ?_,λb=> ?_,λb hb'=>by simp[Nat.ne_of_lt hb']⟩ (λb hb2=> ?_)
 .refine hb.cell (p:=⟨b,o,none⟩) ?_;rcases cq b w.heap.size with h|h
  .exact h
  .have:=hz b h;omega
 .unfold upd;split
  .rename_i h;subst h;omega
  .exact bx _
 .simp only[World.alloc,Array.size_push]at hb2;have hne:b≠w.heap.size:=om;simp only[upd,hne,if_false];exact hz b om):G:=e
def Ϸ (e:G:=by
 rintro r rfl;have hr:I4 M la (8-i) b'=if(Hl M la b').2=[]then I4 M la n (Hl M la b').1 else(Hl M la b').2:=by rw[hn];simp[I4,hk]
 rw[hr]at hd;have hn2:n=8-(i+1):=om;subst hn2;generalize Hl M la b'=z at *;obtain⟨q,s⟩:=z;simp only[b8,num,str]at hd⊢;by_cases hs:s=[]
 .have es:(s==[])=true:=by simp[hs]
  simp only[hs,if_true]at hd;refine Z3 ek es hw ?_;exact Zm (m-1) ⟨rfl,i+1,q,om,rfl,hd⟩
 .have es:(s==[])=false:=by simp[hs]
  simp only[hs,if_false]at hd;rw[hd];refine Z3 ek es hw ?_;exact Zx):G:=e
def ϵ (e:G:=by
 have ej:=eT i t.co.length;obtain⟨x,hx,hdr⟩:=Bj hlt;have hgx:=s_ hx;have hw:=wS i;have hnx:=Af3 (la:=e.1) hx;generalize Ff e.1 (t.co.take i)=n at *;have hwn:=wS n;simp only[num,str]at hgx;by_cases u6:x.lg=e.1
 .have el:(x.lg==e.1)=true:=by simpa using u6
  rw[bn u6]at hnx;refine Z5 ej hgx hw hwn el ?_;exact Zm (m-1) ⟨rfl,i+1,om,by rw[hnx]⟩
 have el:(x.lg==e.1)=false:=by simpa using u6
 rw[ar u6]at hnx;refine Z5 ej hgx hw hwn el ?_;exact Zm (m-1) ⟨rfl,i+1,om,by rw[hnx]⟩):G:=e
def ϳ (e:G:=by
 rintro u a ⟨rfl,rfl⟩;refine⟨rfl,?_⟩;simp only[ev,db,zC,NZ,tN,Rp,Dr,Ng,fj,fm,num,str];repeat' first|apply Aq.on<;>intro _|refine gD ?_|simp only[go_sem,z_,y_,NZ,true_and]
 refine⟨_,Dr ad m rv val s'.ks,W1.refl _,rfl,?_,?_,by simp only[Ry,hrun];rfl⟩
 .refine Gw.trans (Gw.perm (γ':=Dr ad m rv val s'.ks++_) (List.Perm.refl _)) ?_;exact FZ _ _
 .simp only[Ry,hrun,Xa,num,str];try rfl):G:=e
def OE(e:G:=by repeat' first|apply Aq.on<;>intro _|refine gD ?_|simp only[go_sem,DT,Int.reduceEq,Int.cast_ofNat_Int]):G:=e
def OG(e:G:=by refine Zu ?_;refine Am (m-1) _ _ om ⟨rfl,i+1,om,rfl⟩ (hent (Gw.refl _) ?_);rw[htk,he,zR];exact Zw):G:=e
def yd(e:G:=by have hex:∃n,J a' w' n:=⟨m,hJ'⟩;refine⟨hex,?_⟩;simp only[dif_pos hex,dif_pos hJ];exact Nat.lt_of_le_of_lt ((Classical.choose_spec (least hex)).2 m hJ') hm):G:=e
def h_ (e:G:=by
 have hun:∀n,Ac w S (List.replicate n .any) (List.replicate n undef) (λ_=>0):=by
  intro n
  induction n with
  |zero=>exact .nil Al
  |succ n ih=>exact .any ih
 have:=Ac.app hr (hun (nt-args.length)) (c:=c) (λb=>oS);simp_all):G:=e
def ϲ (e:G:=by
 obtain⟨rfl,hzc⟩:=hg'.zero;have hcc:(λb=>c' b+c1' b)=c':=by funext b;rw[hzc b];rfl
 rw[hcc]at hs';obtain⟨km,km2⟩:=hs'.keep m hml hm1;obtain⟨kr,wl⟩:=hs'.keep r hrl hr1;exact⟨S',c',mt,hr',λb=>by have:=h1' b;omega,hd',hz',hs.trans hs',⟨by have:=hs'.own m hml;omega,km2.trans hm2⟩,⟨by have:=hs'.own r hrl;omega,wl.trans hr2⟩,og hml hs'.size,og hrl hs'.size,hrw,hne,km.trans hhm,kr.trans P_⟩):G:=e
def X9(e:G:=by all_goals first|exact .inr rfl|exact .inr trivial):G:=e
def b_ (e:G:=by
 repeat' first|apply Aq.on<;>intro _|refine gD ?_|simp only[go_sem,ej,dB,Ao]
 all_goals exact⟨_,rfl⟩):G:=e
def GR (e:G:=by
 cases h:Ki t.ed la with
 |none=>rw[he];exact .head _
 |some y=>exact i8 h):G:=e
def nP(e:G:=by refine Zu ?_;exact⟨_,_,W1.refl _,rfl,Gw.refl _,rfl,l,rfl,.inl rfl⟩):G:=e
def OH(e:G:=by exact Zm (m-1) ⟨i+1,_,om,rfl,rfl,.inl ⟨by rw[hnext,hF,ir]<;>rfl,by rw[hnext,hF];simp⟩⟩):G:=e
def ϱ (e:G:=by
 cases h1:s.re
 .cases h2:s.tk
  .by_cases h3:0<s.ed.length
   .have e3:=bc (show(0:Int)<(s.ed.length:Int) by omega);refine Zu ?_;exact m0 (by simp[Ee,h1,h2,h3])
   .have e3:=bd (show¬(0:Int)<(s.ed.length:Int) by omega);refine Zu ?_;exact kv (by simp[Ee,h1,h2,h3])
  .refine Zu ?_;exact kv (by simp[Ee,h1,h2])
 .refine Zu ?_;exact kv (by simp[Ee,h1])):G:=e
def ϰ(e:G:=by have s1:∀k code,(Instr.sliceBound (.int k h) cap code).run P w=.ok h.toNat w:=λk code=>run_sliceBound om om code;have s2:∀k code,(Instr.sliceBound (.int k l) h.toNat code).run P w=.ok l.toNat w:=λk code=>run_sliceBound om om code;unfold Instr.sliceBounds;rcases hl with⟨rfl,rfl⟩|⟨x,k,rfl,hx⟩<;>rcases hh with⟨rfl,rfl⟩|⟨y,k',rfl,hy⟩<;>simp_all):G:=e
def Ny (e:G:=by
 try simp only[num,str]
 exact Zw):G:=e
def ϯ(e:G:=by simp only[bM,cQ,num,str,Kq,Af];refine Wq (nA ej (nA hgx (nA hw (nA hky (nA hf (nA hg (nA hbb (nA hmm (nA wu (nA hmb (nA k1 (nA k2 (nA k3 (nA @nK (nA @Un @nL))))))))))))))) ?_;refine Am (k-1) [.mine 9 1 (((all.take (j+1)).filter λa=> !F a).map str),num ((j+1:Nat):Int)] (bM b all F::cQ m val ks') om ⟨j+1,om,rfl,rfl⟩ (hent (Gw.refl _) ?_);rw[vf];exact Zw):G:=e
def Ϯ (e:G:=by
 have ej:=eT i t.ed.length;have hgx:=AD hlt;have hw:=wS i;have hnx:((t.ed.take i).map (·.1)).map str++[str t.ed[i].1]=((t.ed.take (i+1)).map (·.1)).map str:=by rw[nk hlt];simp only[ip,ev,db]
 simp only[Mf,num,str]at hgx hnx;refine Z5 ej hgx hw hll hnx ?_;exact Zm (m-1) ⟨rfl,i+1,om,rfl⟩):G:=e
def a_ (e:G:=by
 cases h:Ki t.ed la with
 |none=>rw[h]at hee;exact⟨_,_,rfl,rfl,oS,λ_=>by simpa using hee.symm⟩
 |some z=>rw[h]at hee;exact⟨_,_,rfl,rfl,λ_=>by simpa using hee,oS⟩):G:=e
def ϭ (e:G:=by
 have hl2:=fq List.length hcl;have hzc:(Builtin.zeroCells z2.cells (dx-(xs.length+ys.length))).size=(dx-(xs.length+ys.length))*j.size:=by rw[size_zeroCells,nu]
 have e3:dx*j.size=xs.length*j.size+ys.length*j.size+(dx-(xs.length+ys.length))*j.size:=by rw[<-jx,<-jx];congr 1;omega
 simp at hl2;omega):G:=e
def Ϭ (e:G:=by
 have hl:lb c=false:=by simp only[lb,decide_eq_false_iff_not];exact o9
 refine Av (n-1) [.own 5 1 (Aj (t++[c])),num ((j+1:Nat):Int)] om ⟨j+1,t++[c],om,om,om,by simp;omega,rfl,?_⟩ ?_
 .rw[he,hd,cB ho hb hl];simp only[ir,fj,fm];congr 2;omega
 .exact Zw):G:=e
def A7(e:G:=by exact h.elim):G:=e
def jK(e:G:=by rintro r rfl;simp only[str];refine Z0 ?_;exact Zx):G:=e
def YS (e:G:=by
 rcases hx with rfl|⟨rfl,rfl⟩
 .refine Zu ?_;exact⟨_,_,W1.gg _ _ _,rfl,Gw.refl _,rfl,rfl⟩
 .refine Zu ?_;exact⟨_,_,W1.o4 _,rfl,Gw.refl _,rfl,rfl⟩):G:=e
def GT(e:G:=by exact⟨_,_,W1.a6 (.cons W1.zb rfl (.same .nil)),rfl,Gw.refl _,rfl,rfl⟩):G:=e
def Ix(e:G:=by rintro r rfl;exact Ze):G:=e
def ϫ (e:G:=by
 have hj':j<s.length:=om;obtain⟨c,hc,hd⟩:=Ig hj';have he2:toks s=pre++dj m (s.drop (j+1)) (j+1) (some g):=by rw[he,hd];simp only[dj,HK,<-hc,hw32,decide_true,Bool.or_true,rc,if_true]
 refine Ch m _ om ⟨k,j+1,some g,_,rfl,om,om,he2,hk,rfl⟩ ?_;exact Zw):G:=e
def ϩ (e:G:=by
 cases h:Ga M id with
 |none=>simp[zT]
 |some t=>exact⟨hM.ed t (i8 h),hM.co t (i8 h),λe he=>⟨hM.bs t (i8 h) e he,hM.tx t (i8 h) e he⟩,hM.ti t (i8 h),hM.ct t (i8 h)⟩):G:=e
def XS(e:G:=by have e2:=eN a.kind 2;have e3:=eN a.kind 3;have e4:=eN a.kind 4;have e5:=eN a.kind 5;have e1:=eN a.kind 1;have e6:=eN a.kind 6;exact cw hk om):G:=e
def ϧ (e:G:=by
 have hlen:=(ab.1 hk).1;refine Ij _ ⟨rfl,?_⟩ ?_
 .intro u hu;rw[iZ hk,ff]at hu;rcases hu with hu|hu
  .exact ha u hu
  .rw[ga]at hu;subst hu;assumption
 .simp only[PU];rw[iZ hk,hp,AfU];exact Zw):G:=e
def yb (e:G:=by
 cases os with
 |nil=>simp[Dz]at hcs;subst hcs;exact hQ γ σ a w hst h
 |cons o os=>simp at hl):G:=e
def ya(e:G:=by rw[hd]at hn⊢;simp only[gt,h1,h2,hn,hc,if_true,f0,if_false,Pp,g0,str,num]):G:=e
def ϥ(e:G:=by refine Av (n2-1) [.own 3 1 (Ar ((B++((M.take (j+1)).filter (Hu s id (k+1))).map (·.id)).take m.toNat)),num ((M.length:Int)-1-((j+1:Nat):Int))] om ⟨j+1,om,om,rfl⟩ ?_;rw[hft,hq];simp only[f0,if_false,db,gy];exact Zw):G:=e
theorem XR (e:G:=by
 have g1:=Om (ib.1 k7 p hp);have g2:=ib.1 k4 p hp;by_cases hp0:p.2=0
 ·exact .inl ⟨hp0,g1.1 hp0,fX g2 hp0⟩
 by_cases o8:p.2=4
 ·exact .inr (.inr ⟨o8,g1.2.2 o8,dv g2 o8⟩)
 exact .inr (.inl ⟨hp0,o8,g1.2.1 hp0 o8⟩)):G:=e
def nQ(e:G:=by exact Zm (m-1) ⟨rfl,i+1,om,by rw[hs]⟩):G:=e
def ϣ(e:G:=by rw[hml,htake];refine gI oS λi x cs hx hcx=> ?_;rw[ao,tj]at hx hcx;obtain⟨j,hj,rfl⟩:=hx;obtain⟨j',hj',rfl⟩:=hcx;rw[hj]at hj';injection hj' with hj';subst hj';exact(her j).step hst (λb=>by have:=hc b;simpa using this)):G:=e
def Apz (e:G:=by
 have e0:(v==x)=false:=by simp[h0]
 refine Zu ?_;refine Av (n-1) [num ((j+1:Nat):Int)] om ⟨j+1,om,om,?_,rfl⟩ ?_
 .rw[fc,hx];simp only[oe,ff,ga,not_or];exact⟨he,h0⟩
 .exact Zw):G:=e
def BR(e:G:=by repeat' first|apply Aq.on<;>intro _|refine gD ?_|simp only[go_sem]):G:=e
def Agk (e:G:=by
 rename_i e' k' es hxe;split at hx
 .rename_i hee;obtain⟨rfl,rfl⟩:=hee;injection hx with hx;subst hx;rw[hxe]at hZ;rw[gy];obtain⟨A,cap,e1,hn,_⟩:=Mv (Fp hZ);exact⟨cx,hZ,λb=>bx _,A,_,cap,e1,hn⟩
 .cases hx):G:=e
def Agl (e:G:=by
 by_cases h5:b'.kd=5
 .have e5:=bc h5;refine Z3 ek e5 e8 ?_;refine Zh (MI M tm hM b'.tx) ?_;have:=Tw M b'.tx;have:=hM.len;refine Zh (AM (i1 M b'.tx) om) ?_;exact Zx
 .have e5:=bd h5;refine Z3 ek e5 e8 ?_;exact Zx):G:=e
def Ev(e:G:=by exact bx _):G:=e
def Agm (e:G:=by
 obtain⟨σ',hq,hs'⟩:=hq
 cases e with
 |exit id'=>
  simp only[HQ]at hq;simp only[Exit.inBlock];split
  .rename_i hid;rw[bn hid]at hq;exact⟨σ',hq,hs'⟩
  .rename_i hid;rw[ar hid]at hq;exact⟨σ',hq,hs'⟩
 |_=>exact⟨σ',hq,hs'⟩):G:=e
def nR(e:G:=by exact cp (Lib.itoa_length_le _ om om) om):G:=e
def Agn (e:G:=by
 constructor
 .rintro⟨q,hq,h⟩;rcases ff.1 hq with hq|hq
  .exact .inl ⟨q,hq,h⟩
  .rw[ga.1 hq]at h;exact .inr h
 .rintro(⟨q,hq,h⟩|h)
  .exact⟨q,qr _ hq,h⟩
  .exact⟨p,oS,h⟩):G:=e
def Ago (e:G:=by
 apply rh;intro i;rcases cq i es.length with hi|hi
 .rw[iy ⟨i,hi⟩,ao,ac (by simpa using hi)];simp
 .rw[eq (by simpa using hi),eq om]):G:=e
def Agp(e:G:=by refine C9 ts ?_ h;obtain⟨hrf,S,c,hr,h1,hd,hz,hs⟩:=hst;obtain⟨v,c1,c2,hv,hZ,hr2,hc⟩:=hr.take s (A8 hr hx oS);exact⟨hrf.less s rfl,S,c2,hr2,λb=>by have:=h1 b;have:=hc b;omega,hd,hz,hs.drop λb=>by have:=hc b;omega⟩):G:=e
def nS (e:G:=by
 cases h1 with
 |ge h=>exact⟨_,_,rfl⟩
 |row=>exact⟨_,_,rfl⟩):G:=e
def Agq (e:G:=by
 repeat (refine gO ?_)
 repeat' first|apply Aq.on<;>intro _|refine gD ?_|simp only[go_sem,htl]
 rw[hF2];exact Zx):G:=e
def nT(e:G:=by rw[Are om];refine Z1 ej ?_;exact Zx):G:=e
def R6 (e:G:=by
 try simp only[stA,num,str]
 exact Zw):G:=e
def BS(e:G:=by simp only[ev,db,num,str,D5,D6,cX,F9];exact Zw):G:=e
def Agr (e:G:=by
 simp only[go_sem,hgx,hw,e3,e7,dB,Ao];refine Zu ?_;refine Am (m-1) _ _ om ⟨rfl,j+1,L,T,om,hB',rfl⟩ (hent (Gw.refl _) ?_);simp only[PU];try simp only[nN,num,str]
 exact Zw;done):G:=e
def Ags (e:G:=by
 repeat' first|apply Aq.on<;>intro _|refine gD ?_|simp only[go_sem,DT,Int.reduceEq,Int.cast_ofNat_Int,Ae,ne_eq,Nat.reduceEqDiff,not_false_eq_true,dB]
 all_goals rfl):G:=e
def Agt(e:G:=by rename_i hxe;injection hx with hx;subst hx;rw[hxe]at hZ;revert hZ;generalize a.eval x=v;intro hZ;cases hZ with|gn h=>exact⟨λ_=>0,.g9 (.nil Al),λb=>gu _,none,0,0,rfl,bx _⟩):G:=e
def BU(e:G:=by refine Z0 ?_;exact⟨_,Gw.refl _,e,s2,by rw[hit,hal];rw[ho];rfl,rfl,rfl⟩):G:=e
def BV(e:G:=by unfold isAgg;rw[ft,fp g6 w];cases d<;>simp_all [Uo]):G:=e
def Agu (e:G:=by
 have hz2:(sizeOf t).run P w=.ok i.size w:=by simp[sizeOf,typeInfo,g1,g4]
 have hne:¬(a.eval y).cells.size≠i.size:=om;unfold execOp;simp[ho,he,Instr.storeAt,Instr.sureAddr,storeVar,hz2,hne,hrun]):G:=e
def V6(e:G:=by simp only[dg];omega):G:=e
def BW(e:G:=by refine Z4 ej hg hw e0 ?_;exact Zm (m-1) ⟨rfl,i+1,om,by rw[hn]⟩):G:=e
def OI(e:G:=by rintro e w' ⟨rfl,hb⟩;rw[Bm];exact⟨_,rfl,L1 rfl,hb⟩):G:=e
def OJ(e:G:=by unfold execOp;simp[ho,hev,Instr.fieldAt,fp hu,hfd,Instr.sureAddr,jR hsz hn,Fo,hoff]):G:=e
def Agv (e:G:=by
 cases x<;>simp only[Qm,reduceCtorEq,dq]at he
 .subst he;cases hu with|bp _ _ _ _ _ r8=>rw[r8];simp;omega
 .subst he;cases hu with|bw _ _ _ _ _ _ r8=>rw[r8];simp;omega):G:=e
def Agw (e:G:=by
 intro y hy;obtain⟨x,hx,rfl⟩:=dm.1 hy;have h1:=hbt x hx;have h2:=Ty 900000 om hM.len hM.tx la 8 x h1;unfold Fy;split
 .simp;omega
 .split
  .simp;omega
  .omega):G:=e
def Agx(e:G:=by refine Zu ?_;refine Av (n-1) [.sl 8 (((Bd v (L.take (i+1))).reverse).map ci),num ((i+1:Nat):Int)] om ⟨i+1,om,om,rfl⟩ ?_;rw[gN hx,ar (by simp[hsel])];exact Zw):G:=e
def Agy(e:G:=by refine Z3 ep hwp hw ?_;refine Ch (n-1) [.sl 1 ((B9 L).map str),num ((i+1:Nat):Int)] om ⟨i+1,k4,rfl,om,om,by rw[T9 hx,Af9 hnm];omega,rfl⟩ ?_;exact Zw):G:=e
def Agz(e:G:=by refine⟨rfl,rfl,rfl,oS,λk hk hne=> ?_⟩;rw[heap_grow_old _ _ (by simpa using hk)];have:g≠k:=λe=>hne (by rw[e]);simp[putRow,mapBlock,Sort.ahead,er,this]):G:=e
def OL(e:G:=by refine Zu ?_;exact⟨_,_,W1.refl _,rfl,Gw.refl _,rfl,f.bl,.inl rfl,om,λx hx=>.inr hx⟩):G:=e
def Ag0 (e:G:=by
 simp only[LS,Nat.reduceAdd,Nat.reduceSub];repeat' first|apply Aq.on<;>intro _|refine gD ?_|simp only[go_sem,DT,Int.reduceEq,eh]
 all_goals rfl):G:=e
def OM(e:G:=by refine Zu ?_;refine Bw [] [] ⟨rfl,om,om,rfl⟩ (hent (Gw.refl _) ?_);exact Zw;done):G:=e
def BX(e:G:=by rename_i h;rw[bn (by simp[od,h])];exact⟨oS,oD⟩):G:=e
def ON (e:G:=by
 rw[htake];intro u hu;rcases ff.1 hu with h|h
 .exact hone u h
 .exact kw u h):G:=e
def Ag1 (e:G:=by
 cases hr with
 |a6 h1 h' hc=>
  cases h' with
  |nil hz=>obtain⟨c',h2,hle⟩:=h.rep h1;exact⟨c',.a6 h2 (.nil Al) (λb=>oS),λb=>by rw[hc];have:=hle b;omega⟩):G:=e
def Ya(e:G:=by dsimp only;cases σ.getD q .any<;>rfl):G:=e
def Ag2(e:G:=by rw[List.getElem?_take_of_lt hj']at h1;simp only[World.cell?,hb,jp];simp only[mf,f0,if_false];rw[<-ak,h1];simp[hj']):G:=e
def OO (e:G:=by
 rw[htake];intro u hu;rcases ff.1 hu with h|h
 .exact hoc u h
 .exact kw u h):G:=e
def BY(e:G:=by unfold execOp;simp[ho,resolve,hc,e1,Deferred.ofValue,invoke,hrun]):G:=e
def OP(e:G:=by refine Zu ?_;exact Zl (n-1) ⟨j+1,is++[(j:Int)],om,om,by simp;omega,rfl⟩;done):G:=e
def OQ(e:G:=by refine Zu ?_;rw[Are (by simp;omega),Are (by simp;omega)]):G:=e
def Nt(e:G:=by exact fB hT hst h):G:=e
def Nu(e:G:=by simp only[PU];exact Wi.h):G:=e
def Ag4(e:G:=by simp only at h0 h1;subst h0;obtain⟨v,k1,k2,γ',σ',k3,k4⟩:=H2 hT hH hle (λ_=>hh.1) dp hh.2;exact .inl ⟨h1,v,.inl ⟨hw,k2 (h2 o ho)⟩,rest γ' σ' v k4 k3⟩):G:=e
def Ag5(e:G:=by refine Zu ?_;refine Av (n-1) [.mine 9 1 ((((ps.take (j+1)).filter (Ms key)).map (·.ad)).map str),num ((j+1:Nat):Int)] om ⟨j+1,om,rfl⟩ ?_;rw[hf];exact Zw):G:=e
def nU(e:G:=by simp only[lc,dg];omega):G:=e
def Ag6 (e:G:=by
 repeat' first|apply Aq.on<;>intro _|refine gD ?_|simp only[go_sem,DT,Int.reduceEq,eh,hv]
 all_goals first|rfl|(simp[num];done)):G:=e
def Ag7(e:G:=by have hg:g<w.heap.size:=(ah.1 hb).1;rw[heap_grow_old _ _ (by simpa using hg)];simp[putRow,mapBlock,Sort.ahead,er,hb,onCells]):G:=e
def BZ(e:G:=by rw[hl];refine Z2 e01 hw ?_;exact Zm 0 ⟨rfl,1,om,rfl⟩):G:=e
def Ag8 (e:G:=by
 simp only[PU];try simp only[bE,num,str]
 exact Zw;done):G:=e
def OR(e:G:=by exact hwp hrun ⟨_,hK,fresh _ _ _ (h1c.congr λb=>(nf b).symm) hoc hk hge hle rfl⟩):G:=e
def OS(e:G:=by have en:=bd (show¬(j:Int)<n by omega);refine Zu ?_;rw[show j=n.toNat by omega]):G:=e
def OT(e:G:=by exact HC.frame (jr:=[y]) (h.mono (λr a h=>⟨h.1,by rw[h.2];rfl⟩) (λ_ _ h=>h))):G:=e
def Ag9(e:G:=by rw[hlen,md,hlist,sw oS,Are oS,lq];exact te λx _=>by simp[Bo]):G:=e
def AgA(e:G:=by rw[<-ak,<-ak,hnl,ir,eD,bn (by rw[kb];exact ho'),b9,bn ho']):G:=e
def AgB(e:G:=by have en:=bd (show¬(0:Int)<((Ff e.1 t.co:Nat):Int) by omega);refine Z1 en ?_;refine Bw _ [] ⟨rfl,rfl⟩ (hent (Gw.refl _) ?_);rw[bn hn0];exact Zw):G:=e
def nV(e:G:=by exact Zm (m-1) ⟨rfl,j+1,om,rfl⟩;done):G:=e
def AgC (e:G:=by
 obtain⟨S,c,c1,gv,hrf,hr,_⟩:=hst;obtain⟨v,d1,d2,hv,hy,_⟩:=hr.take t (A8 hr hx hne);refine⟨v,S,d1,?_,hy⟩;unfold yielded;unfold Oa at ht
 grind):G:=e
def CB(e:G:=by cases hy with|a6 h1 h hcc=>obtain⟨rfl,_⟩:=h1.zero;rfl):G:=e
def AgD (e:G:=by
 congr 1
 .congr 1<;>exact decide_eq_decide.2 om
 .congr 1
  .congr 1<;>exact decide_eq_decide.2 om
  .exact decide_eq_decide.2 om):G:=e
def AgE (e:G:=by
 refine Sd kx ⟨S,c4,_,gv,(hrf.d7 y).am _ _ rfl,h2,hg3,λx=> ?_,by rw[G5];exact hdf,hz',(hs.trans hk2).drop λx=> ?_⟩
 .grind
 grind):G:=e
def nW(e:G:=by exact⟨_,_,W1.refl _,rfl,Gw.refl _,rfl,hr⟩):G:=e
def AgG(e:G:=by have e1:=bd h1;refine Z1 e1 ?_;refine Bw _ [] ⟨rfl,rfl⟩ (hent (Gw.refl _) ?_);simp only[e1,decide_false,rg,qo];exact Zw):G:=e
def OV(e:G:=by simp only[resolve,Bind.bind,Pure.pure,Sem.bind,invoke,builtin]at h;exact VH h):G:=e
def CI(e:G:=by rw[ga]at hx;subst hx;exact .inl (hy z hz)):G:=e
def AgH (e:G:=by
 refine propext ⟨?_,?_⟩
 .rintro⟨h1,h2,l',h3,h4⟩;rw[Ys h3];exact⟨h1,h2,h4⟩
 .rintro⟨h1,h2,h3⟩;exact⟨h1,h2,l,rfl,h3⟩):G:=e
def AgI(e:G:=by exact Zw):G:=e
def OW(e:G:=by simp only[PU,str];exact Zw):G:=e
def AgJ(e:G:=by simp only[Xg,py,qx,qw,mc,ml];refine Z0 ?_;exact Wi.h):G:=e
def AgK(e:G:=by have:=hr2.fill hrow s (by simp[hlt]);rw[lu,Ag hv]at this;exact⟨pP hrf hn,S,c,this.congr λb=>hc b,h1,hd,hz,hs⟩):G:=e
def OX (e:G:=by
 rcases jz (cm b)with h|h
 .exact h
 .have:=hmk.2.2 b h;omega):G:=e
def OY(e:G:=by refine Zu ?_;exact⟨_,_,W1.a6 (B7 (Wk.refl _)),rfl,Gw.refl _,rfl,rfl⟩):G:=e
def CJ (e:G:=by
 apply List.ext_getElem
 .simp
 .intro i h1 h2;simp):G:=e
def CK(e:G:=by repeat first|exact Wk.nil|apply sY|apply Wk.same):G:=e
def AgL(e:G:=by rw[h]at this;exact⟨this.1,by have a:=this.2.1;have b:=this.2.2 (gu _);simp only[eh]at a b;show s.ks.length<=_;omega⟩):G:=e
def AgM (e:G:=by
 have hne:x≠b:=by rintro rfl;omega
 rcases cq x w.heap.size with h|h
 .simp only[World.cell?,hother x h hne]
 .have:=hz x h;omega):G:=e
def OZ (e:G:=by
 rcases jz (c2 b)with h|h
 .exact h
 .have:=hr2.lt b h;omega):G:=e
def AgN(e:G:=by rename_i hxe;injection hx with hx;rw[hxe]at hZ;refine jv hx.symm ?_;revert hZ;generalize a.eval x=v;intro hZ;cases hZ with|gn h=>rfl):G:=e
def PC(e:G:=by simp only[stA,ev,db,dR,sN,DO,num,str,Af];exact Zw):G:=e
def AgO(e:G:=by refine Av (n-1) [.own 9 1 ((C7 (L.take (i+1))).map str),num ((i+1:Nat):Int)] om ⟨i+1,om,om,rfl⟩ ?_;rw[hstep2];exact Zw):G:=e
def AgP(e:G:=by obtain⟨n1,h1⟩:=Ai hi (by grind);obtain⟨n2,h2⟩:=Ai hs2 (by grind);rw[Bf n1,Bf n2];exact h.al i s2 e k es h1 h2):G:=e
def AgQ (e:G:=by
 intro jj u hu;rw[Fo,jp,cell_of_row w g jj cur e' (0,0) hb];rw[b9]at hu;split at hu
 .simpa using hu
 .cases hu):G:=e
def AgR(e:G:=by refine Zu ?_;refine Za (Tc a.n hn.1 om) ?_;all_goals first|rfl|(simp[wc,kE,H3,D5,D6,cX,F9,dec,str,num, *];done)):G:=e
def eL(e:G:=by simp only[iz,num,str,Af];exact Zw):G:=e
def AgS (e:G:=by
 obtain⟨n1,h1⟩:=Ai hi (by grind);obtain⟨n2,h2⟩:=Ai hs2 (by grind);obtain⟨b,g1,g2⟩:=h.ref i s2 off2 T2 cs2 h1 h2
 grind):G:=e
def PE(e:G:=by have hrun:=Ku (off:=off) hi hb hn (by grind);unfold execOp;simp_all):G:=e
def PF(e:G:=by simp only[sC,RI,RJ,Ka,num,str,db];refine W1.agg ?_;exact Zw):G:=e
def PG (e:G:=by
 cases e with
 |normal=>exact fin hq
 |ret=>exact fin hq
 |_=>exact hq.elim):G:=e
def nX(e:G:=by simp only[ci,Qn,num,str,Af];exact Zw):G:=e
def PH(e:G:=by split at h<;>first|cases h;done|(injection h with h;subst h;kernel_rfl)):G:=e
def AgT(e:G:=by injection h with h;simp only[Prod.mk.injEq]at h;obtain⟨rfl,rfl,rfl⟩:=h;exact⟨om,oS,oD,oD,oD⟩):G:=e
def AgU(e:G:=by unfold wpOp;simp only[h1];rw[bn (show Region.wanted o (yielded ops a.tmps)=true by simp[Region.wanted,h4])];exact .inl (hk o h2 h3)):G:=e
def AgV (e:G:=by
 have g1:=Om (ib.1 k5 p hp);rcases qO (ib.1 k2 p hp)with⟨g2,g3⟩|⟨g2,g3⟩
 .grind
 grind):G:=e
def PI (e:G:=by
 rcases ff.1 hx with h|h
 .exact hkx x h
 .exact hky x h):G:=e
def AgW (e:G:=by
 refine Wq hc ?_;have hc:¬t2.text∈ws:=by simpa using hc
 exact⟨_,Gw.refl _,_,n2,by simp[Cb,hlt,hmo,h1,h2,hw,hc],rfl,rfl⟩):G:=e
def AgY (e:G:=by
 cases e with
 |returned v=>exact hn _ _ he
 |panicked ch=>grind
 |outgrown=>obtain⟨a,w,he⟩:=he;exact⟨a,w,hQ _ _ _ oS he⟩):G:=e
def AgZ (e:G:=by
 rcases h with h|h
 .exact⟨r,W1.refl _,by rw[h];rfl,l',h,h1,h2⟩
 .exact⟨_,by rw[h];exact W1.gg _ _ _,rfl,l',rfl,h1,h2⟩):G:=e
def Aha(e:G:=by refine H5 ?_;rw[List.getElem?_reverse om];rw[show M.length-1-((M.length:Int)-1-(j:Int)).toNat=j by omega];exact hx):G:=e
def Yb (e:G:=by
 apply rh
 grind):G:=e
def PK (e:G:=by
 rcases ff.1 hx with h|h
 .exact hk x h
 .exact hky x h):G:=e
def PL(e:G:=by rintro e w' ⟨rfl,rfl⟩;exact⟨_,rfl,L1 rfl,Below.refl _ _⟩):G:=e
def PM (e:G:=by
 try simp only[num,str,Ll,pO,jm,ev,db]
 exact Zw):G:=e
def nY(e:G:=by all_goals exact⟨_,rfl⟩):G:=e
def Ahc (e:G:=by
 refine cp hcl ?_;have:(t.co.take i).length<=1000000:=by simp;omega
 have:=jh (1000000+13) this;omega):G:=e
def Ahd (e:G:=by
 repeat' first|apply Aq.on<;>intro _|refine gD ?_|simp only[go_sem]
 refine gr ?_;simp[OC,h1,h2]):G:=e
def Ahe(e:G:=by rw[hml,htake];intro u hu;obtain⟨cs,hcs,hu⟩:=List.mem_flatten.1 hu;obtain⟨i,_,rfl⟩:=dm.1 hcs;exact hone i u hu):G:=e
def Ahf(e:G:=by cases u<;>simp only[xK,f0]at hu<;>(unfold binOp;simp only[ft,h,gq,ia])):G:=e
def Ahg (e:G:=by
 have hq:cur.toList.length=cap*k:=by simp[hs]
 rw[<-hcv,fw,hq];exact pp (jh k hn)):G:=e
def PN(e:G:=by intro hxb;subst hxb;have:=(ah.1 hb).1;omega):G:=e
def Ahh (e:G:=by
 repeat' first|apply Aq.on<;>intro _|refine gD ?_|simp only[go_sem]
 refine gr ?_;simp[W8,h1]):G:=e
def CL(e:G:=by exact⟨_,_,W1.o4 _,rfl,Gw.refl _,rfl,rfl⟩):G:=e
def Ahj(e:G:=by rename_i hu;rw[hu];simp[rowFine,isVar,ht,hu,kindOk]at hf;exact⟨hf.2.symm,by simp[Value.oneCell'],_,rfl,.any (.nil Al)⟩):G:=e
def PO (e:G:=by
 repeat' first|refine gD ?_|simp only[go_sem]
 omega):G:=e
def PP(e:G:=by exact World.putObj_heap_same (ah.1 hh3).1):G:=e
def PQ(e:G:=by exact raw hx rfl (λw=>by unfold execOp;simp[ho,hst.ic hx]) h):G:=e
def Ahk(e:G:=by exact Zw):G:=e
def CM(e:G:=by have:=ZG p s w es;rw[h]at this;exact this):G:=e
def Ahl(e:G:=by refine ho u ?_;rw[hcv,<-hmap];exact List.mem_flatten.2 ⟨enc i,dm.2 ⟨i,List.mem_finRange i,rfl⟩,hu⟩):G:=e
def Ahm (e:G:=by
 cases σ.getD t .any<;>try rfl
 .rename_i v;cases v<;>try rfl
  cases want<;>rfl
 .rename_i cs;cases cs<;>rfl):G:=e
def PS(e:G:=by have ej:=eU i L.length;rw[Are hge];exact Ze):G:=e
def Ahn(e:G:=by obtain⟨n1,h1⟩:=Ai hi (by grind);obtain⟨n2,h2⟩:=Ai hs (by grind);exact h.ref i s off T2 cs2 h1 h2):G:=e
def Aho(e:G:=by obtain⟨rfl,σ',h1,h2,h3⟩:=hq;exact⟨σ',h1,h2,λs hs=>(h3 s (List.mem_append_right _ hs)).trans (jo s hs)⟩):G:=e
def PT (e:G:=by
 obtain⟨b,n,cap,g1,g2⟩:=h.pr i s k j o e k' es h1 h2
 grind):G:=e
def PV(e:G:=by subst ha;rw[decide_eq_true rfl,bn rfl,bn rfl,FX]):G:=e
def CN (e:G:=by
 cases v with
 |raw v=>cases v<;>simp
 |_=>rfl):G:=e
def Ahp(e:G:=by rw[O1 (k:=k) _ (λcs hcs=>by obtain⟨i,_,rfl⟩:=dm.1 hcs;exact hek i),dB,hsl]):G:=e
def Ahq(e:G:=by rw[he,hd];rw[hd]at ho;simp only[dj,hws,ho,h7,f0,if_false,if_true];rw[<-hd,ob]):G:=e
def Ahr(e:G:=by rw[fk,ak,bz (show k<s.data.size from h)];rfl):G:=e
def Ahs(e:G:=by rw[htk];simp only[PU,Ar,ip,ev,db,fm,gx];exact Zw):G:=e
def Aht (e:G:=by
 have:c1 b=0:=by
  rcases jz (c1 b)with h|h
  .exact h
  .exact cw (hZ.lt b h) hb
 grind):G:=e
def Ahu (e:G:=by
 have:(ew++cv).length=(xs++ys).length*j.size:=by simp[jx];omega
 rw[hcl,<-this,qq]):G:=e
def Ahv (e:G:=by
 have e2:cm b=0:=by
  rcases jz (cm b)with h|h
  .exact h
  .have:=hm.2.2 b h;omega
 grind):G:=e
def Ahw(e:G:=by exact hwp hrun ⟨_,hK,Bc.value (hrf.d7 x) rfl h1 hd hz hs hr1 hrz (λb=>by rw[hcc];have:=hcz b;omega) _⟩):G:=e
def Ahx (e:G:=by
 rintro r (⟨rfl,h⟩|rfl)
 .exact⟨_,W1.nilown 3 1,rfl,by rw[h];rfl⟩
 .exact⟨_,W1.refl _,rfl,rfl⟩):G:=e
def nZ(e:G:=by refine Z4 e1 e2 e3 e4 ?_;exact Zx):G:=e
def PW (e:G:=by
 repeat' split
 all_goals first|trivial|exact bx _):G:=e
def Ahy(e:G:=by rw[lu,Ag hv]at this;exact⟨hrf.less s rfl,S,c,this.congr λb=>hc b,h1,hd,hz,hs⟩):G:=e
def PX(e:G:=by rw[fc,ao,hx];simp[Ar,num]):G:=e
def PY(e:G:=by simp only[ev,db,num,str,pt];exact Zw):G:=e
def Ahz(e:G:=by unfold yielded;unfold Oa at ht;rw[ht];simp only[pk];rw[<-ak,hv,e1]):G:=e
def Ah0 (e:G:=by
 rcases jz (c w.heap.size)with h|h
 .exact h
 .exact cw (hr.lt _ h) (Nat.lt_irrefl _)):G:=e
def Gx(e:G:=by injection h with h;subst h;exact⟨rfl,bx _⟩):G:=e
def QB(e:G:=by simp only[Ar,ev,db,num];exact Zw):G:=e
def Ah1 (e:G:=by
 unfold upd;rw[ar]
 .exact(h6.keep x hx hx0).2
 .intro hxb;subst hxb;have:=h6.own x hx;omega):G:=e
def Ah2 (e:G:=by
 unfold upd;rw[ar]
 .exact(hs.keep x hx hx0).2
 .intro hxb;subst hxb;have:=hs.own x hx;omega):G:=e
def Ah3(e:G:=by unfold yielded;unfold Oa at ht;rw[ht];simp only[pk];rw[<-ak,hv]):G:=e
def Ah4(e:G:=by unfold execOp;simp only[qg,e2,ft,VJ (hT t j e1) e3 hcw,gq,ia]):G:=e
def QC(e:G:=by rw[fk,ao,h];rfl):G:=e
def eM(e:G:=by rw[htake,jl];exact hboth):G:=e
def Ah5(e:G:=by rw[qc,hed];simp only[nz,mf,zE,Mf,num,str,Af];refine Z0 ?_;exact Zx):G:=e
def Ah6(e:G:=by all_goals first|exact λh n=>h.resolve_right n|exact λh n=>h.resolve_left n|grind):G:=e
def Ah7(e:G:=by exact⟨_,_,rfl,⟨_,rfl,λh'=>by simp at h',λ_=>⟨_,_,rfl⟩⟩,rfl,rG rfl rfl,hb⟩):G:=e
def Ah8(e:G:=by have:=jh k' (show j+1<=es.length from hj);rwa [jx,Nat.one_mul]at this):G:=e
def Ah9 (e:G:=by
 cases σ.getD t .any<;>try rfl
 all_goals rename_i v;cases v<;>try rfl
 all_goals cases want<;>rfl):G:=e
def AhA(e:G:=by rw[List.getElem?_take_of_lt hj,ak];simp[putCells,hj,show j<cur.size by omega]):G:=e
def AhB(e:G:=by rw[<-ip,<-ip]at hw;exact U5 k1 (λc a d v w h=>xP h) hw):G:=e
def AhC(e:G:=by refine Zu ?_;refine Bw [num a] [] ⟨rfl,a,om,rfl⟩ (hent (Gw.refl _) ?_);exact Zw;done):G:=e
def AhD(e:G:=by rw[hd]at hm1;refine Z5 ek hg hd wq hwk ?_;exact Zm (m2-1) ⟨rfl,k+1,om,by rw[hm1]⟩):G:=e
def AhE(e:G:=by rw[hm]at h;obtain⟨t,k,h1,h⟩:=PR.bind_ok h;injection h with _ h;have:=Bg h1;omega):G:=e
def CP (e:G:=by
 try simp only[Fe,num,str]
 exact Zw):G:=e
def QD(e:G:=by have:=fq List.length hnl;simp at this;omega):G:=e
def AhF (e:G:=by
 have hr:I4 M la 8 b=Alt:=by rw[hd,h8];simp[I4,hk]
 rw[hr];refine Z2 ek e8 ?_;exact Zx):G:=e
def QE(e:G:=by rw[fc,hx,pi];simp):G:=e
def AhH (e:G:=by
 rcases jz (iq b)with h|h
 .exact h
 .have:=hG.lt _ _ _ _ hgx b h;omega):G:=e
def CQ(e:G:=by exact cw h (Gg (Ep _))):G:=e
def QF (e:G:=by
 have he:fn.results=rs.toArray:=by grind
 simp_all):G:=e
def CR (e:G:=by
 try simp only[num,str,Ll]
 exact Zw):G:=e
def Yc(e:G:=by unfold execOp;simp_all):G:=e
def AhI(e:G:=by exact Ej.ext' oK oK oK oK):G:=e
def AhK (e:G:=by
 rcases jz (cg b)with h|h
 .exact h
 .have:=hG.lt _ _ _ _ hg b h;omega):G:=e
def AhL(e:G:=by refine Z1 ex ?_;refine Bw _ [] ⟨rfl,rfl,λ_=>hx⟩ (hent (Gw.refl _) ?_);exact Zw):G:=e
def QG(e:G:=by rename_i hx;subst hx;rw[hS];exact gu _):G:=e
def AhM(e:G:=by simp only[gx,db];exact Zw):G:=e
def J1(e:G:=by exact .inl rfl):G:=e
def eP(e:G:=by refine Z1 ej ?_;exact Zx):G:=e
def AhN(e:G:=by refine Zu ?_;exact⟨_,K8 m val o.2.2,W1.refl _,rfl,Gw.drop _ (Gw.refl _),rfl,rfl⟩):G:=e
def AhO(e:G:=by rw[ir,<-ob,ki,ki]):G:=e
def AhP(e:G:=by rw[fk,ac hj];exact ko hj):G:=e
def AhQ(e:G:=by rw[hfs,<-rz];exact Ae6 cur _ (by rw[rz,hs];exact jh k hn)):G:=e
def AhR (e:G:=by
 rcases ff.1 hx with h|h
 .grind
 .rw[vu h];rfl):G:=e
def AhS (e:G:=by
 rw[Ik];unfold I2 at ha;split at ha
 .simp at ha;omega
 .simp at ha;omega):G:=e
def AhT(e:G:=by simp[ho,resolve,hc,hca,hct,invoke,builtin,Builtin.len_,fp g6,hev,goInt]):G:=e
def AhU(e:G:=by simp only[List.getD_cons_succ,List.getD_cons_zero];rw[Aab om om]):G:=e
def AhV(e:G:=by simp only[PU,str];exact Zw;done):G:=e
def AhW (e:G:=by
 unfold upd;split
 .rename_i hxb;subst hxb;have:=hs.le x;omega
 .exact hs.le x):G:=e
def AhX(e:G:=by simp only[nj]at this;simp[Instr.loadAt,Instr.sureAddr,loadVar,hagg,this]):G:=e
def R7(e:G:=by exact .inr (.inr h)):G:=e
def oA(e:G:=by exact h.al i s e k es h1 h2):G:=e
def R9(e:G:=by intro m;simp[Instr.sliceAt,fp g6]):G:=e
def AhY (e:G:=by
 rcases hw with rfl|⟨t,rfl⟩
 .exact Below.refl _ _
 .exact rF _ _ _):G:=e
def AhZ(e:G:=by rintro r rfl;refine Zn ?_;exact Zl (k-1) ⟨j+1,om,om,om,rfl⟩):G:=e
def Aia(e:G:=by have:=Pq f _ _ _ t h;simp only[jb,dg]at *;omega):G:=e
def Aib(e:G:=by rw[j0 hi];congr 1;exact(ab.1 hx).2):G:=e
def Aic(e:G:=by simp only[str,Af];refine Z1 hwi ?_;exact Zm (m-1) ⟨rfl,i+1,om,rfl,hn⟩):G:=e
def Aid(e:G:=by unfold execOp;simp only[ho,hev,ft,hrun,gq,ia]):G:=e
def Aie(e:G:=by obtain⟨e,hd⟩:=hdl h.1;exact key _ es.length e1 (.inr ⟨A,cap,e,rfl,hd⟩) h.2):G:=e
def Qs(e:G:=by simpa using this):G:=e
def Aif(e:G:=by unfold execOp;simp only[ho,he,ft,hrun,gq,ia]):G:=e
def Aih(e:G:=by refine Z0 ?_;exact⟨_,_,W1.a6 (B7 (.same .nil)),rfl,Gw.refl _,rfl,rfl⟩):G:=e
def Aii (e:G:=by
 rcases cq b w.heap.size with hb|hb
 .have:=h8.own b hb;grind
 grind):G:=e
def Aij(e:G:=by all_goals first|rfl|(simp[O0,hv,Fu,H3,Lib.join,Oy,str,num, *];done)):G:=e
def Aik (e:G:=by
 rcases jz (c1 b)with h|h
 .exact h
 .have:=hg.lt b h;omega):G:=e
def QJ(e:G:=by simp only[PU];simp only[Af];exact Zw;done):G:=e
def Ail (e:G:=by
 intro n
 induction n with
 |zero=>exact .nil Al
 |succ n ih=>exact .any ih):G:=e
def Aim(e:G:=by simp only[gx,Ia,oq,db,Af];exact Zw):G:=e
def Ain(e:G:=by exact fS hm hd es (λe' h'=>he e' (nh _ h')) h):G:=e
end
end Go.Proofs.YtobhohikfmlccaaGreatDoor
