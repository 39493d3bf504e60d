/- What has been read. -/
import Derived.Test.YtmophjggmekoeaaGreatDoorC31
import Derived.Test.YtmophjggmekoeaaGreatDoorC33
set_option linter.all false
set_option maxRecDepth 100000
set_option maxHeartbeats 4000000
namespace Go.Proofs.YtmophjggmekoeaaGreatDoor
section
open Go.RowKit Go.Proofs
open Go.Shelf
def sZ (val:Ac→Ac) (k:Ac):AV:=.agg [str k,num (Q6 (val k))]
def iO (val:Ac→Ac) (ks:List Ac):List AV:=(dst ks).map (sZ val)
theorem Asr (val:Ac→Ac) (ks:List Ac) (hnd:ks.Nodup) (hl:ks.length≤1000000):B9 Tryz.prog 62 (.row 45 2 (ks.map (sZ val))) [.raw (.func (.func 63) #[] #[])] (fun r y=>r=.tup []∧y=.row 45 2 (iO val ks)):=by
 refine Mx Tryz.laysSlF06_f62 2 oD Tryz.isAgg45 Tryz.sizeOf45 ⟨_,_,Tryz.func62,rfl,oD⟩ (enters_of Tryz.func63 (by kernel_rfl) rfl) ks (dst ks) (sZ val) Ie (fun x _=>⟨_,rfl,rfl⟩) hl ?_ ?_ ?_ hnd ?_ ?_ ?_
 ·intro x _;rw[E8];exact Ex x
 ·intro x _ y _ z _ h1 h2;rw[E8]at h1 h2⊢;exact Bw x y z h1 h2
 ·intro x _ y _;rw[E8,E8];rcases Std.lt_trichotomy x y with h|h|h
  ·exact .inl h
  ·exact .inr (.inl h)
  ·exact Nl
 ·intro x _ y _;exact @AlJ ⟨True,Env.globs⟩ x y _ _
 ·exact (List.perm_ext_iff_of_nodup ((Dw ks).1.imp fun{x y} h e=>by subst e;exact Ex x h) hnd).2 (Dw ks).2
 ·exact (Dw ks).1.imp fun h=>E8.2 h
def Rs:Value→Ac
 |.string b=>b.data.toList
 |_=>[]
theorem iP {w:World} {S:Nat→Nat} (f:Ac→Ac):∀(l:List Ac) (vs:List Value) (d:Nat→Nat),Aa w S (l.map fun k=>str (f k)) vs d→vs=l.map fun k=>Value.string ⟨(f k).toArray⟩
 |[],vs,d,h=>by cases h;rfl
 |k::l,vs,d,h=>by
  change Aa w S (.raw (.string ⟨(f k).toArray⟩)::l.map fun k=>str (f k)) vs d at h
  cases h with
  |raw h1 h=>rw[iP f l _ _ h];rfl
theorem W6 (f:Ac→Ac) (w:World) (S:Nat→Nat):∀l:List Ac,Aa w S (l.map fun k=>str (f k)) (l.map fun k=>Value.string ⟨(f k).toArray⟩) (fun _=>0)
 |[]=>.nil Al
 |k::l=>.raw rfl (W6 f w S l)
theorem Ahp (val:Ac→Ac):∀(l:List MapEntry) (ks:List Ac),l.map (·.key)=ks.map Ic→(l.map (·.val))=ks.map (fun k=>Value.string ⟨(val k).toArray⟩)→l.map (fun e=>Rs e.key)=ks∧∀e∈l,e.key=Ic (Rs e.key)∧e.val=Value.string ⟨(val (Rs e.key)).toArray⟩
 |[],[],_,_=>⟨rfl,oS⟩
 |[],k::ks,h,_=>by simp at h
 |e::l,[],h,_=>by simp at h
 |e::l,k::ks,h1,h2=>by
  simp only[Axx,List.cons.injEq]at h1 h2;obtain⟨g1,g2⟩:=Ahp val l ks h1.2 h2.2;have hk:Rs e.key=k:=by rw[h1.1];rfl
  refine⟨by simp only[Axx,hk,g1],fun x hx=> ?_⟩;rcases Ax2.1 hx with rfl|hx
  ·rw [hk];exact⟨h1.1,h2.1⟩
  ·exact g2 x hx
theorem born_inj:∀{l:List MapEntry},(l.map (·.born)).Nodup→∀x∈l,∀y∈l,x.born=y.born→x=y
 |[],_,x,hx,_,_,_=>by simp at hx
 |e::l,h,x,hx,y,hy,he=>by
  simp only[Axx,List.nodup_cons]at h;rcases Ax2.1 hx with h1|h1<;>rcases Ax2.1 hy with h2|h2
  ·rw [h1,h2]
  ·exact absurd (AxB.2 ⟨y,h2,by rw[←he,h1]⟩) h.1
  ·exact absurd (AxB.2 ⟨x,h1,by rw[he,h2]⟩) h.1
  ·exact born_inj h.2 x h1 y h2 he
theorem Aaf {es:Array MapEntry} {seen:Array Nat} {l:List MapEntry} (hn:(es.toList.map (·.born)).Nodup) (h0:(leftOf es seen).size=0) (h1:l.map (·.born)=seen.toList) (h2:∀e∈l,e∈es.toList) (h3:(l.map (·.born)).Nodup):l.Perm es.toList:=by
 have nd:∀{l:List MapEntry},(l.map (·.born)).Nodup→l.Nodup:=fun{l} h=>by have:=List.Pairwise.of_map (f:=(·.born)) (R:=fun a b:MapEntry=>a≠b) (S:=(·≠ ·)) (fun a b h e=>h (by rw[e])) h;exact this
 refine(List.perm_ext_iff_of_nodup (nd h3) (nd hn)).2 fun e=>⟨h2 e,fun he=> ?_⟩;have hs:=all_seen es seen h0 e he;have hm:e.born∈seen.toList:=by simpa using hs
 rw[←h1]at hm;obtain⟨x,hx,hxe⟩:=AxB.1 hm;rw[←born_inj hn x (h2 x hx) e he hxe];exact hx
theorem Aox:∀(l m:List Nat),l.Nodup→(∀x∈l,x∈m)→l.length≤m.length
 |[],_,_,_=>AxM _
 |x::l,m,h,hs=>by rw[List.nodup_cons]at h;have hx:x∈m:=hs x oS;have:=Aox l (m.erase x) h.2 fun y hy=>(List.mem_erase_of_ne fun e=>h.1 (by rw[←e];exact hy)).2 (hs y (by simp [hy]));rw[List.length_erase_of_mem hx]at this;have:=List.length_pos_of_mem hx;simp only[Axr];omega
def Q8 (rc:AV) (r:Nat) (xs:List AV) (x4 x5 x12:AV):List AV:=.elt rc:: .any:: .nil:: .mine 45 2 xs::x4::x5:: .any:: .any:: .any:: .any:: .raw (.pointer (some ⟨r,0,none⟩)):: .any::x12::List.replicate 13 .any
def tA (es:Array MapEntry) (r:Nat) (w:World):Nat:=match w.heap[r]? with
 |some (.mapIter _ _ seen _)=>(leftOf es seen).size
 |_=>0
section
variable {L : List A2} {T : List (Ac × Ac)} {val : Ac → Ac} {a : E5} {url word : Ac} {m : Nat}
theorem HI.left {dfs:List Deferred} {w0:World} {S0 c0:Nat→Nat} {m r:Nat} {es:Array MapEntry} {clk:Nat} {seen:Array Nat} {σ:List AV} {a:Act} {w:World} (h:HI dfs w0 S0 c0 m r es clk seen σ a w):tA es r w=(leftOf es seen).size:=by obtain⟨S,k,hrf,hr,h1,hd,hz,hs,h2,h3,hml,hrl,hrw,hne,hhm,hhr⟩:=h;unfold tA;rw[hhr]
theorem HI.raw {dfs:List Deferred} {w0:World} {S0 c0:Nat→Nat} {m r:Nat} {es:Array MapEntry} {clk:Nat} {seen:Array Nat} {σ:List AV} {a:Act} {w:World} {t:Nat} {v:Value} (h:HI dfs w0 S0 c0 m r es clk seen σ a w) (ht:σ.getD t .any=.raw v):a.eval (.tmp t)=v:=by obtain⟨S,k,h1,_⟩:=h.open;exact h1.raw ht
theorem AlR (V:Jo L T val) (ks:List Ac) (hnd:ks.Nodup) (hlk:ks.length≤100000):HC Tryz.prog 35 [.elt (.agg (H6 L T a url word m))] (Ur m val ks) (fun r γ=>r=.sl 2 (iO val ks)∧γ=Ur m val ks) (fun _ _=>False):=by
 refine HC.weak (Asq Bo Dv Cq Tryz.func35 (by simp only[Tryz.f35];rfl) oD (by rfl) Tryz.ntmps35 (congrArg Array.toList Tryz.results35) ?_);simp only[LS,Nat.reduceAdd,Nat.reduceSub];simp only[H6,num,str];refine aS (aT Bo Dv Cq [] [] [] (by simp only[Bm,Ri,Ce,Eb,Ed,Cf,C5,AxV,AxO,AxP,Ayi,AxU,Ayb,AxW,Ayg,AxH,cond_false,cond_true,Ia,Hy,H7,H8,H9,Hw,xB,xY,Nat.reduceBEq,Nat.reduceBNe,Hz,Ge,Gz,Hc,I3,Bh,B2,Cm,Ko,Axx,Axv,Nat.reduceMod,Nat.reduceDiv,Bf,C9,AxD,List.getElem?_toArray,List.getElem?_cons_succ,List.getElem?_cons_zero,Bg,cutAt,A8,Em,Nat.reduceAdd,Nat.reduceEqDiff,Nat.reduceLeDiff,Nat.reduceSub,ne_eq,not_false_eq_true,and_self,reduceIte];rfl) oK ?_);refine Z0 ?_;refine aS (aT Bo Dv Cq [] [] [] (by simp only[Bm,Ri,Ce,Eb,Ed,Cf,C5,AxV,AxO,AxP,Ayi,AxU,Ayb,AxW,Ayg,AxH,cond_false,cond_true,Ia,Hy,H7,H8,H9,Hw,xB,xY,Nat.reduceBEq,Nat.reduceBNe,Hz,Ge,Gz,Hc,I3,Bh,B2,Cm,Ko,Axx,Axv,Nat.reduceMod,Nat.reduceDiv,Bf,C9,AxD,List.getElem?_toArray,List.getElem?_cons_succ,List.getElem?_cons_zero,Bg,cutAt,A8,Em,Nat.reduceAdd,Nat.reduceEqDiff,Nat.reduceLeDiff,Nat.reduceSub,ne_eq,not_false_eq_true,and_self,reduceIte];rfl) oK ?_);refine Z0 ?_;refine aS ?_;refine fun dfs w0 S0 c0 a0 w hst=>wp_seq (wp_region ?_);refine Ni Bo Dv (T8 _) [4] (fz:=[]) (K:=fun γ σ=>γ=Ur m val ks∧Wk σ (.elt (.agg (H6 L T a url word m)):: .any:: .nil:: .mine 45 2 []:: .any:: .any:: .any:: .any:: .any:: .raw (.map (some m))::List.replicate 16 .any)) (E:=fun _ _ _=>False) [0,1,2,3] [_,_,_,_] _ _ _ a0 w rfl (by simp only[Bm,Ri,Ce,Eb,Ed,Cf,C5,AxV,AxO,AxP,Ayi,AxU,Ayb,AxW,Ayg,AxH,cond_false,cond_true,Ia,Hy,H7,H8,H9,Hw,xB,xY,Nat.reduceBEq,Nat.reduceBNe,Hz,Ge,Gz,Hc,I3,Bh,B2,Cm,Ko,Axx,Axv,Nat.reduceMod,Nat.reduceDiv,Bf,C9,AxD,List.getElem?_toArray,List.getElem?_cons_succ,List.getElem?_cons_zero,Bg,cutAt,A8,Em,Nat.reduceAdd,Nat.reduceEqDiff,Nat.reduceLeDiff,Nat.reduceSub,ne_eq,not_false_eq_true,and_self,reduceIte];rfl) hst ?_ ?_ (fun _ _ _ _ _ h _=>h.elim)
 ·simp only[Ayp,Ayr,Ays];refine Z0 ?_;simp only[H6,num,str];exact Wi.h
 rintro γ σ a1 w1 hs1 ⟨rfl,hw⟩;unfold wpOps;simp only[List.getElem?_toArray,List.getElem?_cons_succ,List.getElem?_cons_zero];rw[if_pos (by simp [Region.wanted])];refine .inl (A7 ?_ (HI.start (P:=Tryz.prog) rfl (kt:=9) (et:=9) (by kernel_rfl) rfl (hs1.wk hw)));clear hs1 hw hst;rintro a2 w2 ⟨r,es,clk,hI,hk,hb,⟨S,d,hv⟩,hm0⟩;have hv':=iP val ks _ _ hv;obtain⟨hks,hent⟩:=Ahp val es.toList ks hk hv';have hbn:(es.toList.map (·.born)).Nodup:=hb.1.imp fun h=>Nat.ne_of_lt h;have hI0:HI dfs w0 S0 c0 m r es clk #[] (Q8 (.agg (H6 L T a url word m)) r [] .any .any .any) a2 w2:=by refine hI.wk ?_;simp only[Q8,go_sem,AxT,AxZ];exact Wi.h
 clear hI hv;unfold wpOps;refine wp_block (wp_loop (I:=fun a5 w5=>∃seen l,HI dfs w0 S0 c0 m r es clk seen (Q8 (.agg (H6 L T a url word m)) r (l.map fun e=>sZ val (Rs e.key)) .any .any .any) a5 w5∧l.map (·.born)=seen.toList∧(∀e∈l,e∈es.toList)∧(l.map (·.born)).Nodup) (fun _ w5=>tA es r w5) ⟨#[],[],hI0,rfl,oS,oS⟩ ?_);rintro a3 w3 ⟨seen,l,hI3,hl1,hl2,hl3⟩;rw[hI3.left];refine wp_seq (wp_region ?_);show wpOps Tryz.prog _ _ [0,1] a3 w3;unfold wpOps;simp only[List.getElem?_toArray,List.getElem?_cons_succ,List.getElem?_cons_zero];rw[if_pos (by simp [Region.wanted])];refine .inl (A7 ?_ (HI.next (P:=Tryz.prog) rfl rfl hI3 hb.2));rintro a4 w4 (⟨h0,hI4⟩|⟨e,hel,hI4⟩)
 ·refine HI.ops Bo Dv [1] [_] _ (K:=fun σ=>Wk σ (Q8 (.agg (H6 L T a url word m)) r (l.map fun e=>sZ val (Rs e.key)) .any .any (.raw (.bool false)))) rfl (by simp only[Bm,Ri,Ce,Eb,Ed,Cf,C5,AxV,AxO,AxP,Ayi,AxU,Ayb,AxW,Ayg,AxH,cond_false,cond_true,Ia,Hy,H7,H8,H9,Hw,xB,xY,Nat.reduceBEq,Nat.reduceBNe,Hz,Ge,Gz,Hc,I3,Bh,B2,Cm,Ko,Axx,Axv,Nat.reduceMod,Nat.reduceDiv,Bf,C9,AxD,List.getElem?_toArray,List.getElem?_cons_succ,List.getElem?_cons_zero,Bg,cutAt,A8,Em,Nat.reduceAdd,Nat.reduceEqDiff,Nat.reduceLeDiff,Nat.reduceSub,ne_eq,not_false_eq_true,and_self,reduceIte];rfl) hI4 ?_ ?_
  ·exact Am5
  rintro σ5 a5 w5 hK5 hI5;have hI6:=hI5.wk hK5;refine wp_seq (wp_cond_false (hI6.raw (t:=12) rfl) (wp_exit ?_));show Wa dfs w0 S0 c0 _ .normal a5 w5;have hp:(l.map fun e=>Rs e.key).Perm ks:=by have:=(Aaf hbn h0 hl1 hl2 hl3).map fun e:MapEntry=>Rs e.key;rw[hks]at this;exact this
  have hkm:(l.map fun e=>sZ val (Rs e.key))=(l.map fun e=>Rs e.key).map (sZ val):=by rw[Ay4];rfl
  rw[hkm]at hI6;refine⟨Ur m val ks,_,?_,hI6.stop hm0 hk hb (fun w S=>by rw[hv'];exact W6 val w S ks)⟩;have hkd:iO val (l.map fun e=>Rs e.key)=iO val ks:=by unfold iO;rw[ArG fun x=>hp.mem_iff]
  have hnk:=hp.nodup_iff.2 hnd;have hlk2:=hp.length_eq;generalize (l.map fun e=>Rs e.key)=kl at *;show Cd Tryz.prog TT HH (.ext _) _ _ _;refine aT Bo Dv Cq [(6,[100003],[]),(7,[3],[])] [] [] (by simp only[Bm,Ri,Ce,Eb,Ed,Cf,C5,AxV,AxO,AxP,Ayi,AxU,Ayb,AxW,Ayg,AxH,cond_false,cond_true,Ia,Hy,H7,H8,H9,Hw,xB,xY,Nat.reduceBEq,Nat.reduceBNe,Hz,Ge,Gz,Hc,I3,Bh,B2,Cm,Ko,Axx,Axv,Nat.reduceMod,Nat.reduceDiv,Bf,C9,AxD,List.getElem?_toArray,List.getElem?_cons_succ,List.getElem?_cons_zero,Bg,cutAt,A8,Em,Nat.reduceAdd,Nat.reduceEqDiff,Nat.reduceLeDiff,Nat.reduceSub,ne_eq,not_false_eq_true,and_self,reduceIte];rfl) oK ?_;simp only[Q8,str,AxT,AxZ];refine Z0 ?_;refine B9.mono (Asr val kl hnk om) ?_;rintro r y ⟨rfl,rfl⟩;refine Z0 ?_;exact⟨_,_,W1.ownsl _ 2 _,rfl,Gw.refl _,by rw[hkd],rfl⟩
 refine HI.ops Bo Dv [1] [_] _ (K:=fun σ=>Wk σ (Q8 (.agg (H6 L T a url word m)) r (l.map fun e=>sZ val (Rs e.key)) .any .any (.raw (.bool true)))) rfl (by simp only[Bm,Ri,Ce,Eb,Ed,Cf,C5,AxV,AxO,AxP,Ayi,AxU,Ayb,AxW,Ayg,AxH,cond_false,cond_true,Ia,Hy,H7,H8,H9,Hw,xB,xY,Nat.reduceBEq,Nat.reduceBNe,Hz,Ge,Gz,Hc,I3,Bh,B2,Cm,Ko,Axx,Axv,Nat.reduceMod,Nat.reduceDiv,Bf,C9,AxD,List.getElem?_toArray,List.getElem?_cons_succ,List.getElem?_cons_zero,Bg,cutAt,A8,Em,Nat.reduceAdd,Nat.reduceEqDiff,Nat.reduceLeDiff,Nat.reduceSub,ne_eq,not_false_eq_true,and_self,reduceIte];rfl) hI4 ?_ ?_
 ·exact Am5
 rintro σ5 a5 w5 hK5 hI5;have hI6:=hI5.wk hK5;obtain⟨he1,he2⟩:=mem_left hel;obtain⟨hek,hev⟩:=hent e he1;refine wp_seq (wp_cond_true (hI6.raw (t:=12) rfl) (wp_skip ?_));refine wp_block (wp_seq (wp_region ?_));show wpOps Tryz.prog _ _ [0,1,2,3,4] a5 w5;unfold wpOps;simp only[List.getElem?_toArray,List.getElem?_cons_succ,List.getElem?_cons_zero];rw[if_pos (by simp [Region.wanted])];refine .inl (A7 ?_ (HI.entry (P:=Tryz.prog) rfl rfl hI6 he1 hbn (by rw[hek];rfl) (by rw[hev];rfl)));intro a7 w7 hI7;rw[hek,hev]at hI7;refine HI.ops Bo Dv [1,2,3,4] [_,_,_,_] _ (K:=fun σ=>Wk σ (Q8 (.agg (H6 L T a url word m)) r (l.map fun e=>sZ val (Rs e.key)) (str (Rs e.key)) (str (val (Rs e.key))) .any)) rfl (by simp only[Bm,Ri,Ce,Eb,Ed,Cf,C5,AxV,AxO,AxP,Ayi,AxU,Ayb,AxW,Ayg,AxH,cond_false,cond_true,Ia,Hy,H7,H8,H9,Hw,xB,xY,Nat.reduceBEq,Nat.reduceBNe,Hz,Ge,Gz,Hc,I3,Bh,B2,Cm,Ko,Axx,Axv,Nat.reduceMod,Nat.reduceDiv,Bf,C9,AxD,List.getElem?_toArray,List.getElem?_cons_succ,List.getElem?_cons_zero,Bg,cutAt,A8,Em,Nat.reduceAdd,Nat.reduceEqDiff,Nat.reduceLeDiff,Nat.reduceSub,ne_eq,not_false_eq_true,and_self,reduceIte];rfl) hI7 ?_ ?_
 ·simp only[Q8,Ayp,Ayr,Ays,Ic,str,AxT,AxZ];refine Z0 ?_;exact Wi.h
 rintro σ8 a8 w8 hK8 hI8;have hI9:=hI8.wk hK8;refine wp_mono (HI.run (T:=TT) (H:=HH) (Q:=fun ex γ σ=>ex=.normal∧γ=[]∧Wk σ (Q8 (.agg (H6 L T a url word m)) r ((l++[e]).map fun e=>sZ val (Rs e.key)) .any .any .any)) hI9 (aT Bo Dv Cq [] [] [] (by simp only[Bm,Ri,Ce,Eb,Ed,Cf,C5,AxV,AxO,AxP,Ayi,AxU,Ayb,AxW,Ayg,AxH,cond_false,cond_true,Ia,Hy,H7,H8,H9,Hw,xB,xY,Nat.reduceBEq,Nat.reduceBNe,Hz,Ge,Gz,Hc,I3,Bh,B2,Cm,Ko,Axx,Axv,Nat.reduceMod,Nat.reduceDiv,Bf,C9,AxD,List.getElem?_toArray,List.getElem?_cons_succ,List.getElem?_cons_zero,Bg,cutAt,A8,Em,Nat.reduceAdd,Nat.reduceEqDiff,Nat.reduceLeDiff,Nat.reduceSub,ne_eq,not_false_eq_true,and_self,reduceIte];rfl) oK ?_)) ?_
 ·simp only[Q8,str,AxT,AxZ];refine Z0 ?_;refine HC.old (Aos (val (Rs e.key)) (V.len _)) ?_;rintro rr rfl;simp only[num];have hln:(l.map fun e=>sZ val (Rs e.key)).length≤100000:=by have:=Aox (l.map (·.born)) (es.toList.map (·.born)) hl3 (fun x hx=>by obtain⟨y,hy,rfl⟩:=AxB.1 hx;exact AxB.2 ⟨y,hl2 y hy,rfl⟩);have h2:=congrArg List.length hks;simp only[Axp]at this h2⊢;omega
  have hln2:l.length≤100000:=by simpa using hln
  have hsn:(l.map fun e=>sZ val (Rs e.key))++[.agg [.raw (.string ⟨(Rs e.key).toArray⟩),.raw (.int .i64 (Q6 (val (Rs e.key))))]]=(l++[e]).map fun e=>sZ val (Rs e.key):=by rw[AxJ];rfl
  refine Z1 hsn ?_;exact Wi.h
 rintro ex a10 w10 ⟨γ,σ,⟨rfl,rfl,hK⟩,hI10⟩;have hI11:=(hI10 rfl).wk hK;show(∃(seen:Array Nat) (l:List MapEntry),HI dfs w0 S0 c0 m r es clk seen (Q8 (.agg (H6 L T a url word m)) r (l.map fun e=>sZ val (Rs e.key)) .any .any .any) a10 w10∧l.map (·.born)=seen.toList∧(∀e∈l,e∈es.toList)∧(l.map (·.born)).Nodup)∧tA es r w10<_;refine⟨⟨seen.push e.born,l++[e],hI11,?_,?_,?_⟩,?_⟩
 ·simp [hl1]
 ·intro x hx;rcases Ax5.1 hx with hx|hx
  ·exact hl2 x hx
  ·rw [Ax6]at hx;rw[hx];exact he1
 ·rw [AxJ,Axx,Axv];refine List.nodup_append.2 ⟨hl3,oS,fun x hx y hy exy=> ?_⟩;rw[Ax6]at hy;subst hy;subst exy;rw[hl1]at hx;have:seen.contains e.born=true:=by simpa using hx
  rw[this]at he2;cases he2
 ·rw [hI11.left];exact left_shrinks es seen e hel
end
end
section
open Go.RowKit Go.Proofs
def Ey (k:Int):Ac×Ac:=if k=1 then([102,114,111,110,116],[70,114,111,110,116,32,112,97,103,101,10,123,102,111,114,32,108,97,116,101,115,116,32,53,125,123,116,105,116,108,101,124,115,104,111,114,116,125,10,123,101,110,100,125])else([109,97,112],[123,116,111,112,105,99,115,125,10,123,97,117,116,104,111,114,115,125,10,123,102,111,114,32,108,97,116,101,115,116,32,54,52,125,123,117,114,108,125,10,123,101,110,100,125])
theorem pT (k:Int) (hk:k=1∨k=6):Ab Tryz.prog 32 [num k] (fun r=>r=.tup [str (Ey k).1,str (Ey k).2]):=by
 refine HC.plain (N7 [] [] [] Tryz.func32 ?_) ⟨_,rfl⟩;rcases hk with rfl|rfl
 ·simp only[Ey,if_true,num,str];exact Ze
 ·rw [show Ey 6=_ from if_neg oD];simp only[num,str];exact Ze
section
variable {L : List A2} {T : List (Ac × Ac)} {val : Ac → Ac} {a : E5} {url word : Ac} {m : Nat}
theorem AuX (V:Jo L T val) (A:Lm a url word) (h0:∀k∈K8.drop 2,val k=[]) (src:Ac) (l:List Nd) (hs:src.length≤1000000) (hp:(G3 src).2.2=0) (hl:(G3 src).1=l) (h8:l.length≤8) (ho:∀x∈l,nOk x=true) (ks:List Ac):HC Tryz.prog 34 [.elt (.agg (H6 L T a url word m)),str src,num 0] (Ur m val ks) (fun r γ=>r=str (Ig l ⟨[],0,ks⟩).out∧γ=Ur m val (Ig l ⟨[],0,ks⟩).ks) (fun _ _=>False):=by
 refine N7 [] [] [] Tryz.func34 ?_;have k1:HH.cn 79=true:=rfl;simp only[H6,num,str];refine Z0 ?_;refine HC.old (Aho src hs) ?_;rintro r rfl;have e1:=eq_true (show(((G3 src).2.2:Nat):Int)=0 by omega);try simp only[oI,num,str,Ai]
 refine Z2 e1 k1 ?_;intro ad;rw[hl];refine HC.mono (AuU (src_ok (m:=m) V A h0 ad) l ks h8 ho) ?_ (fun _ _ h=>h.elim);rintro r γ ⟨rfl,rfl⟩;generalize Ig l ⟨[],0,ks⟩=o;simp only[num,str,F5];have e2:((0:Int)=0)=True:=eq_true rfl;refine Z2 e1 e2 ?_;exact⟨_,Ur m val o.ks,W1.refl _,rfl,Gw.drop _ (Gw.refl _),rfl,rfl⟩
theorem AlS (V:Jo L T val) (h0:∀k∈K8.drop 2,val k=[]) (hu:url.length≤1000) (hp:D9 url=some a) (A:Lm a url (Ey a.kind).1) (hk:a.kind=1∨a.kind=6) (ka kt:Ac) (qa:97::100::100::114::101::115::115::url=ka) (qt:116::101::109::112::108::97::116::101::47::(Ey a.kind).1=kt) (hka:ka∈K8) (hva:val ka=[49]) (hkt:kt∈K8.drop 2) (hne:ka≠kt)
 (l:List Nd) (hs:(Ey a.kind).2.length≤1000) (hpp:(G3 (Ey a.kind).2).2.2=0) (hl:(G3 (Ey a.kind).2).1=l) (h8:l.length≤8) (ho:∀x∈l,nOk x=true) (o:EvS) (hor:Ig l ⟨[],0,[ka,kt]⟩=o) (hnd:o.ks.Nodup) (hln:o.ks.length≤1000):
 Ab Tryz.prog 10 [.agg [.sl 8 (L.map Dx),.sl 2 (T.map Be)],str url] (fun r=>r=.tup [.agg [str url,str o.out,.sl 2 (iO val o.ks)],num 0]):=by
 refine HC.plain (Zt [] [5] [] Tryz.func10 ?_) ⟨_,rfl⟩;refine HC.old (sP url om) ?_;rintro r rfl;rw[hp];simp only[P3,num,str,Dk];refine Z0 ?_;refine HC.old (pT a.kind hk) ?_;rintro r rfl;simp only[num,str];refine Z0 ?_;refine Oz Bo Dv (T8 _) [34] (by simp only[go_sem,reduceIte];rfl) ?_;refine Z0 ?_;intro m hm;refine Z1 qa ?_;refine HC.mono (aF (a:=a) (url:=url) (word:=(Ey a.kind).1) (m:=m) V ka hka []) ?_ (fun _ _ h=>h.elim);rintro r γ ⟨rfl,rfl⟩;rw[hva,show F4 [] ka=[ka]from rfl];have e0:(([49]:Ac)==[])=false:=oD;have hwl:(Ey a.kind).1.length≤5:=by unfold Ey;split<;>decide
 simp only[num,str];refine Z2 e0 qt ?_;refine HC.mono (aF (a:=a) (url:=url) (word:=(Ey a.kind).1) (m:=m) V kt (AxL hkt) [ka]) ?_ (fun _ _ h=>h.elim);rintro r γ ⟨rfl,rfl⟩;rw[h0 _ hkt,show F4 [ka] kt=[ka,kt] by unfold F4;rw[if_neg (by simpa using fun h=>hne h.symm)];rfl];have e1:(([]:Ac)==[])=true:=oD;have e2:=A.k2;have fin:=AuX (m:=m) V A h0 (Ey a.kind).2 l om hpp hl h8 ho [ka,kt];have fin2:=AlR (L:=L) (T:=T) (a:=a) (url:=url) (word:=(Ey a.kind).1) (m:=m) V o.ks hnd om;rw[hor]at fin;simp only[num,str,H6]at fin fin2⊢;refine Z3 e0 e1 e2 ?_;refine HC.mono fin ?_ (fun _ _ h=>h.elim);rintro r γ ⟨rfl,rfl⟩;refine Z3 e0 e1 e2 ?_;refine HC.mono fin2 ?_ (fun _ _ h=>h.elim);rintro r γ ⟨rfl,rfl⟩;refine Z3 e0 e1 e2 ?_;exact⟨_,[],W1.refl _,rfl,Gw.none _,rfl,rfl⟩
end
end
section
open Go.RowKit Go.Proofs
theorem pU:StG [] []:=by constructor<;>simp
theorem iQ:Fa []=[[47],[47,109,97,112]]:=by have k4:oQ (Zj [])=[[47],[47,109,97,112]]:=oK;unfold Fa;rw[k4];exact Yx oS (fun x=>Iff.rfl)
def Ih (k:Ac):Ac:=if Lib.hasPrefix k [97,100,100,114,101,115,115,47]=true then[49]else[]
theorem Ahq:∀k∈K8.drop 2,Ih k=[]:=oK
def Aoy (k:Ac) (j:Nat) (w:Ac) (n:Nat):Bool:= !Lib.hasPrefix k [97,100,100,114,101,115,115,47]&&(w==(Dy k).getD 0 [])&&n==(Dy k).length&&(fmW.take j).all fun f=> !(f.1==(Dy k).getD 0 [])
theorem aV {k x:Ac} (j:Nat) {w:Ac} {n g:Nat} (hk:k.length≤1000) (hj:fmW[j]? =some (w,n,g)) (h:Aoy k j w n=true) (hx:x=[])
 (hc:Ab Tryz.prog g [str ((Dy k++[[],[]]).getD 1 []),str ((Dy k++[[],[]]).getD 2 []),.elt (.agg [.sl 8 (([]:List A2).map Dx),.sl 2 (([]:List (Ac×Ac)).map Be)])] (fun r=>r=str x)):Ab Tryz.prog 42 [stA [] (([]:List (Ac×Ac)).map Be),str k] (fun r=>r=str (Ih k)):=by
 simp only[Aoy,Ax3,AyR,beq_iff_eq,Ax7]at h;obtain⟨⟨⟨h1,h2⟩,h3⟩,h4⟩:=h;rw[Ih,if_neg (by rw[h1];decide),←hx];refine ArW pU j om h1 hj (by simpa using h2) h3 (fun i hi f hf=>h4 f ?_) hc;exact Axt (i:=i) (by rw[List.getElem?_take,if_pos hi];exact hf)
theorem aW:Jo [] [] Ih:=by
 refine⟨fun key hk=> ?_,fun key=>by unfold Ih;split<;>simp⟩;have hA:∀k:Ac,Lib.hasPrefix k [97,100,100,114,101,115,115,47]=true→k.drop 7∈Fa []→Ab Tryz.prog 42 [stA [] (([]:List (Ac×Ac)).map Be),str k] (fun r=>r=str (Ih k)):=fun k h1 h2=>by have:=ArV pU k h1;rw[if_pos h2]at this;rw[Ih,if_pos h1];exact this
 have hT:∀s,Nh [] s=[]:=fun s=>by unfold Nh;split<;>rfl
 have hL:∀b t,(Iw b fun i=>Mf [] t i)=[]:=fun b t=>by
  have h:∀n,Mf [] t n=[]:=fun n=>by unfold Mf;rw[show Cr t []=[]from rfl,Axv,List.take_nil];rfl
  unfold Iw;split
  ·exact h _
  ·rfl
 simp only[K8,Ax2,AyB,or_false]at hk;show Ab Tryz.prog 42 [stA [] (([]:List (Ac×Ac)).map Be),str key] (fun r=>r=str (Ih key));rcases hk with rfl|rfl|rfl|rfl|rfl|rfl|rfl|rfl
 ·exact hA _ oK (by rw[iQ];decide)
 ·exact hA _ oK (by rw[iQ];decide)
 ·exact AnJ
 ·exact AnJ
 ·exact Ano
 ·exact Ano
 ·exact aV 6 oD rfl oK rfl (zC pU _ _)
 ·exact aV 7 oD rfl oK rfl (zD pU _ _)
end
section
open Go.RowKit Go.Proofs
def k0:List Ac:=[[97,100,100,114,101,115,115,47],[116,101,109,112,108,97,116,101,47,102,114,111,110,116],[108,97,116,101,115,116,47,47,53]]
def k1:List Ac:=[[97,100,100,114,101,115,115,47,109,97,112],[116,101,109,112,108,97,116,101,47,109,97,112],[116,111,112,105,99,115],[97,117,116,104,111,114,115],[108,97,116,101,115,116,47,47,54,52]]
def rdK (ks:List Ac):List (Ac×Int):=(dst ks).map fun k=>(k,Q6 (Ih k))
def p0:Pg:=⟨[47],[70,114,111,110,116,32,112,97,103,101,10],rdK k0⟩
def p1:Pg:=⟨[47,109,97,112],[10,10],rdK k1⟩
def pO:Pg:=⟨[47],[],[([116,111,112,105,99,115],-1)]⟩
def pS:Pg:=⟨[47,115,116,111,114,121,47,49,47,101,110],[],[]⟩
theorem AuY (ks:List Ac):(rdK ks).map rpA=iO Ih ks:=by unfold rdK iO;rw[Ay4];rfl
theorem tB {url:Ac} {a:E5} (ka kt:Ac) (p:Pg) (ks:List Ac) (hu:url.length≤1000) (hp:D9 url=some a) (hk:a.kind=1∨a.kind=6) (hn:Kg a.n) (qa:97::100::100::114::101::115::115::url=ka) (qt:116::101::109::112::108::97::116::101::47::(Ey a.kind).1=kt) (hka:ka∈K8) (hva:Ih ka=[49]) (hkt:kt∈K8.drop 2) (hne:ka≠kt)
 (hs:(Ey a.kind).2.length≤1000) (hpp:(G3 (Ey a.kind).2).2.2=0) (h8:(G3 (Ey a.kind).2).1.length≤8) (ho:(G3 (Ey a.kind).2).1.all nOk=true) (hr1:(Ig (G3 (Ey a.kind).2).1 ⟨[],0,[ka,kt]⟩).out=p.tx) (hr2:(Ig (G3 (Ey a.kind).2).1 ⟨[],0,[ka,kt]⟩).ks=ks) (hnd:ks.Nodup) (hln:ks.length≤1000) (hpu:p.ad=url) (hpr:p.rd=rdK ks):
 Ab Tryz.prog 10 [.agg [.sl 8 [],.sl 2 []],str url] (fun r=>r=.tup [Nk p,num 0]):=by
 have h:=AlS (L:=[]) (T:=[]) (url:=url) aW Ahq hu hp ⟨hn,eq_false om,eq_false om,eq_false om⟩ hk ka kt qa qt hka hva hkt hne _ hs hpp rfl h8 (Ax7.1 ho) _ rfl (by rw[hr2];exact hnd) (by rw[hr2];exact hln);rw[hr1,hr2]at h;simp only[Nk,hpu,hpr,AuY];exact h
theorem Ass:Ab Tryz.prog 10 [.agg [.sl 8 [],.sl 2 []],str [47]] (fun r=>r=.tup [Nk p0,num 0]):=
 tB (a:=⟨1,[],0,[]⟩) _ _ p0 k0 oD (by rfl) (.inl rfl) ⟨oD,oD⟩ rfl rfl oK oK oK oD oK oK oK oK oK oK oD oD rfl rfl
theorem Ast:Ab Tryz.prog 10 [.agg [.sl 8 [],.sl 2 []],str [47,109,97,112]] (fun r=>r=.tup [Nk p1,num 0]):=
 tB (a:=⟨6,[],0,[]⟩) _ _ p1 k1 oD (by rfl) (.inr rfl) ⟨oD,oD⟩ rfl rfl oK oK oK oD oK oK oK oK oK oK oD oD rfl rfl
theorem Jr (ks:List Ac):C7 Ih (rdK ks)=true:=by unfold C7 rdK;rw[Ax7];intro r hr;obtain⟨k,_,rfl⟩:=AxB.1 hr;simp
theorem Ahr (ks:List Ac) (hk:ks.length≤10) (h:∀k∈ks,k∈K8):(rdK ks).length≤1000000∧∀r∈rdK ks,r.1∈K8:=by refine⟨by unfold rdK;rw[Axp];have:=Rj ks;omega,fun r hr=> ?_⟩;obtain⟨k,hk2,rfl⟩:=AxB.1 hr;exact h k (((Dw ks).2 k).1 hk2)
def POk (p:Pg):Prop:=p.rd.length≤1000000∧∀r∈p.rd,r.1∈K8
theorem pk0:POk p0:=Ahr k0 oD oD
theorem pk1:POk p1:=Ahr k1 oD oD
theorem pkO:POk pO:=⟨oD,oD⟩
theorem pkS:POk pS:=⟨oD,oD⟩
theorem tC:C7 Ih pO.rd=false:=by have:0≤Q6 (Ih [116,111,112,105,99,115]):=oK;simp only[C7,pO,Azb,List.all_nil,Ayb];exact decide_eq_false om
theorem Ahs {R:Ac→Ac→Prop} (hir:∀x,¬R x x) (has:∀x y,R x y→R y x→False):∀{l m:List Ac},l.Pairwise R→m.Pairwise R→(∀x,x∈l↔x∈m)→l=m
 |[],[],_,_,_=>rfl
 |[],y::m,_,_,h=>absurd ((h y).2 oS) oS
 |x::l,[],_,_,h=>absurd ((h x).1 oS) oS
 |x::l,y::m,h1,h2,h=>by
  rw[AxN]at h1 h2
  have hxy:x=y:=by
   rcases Ax2.1 ((h x).1 oS)with e|e
   ·exact e
   ·rcases Ax2.1 ((h y).2 oS)with e'|e'
    ·exact e'.symm
    ·exact (has x y (h1.1 y e') (h2.1 x e)).elim
  subst hxy;rw[Ahs hir has h1.2 h2.2 fun z=> ?_];have:=h z;simp only[Ax2]at this;constructor
  ·intro hz;rcases this.1 (.inr hz)with e|e
   ·subst e;exact(hir z (h1.1 z hz)).elim
   ·exact e
  ·intro hz;rcases this.2 (.inr hz)with e|e
   ·subst e;exact(hir z (h2.1 z hz)).elim
   ·exact e
theorem tD (x y:Ac) (h:Vf x y<0) (h':Vf y x<0):False:=by
 rw[O0]at h h';rcases h with h|⟨h,g⟩<;>rcases h' with h'|⟨h',g'⟩
 ·omega
 ·omega
 ·omega
 ·exact Ex x (Bw x y x g g')
theorem tE (x:Ac):¬Vf x x<0:=fun h=>tD x x h h
theorem AlT (x:Ac):¬Ie x x<0:=by rw[E8];exact Ex x
theorem AlU (x y:Ac) (h:Ie x y<0) (h':Ie y x<0):False:=by rw[E8]at h h';exact Ex x (Bw x y x h h')
abbrev AlV:List Ac:=[[47],[47,109,97,112]]
theorem Avb:Ab Tryz.prog 17 [.agg [.sl 8 (([]:List A2).map Dx),.sl 2 (([]:List (Ac×Ac)).map Be)]] (fun r=>r=.sl 1 ((Fa []).map str)):=ArU pU
theorem aX (ps:List Pg) (hp:ps.length≤1000) (hpk:∀p∈ps,POk p) (D0 E0:List Ac) (hD:D0.Pairwise fun x y=>Vf x y<0) (hE:E0.Pairwise fun x y=>Ie x y<0)
 (hDm:∀x,x∈D0↔x∈AlV∧(B4 Ih AlV ps).1 x=false) (hEm:∀x,x∈E0↔x∈(B4 Ih AlV ps).2):Ab Tryz.prog 6 [.sl 3 (ps.map Nk),.agg [.sl 8 [],.sl 2 []]] (fun r=>r=.tup [.sl 1 (D0.map str),.sl 1 (E0.map str)]):=by
 have h:=Ahe (L:=[]) (T:=[]) (val:=Ih) ps Avb (by rw[iQ];decide) (by rw[iQ];decide) (fun _=>aW) hp hpk;rw[iQ]at h;refine h.mono ?_;rintro r ⟨D,E,rfl,h1,h2,h3,h4⟩;rw[Ahs tE tD h1 hD fun x=>(h2 x).trans (hDm x).symm,Ahs AlT AlU h3 hE fun x=>(h4 x).trans (hEm x).symm]
end
section
open Go.RowKit Go.Proofs
theorem Awu:Ab Tryz.prog 6 [.sl 3 [],.agg [.sl 8 [],.sl 2 []]] (fun r=>r=.tup [.sl 1 [str [47],str [47,109,97,112]],.sl 1 []]):=
 aX [] oD oS AlV [] oK oS (fun x=>by simp [B4]) (fun x=>by simp [B4])
theorem Awv:Ab Tryz.prog 6 [.sl 3 [Nk p0,Nk p1],.agg [.sl 8 [],.sl 2 []]] (fun r=>r=.tup [.sl 1 [],.sl 1 []]):=by
 refine aX [p0,p1] oD (fun p hp=> ?_) [] [] oS oS (fun x=> ?_) (fun x=> ?_)
 ·simp only[Ax2,AyB,or_false]at hp;rcases hp with rfl|rfl
  ·exact pk0
  ·exact pk1
 ·have h0:p0.ad=[47]:=rfl;have h1:p1.ad=[47,109,97,112]:=rfl;have f0:C7 Ih p0.rd=true:=Jr k0;have f1:C7 Ih p1.rd=true:=Jr k1;simp [B4,Ke,h0,h1,f0,f1];all_goals exact fun h n=>h.resolve_right n
 ·have h0:p0.ad=[47]:=rfl;have h1:p1.ad=[47,109,97,112]:=rfl;simp [B4,Ke,h0,h1]
theorem Aww:Ab Tryz.prog 6 [.sl 3 [Nk p1,Nk p0,Nk pS],.agg [.sl 8 [],.sl 2 []]] (fun r=>r=.tup [.sl 1 [],.sl 1 [str [47,115,116,111,114,121,47,49,47,101,110]]]):=by
 refine aX [p1,p0,pS] oD (fun p hp=> ?_) [] [[47,115,116,111,114,121,47,49,47,101,110]] oS oS (fun x=> ?_) (fun x=> ?_)
 ·simp only[Ax2,AyB,or_false]at hp;rcases hp with rfl|rfl|rfl
  ·exact pk1
  ·exact pk0
  ·exact pkS
 ·have h0:p0.ad=[47]:=rfl;have h1:p1.ad=[47,109,97,112]:=rfl;have h2:pS.ad=[47,115,116,111,114,121,47,49,47,101,110]:=rfl;have f0:C7 Ih p0.rd=true:=Jr k0;have f1:C7 Ih p1.rd=true:=Jr k1;simp [B4,Ke,h0,h1,h2,f0,f1];exact Anf
 ·have h0:p0.ad=[47]:=rfl;have h1:p1.ad=[47,109,97,112]:=rfl;have h2:pS.ad=[47,115,116,111,114,121,47,49,47,101,110]:=rfl;simp [B4,Ke,h0,h1,h2]
theorem Awx:∃E:List Ac,Ab Tryz.prog 6 [.sl 3 [Nk pO,Nk p1],.agg [.sl 8 [],.sl 2 []]] (fun r=>r=.tup [.sl 1 [str [47]],.sl 1 (E.map str)]):=by
 refine⟨[],aX [pO,p1] oD (fun p hp=> ?_) [[47]] [] oS oS (fun x=> ?_) (fun x=> ?_)⟩
 ·simp only[Ax2,AyB,or_false]at hp;rcases hp with rfl|rfl
  ·exact pkO
  ·exact pk1
 ·have h0:pO.ad=[47]:=rfl;have h1:p1.ad=[47,109,97,112]:=rfl;have f1:C7 Ih p1.rd=true:=Jr k1;have f0:=tC;simp [B4,Ke,h0,h1,f0,f1];exact Anf
 ·have h0:pO.ad=[47]:=rfl;have h1:p1.ad=[47,109,97,112]:=rfl;simp [B4,Ke,h0,h1]
theorem Awy:Ab Tryz.prog 9 [.sl 3 [Nk pO,Nk pO,Nk p1],str [116,111,112,105,99,115]] (fun r=>∃D:List Ac,r=.own 9 1 (D.map str)∧D[0]? =some [47]):=by
 refine Ab.mono (Ahd [pO,pO,p1] [116,111,112,105,99,115] oD (fun p hp=> ?_)) ?_
 ·simp only[Ax2,AyB,or_false]at hp;rcases hp with rfl|rfl|rfl
  ·exact pkO.1
  ·exact pkO.1
  ·exact pk1.1
 ·rintro r ⟨D,rfl,h1,h2⟩;refine⟨D,rfl,?_⟩;have hm:[47]∈D:=(h2 _).2 (by simp [Jp,pO])
  have ha:∀x∈D,x=[47]∨x=[47,109,97,112]:=fun x hx=>by
   have:=(h2 x).1 hx;rw[AxB]at this;obtain⟨p,hp,rfl⟩:=this;have hp:=(Ayj.1 hp).1;simp only[Ax2,AyB,or_false]at hp;rcases hp with rfl|rfl|rfl
   ·exact Ho
   ·exact Ho
   ·exact .inr rfl
  cases D with
  |nil=>simp at hm
  |cons y D=>
   rw[AxN]at h1;show some y=some [47];rcases ha y oS with rfl|rfl
   ·rfl
   ·rcases Ax2.1 hm with e|e
    ·exact absurd e oD
    ·exact absurd (h1.1 _ e) oK
end
section
open Go.RowKit Go.Proofs
theorem W1.mine0 (e k:Nat):W1 (.mine e k []) (.own e k []):=fun w S v c h=>by
 cases h with
 |mineE h=>exact⟨c,.ownE h,fun _=>Axu _⟩
 |mine hn hcap hk hb hs hS h1 h0 ho h hc=>exact⟨c,.own hn hcap hk hb hs (by rw[hS];simp) h1 h0 ho h hc,fun _=>Axu _⟩
theorem iR {e k:Nat} {xs ys:List AV} (h:Wk xs ys):Wk (.mine e k []::xs) (.own e k []::ys):=.cons (W1.mine0 e k) rfl h
instance (priority:=20) {U:Nat} {xs ys cs ds:List AV} [Wi xs ys] [Wi cs ds]:Wi (.box U cs::xs) (.box U ds::ys):=⟨Ep Wi.h Wi.h⟩
section
variable {P : Program} {T : Bd} {H : Gy}
def Avc (P:Program) (T:Bd) (H:Gy) (Q:Exit→List AV→List AV→Prop) (cs:List CO) (γ σ:List AV):Prop:=∃σ2,Wk σ σ2∧E7 P T H ovN [] (Q .normal) (wI Q) cs γ σ2
theorem Ml {Q:Exit→List AV→List AV→Prop} {cs:List CO} {γ σ σ2:List AV} (hw:Wk σ σ2) (h:E7 P T H ovN [] (Q .normal) (wI Q) cs γ σ2):Avc P T H Q cs γ σ:=⟨σ2,hw,h⟩
theorem H5 (hT:Am P T) (hH:Cl P H) (n:Nat) {id:Nat} {ops:Array Oper} {cs1 cs2:List CO} {Q:Exit→List AV→List AV→Prop} {γ σ:List AV} (h1:B2 ops (ops.toList.take n)=some cs1) (h2:B2 ops (ops.toList.drop n)=some cs2)
 (hb1:E7 P T H ovN [] (fun γ' σ'=>Avc P T H Q cs2 γ' σ') (wI Q) cs1 γ σ):Cd P T H (.ext (.region id ops false)) Q γ σ:=fun dfs w0 S0 c0 a w hst=>by
 refine wp_region ?_;have hl:(List.range ops.size).map (ops[·]?)=ops.toList.map some:=by exact qG
 rw[←AxR n (List.range ops.size)];refine Ni hT hH (T8 P) _ _ (ops.toList.take n) cs1 γ σ a w ?_ h1 hst hb1 (fun γ' σ' a' w' hs hk=> ?_) (fun v γ' σ' a' w' hE hs=>⟨γ',σ',hE,hs⟩)
 ·rw [AyK,AyK,hl]
 ·obtain ⟨σ2,hw,hb2⟩:=hk;refine Ix hT hH (T8 P) _ (ops.toList.drop n) cs2 _ σ2 a' w' ?_ h2 (hs.wk hw) hb2 (fun γ'' σ'' a'' w'' hs2 hK=>⟨γ'',σ'',hK,hs2⟩) (fun v γ'' σ'' a'' w'' hE hs2=>⟨γ'',σ'',hE,hs2⟩);rw[AyJ,AyJ,hl]
end
end
section
open Go.RowKit Go.Proofs
theorem Avd {a b:AV} {xs ys:List AV} (h:Wk xs ys):Wk (.agg [a,b,.nil]::xs) (.agg [a,b,.sl 2 []]::ys):=K1 (.same (.same (A1 .nil))) h
theorem Awz:Ab Tryz.prog 12 [.agg [str [],str [],.sl 2 []],.agg [.sl 8 [],.sl 2 []]] (fun r=>r=Ai true):=
 sU aW ⟨[],[],[]⟩ oD oD
theorem Aw0:Ab Tryz.prog 12 [Nk pO,.agg [.sl 8 [],.sl 2 []]] (fun r=>r=Ai false):=by have h:=sU aW pO pkO.1 pkO.2;rw[tC]at h;exact h
theorem Aw1:Ab Tryz.prog 11 [.sl 1 [str [47],str [47,109,97,112]],.sl 1 [str [47],str [47,109,97,112]]] (fun r=>r=Ai true):=aI [[47],[47,109,97,112]] [[47],[47,109,97,112]] oD oD
theorem Aw2:Ab Tryz.prog 11 [.sl 1 [str [47,115,116,111,114,121,47,49,47,101,110]],.sl 1 [str [47,115,116,111,114,121,47,49,47,101,110]]] (fun r=>r=Ai true):=aI [[47,115,116,111,114,121,47,49,47,101,110]] [[47,115,116,111,114,121,47,49,47,101,110]] oD oD
theorem Aw3:Ab Tryz.prog 11 [.sl 1 [str [47]],.sl 1 [str [47]]] (fun r=>r=Ai true):=aI [[47]] [[47]] oD oD
theorem Ave:Ab Tryz.prog 4 [] (fun r=>r=Ai true):=by
 have e00:((0:Int)<((0:Nat):Int))=False:=eq_false oD;refine HC.plain (Zt [] [6] [] Tryz.func4 ?_) ⟨_,rfl⟩;refine HC.wk (HC.old (Awu) ?_) ?_;rotate_left
 ·exact qR
 rintro r rfl;refine Zn ?_;refine HC.wk (HC.old (Ass) ?_) ?_;rotate_left
 ·exact qR
 rintro r rfl;try simp only[Nk,num,str,Ai]
 refine Zu ?_;refine HC.wk (HC.old (Ast) ?_) ?_;rotate_left
 ·exact qR
 rintro r rfl;try simp only[Nk,num,str,Ai]
 refine Zu ?_;refine HC.wk (HC.old (Awv) ?_) ?_;rotate_left
 ·exact qR
 rintro r rfl;refine Zn ?_;refine H5 (cs1:= ?c1) (cs2:= ?c2) Bo Dv 3 ?e1 ?e2 ?h1
 case e1=>rfl
 case e2=>rfl
 simp only[Ayp,Ayr,Ays];simp only[go_sem];refine Zu ?_;apply Ml
 ·repeat first|exact Wk.nil|apply Avd|apply Wk.same
 refine Zu ?_;refine HC.wk (HC.old (Aww) ?_) ?_;rotate_left
 ·try simp only[num,str,Nk,Axv,pS,rpA]
  exact Zw
 rintro r rfl;refine Zn ?_;obtain⟨E,hz⟩:=Awx;refine HC.wk (HC.old (hz) ?_) ?_;rotate_left
 ·exact AaE
 rintro r rfl;refine Zn ?_;refine HC.wk (HC.old (Awy) ?_) ?_;rotate_left
 ·exact AaE
 rintro r ⟨D,rfl,hD⟩
 obtain⟨D1,rfl⟩:∃D1,D=[47]::D1:=by
  cases D with
  |nil=>simp at hD
  |cons y D1=>simp at hD;exact⟨D1,by rw[hD]⟩
 have eD:((0:Int)<((D1.length+1:Nat):Int))=True:=eq_true om;try simp only[num,str,Ai]
 repeat' first|refine Aj.on (fun _=>?_) (fun _=>?_)|with_reducible refine gd ?_|simp only[go_sem,Axx,Axv,e00]
 refine HC.wk (HC.old (Aw1) ?_) ?_;rotate_left
 ·try simp only[str]
  exact Zw
 rintro r rfl;try simp only[num,str,Ai]
 repeat' first|refine Aj.on (fun _=>?_) (fun _=>?_)|with_reducible refine gd ?_|simp only[go_sem,Axx,Axv,e00]
 refine HC.wk (HC.old (Aw2) ?_) ?_;rotate_left
 ·try simp only[str]
  exact Zw
 rintro r rfl;try simp only[num,str,Ai]
 repeat' first|refine Aj.on (fun _=>?_) (fun _=>?_)|with_reducible refine gd ?_|simp only[go_sem,Axx,Axv,e00]
 refine HC.wk (HC.old (Aw3) ?_) ?_;rotate_left
 ·try simp only[str]
  exact Zw
 rintro r rfl;refine Zn ?_;refine HC.wk (HC.old (Awz) ?_) ?_;rotate_left
 ·try simp only[str]
  exact Zw
 rintro r rfl;refine Zn ?_;refine HC.wk (HC.old (Aw0) ?_) ?_;rotate_left
 ·exact AaE
 rintro r rfl;refine Zn ?_;exact Qu
end
section
open Go.RowKit Go.Proofs
def pickF (c:Int) (n:Nat):Nat:=(if c<0 then -(c+1)else c).toNat % n
theorem Ee (c:Int) {n:Nat} (h:0<n):pickF c n<n:=Nat.mod_lt _ h
theorem W7 (x:Int):Kg (IntKind.i64.wrap x):=by unfold Kg;rw[IntKind.wrap_i64];omega
theorem Aht (x:Int):∃d:UInt8,IntKind.u8.wrap x=((d.toNat:Nat):Int):=by refine⟨UInt8.ofNat (IntKind.u8.wrap x).toNat,?_⟩;rw[UInt8.toNat_ofNat',IntKind.wrap_u8];omega
theorem E1 (a:Int) (ha:Kg a) (n:Nat) (hn:0<n) (hn2:n≤1000000):Ab Tryz.prog 15 [num a,num n] (fun r=>r=num (pickF a n:Nat)):=by
 obtain⟨h1,h2⟩:=ha;refine Ir [] Tryz.func15 ⟨_,rfl⟩ ?_;have hn0:¬(n:Int)=0:=om;by_cases ha:a<0
 ·have ea:=eq_true ha;have hw1:IntKind.i64.wrap (a+1)=a+1:=Cj om om;have hw2:IntKind.i64.wrap (0-(a+1))= -(a+1):=by rw[Cj om om];omega
  have hm:=Oe (x:= -(a+1)) (n:=n) om;refine Zu ?_;simp only[pickF,ea,if_true]
 have ea:=eq_false ha;have hm:=Oe (x:=a) (n:=n) om;refine Zu ?_;simp only[pickF,ea,if_false]
theorem pV (a:Int) (ha:Kg a):Ab Tryz.prog 64 [num a] (fun r=>∃s:Ac,s.length=9∧r=str s):=by have ha':=ha;obtain⟨h1,h2⟩:=ha';refine Zs [] Tryz.func64 ⟨str (List.replicate 9 0),_,oS,rfl⟩ ?_;refine(E1 a ha 26 om om).mono ?_;rintro r rfl;simp only[num];have hk:=Ee a (n:=26) om;have hk2:=Ee (IntKind.i64.wrap (a.tdiv 26)) (n:=26) om;obtain⟨d,hd⟩:∃d:UInt8,IntKind.u8.wrap (IntKind.i64.wrap (97+(pickF a 26:Nat)))=((d.toNat:Nat):Int):=Aht _;obtain⟨e,he⟩:∃d:UInt8,IntKind.u8.wrap (IntKind.i64.wrap (97+(pickF (IntKind.i64.wrap (a.tdiv 26)) 26:Nat)))=((d.toNat:Nat):Int):=Aht _;have hbs:[AV.raw (.int .u8 ((d.toNat:Nat):Int)),.raw (.int .u8 ((e.toNat:Nat):Int))].map view=A5 [d,e]:=rfl;refine Zu ?_;refine Za (E1 (IntKind.i64.wrap (a.tdiv 26)) (W7 _) 26 om om) ?_;exact⟨[87,111,114,100,115,32]++[d,e]++[46],rfl,oS⟩
end
section
open Go.RowKit Go.Proofs
def Aoz (t:Ac) (i:Nat):Bool:=decide (1≤i)&&(decide (65≤(((t.getD (i-1) 0).toNat:Nat):Int))&&decide ((((t.getD (i-1) 0).toNat:Nat):Int)≤90)&&(decide (i=1)||decide ((((t.getD (i-2) 0).toNat:Nat):Int)=32)))
def pW (t:Ac) (i:Nat):Bool:=((decide ((((t.getD i 0).toNat:Nat):Int)=46)&& !Aoz t i)||(decide ((((t.getD i 0).toNat:Nat):Int)=33)||decide ((((t.getD i 0).toNat:Nat):Int)=63)))&&(decide (t.length≤i+1)||decide ((((t.getD (i+1) 0).toNat:Nat):Int)=32))
def Ao0 (t:Ac) (s:Nat):List Ac:=if Lib.trimB (t.drop s) 32=[]then[]else[Lib.trimB (t.drop s) 32]
def Q9 (t:Ac):Nat→Nat→Nat→List Ac
 |0,s,_=>Ao0 t s
 |m+1,s,i=>if pW t i=true then Lib.trimB ((t.drop s).take (i+1-s)) 32::Q9 t m (i+1) (i+1)else Q9 t m s (i+1)
theorem W8 (t:Ac) (m s i:Nat):Q9 t (m+1) s i=if pW t i=true then Lib.trimB ((t.drop s).take (i+1-s)) 32::Q9 t m (i+1) (i+1)else Q9 t m s (i+1):=rfl
def Ahu (t:Ac):List Ac:=Q9 t t.length 0 0
theorem AlW {s:List Ac} {pre rest:List Ac} {x:Ac} (he:s=pre++x::rest):s=(pre++[x])++rest:=by rw[he];simp
theorem Aag (s:Ac) (c:UInt8):(Lib.trimRightB s c).Sublist s:=by unfold Lib.trimRightB;have:=(List.dropWhile_sublist (l:=s.reverse) (·==c)).reverse;exact G5
theorem Ahv (s:Ac) (c:UInt8):(Lib.trimB s c).Sublist s:=by unfold Lib.trimB Lib.trimLeftB;exact(List.dropWhile_sublist _).trans (Aag s c)
end
section
open Go.RowKit Go.Proofs
set_option maxRecDepth 1000000 in
set_option maxHeartbeats 4000000 in
theorem Aah (s:ByteArray) (i:Nat) (hi:i<s.size) (hs:s.size≤1000000000000) (w:World):
 Calls Tryz.prog 248 #[.string s,.int .i64 i] w fun e w'=>e=.returned (.bool (pW s.data.toList i))∧Below w.heap.size w w':=by
 have hsz:s.data.toList.length=s.size:=Ay1;have hat:∀k (h:k<s.size),s.data.toList.getD k 0=s[k]'h:=fun k h=>by rw[Axy,Array.getElem?_toList,Array.getElem?_eq_getElem (show k<s.data.size from h)];rfl
 have HAT:Hid (∀k (h:k<s.size),s.data.toList.getD k 0=s[k]'h):=hat;have HSZ:Hid (s.data.toList.length=s.size):=hsz;clear hat hsz
 go_enter Tryz.func248,Tryz.ntmps248
 go_wp2
 all_goals go_ret
 all_goals
  refine⟨?_,Below.refl _ _⟩;refine congrArg (fun b=>Ending.returned (.bool b)) ?_;unfold pW Aoz;rw[HSZ.out,HAT.out i hi]
 all_goals
  by_cases h1:1≤i
 all_goals first|(exfalso;omega)|skip
 all_goals try rw[HAT.out (i-1) om]
 all_goals
  by_cases h2:2≤i
 all_goals try rw[HAT.out (i-2) om]
 all_goals
  by_cases h3:i+1<s.size
 all_goals first|(exfalso;omega)|skip
 all_goals try rw[HAT.out (i+1) h3]
 all_goals rw[Bool.eq_iff_iff]
 all_goals simp only[Ax3,Ayk,decide_eq_true_eq,beq_iff_eq,Ax0,true_iff,false_iff,AyR,Bool.and_eq_false_iff,Bool.or_eq_false_iff,decide_eq_false_iff_not,bne_iff_ne,ne_eq]
 all_goals try simp only[Nat.sub_sub,Nat.reduceAdd]
 all_goals first
  |omega
  |(simp only[AyR,Bool.not_eq_false',decide_eq_false_iff_not,decide_eq_true_eq,Ax3,Ayk,Bool.and_eq_false_iff,Bool.or_eq_false_iff,beq_iff_eq,bne_iff_ne,ne_eq]at *;omega)
theorem AlX (t:Ac) (i:Nat) (hi:i<t.length) (ht:t.length≤1000000000000):Ab Tryz.prog 248 [str t,num i] (fun r=>r=Ai (pW t i)):=by refine D6 Yy ⟨_,_,Tryz.func248,rfl,oD⟩ _ rfl fun w S vs c hz hv=> ?_;obtain⟨us,rfl,h⟩:=D7 hv;obtain⟨us,rfl,h2⟩:=D7 h;obtain⟨rfl,_⟩:=h2.zero;refine(Aah (Cy t) i (by show i<t.toArray.size;simpa using hi) (by show t.toArray.size≤_;simpa using ht) w).mono ?_;exact AnM
end
section
open Go.RowKit Go.Proofs
structure Bk where
 id:Int
 kd:Int
 tx:Ac
 so:Int
 rf:Int
 un:Int
 af:List Int
 ap:Int
 de:Int
def Dl (b:Bk):AV:=.agg [num b.id,num b.kd,str b.tx,num b.so,num b.rf,num b.un,.sl 1 (nums b.af),num b.ap,num b.de]
def laA (b:Bk):AV:=.agg [num b.un,.sl 1 (nums b.af),num b.ap,num b.de]
theorem Ls {l:List Bk} {j:Nat} {x:Bk} (h:l[j]? =some x):(l.map Dl).getD j .any=.agg [.raw (.int .i64 x.id),.raw (.int .i64 x.kd),.raw (.string ⟨x.tx.toArray⟩),.raw (.int .i64 x.so),.raw (.int .i64 x.rf),.raw (.int .i64 x.un),.sl 1 (nums x.af),.raw (.int .i64 x.ap),.raw (.int .i64 x.de)]:=by simp [h,Dl,num,str]
structure Ii (b:Bk):Prop where
 tx:b.tx.length≤1000000000
 af:b.af.length≤1000000000
theorem AlY (b:Bk) (hb:Ii b):Ab Tryz.prog 326 [laA b] (fun r=>∃b,r=Ai b):=by
 have hba:=hb.af;simp only[laA];refine Ir [] Tryz.func326 ⟨_,true,rfl⟩ ?_;repeat' first|refine Aj.on (fun _=>?_) (fun _=>?_)|with_reducible refine gd ?_|simp only[go_sem,Axp,nums_length]
 all_goals try exact⟨_,rfl⟩
 refine Ap (rl [5,55]) [3,4] (fun n ys=>∃(j:Nat) (z:Int),j+n=b.af.length∧ys=[num z,num j]) ⟨b.af.length,_,⟨0,0,om,rfl⟩,?_⟩ ?_
 ·exact Zw
 ·rintro n ys ⟨j,z,hn,rfl⟩;simp only[PU];rcases Axz j b.af.length with hlt|hge
  ·have ej:=eT j b.af.length;obtain⟨x,hx,hd⟩:=drop_at hlt;have hgx:=Og hx;have hw:=wS j;repeat' first|refine Aj.on (fun _=>?_) (fun _=>?_)|with_reducible refine gd ?_|simp only[go_sem,ej,hgx,hw,Axp,nums_length]
   all_goals first
    |(exact⟨_,rfl⟩)
    |(refine Az (n-1) [num x,num ((j+1:Nat):Int)] om ⟨j+1,x,om,rfl⟩ ?_
      exact Zw;done)
  have ej:=eU j b.af.length;exact Ao6
theorem Ahw (b c:Bk) (hb:Ii b) (hc:Ii c):Ab Tryz.prog 350 [laA b,laA c] (fun r=>∃b,r=Ai b):=by
 have hba:=hb.af;have hca:=hc.af;simp only[laA];refine Ir [] Tryz.func350 ⟨_,true,rfl⟩ ?_;simp (decide:=true) only[En [3,2,5] [2500003,2000002] [] [[2],[21,2],[5],[21],[],[3],[26,3],[5],[26],[],[]],AxE,AxX,AxY];by_cases hl:b.af.length=c.af.length;rotate_left
 ·have el:=eq_false (show¬((b.af.length:Int)=(c.af.length:Int)) by omega);repeat' first|refine Aj.on (fun _=>?_) (fun _=>?_)|with_reducible refine gd ?_|simp only[go_sem,el,Axp,nums_length]
  all_goals exact⟨_,rfl⟩
 have el:=eq_true (show((b.af.length:Int)=(c.af.length:Int)) by omega);refine Zu ?_;refine Ap (rl [6,44]) [5] (fun n ys=>∃j:Nat,j+n=b.af.length∧ys=[num j]) ⟨b.af.length,_,⟨0,om,rfl⟩,?_⟩ ?_
 ·exact Zw
 ·rintro n ys ⟨j,hn,rfl⟩;simp only[PU];rcases Axz j b.af.length with hlt|hge
  ·have ej:=eT j b.af.length;obtain⟨x,hx,hd⟩:=drop_at hlt;have hgx:=Og hx;have hw:=wS j;obtain⟨y,hy,hd2⟩:=drop_at (show j<c.af.length by omega);have hgy:=Og hy;have ek:=eT j c.af.length;repeat' first|refine Aj.on (fun _=>?_) (fun _=>?_)|with_reducible refine gd ?_|simp only[go_sem,ej,hgx,hw,Axp,nums_length,hgy,ek]
   all_goals first
    |(exact⟨_,rfl⟩)
    |(refine Az (n-1) [num ((j+1:Nat):Int)] om ⟨j+1,om,rfl⟩ ?_
      exact Zw;done)
  have ej:=eU j b.af.length;repeat' first|refine Aj.on (fun _=>?_) (fun _=>?_)|with_reducible refine gd ?_|simp only[go_sem,ej,Axp,nums_length]
  all_goals exact⟨_,rfl⟩
theorem Aai (s:Ac) (hs:s.length≤1000000000):Ab Tryz.prog 325 [str s] (fun r=>∃b,r=Ai b):=by
 refine Zs [] Tryz.func325 ⟨_,true,rfl⟩ ?_;refine Ap (rl [4,19]) [3] (fun n ys=>∃j:Nat,j+n=s.length∧ys=[num j]) ⟨s.length,_,⟨0,om,rfl⟩,?_⟩ ?_
 ·exact Zw
 ·rintro n ys ⟨j,hn,rfl⟩;simp only[PU];rcases Axz j s.length with hlt|hge
  ·have ej:=eT j s.length;have hw:=wS j;repeat' first|refine Aj.on (fun _=>?_) (fun _=>?_)|with_reducible refine gd ?_|simp only[go_sem,ej,hw]
   all_goals first
    |(exact⟨_,rfl⟩)
    |(refine Az (n-1) [num ((j+1:Nat):Int)] om ⟨j+1,om,rfl⟩ ?_
      exact Zw;done)
  have ej:=eU j s.length;repeat' first|refine Aj.on (fun _=>?_) (fun _=>?_)|with_reducible refine gd ?_|simp only[go_sem,ej]
  all_goals exact⟨_,rfl⟩
theorem AlZ (b:Bk) (hb:Ii b):Ab Tryz.prog 288 [Dl b] (fun r=>∃b,r=Ai b):=by
 have h1:=hb.tx;simp only[Dl];refine Zs [] Tryz.func288 ⟨_,true,rfl⟩ ?_;refine(Aai b.tx hb.tx).mono ?_;rintro r ⟨t1,rfl⟩;refine Zn ?_;have hL:=AlY b hb;simp only[laA,num]at hL;refine hL.mono ?_;rintro r ⟨t2,rfl⟩;simp only[Ai];repeat' first|refine Aj.on (fun _=>?_) (fun _=>?_)|with_reducible refine gd ?_|simp only[go_sem,Axp,nums_length]
 all_goals try exact⟨_,rfl⟩
 all_goals
  refine(Ll b.tx hb.tx).mono ?_;rintro r rfl;simp only[Ai];repeat' first|refine Aj.on (fun _=>?_) (fun _=>?_)|with_reducible refine gd ?_|simp only[go_sem,Axp,nums_length]
 all_goals exact⟨_,rfl⟩
end
end Go.Proofs.YtmophjggmekoeaaGreatDoor
