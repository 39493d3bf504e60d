/- Short words for what is done again and again in a walk: each takes what is behind it as an .. -/
import Derived.WalkKit
set_option linter.all false
namespace Go.Proofs.YtmophjggmekoeaaGreatDoor
structure Hd (P:Prop):Prop where
 h:P
theorem om {G:Prop} (e:G:=by omega):G:=e
theorem oS {G:Prop} (e:G:=by simp):G:=e
theorem oD {G:Prop} (e:G:=by decide):G:=e
theorem oK {G:Prop} (e:G:=by decide+kernel):G:=e
theorem Zu {Q G:Prop} (q:Q) (e:Hd Q→G:=by
 intro q;repeat' first|refine Aj.on (fun _=> ?_) (fun _=> ?_)|with_reducible refine gd ?_|simp only[go_sem,DT,Int.reduceEq,Int.reduceNeg,Int.cast_ofNat_Int,Axp,nums_length,Axq,Axr,Axs,Ae,ne_eq,Nat.reduceEqDiff,not_false_eq_true,eq_self, *]|refine And.intro (by(try simp only[Axs,Axr,Axq]);omega) ?_
 all_goals first|exact q.1|(exfalso;omega)):G:=e ⟨q⟩
theorem Zn {Q G:Prop} (q:Q) (e:Hd Q→G:=by
 intro q;try simp only[num,str,Ai]
 refine Zu ?_;exact q.1):G:=e ⟨q⟩
theorem Y1 {A Q G:Prop} (a:A) (q:Q) (z:A→Hd Q→G:=by intro a q;refine Zu ?_;exact q.1):G:=z a ⟨q⟩
theorem Y2 {A B Q G:Prop} (a:A) (b:B) (q:Q) (z:A→B→Hd Q→G:=by intro a b q;refine Zu ?_;exact q.1):G:=z a b ⟨q⟩
theorem Y3 {A B C Q G:Prop} (a:A) (b:B) (c:C) (q:Q) (z:A→B→C→Hd Q→G:=by intro a b c q;refine Zu ?_;exact q.1):G:=z a b c ⟨q⟩
theorem Z0 {Q G:Prop} (q:Q) (e:Hd Q→G:=by
 intro q;repeat' first|refine Aj.on (fun _=> ?_) (fun _=> ?_)|with_reducible refine gd ?_|simp only[go_sem,DT,Int.reduceEq,Int.reduceNeg,Int.cast_ofNat_Int,Axp,nums_length,Axq,Axr,Axs,Ae,ne_eq,Nat.reduceEqDiff,not_false_eq_true,eq_self]|refine And.intro (by(try simp only[Axs,Axr,Axq]);omega) ?_
 exact q.1):G:=e ⟨q⟩
theorem Z1 {A Q G:Prop} (a:A) (q:Q) (z:A→Hd Q→G:=by
 intro a q;repeat' first|refine Aj.on (fun _=> ?_) (fun _=> ?_)|with_reducible refine gd ?_|simp only[go_sem,DT,Int.reduceEq,Int.reduceNeg,Int.cast_ofNat_Int,Axp,nums_length,Axq,Axr,Axs,Ae,ne_eq,Nat.reduceEqDiff,not_false_eq_true,eq_self,a]|refine And.intro (by(try simp only[Axs,Axr,Axq]);omega) ?_
 exact q.1):G:=z a ⟨q⟩
theorem Z2 {A B Q G:Prop} (a:A) (b:B) (q:Q) (z:A→B→Hd Q→G:=by
 intro a b q;repeat' first|refine Aj.on (fun _=> ?_) (fun _=> ?_)|with_reducible refine gd ?_|simp only[go_sem,DT,Int.reduceEq,Int.reduceNeg,Int.cast_ofNat_Int,Axp,nums_length,Axq,Axr,Axs,Ae,ne_eq,Nat.reduceEqDiff,not_false_eq_true,eq_self,a,b]|refine And.intro (by(try simp only[Axs,Axr,Axq]);omega) ?_
 exact q.1):G:=z a b ⟨q⟩
theorem Z3 {A B C Q G:Prop} (a:A) (b:B) (c:C) (q:Q) (z:A→B→C→Hd Q→G:=by
 intro a b c q;repeat' first|refine Aj.on (fun _=> ?_) (fun _=> ?_)|with_reducible refine gd ?_|simp only[go_sem,DT,Int.reduceEq,Int.reduceNeg,Int.cast_ofNat_Int,Axp,nums_length,Axq,Axr,Axs,Ae,ne_eq,Nat.reduceEqDiff,not_false_eq_true,eq_self,a,b,c]|refine And.intro (by(try simp only[Axs,Axr,Axq]);omega) ?_
 exact q.1):G:=z a b c ⟨q⟩
theorem Z4 {A B C D Q G:Prop} (a:A) (b:B) (c:C) (d:D) (q:Q) (z:A→B→C→D→Hd Q→G:=by
 intro a b c d q;repeat' first|refine Aj.on (fun _=> ?_) (fun _=> ?_)|with_reducible refine gd ?_|simp only[go_sem,DT,Int.reduceEq,Int.reduceNeg,Int.cast_ofNat_Int,Axp,nums_length,Axq,Axr,Axs,Ae,ne_eq,Nat.reduceEqDiff,not_false_eq_true,eq_self,a,b,c,d]|refine And.intro (by(try simp only[Axs,Axr,Axq]);omega) ?_
 exact q.1):G:=z a b c d ⟨q⟩
theorem Z5 {A B C D E Q G:Prop} (a:A) (b:B) (c:C) (d:D) (e1:E) (q:Q) (z:A→B→C→D→E→Hd Q→G:=by
 intro a b c d e1 q;repeat' first|refine Aj.on (fun _=> ?_) (fun _=> ?_)|with_reducible refine gd ?_|simp only[go_sem,DT,Int.reduceEq,Int.reduceNeg,Int.cast_ofNat_Int,Axp,nums_length,Axq,Axr,Axs,Ae,ne_eq,Nat.reduceEqDiff,not_false_eq_true,eq_self,a,b,c,d,e1]|refine And.intro (by(try simp only[Axs,Axr,Axq]);omega) ?_
 exact q.1):G:=z a b c d e1 ⟨q⟩
theorem Z6 {A B C D E F Q G:Prop} (a:A) (b:B) (c:C) (d:D) (e1:E) (f:F) (q:Q) (z:A→B→C→D→E→F→Hd Q→G:=by
 intro a b c d e1 f q;repeat' first|refine Aj.on (fun _=> ?_) (fun _=> ?_)|with_reducible refine gd ?_|simp only[go_sem,DT,Int.reduceEq,Int.reduceNeg,Int.cast_ofNat_Int,Axp,nums_length,Axq,Axr,Axs,Ae,ne_eq,Nat.reduceEqDiff,not_false_eq_true,eq_self,a,b,c,d,e1,f]|refine And.intro (by(try simp only[Axs,Axr,Axq]);omega) ?_
 exact q.1):G:=z a b c d e1 f ⟨q⟩
theorem Z7 {A B C D E F I Q G:Prop} (a:A) (b:B) (c:C) (d:D) (e1:E) (f:F) (g:I) (q:Q) (z:A→B→C→D→E→F→I→Hd Q→G:=by
 intro a b c d e1 f g q;repeat' first|refine Aj.on (fun _=> ?_) (fun _=> ?_)|with_reducible refine gd ?_|simp only[go_sem,DT,Int.reduceEq,Int.reduceNeg,Int.cast_ofNat_Int,Axp,nums_length,Axq,Axr,Axs,Ae,ne_eq,Nat.reduceEqDiff,not_false_eq_true,eq_self,a,b,c,d,e1,f,g]|refine And.intro (by(try simp only[Axs,Axr,Axq]);omega) ?_
 exact q.1):G:=z a b c d e1 f g ⟨q⟩
theorem Z8 {A B C D E F I J Q G:Prop} (a:A) (b:B) (c:C) (d:D) (e1:E) (f:F) (g:I) (h:J) (q:Q) (z:A→B→C→D→E→F→I→J→Hd Q→G:=by
 intro a b c d e1 f g h q;repeat' first|refine Aj.on (fun _=> ?_) (fun _=> ?_)|with_reducible refine gd ?_|simp only[go_sem,DT,Int.reduceEq,Int.reduceNeg,Int.cast_ofNat_Int,Axp,nums_length,Axq,Axr,Axs,Ae,ne_eq,Nat.reduceEqDiff,not_false_eq_true,eq_self,a,b,c,d,e1,f,g,h]|refine And.intro (by(try simp only[Axs,Axr,Axq]);omega) ?_
 exact q.1):G:=z a b c d e1 f g h ⟨q⟩
theorem Zx {G:Prop} (e:G:=by
 first|rfl|exact⟨_,rfl⟩|exact⟨_,_,W1.refl _,rfl,Gw.refl _,rfl,rfl⟩|exact⟨_,_,W1.refl _,rfl,Gw.refl _,rfl⟩|exact⟨_,Gw.refl _,rfl⟩):G:=e
theorem Ze {G:Prop} (e:G:=by
 repeat' first|refine Aj.on (fun _=> ?_) (fun _=> ?_)|with_reducible refine gd ?_|simp only[go_sem,DT,Int.reduceEq,Int.reduceNeg,Int.cast_ofNat_Int,Axp,nums_length,Axq,Axr,Axs,Ae,ne_eq,Nat.reduceEqDiff,not_false_eq_true,eq_self, *]|refine And.intro (by(try simp only[Axs,Axr,Axq]);omega) ?_
 all_goals first|exact Zx|(exfalso;omega)):G:=e
theorem Zw {G:Prop} (e:G:=by
 try simp only[PU]
 first|done|exact Wi.h|exact Wk.refl _|skip
 repeat first|exact Wk.nil|exact Wk.refl _|refine K1 ?_ ?_|refine Ep ?_ ?_|refine Ba ?_|refine A6 ?_|refine A1 ?_|refine M6 ?_|refine Wk.same ?_|refine B7 ?_):G:=e
theorem Zv {G:Prop} (e:G:=by
 try simp only[PU,str,Ai]
 exact Zw):G:=e
theorem Za {C Q G:Prop} (c:C) (q:Q) (e:C→Hd Q→G:=by
 intro c q;refine(c.wk ?_).mono ?_
 ·exact Zv
 rintro r rfl;refine Zn ?_;exact q.1):G:=e c ⟨q⟩
theorem Zh {C Q G:Prop} (c:C) (q:Q) (e:C→Hd Q→G:=by intro c q;refine HC.old c ?_;rintro r rfl;refine Zn ?_;exact q.1):G:=e c ⟨q⟩
theorem Zk {C Q G:Prop} (c:C) (q:Q) (e:C→Hd Q→G:=by intro c q;refine HC.mono c ?_ (fun _ _ h=>h.elim);rintro r γ ⟨rfl,rfl⟩;refine Zn ?_;exact q.1):G:=e c ⟨q⟩
end Go.Proofs.YtmophjggmekoeaaGreatDoor
namespace Go.Proofs.YtmophjggmekoeaaGreatDoor
abbrev Axp:= @List.length_map
abbrev Axq:= @List.length_nil
abbrev Axr:= @List.length_cons
abbrev Axs:= @List.length_append
abbrev Axt:= @List.mem_of_getElem?
abbrev Axu:= @Nat.le_refl
abbrev Axv:= @List.map_nil
abbrev Axw:= @List.take_of_length_le
abbrev Axx:= @List.map_cons
abbrev Axy:= @List.getD_eq_getElem?_getD
abbrev Axz:= @Nat.lt_or_ge
abbrev Ax0:= @Bool.false_eq_true
abbrev Ax1:= @Nat.le_trans
abbrev Ax2:= @List.mem_cons
abbrev Ax3:= @Bool.and_eq_true
abbrev Ax4:= @List.cons_append
abbrev Ax5:= @List.mem_append
abbrev Ax6:= @List.mem_singleton
abbrev Ax7:= @List.all_eq_true
abbrev Ax8:= @List.nil_append
abbrev Ax9:= @List.take_add_one
abbrev AxA:= @List.eq_nil_of_length_eq_zero
abbrev AxB:= @List.mem_map
abbrev AxC:= @List.length_take
abbrev AxD:= @Option.bind_some
abbrev AxE:= @List.zip_cons_cons
abbrev AxF:= @List.append_nil
abbrev AxG:= @Nat.eq_zero_or_pos
abbrev AxH:= @Option.isSome_none
abbrev AxI:= @List.take_zero
abbrev AxJ:= @List.map_append
abbrev AxK:= @List.mem_of_mem_take
abbrev AxL:= @List.mem_of_mem_drop
abbrev AxM:= @Nat.zero_le
abbrev AxN:= @List.pairwise_cons
abbrev AxO:= @List.isEmpty_cons
abbrev AxP:= @Bool.not_true
abbrev AxQ:= @List.length_drop
abbrev AxR:= @List.take_append_drop
abbrev AxS:= @List.append_assoc
abbrev AxT:= @List.replicate_succ
abbrev AxU:= @Bool.not_false
abbrev AxV:= @List.isEmpty_nil
abbrev AxW:= @Bool.and_false
abbrev AxX:= @List.zip_nil_left
abbrev AxY:= @List.zip_nil_right
abbrev AxZ:= @List.replicate_zero
abbrev Aya:= @List.mem_cons_of_mem
abbrev Ayb:= @Bool.and_true
abbrev Ayc:= @Nat.zero_add
abbrev Ayd:= @List.drop_eq_getElem_cons
abbrev Aye:= @List.set_cons_zero
abbrev Ayf:= @List.set_cons_succ
abbrev Ayg:= @Bool.and_self
abbrev Ayh:= @Nat.add_mul
abbrev Ayi:= @Bool.or_self
abbrev Ayj:= @List.mem_filter
abbrev Ayk:= @Bool.or_eq_true
abbrev Ayl:= @Nat.mul_le_mul_right
abbrev Aym:= @Nat.lt_of_lt_of_le
abbrev Ayn:= @List.set_set
abbrev Ayo:= @List.take_append_of_le_length
abbrev Ayp:= @List.getElem_toArray
abbrev Ayq:= @List.pairwise_append
abbrev Ayr:= @List.getElem_cons_zero
abbrev Ays:= @List.getElem_cons_succ
abbrev Ayt:= @List.foldl_cons
abbrev Ayu:= @List.set_eq_of_length_le
abbrev Ayv:= @List.take_succ_eq_append_getElem
abbrev Ayw:= @List.ext_getElem?
abbrev Ayx:= @List.foldl_append
abbrev Ayy:= @Int.eq_ofNat_of_zero_le
abbrev Ayz:= @List.getElem_mem
abbrev Ay0:= @List.take_length
abbrev Ay1:= @Array.length_toList
abbrev Ay2:= @List.drop_drop
abbrev Ay3:= @Nat.mul_one
abbrev Ay4:= @List.map_map
abbrev Ay5:= @List.drop_append_of_le_length
abbrev Ay6:= @List.mem_range
abbrev Ay7:= @List.mem_zipIdx_iff_getElem?
abbrev Ay8:= @Nat.min_eq_left
abbrev Ay9:= @Option.map_eq_some_iff
abbrev AyA:= @Nat.le_add_right
abbrev AyB:= @List.not_mem_nil
abbrev AyC:= @List.foldl_nil
abbrev AyD:= @List.length_mergeSort
abbrev AyE:= @List.length_filter_le
abbrev AyF:= @List.eq_of_mem_replicate
abbrev AyG:= @Option.map_some
abbrev AyH:= @List.mem_append_left
abbrev AyI:= @Int.toNat_natCast
abbrev AyJ:= @List.map_drop
abbrev AyK:= @List.map_take
abbrev AyL:= @List.flatMap_append
abbrev AyM:= @List.filter_cons
abbrev AyN:= @List.drop_of_length_le
abbrev AyO:= @List.drop_eq_nil_of_le
abbrev AyP:= @List.filter_append
abbrev AyQ:= @Int.tmod_eq_emod_of_nonneg
abbrev AyR:= @Bool.not_eq_true'
abbrev AyS:= @List.map_toArray
abbrev AyT:= @Nat.add_zero
abbrev AyU:= @Array.toList_map
abbrev AyV:= @Nat.add_comm
abbrev AyW:= @List.length_pos_iff
abbrev AyX:= @List.take_succ_cons
abbrev AyY:= @List.map_congr_left
abbrev AyZ:= @Nat.add_sub_cancel_left
abbrev Aza:= @Bool.false_or
abbrev Azb:= @List.all_cons
abbrev Azc:= @Option.toList_some
end Go.Proofs.YtmophjggmekoeaaGreatDoor
