/- The law DependNone returns true for every input, package variables starting as the program's text lays them. -/
import Derived.Test.YtmophjggmekoeaaGreatDoorTie
import Derived.Test.YtmophjggmekoeaaGreatDoorC38
import Derived.Test.YtmophjggmekoeaaGreatDoorC39
import Derived.Test.YtmophjggmekoeaaGreatDoorC40
set_option linter.all false
namespace Go.Proofs.YtmophjggmekoeaaGreatDoor.dependNone
open Go.ChangeShapes Go.WideShapes Go.ChangeAt Go.RowKit
theorem own:ownKnob Tryz.prog.godebug=none:=by kernel_rfl
theorem laidOut:laidOutB Tryz.prog=true:=by kernel_rfl
theorem Amn:([22].all fun t=>decide (t<Tryz.prog.types.size)&&Tryz.prog.readableRec t)=true:=by kernel_rfl
theorem AhE:∀t∈([22]:List TypeId),t<Tryz.prog.types.size∧Tryz.prog.readableRec t=true:=fun t ht=>by have:=List.all_eq_true.1 Amn t ht;simpa using this
set_option maxHeartbeats 1000000 in
set_option maxRecDepth 100000 in
theorem lifted (os:Os) (started:os.Started) (H:Type) (enc:TypeId×Value→H):
 ReturnsInHanded {} Tryz.checked os 3 .any (fun w args=>(Rows.dependNoneSpec.pre enc Tryz.prog Tryz.f3 Rows.dependNoneRow.domain false w args∧laidMetH Tryz.prog Qt w)∧sizedMet enc Tryz.prog Tryz.f3 (OpenSpec.ofChange Rows.dependNoneSpec) false w args)
  (Rows.dependNoneSpec.post enc Tryz.prog Tryz.f3 false true false false):=by
 refine iX (C:=Tryz.checked) (X:=fun w _=>laidMetH Tryz.prog Qt w) (fun _ _ _ hh h=>h.of_heap hh) own started (by kernel_rfl) Tryz.func3
  (ChangeSpec.witness_shaped (enc:=enc) (C:=Tryz.checked) (os:=os) (X:=fun w _=>laidMetH Tryz.prog Qt w) false (World.laidAll Tryz.prog os Qt) #[.slice none 0 0] 8 (World.laidAll_os _ _ _)
   (jA os _) (by kernel_rfl) (by kernel_rfl) (by kernel_rfl) (AhD os _)) ?_
 intro W base args ds gs before hval0 hW hL hsh;have hval:∀(j:Nat) t v,Tryz.f3.params[j]? =some t→args[j]? =some v→Value.okWide Tryz.prog W .any base t v:=hval0;have hW':=hW;obtain⟨p,q,hA0,hV,rfl,hfz,hnd⟩:=hW;have hA:DataW.TrodAll enc Tryz.prog W 0 (fun _=>true) true Tryz.f3.params.toList args.toList ds p:=hA0;rw[Tryz.params3]at hA hval;obtain⟨xs,hxs,hr⟩:=iU laidOut (fun t ht=>(AhE t ht).1) (fun j t v h1 h2=>hval j t v (by simpa using h1) (by simpa using h2)) hA;obtain⟨rfl,rfl⟩:=trodVars_none hV;clear hA0 hval0;have hc:=Apo (Avl xs hxs) (Avk W (AwA hL hsh)) hr;rw[Array.toArray_toList]at hc;refine hc.mono fun e W' ⟨he,bel⟩=> ?_;subst he;obtain⟨args⟩:=args;have hB:=Xd laidOut bel AhE hA;have hlen:ds.length=1:=iW hA
 match ds,hlen,hB,hW' with
 |[d0],_,hB,hW'=>exact⟨_,rfl,_,_,_,[],_,[],hW',trodAll_mk1 (shut_bool Tryz.underlying4 _),hB,rfl,bel.frame _,fun h=>by cases h⟩
theorem over:Rows.dependNoneRow.holds Tryz.pinned (OpenSpec.ofChange Rows.dependNoneSpec):=
 OpenClaim.holds_of_wide 3 Tryz.f3 rfl rfl rfl rfl rfl rfl rfl ⟨rfl,rfl,rfl,rfl,rfl⟩ rfl rfl rfl rfl rfl (by kernel_rfl) Tryz.func3 closed
  (of_decide_eq_true (by kernel_rfl)) (by unfold Func.isWrapper;first|(rw[if_pos (by decide+kernel)];kernel_rfl)|(rw[if_neg (by decide+kernel)];exact⟨rfl,rfl⟩))
  (fun os started H enc _=>lifted os started H enc)
theorem proved:Rows.DependNoneCardSaid:=
 Claim7.holds_tied_plain_at .later [] [.data,.data,.data,.data,.data,.sentinel,.sentinel,.pinned] true (true,"8d69533c466df1913545e5daeae56638a25fb566d0e22b792242bb6804cb2d88") true over (fun _ h=>by cases h) g1 (fun _ h=>by cases h) dependNone_row_tie rfl ⟨rfl,rfl⟩ g2 rfl
  (fun f fn hf hfn=>by
   obtain rfl:f=3:=Option.some.inj (g4.symm.trans hf) |>.symm;obtain rfl:fn=Tryz.f3:=(Option.some.inj (Tryz.func3.symm.trans hfn)).symm
   exact⟨g3,fun j t ht=>by
    rw[Tryz.params3]at ht;have hm:t∈([22]:List TypeId):=by simpa using Array.mem_of_getElem? ht
    have hall:=g5;exact(show Tryz.prog.wantsStandIn t=false by simpa using List.all_eq_true.1 hall t hm)⟩)
  g6
end Go.Proofs.YtmophjggmekoeaaGreatDoor.dependNone
