/- The law DependUsers returns true for every input, package variables starting as the program's text lays them. -/
import Derived.Test.YtobhohikfmlccaaGreatDoorTie
import Derived.Test.YtobhohikfmlccaaGreatDoorC30
import Derived.Test.YtobhohikfmlccaaGreatDoorC31
import Derived.Test.YtobhohikfmlccaaGreatDoorC32
set_option linter.all false
open Go.ChangeShapes Go.WideShapes Go.ChangeAt Go.RowKit
namespace Go.Proofs.YtobhohikfmlccaaGreatDoor
namespace dependUsers
theorem own:ownKnob Tryz.prog.godebug=none:=by kernel_rfl
theorem laidOut:laidOutB Tryz.prog=true:=by kernel_rfl
theorem Agj:([32,3,53].all λt=>decide (t<Tryz.prog.types.size)&&Tryz.prog.readableRec t)=true:=by kernel_rfl
theorem Aco:∀t∈([32,3,53]:List TypeId),t<Tryz.prog.types.size/\Tryz.prog.readableRec t=true:=λt h=>by have:=List.all_eq_true.1 Agj t h;simpa using this
set_option maxHeartbeats 1000000 in
set_option maxRecDepth 100000 in
theorem lifted (os:Os) (s:os.Started) (H:Type) (enc:TypeId×Value->H):
 ReturnsInHanded {} Tryz.checked os 7 .any (λw a=>(Rows.dependUsersSpec.pre enc Tryz.prog Tryz.f7 Rows.dependUsersRow.domain false w a/\laidMetH Tryz.prog W4 w)/\sizedMet enc Tryz.prog Tryz.f7 (OpenSpec.ofChange Rows.dependUsersSpec) false w a)
  (Rows.dependUsersSpec.post enc Tryz.prog Tryz.f7 false true false false):=by
 refine uT (C:=Tryz.checked) (X:=λw _=>laidMetH Tryz.prog W4 w) (λ_ _ _ y h=>h.of_heap y) own s (by kernel_rfl) Tryz.func7
  (ChangeSpec.witness_shaped (enc:=enc) (C:=Tryz.checked) (os:=os) (X:=λw _=>laidMetH Tryz.prog W4 w) false (World.laidAll Tryz.prog os W4) #[.slice none 0 0,.int .i64 0,.agg #[.int .i64 0,.int .i64 0]] 8 (World.laidAll_os _ _ _)
   (uW os _) (by kernel_rfl) (by kernel_rfl) (by kernel_rfl) (m_ os _)) ?_
 intro W f a m K k b u z n;have c:∀(j:Nat) t v,Tryz.f7.params[j]? =some t->a[j]? =some v->Value.okWide Tryz.prog W .any f t v:=b;have d:=u;obtain⟨p,q,g,A,rfl,B,D⟩:=u;have l:DataW.TrodAll enc Tryz.prog W 0 (λ_=>true) true Tryz.f7.params.toList a.toList m p:=g;rw[Tryz.params7]at l c;obtain⟨E,o,F⟩:=qA laidOut (λt G=>(Aco t G).1) (λj t v h1 I=>c j t v (by simpa using h1) (by simpa using I)) l;obtain⟨rfl,rfl⟩:=trodVars_none A;clear g b;have x:=Aj4 (Aj5 E o) (Ant W (DB z n)) F;rw[Array.toArray_toList]at x;refine x.mono λe L ⟨J,i⟩=> ?_;subst J;obtain⟨a⟩:=a;have r:=fR laidOut i Aco l;have hlen:m.length=3:=qD l
 match m,hlen,r,d with
 |[d0,d1,d2],_,r,d=>exact⟨_,rfl,_,_,_,[],_,[],d,trodAll_mk1 (shut_bool Tryz.underlying4 _),r,rfl,i.frame _,λh=>by cases h⟩
theorem over:Rows.dependUsersRow.holds Tryz.pinned (OpenSpec.ofChange Rows.dependUsersSpec):=
 OpenClaim.holds_of_wide 7 Tryz.f7 rfl rfl rfl rfl rfl rfl rfl ⟨rfl,rfl,rfl,rfl,rfl⟩ rfl rfl rfl rfl rfl (by kernel_rfl) Tryz.func7 closed
  (of_decide_eq_true (by kernel_rfl)) (by unfold Func.isWrapper;first|(rw[if_pos (by decide+kernel)];kernel_rfl)|(rw[if_neg (by decide+kernel)];exact⟨rfl,rfl⟩))
  (λo s H e _=>lifted o s H e)
theorem proved:Rows.DependUsersCardSaid:=
 Claim7.holds_tied_plain_at .later [] [.data,.data,.data,.data,.data,.sentinel,.sentinel,.pinned] true (true,"2573b62519722a0912d151be8d9d85c2dc880556c9daf474a1b042218805417a") true over (λ_ h=>by cases h) g1 (λ_ h=>by cases h) dependUsers_row_tie rfl ⟨rfl,rfl⟩ g2 rfl
  (λf d e b=>by
   obtain rfl:f=7:=aj (g4.symm.trans e) |>.symm;obtain rfl:d=Tryz.f7:=(aj (Tryz.func7.symm.trans b)).symm
   exact⟨g3,λj t c=>by
    rw[Tryz.params7]at c;have g:t∈([32,3,53]:List TypeId):=by simpa using Array.mem_of_getElem? c
    have a:=g5;exact(show Tryz.prog.wantsStandIn t=false by simpa using List.all_eq_true.1 a t g)⟩)
  g6
end dependUsers
end Go.Proofs.YtobhohikfmlccaaGreatDoor
