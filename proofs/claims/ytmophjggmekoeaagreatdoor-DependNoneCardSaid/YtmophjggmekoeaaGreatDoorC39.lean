/- Closed facts of the row. -/
import Derived.Test.YtmophjggmekoeaaGreatDoorRows
import Derived.ProofKit
import Derived.Stop.Joined
set_option linter.all false
namespace Go.Proofs.YtmophjggmekoeaaGreatDoor.dependNone
open Go.ChangeShapes Go.WideShapes Go.ChangeAt Go.RowKit
theorem f1:Tryz.prog.inPlace 3=Rows.dependNoneRow.inPlace:=by kernel_rfl
theorem f2:Tryz.prog.unfollowed 3=Rows.dependNoneRow.unfollowed:=by kernel_rfl
theorem f3:Tryz.prog.recurses 3=Rows.dependNoneRow.recurses:=by kernel_rfl
theorem f4:Tryz.prog.varsNamed 3=Rows.dependNoneRow.named:=by kernel_rfl
theorem closed:joinedFacts Tryz.prog 3 Tryz.f3 Rows.dependNoneSpec Rows.dependNoneRow=true:=by
 unfold joinedFacts;rw[f1,f2,f3,f4]
 kernel_rfl
end Go.Proofs.YtmophjggmekoeaaGreatDoor.dependNone
