/- Closed facts of the row. -/
import Derived.Test.YtobhohikfmlccaaGreatDoorRows
import Derived.ProofKit
import Derived.Stop.Joined
set_option linter.all false
open Go.ChangeShapes Go.WideShapes Go.ChangeAt Go.RowKit
namespace Go.Proofs.YtobhohikfmlccaaGreatDoor
namespace dependRebuilt
theorem f1:Tryz.prog.inPlace 5=Rows.dependRebuiltRow.inPlace:=by kernel_rfl
theorem f2:Tryz.prog.unfollowed 5=Rows.dependRebuiltRow.unfollowed:=by kernel_rfl
theorem f3:Tryz.prog.recurses 5=Rows.dependRebuiltRow.recurses:=by kernel_rfl
theorem f4:Tryz.prog.varsNamed 5=Rows.dependRebuiltRow.named:=by kernel_rfl
theorem closed:joinedFacts Tryz.prog 5 Tryz.f5 Rows.dependRebuiltSpec Rows.dependRebuiltRow=true:=by
 unfold joinedFacts;rw[f1,f2,f3,f4]
 kernel_rfl
end dependRebuilt
end Go.Proofs.YtobhohikfmlccaaGreatDoor
