/- Closed facts of the row. -/
import Derived.Test.YtobhohikfmlccaaGreatDoorRows
import Derived.ProofKit
import Derived.Stop.Joined
set_option linter.all false
open Go.ChangeShapes Go.WideShapes Go.ChangeAt Go.RowKit
namespace Go.Proofs.YtobhohikfmlccaaGreatDoor
namespace dependUsers
theorem f1:Tryz.prog.inPlace 7=Rows.dependUsersRow.inPlace:=by kernel_rfl
theorem f2:Tryz.prog.unfollowed 7=Rows.dependUsersRow.unfollowed:=by kernel_rfl
theorem f3:Tryz.prog.recurses 7=Rows.dependUsersRow.recurses:=by kernel_rfl
theorem f4:Tryz.prog.varsNamed 7=Rows.dependUsersRow.named:=by kernel_rfl
theorem closed:joinedFacts Tryz.prog 7 Tryz.f7 Rows.dependUsersSpec Rows.dependUsersRow=true:=by
 unfold joinedFacts;rw[f1,f2,f3,f4]
 kernel_rfl
end dependUsers
end Go.Proofs.YtobhohikfmlccaaGreatDoor
