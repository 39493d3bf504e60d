/- Closed facts of the row. -/
import Derived.Test.YtobhohikfmlccaaGreatDoorRows
import Derived.ProofKit
import Derived.Stop.Joined
set_option linter.all false
open Go.ChangeShapes Go.WideShapes Go.ChangeAt Go.RowKit
namespace Go.Proofs.YtobhohikfmlccaaGreatDoor
namespace dependFreshSame
theorem f1:Tryz.prog.inPlace 4=Rows.dependFreshSameRow.inPlace:=by kernel_rfl
theorem f2:Tryz.prog.unfollowed 4=Rows.dependFreshSameRow.unfollowed:=by kernel_rfl
theorem f3:Tryz.prog.recurses 4=Rows.dependFreshSameRow.recurses:=by kernel_rfl
theorem f4:Tryz.prog.varsNamed 4=Rows.dependFreshSameRow.named:=by kernel_rfl
theorem closed:joinedFacts Tryz.prog 4 Tryz.f4 Rows.dependFreshSameSpec Rows.dependFreshSameRow=true:=by
 unfold joinedFacts;rw[f1,f2,f3,f4]
 kernel_rfl
end dependFreshSame
end Go.Proofs.YtobhohikfmlccaaGreatDoor
