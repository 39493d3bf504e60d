/- Closed facts of the row. -/
import Derived.Test.YtobhohikfmlccaaGreatDoorRows
import Derived.ProofKit
import Derived.Stop.Joined
set_option linter.all false
open Go.ChangeShapes Go.WideShapes Go.ChangeAt Go.RowKit
namespace Go.Proofs.YtobhohikfmlccaaGreatDoor
namespace dependMinimal
theorem f1:Tryz.prog.inPlace 6=Rows.dependMinimalRow.inPlace:=by kernel_rfl
theorem f2:Tryz.prog.unfollowed 6=Rows.dependMinimalRow.unfollowed:=by kernel_rfl
theorem f3:Tryz.prog.recurses 6=Rows.dependMinimalRow.recurses:=by kernel_rfl
theorem f4:Tryz.prog.varsNamed 6=Rows.dependMinimalRow.named:=by kernel_rfl
theorem closed:joinedFacts Tryz.prog 6 Tryz.f6 Rows.dependMinimalSpec Rows.dependMinimalRow=true:=by
 unfold joinedFacts;rw[f1,f2,f3,f4]
 kernel_rfl
end dependMinimal
end Go.Proofs.YtobhohikfmlccaaGreatDoor
