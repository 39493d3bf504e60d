/- Closed facts of the card. -/
import Derived.Test.YtobhohikfmlccaaGreatDoorRows
import Derived.Test.YtobhohikfmlccaaGreatDoorCards
import Derived.ProofKit
import Derived.SevenTiedAt
import Derived.Stop.Joined
set_option linter.all false
open Go.ChangeShapes Go.WideShapes Go.ChangeAt Go.RowKit
namespace Go.Proofs.YtobhohikfmlccaaGreatDoor
namespace dependUsers
theorem g1:Rows.dependUsersRow.wfByText (OpenSpec.ofChange Rows.dependUsersSpec)=true:=by kernel_rfl
theorem g2:Tryz.prog.mainIs=some (true,"2573b62519722a0912d151be8d9d85c2dc880556c9daf474a1b042218805417a".toList):=by kernel_rfl
theorem g3:true=Tryz.prog.looks []:=by kernel_rfl
theorem g4:Tryz.prog.funcNamed "copydesk/copydesklaw14.DependUsers" =some 7:=by kernel_rfl
theorem g5:(([32,3,53]:List TypeId).all λu=> !Tryz.prog.wantsStandIn u)=true:=by kernel_rfl
theorem g6:false=Rows.dependUsersRow.goesBy Tryz.prog:=by kernel_rfl
end dependUsers
end Go.Proofs.YtobhohikfmlccaaGreatDoor
