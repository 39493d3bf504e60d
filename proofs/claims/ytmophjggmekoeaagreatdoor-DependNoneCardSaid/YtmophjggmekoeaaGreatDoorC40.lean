/- Closed facts of the card. -/
import Derived.Test.YtmophjggmekoeaaGreatDoorRows
import Derived.Test.YtmophjggmekoeaaGreatDoorCards
import Derived.ProofKit
import Derived.SevenTiedAt
import Derived.Stop.Joined
set_option linter.all false
namespace Go.Proofs.YtmophjggmekoeaaGreatDoor.dependNone
open Go.ChangeShapes Go.WideShapes Go.ChangeAt Go.RowKit
theorem g1:Rows.dependNoneRow.wfByText (OpenSpec.ofChange Rows.dependNoneSpec)=true:=by kernel_rfl
theorem g2:Tryz.prog.mainIs=some (true,"8d69533c466df1913545e5daeae56638a25fb566d0e22b792242bb6804cb2d88".toList):=by kernel_rfl
theorem g3:true=Tryz.prog.looks []:=by kernel_rfl
theorem g4:Tryz.prog.funcNamed "copydesk/copydesklaw14.DependNone" =some 3:=by kernel_rfl
theorem g5:(([22]:List TypeId).all fun u=> !Tryz.prog.wantsStandIn u)=true:=by kernel_rfl
theorem g6:false=Rows.dependNoneRow.goesBy Tryz.prog:=by kernel_rfl
end Go.Proofs.YtmophjggmekoeaaGreatDoor.dependNone
