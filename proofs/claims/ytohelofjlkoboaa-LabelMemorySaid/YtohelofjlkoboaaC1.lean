/- The library's Sort and Compact over rows of integers. -/
import Derived.Test.YtohelofjlkoboaaS
import Derived.Test.YtohelofjlkoboaaR6
import Derived.Test.YtohelofjlkoboaaT
import Derived.Test.YtohelofjlkoboaaA10
namespace Go.Proofs.Ytohelofjlkoboaa
open Go.RowKit Go.Proofs
set_option linter.unusedSimpArgs false
set_option linter.unusedVariables false
set_option maxRecDepth 100000
set_option maxHeartbeats 4000000

instance envS : Env := ⟨True, []⟩
theorem encI_one : ∀ a : Int, (Value.int .i64 a).oneCell' = true := fun _ => rfl
theorem sort33 (zs : List Int) (h : zs.length ≤ 1000000) : RCalls Try.prog 33 (.row 3 1 (nums zs)) [] (fun r y => r = .tup [] ∧ y = .row 3 1 (nums (zs.mergeSort fun x y => decide (x ≤ y)))) :=
  sort_raw ⟨_, _, Try.func33, rfl, by decide⟩ encI_one (fun l => l.mergeSort fun x y => decide (x ≤ y)) (fun l => List.length_mergeSort l) zs Try.slices_Sort_int_none
    (fun b cap w hH hb => Try.slices_Sort_int b 0 cap zs w hH hb (by omega))
theorem compact34m (zs : List Int) (h : zs.length ≤ 1000000) : ACalls Try.prog 34 [.mine 3 1 (nums zs)] (fun r => r = .mine 3 1 (nums (Lib.compact zs))) :=
  compact_mine ⟨_, _, Try.func34, rfl, by decide⟩ encI_one Lib.compact (fun l => Lib.compact_length_le l) 0 zs Try.slices_Compact_int_empty
    (fun b cap w hH hc => Try.slices_Compact_int b 0 cap zs w hH (by omega) hc)
end Go.Proofs.Ytohelofjlkoboaa
