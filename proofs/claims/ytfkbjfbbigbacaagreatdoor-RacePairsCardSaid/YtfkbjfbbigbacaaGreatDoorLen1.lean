/- bits.Len at 1. -/
import Derived.Test.YtfkbjfbbigbacaaGreatDoorLib
import Derived.Test.YtfkbjfbbigbacaaGreatDoorProg
namespace Go.Proofs.YtfkbjfbbigbacaaGreatDoor.L
open Go.RowKit

set_option maxRecDepth 100000 in
theorem len64_1 (w : World) : Calls Tryz.prog 102 #[.int .u64 1] w fun e w' => e = .returned (.int .i64 1) ∧ w = w' := by
  go_enter Tryz.func102, Tryz.ntmps102
  go_wp2
  go_ret
  exact ⟨by first | rfl | kernel_rfl, rfl⟩
set_option maxRecDepth 100000 in
theorem len_1 (w : World) : Calls Tryz.prog 66 #[.int .u64 1] w fun e w' => e = .returned (.int .i64 1) ∧ w = w' := by
  go_enter Tryz.func66, Tryz.ntmps66
  go_wp2_with (go_at_call 102; refine (len64_1 _).mono ?_; rintro e w' ⟨rfl, rfl⟩)
  go_ret
  exact ⟨by first | rfl | kernel_rfl, rfl⟩
end Go.Proofs.YtfkbjfbbigbacaaGreatDoor.L
