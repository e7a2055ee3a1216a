/- Contracts of the small functions on integers: ranges, absolute values, triangles. -/
import Derived.Test.YtcmbilddlbejgaaDoorProg
import Derived.Test.YtcmbilddlbejgaaDoorPl
import Derived.WalkKit
import Derived.WalkSpells
import Derived.WalkLawsBesides
import Derived.Lib.Hide
namespace Go.Proofs.YtcmbilddlbejgaaDoor
open Go.RowKit

set_option maxHeartbeats 400000 in
theorem s_l6In (n low high : Int) (w : World) :
    Calls Tryd.prog 21 #[.int .i64 n, .int .i64 low, .int .i64 high] w fun e w' => e = .returned (.bool (inB n low high)) ∧ w = w' := by
  go_enter Tryd.func21, Tryd.ntmps21
  go_wp2
  all_goals go_ret
  all_goals exact ⟨ret_bool (by simp [inB]; omega), rfl⟩

end Go.Proofs.YtcmbilddlbejgaaDoor
