/- Contracts of TermValid and LevelValid, of the program and of the reference. -/
import Derived.Test.YtcmbilddlbejgaaDoorPtm
import Derived.Test.YtcmbilddlbejgaaDoorA
namespace Go.Proofs.YtcmbilddlbejgaaDoor
open Go.RowKit
set_option linter.unusedVariables false

set_option maxRecDepth 100000 in
set_option maxHeartbeats 2000000 in
theorem s_TermValid (s l : Int) (w : World) :
    Calls Tryd.prog 22 #[.agg #[.int .i64 s, .int .i64 l]] w fun r w' => r = .returned (.bool (tmB s l)) ∧ Below w.heap.size w w' := by
  go_enter Tryd.func22, Tryd.ntmps22
  go_wp2_with (go_at_call 21; refine (s_l6In _ _ _ _).mono ?_; rintro r w' ⟨rfl, rfl⟩)
  all_goals go_ret
  all_goals exact ⟨ret_bool (by simp [tmB, *]), bl_alloc (Below.refl _ _) _⟩
end Go.Proofs.YtcmbilddlbejgaaDoor
