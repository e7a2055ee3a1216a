/- Contracts of the checks of couplings. -/
import Derived.Test.YtneihommpncegaaK1
namespace Go.Proofs.Ytneihommpncegaa
open Go.RowKit
set_option linter.unusedVariables false

theorem tmod2 (x : Int) : (x.tmod 2 = 0) ↔ x % 2 = 0 := by
  rw [← Int.dvd_iff_tmod_eq_zero, Int.dvd_iff_emod_eq_zero]

set_option maxRecDepth 100000 in
set_option maxHeartbeats 400000 in
theorem i_coupleSpin (j : Int) (w : World) :
    Calls Try.prog 42 #[.int .i64 j] w fun e w' => e = .returned (.bool (inB j 0 6)) ∧ w = w' := by
  go_enter Try.func42, Try.ntmps42
  go_wp2
  all_goals go_ret
  all_goals exact ⟨ret_bool (by simp [inB]; omega), rfl⟩

set_option maxRecDepth 100000 in
set_option maxHeartbeats 400000 in
theorem i_triadValid (a b c : Int) (w : World) :
    Calls Try.prog 44 #[.int .i64 a, .int .i64 b, .int .i64 c] w fun e w' => e = .returned (.bool (tdB a b c)) ∧ w = w' := by
  go_enter Try.func44, Try.ntmps44
  go_wp2_with (first | (go_at_call 42; refine (i_coupleSpin _ _).mono ?_; rintro e w' ⟨rfl, rfl⟩) | (go_at_call 63; refine (i_SpinTriangle _ _ _ _).mono ?_; rintro e w' ⟨rfl, rfl⟩))
  all_goals go_ret
  all_goals (refine ⟨ret_bool ?_, rfl⟩; simp [tdB, *])


end Go.Proofs.Ytneihommpncegaa
