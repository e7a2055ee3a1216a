/- Contracts of the checks of couplings. -/
import Derived.Test.YtneihommpncegaaDoorK1
namespace Go.Proofs.YtneihommpncegaaDoor
open Go.RowKit
set_option linter.unusedVariables false

theorem tmod2 (x : Int) : (x.tmod 2 = 0) ↔ x % 2 = 0 := by
  rw [← Int.dvd_iff_tmod_eq_zero, Int.dvd_iff_emod_eq_zero]

set_option maxRecDepth 100000 in
set_option maxHeartbeats 400000 in
theorem i_spin_has (j m : Int) (w : World) (j0 : 0 ≤ j) (j1 : j ≤ 24) :
    Calls Tryd.prog 22 #[.int .i64 j, .int .i64 m] w fun e w' => e = .returned (.bool (hasB j m)) ∧ w = w' := by
  have E := Lib.hid (show hasB j m = (inB m (-j) j && decide ((m - j).tmod 2 = 0)) by
    have : inB j 0 24 = true := inB_true j0 j1
    simp only [hasB, this, Bool.true_and]
    congr 1
    rw [Bool.eq_iff_iff]; simp [tmod2]; omega)
  go_enter Tryd.func22, Tryd.ntmps22
  go_wp2
  all_goals go_ret
  all_goals (refine ⟨ret_bool ?_, rfl⟩; rw [E.out]; rw [Bool.eq_iff_iff]; simp [inB]; omega)

set_option maxRecDepth 100000 in
set_option maxHeartbeats 400000 in
theorem i_SpinHas (j m : Int) (w : World) :
    Calls Tryd.prog 9 #[.int .i64 j, .int .i64 m] w fun e w' => e = .returned (.bool (hasB j m)) ∧ w = w' := by
  cases hj : inB j 0 24
  · have E := Lib.hid (show hasB j m = false by simp [hasB, hj])
    go_enter Tryd.func9, Tryd.ntmps9
    go_wp2_with (go_at_call 21; refine (i_SpinValid _ _).mono ?_; rintro e w' ⟨rfl, rfl⟩)
    go_ret
    exact ⟨ret_bool (by rw [E.out]), rfl⟩
  obtain ⟨j0, j1⟩ := inB_iff.1 hj
  go_enter Tryd.func9, Tryd.ntmps9
  go_wp2_with (first | (go_at_call 21; refine (i_SpinValid _ _).mono ?_; rintro e w' ⟨rfl, rfl⟩) | (go_at_call 22; refine (i_spin_has _ _ _ (by omega) (by omega)).mono ?_; rintro e w' ⟨rfl, rfl⟩))
  go_ret
  exact ⟨rfl, rfl⟩

set_option maxRecDepth 100000 in
set_option maxHeartbeats 400000 in
theorem i_coupleSpin (j : Int) (w : World) :
    Calls Tryd.prog 48 #[.int .i64 j] w fun e w' => e = .returned (.bool (inB j 0 6)) ∧ w = w' := by
  go_enter Tryd.func48, Tryd.ntmps48
  go_wp2
  all_goals go_ret
  all_goals exact ⟨ret_bool (by simp [inB]; omega), rfl⟩

set_option maxRecDepth 100000 in
set_option maxHeartbeats 400000 in
theorem i_triadValid (a b c : Int) (w : World) :
    Calls Tryd.prog 39 #[.int .i64 a, .int .i64 b, .int .i64 c] w fun e w' => e = .returned (.bool (tdB a b c)) ∧ w = w' := by
  go_enter Tryd.func39, Tryd.ntmps39
  go_wp2_with (first | (go_at_call 48; refine (i_coupleSpin _ _).mono ?_; rintro e w' ⟨rfl, rfl⟩) | (go_at_call 43; refine (i_SpinTriangle _ _ _ _).mono ?_; rintro e w' ⟨rfl, rfl⟩))
  all_goals go_ret
  all_goals (refine ⟨ret_bool ?_, rfl⟩; simp [tdB, *])

set_option maxRecDepth 100000 in
set_option maxHeartbeats 400000 in
theorem i_coupleValid (a b c m n : Int) (w : World) :
    Calls Tryd.prog 23 #[.int .i64 a, .int .i64 b, .int .i64 c, .int .i64 m, .int .i64 n] w fun e w' => e = .returned (.bool (cpOk a b c m n)) ∧ w = w' := by
  go_enter Tryd.func23, Tryd.ntmps23
  go_wp2_with (first | (go_at_call 39; refine (i_triadValid _ _ _ _).mono ?_; rintro e w' ⟨rfl, rfl⟩) | (go_at_call 9; refine (i_SpinHas _ _ _).mono ?_; rintro e w' ⟨rfl, rfl⟩))
  all_goals go_ret
  all_goals (refine ⟨ret_bool ?_, rfl⟩; simp [cpOk, *])

end Go.Proofs.YtneihommpncegaaDoor
