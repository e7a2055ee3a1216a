/- Contracts of the checks of couplings. -/
import Derived.Test.YtdhmjmnpaigagaaK1
namespace Go.Proofs.Ytdhmjmnpaigagaa
open Go.RowKit
set_option linter.unusedVariables false

theorem tmod2 (x : Int) : (x.tmod 2 = 0) ↔ x % 2 = 0 := by
  rw [← Int.dvd_iff_tmod_eq_zero, Int.dvd_iff_emod_eq_zero]

set_option maxRecDepth 100000 in
set_option maxHeartbeats 400000 in
theorem s_SpinHas (j m : Int) (w : World) :
    Calls Try.prog 12 #[.int .i64 j, .int .i64 m] w fun e w' => e = .returned (.bool (hasB j m)) ∧ w = w' := by
  cases hj : inB j 0 24
  · have E := Lib.hid (show hasB j m = false by simp [hasB, hj])
    go_enter Try.func12, Try.ntmps12
    go_wp2_with (go_at_call 25; refine (s_SpinValid _ _).mono ?_; rintro e w' ⟨rfl, rfl⟩)
    go_ret
    exact ⟨ret_bool (by rw [E.out]), rfl⟩
  obtain ⟨j0, j1⟩ := inB_iff.1 hj
  cases hm : inB m (-j) j
  · have E := Lib.hid (show hasB j m = false by simp [hasB, hm])
    go_enter Try.func12, Try.ntmps12
    go_wp2_with (first | (go_at_call 25; refine (s_SpinValid _ _).mono ?_; rintro e w' ⟨rfl, rfl⟩) | (go_at_call 23; refine (s_l6In _ _ _ _).mono ?_; rintro e w' ⟨rfl, rfl⟩; try rw [Int.zero_sub]))
    go_ret
    exact ⟨ret_bool (by rw [E.out]), rfl⟩
  obtain ⟨m0, m1⟩ := inB_iff.1 hm
  have E := Lib.hid (show hasB j m = decide ((j + m) % 2 = 0) by simp [hasB, hm, hj])
  go_enter Try.func12, Try.ntmps12
  go_wp2_with (first | (go_at_call 25; refine (s_SpinValid _ _).mono ?_; rintro e w' ⟨rfl, rfl⟩) | (go_at_call 23; refine (s_l6In _ _ _ _).mono ?_; rintro e w' ⟨rfl, rfl⟩; try rw [Int.zero_sub]))
  all_goals go_ret
  all_goals (refine ⟨ret_bool ?_, rfl⟩; rw [E.out]; rw [Bool.eq_iff_iff]; simp)

set_option maxRecDepth 100000 in
set_option maxHeartbeats 400000 in
theorem i_spin_has (j m : Int) (w : World) (j0 : 0 ≤ j) (j1 : j ≤ 24) :
    Calls Try.prog 34 #[.int .i64 j, .int .i64 m] w fun e w' => e = .returned (.bool (hasB j m)) ∧ w = w' := by
  have E := Lib.hid (show hasB j m = (inB m (-j) j && decide ((m - j).tmod 2 = 0)) by
    have : inB j 0 24 = true := inB_true j0 j1
    simp only [hasB, this, Bool.true_and]
    congr 1
    rw [Bool.eq_iff_iff]; simp [tmod2]; omega)
  go_enter Try.func34, Try.ntmps34
  go_wp2
  all_goals go_ret
  all_goals (refine ⟨ret_bool ?_, rfl⟩; rw [E.out]; rw [Bool.eq_iff_iff]; simp [inB]; omega)

set_option maxRecDepth 100000 in
set_option maxHeartbeats 400000 in
theorem i_SpinHas (j m : Int) (w : World) :
    Calls Try.prog 18 #[.int .i64 j, .int .i64 m] w fun e w' => e = .returned (.bool (hasB j m)) ∧ w = w' := by
  cases hj : inB j 0 24
  · have E := Lib.hid (show hasB j m = false by simp [hasB, hj])
    go_enter Try.func18, Try.ntmps18
    go_wp2_with (go_at_call 33; refine (i_SpinValid _ _).mono ?_; rintro e w' ⟨rfl, rfl⟩)
    go_ret
    exact ⟨ret_bool (by rw [E.out]), rfl⟩
  obtain ⟨j0, j1⟩ := inB_iff.1 hj
  go_enter Try.func18, Try.ntmps18
  go_wp2_with (first | (go_at_call 33; refine (i_SpinValid _ _).mono ?_; rintro e w' ⟨rfl, rfl⟩) | (go_at_call 34; refine (i_spin_has _ _ _ (by omega) (by omega)).mono ?_; rintro e w' ⟨rfl, rfl⟩))
  go_ret
  exact ⟨rfl, rfl⟩

set_option maxRecDepth 100000 in
set_option maxHeartbeats 400000 in
theorem s_l21Ok (a b c m n : Int) (w : World) :
    Calls Try.prog 10 #[.int .i64 a, .int .i64 b, .int .i64 c, .int .i64 m, .int .i64 n] w fun e w' => e = .returned (.bool (cpOk a b c m n)) ∧ w = w' := by
  go_enter Try.func10, Try.ntmps10
  go_wp2_with (first | (go_at_call 23; refine (s_l6In _ _ _ _).mono ?_; rintro e w' ⟨rfl, rfl⟩) | (go_at_call 24; refine (s_SpinTriangle _ _ _ _).mono ?_; rintro e w' ⟨rfl, rfl⟩) | (go_at_call 12; refine (s_SpinHas _ _ _).mono ?_; rintro e w' ⟨rfl, rfl⟩))
  all_goals go_ret
  all_goals (refine ⟨ret_bool ?_, rfl⟩; simp [cpOk, tdB, *])

set_option maxRecDepth 100000 in
set_option maxHeartbeats 400000 in
theorem i_coupleSpin (j : Int) (w : World) :
    Calls Try.prog 30 #[.int .i64 j] w fun e w' => e = .returned (.bool (inB j 0 6)) ∧ w = w' := by
  go_enter Try.func30, Try.ntmps30
  go_wp2
  all_goals go_ret
  all_goals exact ⟨ret_bool (by simp [inB]; omega), rfl⟩

set_option maxRecDepth 100000 in
set_option maxHeartbeats 400000 in
theorem i_triadValid (a b c : Int) (w : World) :
    Calls Try.prog 15 #[.int .i64 a, .int .i64 b, .int .i64 c] w fun e w' => e = .returned (.bool (tdB a b c)) ∧ w = w' := by
  go_enter Try.func15, Try.ntmps15
  go_wp2_with (first | (go_at_call 30; refine (i_coupleSpin _ _).mono ?_; rintro e w' ⟨rfl, rfl⟩) | (go_at_call 31; refine (i_SpinTriangle _ _ _ _).mono ?_; rintro e w' ⟨rfl, rfl⟩))
  all_goals go_ret
  all_goals (refine ⟨ret_bool ?_, rfl⟩; simp [tdB, *])

set_option maxRecDepth 100000 in
set_option maxHeartbeats 400000 in
theorem i_coupleValid (a b c m n : Int) (w : World) :
    Calls Try.prog 47 #[.int .i64 a, .int .i64 b, .int .i64 c, .int .i64 m, .int .i64 n] w fun e w' => e = .returned (.bool (cpOk a b c m n)) ∧ w = w' := by
  go_enter Try.func47, Try.ntmps47
  go_wp2_with (first | (go_at_call 15; refine (i_triadValid _ _ _ _).mono ?_; rintro e w' ⟨rfl, rfl⟩) | (go_at_call 18; refine (i_SpinHas _ _ _).mono ?_; rintro e w' ⟨rfl, rfl⟩))
  all_goals go_ret
  all_goals (refine ⟨ret_bool ?_, rfl⟩; simp [cpOk, *])

end Go.Proofs.Ytdhmjmnpaigagaa
