/- Contracts of the small functions on integers: ranges, absolute values, triangles. -/
import Derived.Test.YtdhmjmnpaigagaaProg
import Derived.Test.YtdhmjmnpaigagaaPl
import Derived.WalkKit
import Derived.WalkSpells
import Derived.WalkLawsBesides
import Derived.Lib.Hide
namespace Go.Proofs.Ytdhmjmnpaigagaa
open Go.RowKit

set_option maxHeartbeats 400000 in
theorem s_l6In (n low high : Int) (w : World) :
    Calls Try.prog 23 #[.int .i64 n, .int .i64 low, .int .i64 high] w fun e w' => e = .returned (.bool (inB n low high)) ∧ w = w' := by
  go_enter Try.func23, Try.ntmps23
  go_wp2
  all_goals go_ret
  all_goals exact ⟨ret_bool (by simp [inB]; omega), rfl⟩

set_option maxHeartbeats 400000 in
theorem s_SpinValid (j : Int) (w : World) :
    Calls Try.prog 25 #[.int .i64 j] w fun e w' => e = .returned (.bool (inB j 0 24)) ∧ w = w' := by
  go_enter Try.func25, Try.ntmps25
  go_wp2_with (go_at_call 23; refine (s_l6In _ _ _ _).mono ?_; rintro e w' ⟨rfl, rfl⟩)
  go_ret
  exact ⟨rfl, rfl⟩

set_option maxHeartbeats 400000 in
theorem i_SpinValid (j : Int) (w : World) :
    Calls Try.prog 33 #[.int .i64 j] w fun e w' => e = .returned (.bool (inB j 0 24)) ∧ w = w' := by
  go_enter Try.func33, Try.ntmps33
  go_wp2
  all_goals go_ret
  all_goals exact ⟨ret_bool (by simp [inB]; omega), rfl⟩

set_option maxHeartbeats 400000 in
theorem s_l1Abs (n : Int) (w : World) (h1 : -9223372036854775807 ≤ n) (h2 : n ≤ 9223372036854775807) :
    Calls Try.prog 41 #[.int .i64 n] w fun e w' => e = .returned (.int .i64 (absI n)) ∧ w = w' := by
  go_enter Try.func41, Try.ntmps41
  go_wp2
  all_goals go_ret
  all_goals exact ⟨ret_int (by simp [absI]; omega), rfl⟩

set_option maxHeartbeats 400000 in
theorem i_abs (n : Int) (w : World) (h1 : -9223372036854775807 ≤ n) (h2 : n ≤ 9223372036854775807) :
    Calls Try.prog 55 #[.int .i64 n] w fun e w' => e = .returned (.int .i64 (absI n)) ∧ w = w' := by
  go_enter Try.func55, Try.ntmps55
  go_wp2
  all_goals go_ret
  all_goals exact ⟨ret_int (by simp [absI]; omega), rfl⟩

set_option maxHeartbeats 400000 in
theorem s_SpinTriangle (a b c : Int) (w : World) :
    Calls Try.prog 24 #[.int .i64 a, .int .i64 b, .int .i64 c] w fun e w' => e = .returned (.bool (triB a b c)) ∧ w = w' := by
  cases ha : inB a 0 24
  · go_enter Try.func24, Try.ntmps24
    go_wp2_with (go_at_call 25; refine (s_SpinValid _ _).mono ?_; rintro e w' ⟨rfl, rfl⟩)
    go_ret
    exact ⟨ret_bool (by simp [triB, ha]), rfl⟩
  cases hb : inB b 0 24
  · go_enter Try.func24, Try.ntmps24
    go_wp2_with (go_at_call 25; refine (s_SpinValid _ _).mono ?_; rintro e w' ⟨rfl, rfl⟩)
    go_ret
    exact ⟨ret_bool (by simp [triB, hb]), rfl⟩
  cases hc : inB c 0 24
  · go_enter Try.func24, Try.ntmps24
    go_wp2_with (go_at_call 25; refine (s_SpinValid _ _).mono ?_; rintro e w' ⟨rfl, rfl⟩)
    go_ret
    exact ⟨ret_bool (by simp [triB, hc]), rfl⟩
  obtain ⟨a1, a2⟩ := inB_iff.1 ha
  obtain ⟨b1, b2⟩ := inB_iff.1 hb
  obtain ⟨c1, c2⟩ := inB_iff.1 hc
  have e : triB a b c = (decide ((a + b + c) % 2 = 0) && decide (a ≤ b + c) && decide (b ≤ a + c) && decide (c ≤ a + b)) := by simp [triB, ha, hb, hc]
  have E := Lib.hid e
  clear e
  go_enter Try.func24, Try.ntmps24
  go_wp2_with (go_at_call 25; refine (s_SpinValid _ _).mono ?_; rintro e w' ⟨rfl, rfl⟩)
  all_goals go_ret
  all_goals (refine ⟨ret_bool ?_, rfl⟩; rw [E.out]; simp_all <;> omega)

set_option maxHeartbeats 400000 in
theorem i_SpinTriangle (a b c : Int) (w : World) :
    Calls Try.prog 31 #[.int .i64 a, .int .i64 b, .int .i64 c] w fun e w' => e = .returned (.bool (triB a b c)) ∧ w = w' := by
  cases ha : inB a 0 24
  · go_enter Try.func31, Try.ntmps31
    go_wp2_with (go_at_call 33; refine (i_SpinValid _ _).mono ?_; rintro e w' ⟨rfl, rfl⟩)
    go_ret
    exact ⟨ret_bool (by simp [triB, ha]), rfl⟩
  cases hb : inB b 0 24
  · go_enter Try.func31, Try.ntmps31
    go_wp2_with (go_at_call 33; refine (i_SpinValid _ _).mono ?_; rintro e w' ⟨rfl, rfl⟩)
    go_ret
    exact ⟨ret_bool (by simp [triB, hb]), rfl⟩
  cases hc : inB c 0 24
  · go_enter Try.func31, Try.ntmps31
    go_wp2_with (go_at_call 33; refine (i_SpinValid _ _).mono ?_; rintro e w' ⟨rfl, rfl⟩)
    go_ret
    exact ⟨ret_bool (by simp [triB, hc]), rfl⟩
  obtain ⟨a1, a2⟩ := inB_iff.1 ha
  obtain ⟨b1, b2⟩ := inB_iff.1 hb
  obtain ⟨c1, c2⟩ := inB_iff.1 hc
  have e : triB a b c = (decide ((a + b + c) % 2 = 0) && decide (a ≤ b + c) && decide (b ≤ a + c) && decide (c ≤ a + b)) := by simp [triB, ha, hb, hc]
  have E := Lib.hid e
  clear e
  go_enter Try.func31, Try.ntmps31
  go_wp2_with (go_at_call 33; refine (i_SpinValid _ _).mono ?_; rintro e w' ⟨rfl, rfl⟩)
  all_goals go_ret
  all_goals (refine ⟨ret_bool ?_, rfl⟩; rw [E.out]; simp_all <;> omega)

end Go.Proofs.Ytdhmjmnpaigagaa
