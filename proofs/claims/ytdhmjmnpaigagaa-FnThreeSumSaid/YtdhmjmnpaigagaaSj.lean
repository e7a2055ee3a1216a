/- The reference's list of projections. -/
import Derived.Test.YtdhmjmnpaigagaaB
import Derived.Test.YtdhmjmnpaigagaaK1
namespace Go.Proofs.Ytdhmjmnpaigagaa
open Go.RowKit
set_option linter.unusedVariables false

set_option maxRecDepth 100000 in
set_option maxHeartbeats 400000 in
theorem s_SpinProj (j : Int) (w : World) (j0 : 0 ≤ j) (j1 : j ≤ 24) :
    Calls Try.prog 11 #[.int .i64 j] w (RInts w (stepL (-j) (j + 1).toNat)) := by
  obtain ⟨i0, hi, hz0, hz1, hz2⟩ := info_parts infoInt
  have hj : inB j 0 24 = true := inB_true j0 j1
  go_enter Try.func11, Try.ntmps11
  go_wp2_with (go_at_call 25; refine (s_SpinValid _ _).mono ?_; rintro e w' ⟨rfl, rfl⟩)
  go_loopw [3, 4] (fun v c wr => ∃ k : Nat, (k : Int) ≤ j + 1 ∧ c = .int .i64 (-j + 2 * (k : Int)) ∧ Ints wr w.heap.size v (stepL (-j) k) ∧ Below w.heap.size w wr) (fun _ c _ => (100 - intOf c).toNat)
  case atStart => exact ⟨0, by omega, by simp, Ints.empty _, (Below.refl _ _).alloc (Nat.le_refl _) _⟩
  case round =>
    obtain ⟨k, hk, rfl, hown, hnx⟩ := hrel
    have hsz := hnx.size
    by_cases hlt : (k : Int) ≤ j
    · have hown2 := hown
      unfold Ints at hown2
      go_wp2_with (at_builtin; refine wpList_append_own _ rfl _ _ 34 rfl w.heap.size 3 i0 (.int .i64 0) 1 8 Try.underlying34 hi hz0 hz1 hz2 rfl (by decide) _ _ _ rfl (hown2.alloc _) ⟨wr.heap.size, 0, none⟩ 1 1 [.int .i64 (-j + 2 * (k : Int))] rfl rfl ?c1 ?c2 ?c3 ?c4 ?c5 ?_)
      case c1 => exact cell_one_new _ _ _
      case c2 => intro u hu; simp at hu; subst hu; rfl
      case c3 => rw [stepL_length]; unfold maxLen; omega
      case c4 => rw [stepL_length]; omega
      case c5 => simp; omega
      intro v' w1 hown' hgrow _
      have A1 := Ints.app hown'
      have A2 := app_below hnx hown hgrow (Nat.le_refl _) hsz
      clear hown' hgrow hown hown2 hnx
      go_wp2
      go_roundw
      case rel => exact ⟨k + 1, by omega, by go_num, by rw [stepL_succ]; exact A1, A2⟩
      case measure => simp [intOf]; omega
    · have e : (j + 1).toNat = k := by omega
      have E2 := Lib.hid e
      clear e
      go_wp2
      go_ret
      exact ⟨_, rfl, by rw [E2.out]; exact hown, hnx⟩

end Go.Proofs.Ytdhmjmnpaigagaa
