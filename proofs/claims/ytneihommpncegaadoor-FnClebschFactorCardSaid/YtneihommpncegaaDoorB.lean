/- Contracts of SpinCoupled and HyperLevels, of the program and of the reference. -/
import Derived.Test.YtneihommpncegaaDoorA
namespace Go.Proofs.YtneihommpncegaaDoor
open Go.RowKit

theorem infoInt : (Tryd.prog.info? 3).map (fun i => (i.zero, i.size, i.bytes)) = some (some (.int .i64 0), 1, 8) := by kernel_rfl

set_option maxRecDepth 100000 in
set_option maxHeartbeats 400000 in
theorem s_SpinCoupled (a b : Int) (w : World) :
    Calls Tryd.prog 41 #[.int .i64 a, .int .i64 b] w (RInts w (coupledL a b)) := by
  obtain ⟨i0, hi, hz0, hz1, hz2⟩ := info_parts infoInt
  cases ha : inB a 0 24
  · have e : coupledL a b = [] := by simp [coupledL, coupledOk, ha]
    have E := Lib.hid e
    clear e
    go_enter Tryd.func41, Tryd.ntmps41
    go_wp2_with (go_at_call 44; refine (s_SpinValid _ _).mono ?_; rintro e w' ⟨rfl, rfl⟩)
    go_ret
    exact ⟨_, rfl, by rw [E.out]; exact Ints.empty _, (Below.refl _ _).alloc (Nat.le_refl _) _⟩
  cases hb : inB b 0 24
  · have e : coupledL a b = [] := by simp [coupledL, coupledOk, hb]
    have E := Lib.hid e
    clear e
    go_enter Tryd.func41, Tryd.ntmps41
    go_wp2_with (go_at_call 44; refine (s_SpinValid _ _).mono ?_; rintro e w' ⟨rfl, rfl⟩)
    go_ret
    exact ⟨_, rfl, by rw [E.out]; exact Ints.empty _, (Below.refl _ _).alloc (Nat.le_refl _) _⟩
  obtain ⟨a1, a2⟩ := inB_iff.1 ha
  obtain ⟨b1, b2⟩ := inB_iff.1 hb
  by_cases hs : a + b ≤ 24
  · have e : coupledL a b = stepL (absI (a - b)) (min a b + 1).toNat := by simp [coupledL, coupledOk, ha, hb, hs]
    have E := Lib.hid e
    clear e
    have q1 : 0 ≤ absI (a - b) := by unfold absI; omega
    have q2 : absI (a - b) + 2 * (min a b) = a + b := by unfold absI; omega
    have Q2 := Lib.hid q2
    clear q2
    go_enter Tryd.func41, Tryd.ntmps41
    go_wp2_with (first | (go_at_call 44; refine (s_SpinValid _ _).mono ?_; rintro e w' ⟨rfl, rfl⟩) | (go_at_call 46; refine (s_l1Abs _ _ (by omega) (by omega)).mono ?_; rintro e w' ⟨rfl, rfl⟩))
    go_loopw [5, 6] (fun v c wr => ∃ k : Nat, (k : Int) ≤ min a b + 1 ∧ c = .int .i64 (absI (a - b) + 2 * (k : Int)) ∧ Ints wr w.heap.size v (stepL (absI (a - b)) k) ∧ Below w.heap.size w wr) (fun _ c _ => (100 - intOf c).toNat)
    case atStart => exact ⟨0, by omega, by simp, Ints.empty _, (Below.refl _ _).alloc (Nat.le_refl _) _⟩
    case round =>
      obtain ⟨k, hk, rfl, hown, hnx⟩ := hrel
      have hsz := hnx.size
      by_cases hlt : (k : Int) ≤ min a b
      · have g1 : absI (a - b) + 2 * (k : Int) ≤ a + b := by have := Q2.out; omega
        have hown2 := hown
        unfold Ints at hown2
        go_wp2_with (at_builtin; refine wpList_append_own _ rfl _ _ 61 rfl w.heap.size 3 i0 (.int .i64 0) 1 8 Tryd.underlying61 hi hz0 hz1 hz2 rfl (by decide) _ _ _ rfl (hown2.alloc _) ⟨wr.heap.size, 0, none⟩ 1 1 [.int .i64 (absI (a - b) + 2 * (k : Int))] rfl rfl ?c1 ?c2 ?c3 ?c4 ?c5 ?_)
        case c1 => exact cell_one_new _ _ _
        case c2 => intro u hu; simp at hu; subst hu; rfl
        case c3 => rw [stepL_length]; unfold maxLen; omega
        case c4 => rw [stepL_length]; omega
        case c5 => simp; omega
        intro v' w1 hown' hgrow _
        have A1 := Ints.app hown'
        have A2 := app_below hnx hown hgrow (Nat.le_refl _) hsz
        clear hown' hgrow hown hown2 hnx
        go_wp2
        go_roundw
        case rel => exact ⟨k + 1, by omega, by go_num, by rw [stepL_succ]; exact A1, A2⟩
        case measure => simp [intOf]; omega
      · have g1 : a + b < absI (a - b) + 2 * (k : Int) := by have := Q2.out; omega
        have e : (min a b + 1).toNat = k := by omega
        have E2 := Lib.hid e
        clear e
        go_wp2
        go_ret
        exact ⟨_, rfl, by rw [E.out, E2.out]; exact hown, hnx⟩
  · have e : coupledL a b = [] := by simp [coupledL, coupledOk]; omega
    have E := Lib.hid e
    clear e
    go_enter Tryd.func41, Tryd.ntmps41
    go_wp2_with (go_at_call 44; refine (s_SpinValid _ _).mono ?_; rintro e w' ⟨rfl, rfl⟩)
    go_ret
    exact ⟨_, rfl, by rw [E.out]; exact Ints.empty _, (Below.refl _ _).alloc (Nat.le_refl _) _⟩


end Go.Proofs.YtneihommpncegaaDoor
