/- Contracts on shells, of the program and of the reference. -/
import Derived.Test.YtpdhbilghmejiaaU
import Derived.Test.YtpdhbilghmejiaaV
import Derived.Deep.RegionHeld3
import Derived.Deep.RegionWith
namespace Go.Proofs.Ytpdhbilghmejiaa
open Go.RowKit
set_option linter.unusedVariables false

def shB (N L C : Int) : Bool := inB N 1 7 && inB L 0 3 && decide (L < N) && inB C 1 (4 * L + 2)
theorem shB_iff {N L C : Int} : shB N L C = true ↔ (1 ≤ N ∧ N ≤ 7) ∧ (0 ≤ L ∧ L ≤ 3) ∧ L < N ∧ 1 ≤ C ∧ C ≤ 4 * L + 2 := by
  simp [shB, inB_iff, and_assoc]
theorem shB_not {N L C : Int} (h : ¬ ((1 ≤ N ∧ N ≤ 7) ∧ (0 ≤ L ∧ L ≤ 3) ∧ L < N ∧ 1 ≤ C ∧ C ≤ 4 * L + 2)) : shB N L C = false := by
  rw [Bool.eq_false_iff]; exact fun e => h (shB_iff.1 e)
def lessB (N L N2 L2 : Int) : Bool := decide (N < N2) || (decide (N = N2) && decide (L < L2))
theorem lessB_iff {N L N2 L2 : Int} : lessB N L N2 L2 = true ↔ N < N2 ∨ (N = N2 ∧ L < L2) := by simp [lessB]

set_option maxHeartbeats 400000 in
theorem s_ShellCapacity (l : Int) (w : World) :
    Calls Try.prog 55 #[.int .i64 l] w fun e w' => e = .returned (.int .i64 (capI l)) ∧ w = w' := by
  cases h : inB l 0 3
  · have E := Lib.hid (show capI l = 0 by unfold capI; rw [if_neg]; intro h2; rw [inB_true h2.1 h2.2] at h; cases h)
    go_enter Try.func55, Try.ntmps55
    go_wp2_with (go_at_call 60; refine (s_l6In _ _ _ _).mono ?_; rintro e w' ⟨rfl, rfl⟩)
    go_ret
    exact ⟨ret_int (by rw [E.out]), rfl⟩
  · have hl := inB_iff.1 h
    have E := Lib.hid (show capI l = 4 * l + 2 by exact capI_in hl.1 hl.2)
    go_enter Try.func55, Try.ntmps55
    go_wp2_with (go_at_call 60; refine (s_l6In _ _ _ _).mono ?_; rintro e w' ⟨rfl, rfl⟩)
    go_ret
    exact ⟨ret_int (by rw [E.out]), rfl⟩

theorem quietC (l : Int) (w : World) (n : Nat) (h0 : 0 ≤ l) (h1 : l ≤ 3) : Calls Try.prog 48 #[.int .i64 l] (w.drewN n) fun e w'' => e = .returned (.int .i64 (4 * l + 2)) ∧ ∃ m, w'' = w.drewN m :=
  quietL ((i_ShellCapacity l _).mono fun e w' ⟨he, hw⟩ => ⟨by rw [he, capI_in h0 h1], hw⟩)

set_option maxRecDepth 100000 in
set_option maxHeartbeats 1000000 in
theorem i_ShellValid (N L C : Int) (w : World) :
    Calls Try.prog 58 #[.agg #[.int .i64 N, .int .i64 L, .int .i64 C]] w fun e w' => e = .returned (.bool (shB N L C)) ∧ Below w.heap.size w w' := by
  by_cases c0 : 1 ≤ N
  rotate_left
  · have d0 : decide (1 ≤ N) = false := decide_eq_false c0
    have E := Lib.hid (shB_not (N := N) (L := L) (C := C) (by omega))
    go_enter Try.func58, Try.ntmps58
    go_wp2_with fail
    go_quiet ((go_at_call 48; exact quietC _ _ _ (by omega) (by omega)))
    go_wp2_with fail
    go_ret
    exact ⟨ret_bool (by rw [E.out]), bl_drewN (bl_alloc (Below.refl _ _) _) _⟩
  by_cases c1 : N ≤ 7
  rotate_left
  · have d1 : decide (N ≤ 7) = false := decide_eq_false c1
    have E := Lib.hid (shB_not (N := N) (L := L) (C := C) (by omega))
    go_enter Try.func58, Try.ntmps58
    go_wp2_with fail
    go_quiet ((go_at_call 48; exact quietC _ _ _ (by omega) (by omega)))
    go_wp2_with fail
    go_ret
    exact ⟨ret_bool (by rw [E.out]), bl_drewN (bl_alloc (Below.refl _ _) _) _⟩
  by_cases c2 : 0 ≤ L
  rotate_left
  · have d2 : decide (0 ≤ L) = false := decide_eq_false c2
    have E := Lib.hid (shB_not (N := N) (L := L) (C := C) (by omega))
    go_enter Try.func58, Try.ntmps58
    go_wp2_with fail
    go_quiet ((go_at_call 48; exact quietC _ _ _ (by omega) (by omega)))
    go_wp2_with fail
    go_ret
    exact ⟨ret_bool (by rw [E.out]), bl_drewN (bl_alloc (Below.refl _ _) _) _⟩
  by_cases c3 : L ≤ 3
  rotate_left
  · have d3 : decide (L ≤ 3) = false := decide_eq_false c3
    have E := Lib.hid (shB_not (N := N) (L := L) (C := C) (by omega))
    go_enter Try.func58, Try.ntmps58
    go_wp2_with fail
    go_quiet ((go_at_call 48; exact quietC _ _ _ (by omega) (by omega)))
    go_wp2_with fail
    go_ret
    exact ⟨ret_bool (by rw [E.out]), bl_drewN (bl_alloc (Below.refl _ _) _) _⟩
  by_cases c4 : L < N
  rotate_left
  · have d4 : decide (L < N) = false := decide_eq_false c4
    have E := Lib.hid (shB_not (N := N) (L := L) (C := C) (by omega))
    go_enter Try.func58, Try.ntmps58
    go_wp2_with fail
    go_quiet ((go_at_call 48; exact quietC _ _ _ (by omega) (by omega)))
    go_wp2_with fail
    go_ret
    exact ⟨ret_bool (by rw [E.out]), bl_drewN (bl_alloc (Below.refl _ _) _) _⟩
  by_cases c5 : 1 ≤ C
  rotate_left
  · have d5 : decide (1 ≤ C) = false := decide_eq_false c5
    have E := Lib.hid (shB_not (N := N) (L := L) (C := C) (by omega))
    go_enter Try.func58, Try.ntmps58
    go_wp2_with fail
    go_quiet ((go_at_call 48; exact quietC _ _ _ (by omega) (by omega)))
    go_wp2_with fail
    go_ret
    exact ⟨ret_bool (by rw [E.out]), bl_drewN (bl_alloc (Below.refl _ _) _) _⟩
  by_cases c6 : C ≤ 4 * L + 2
  rotate_left
  · have d6 : decide (C ≤ 4 * L + 2) = false := decide_eq_false c6
    have E := Lib.hid (shB_not (N := N) (L := L) (C := C) (by omega))
    go_enter Try.func58, Try.ntmps58
    go_wp2_with fail
    go_quiet ((go_at_call 48; exact quietC _ _ _ (by omega) (by omega)))
    go_wp2_with fail
    go_ret
    exact ⟨ret_bool (by rw [E.out]), bl_drewN (bl_alloc (Below.refl _ _) _) _⟩
  have E := Lib.hid (shB_iff (N := N) (L := L) (C := C).2 (by omega))
  go_enter Try.func58, Try.ntmps58
  go_wp2_with fail
  go_quiet ((go_at_call 48; exact quietC _ _ _ (by omega) (by omega)))
  go_wp2_with fail
  go_ret
  exact ⟨ret_bool (by rw [E.out]), bl_drewN (bl_alloc (Below.refl _ _) _) _⟩
set_option maxRecDepth 100000 in
set_option maxHeartbeats 1000000 in
theorem s_ShellValid (N L C : Int) (w : World) :
    Calls Try.prog 56 #[.agg #[.int .i64 N, .int .i64 L, .int .i64 C]] w fun e w' => e = .returned (.bool (shB N L C)) ∧ Below w.heap.size w w' := by
  cases h1 : inB N 1 7
  · have E := Lib.hid (show shB N L C = false by simp [shB, h1])
    go_enter Try.func56, Try.ntmps56
    go_wp2_with (go_at_call 60; refine (s_l6In _ _ _ _).mono ?_; rintro e w' ⟨rfl, rfl⟩)
    go_ret
    exact ⟨ret_bool (by rw [E.out]), bl_alloc (Below.refl _ _) _⟩
  have n1 := inB_iff.1 h1
  have HM : Hid (inB L 0 (min 3 (N - 1)) = true ↔ (0 ≤ L ∧ L ≤ 3) ∧ L < N) := Lib.hid (by rw [inB_iff]; omega)
  by_cases hm : (3 : Int) ≤ N - 1
  · have e0 : min 3 (N - 1) = 3 := by omega
    cases h2 : inB L 0 3
    · have E := Lib.hid (shB_not (N := N) (L := L) (C := C) (fun h => by have := HM.out.2 ⟨h.2.1, h.2.2.1⟩; rw [e0, h2] at this; cases this))
      clear e0
      go_enter Try.func56, Try.ntmps56
      go_wp2_with (go_at_call 60; refine (s_l6In _ _ _ _).mono ?_; rintro e w' ⟨rfl, rfl⟩)
      go_ret
      exact ⟨ret_bool (by rw [E.out]), bl_alloc (Below.refl _ _) _⟩
    · have l1 := HM.out.1 (by rw [e0]; exact h2)
      have E := Lib.hid (show shB N L C = inB C 1 (4 * L + 2) by rw [shB, h1, inB_true l1.1.1 l1.1.2, decide_eq_true l1.2]; rfl)
      clear e0
      go_enter Try.func56, Try.ntmps56
      go_wp2_with (go_at_call 60; refine (s_l6In _ _ _ _).mono ?_; rintro e w' ⟨rfl, rfl⟩)
      go_ret
      exact ⟨ret_bool (by rw [E.out]), bl_alloc (Below.refl _ _) _⟩
  · have e0 : min 3 (N - 1) = (N - 1) := by omega
    cases h2 : inB L 0 (N - 1)
    · have E := Lib.hid (shB_not (N := N) (L := L) (C := C) (fun h => by have := HM.out.2 ⟨h.2.1, h.2.2.1⟩; rw [e0, h2] at this; cases this))
      clear e0
      go_enter Try.func56, Try.ntmps56
      go_wp2_with (go_at_call 60; refine (s_l6In _ _ _ _).mono ?_; rintro e w' ⟨rfl, rfl⟩)
      go_ret
      exact ⟨ret_bool (by rw [E.out]), bl_alloc (Below.refl _ _) _⟩
    · have l1 := HM.out.1 (by rw [e0]; exact h2)
      have E := Lib.hid (show shB N L C = inB C 1 (4 * L + 2) by rw [shB, h1, inB_true l1.1.1 l1.1.2, decide_eq_true l1.2]; rfl)
      clear e0
      go_enter Try.func56, Try.ntmps56
      go_wp2_with (go_at_call 60; refine (s_l6In _ _ _ _).mono ?_; rintro e w' ⟨rfl, rfl⟩)
      go_ret
      exact ⟨ret_bool (by rw [E.out]), bl_alloc (Below.refl _ _) _⟩
set_option maxRecDepth 100000 in
set_option maxHeartbeats 1000000 in
theorem s_l11Less (N L C N2 L2 C2 : Int) (w : World) :
    Calls Try.prog 57 #[.agg #[.int .i64 N, .int .i64 L, .int .i64 C], .agg #[.int .i64 N2, .int .i64 L2, .int .i64 C2]] w fun e w' => e = .returned (.bool (lessB N L N2 L2)) ∧ Below w.heap.size w w' := by
  rcases Int.lt_trichotomy N N2 with h | h | h
  · have E := Lib.hid (lessB_iff (N := N) (L := L) (N2 := N2) (L2 := L2).2 (by omega))
    go_enter Try.func57, Try.ntmps57
    go_wp2_with fail
    go_ret
    exact ⟨ret_bool (by rw [E.out]), bl_alloc (bl_alloc (Below.refl _ _) _) _⟩
  · subst h
    have E := Lib.hid (show lessB N L N L2 = decide (L < L2) by simp [lessB])
    go_enter Try.func57, Try.ntmps57
    go_wp2_with fail
    go_ret
    exact ⟨ret_bool (by rw [E.out]), bl_alloc (bl_alloc (Below.refl _ _) _) _⟩
  · have E := Lib.hid (show lessB N L N2 L2 = false by rw [Bool.eq_false_iff]; intro e; have := lessB_iff.1 e; omega)
    have h2 : (N == N2) = false := by simp; omega
    go_enter Try.func57, Try.ntmps57
    go_wp2_with fail
    go_ret
    exact ⟨ret_bool (by rw [E.out]; exact decide_eq_false (by omega)), bl_alloc (bl_alloc (Below.refl _ _) _) _⟩
end Go.Proofs.Ytpdhbilghmejiaa
