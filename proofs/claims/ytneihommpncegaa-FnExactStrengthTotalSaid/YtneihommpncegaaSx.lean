/- Contracts of the program's functions on 6j symbols. -/
import Derived.Test.YtneihommpncegaaK2
import Derived.Test.YtneihommpncegaaPx
import Derived.Test.YtneihommpncegaaQ
import Derived.Test.YtneihommpncegaaB6
namespace Go.Proofs.Ytneihommpncegaa
open Go.RowKit
set_option linter.unusedVariables false

theorem fac_step {j : Nat} (h : j + 1 ≤ 20) : (fa j : Int) * ((j : Int) + 1) = (fa (j + 1) : Int) ∧ 0 ≤ (fa j : Int) * ((j : Int) + 1) ∧ (fa j : Int) * ((j : Int) + 1) ≤ 2432902008176640000 := by
  have e : (fa j : Int) * ((j : Int) + 1) = (fa (j + 1) : Int) := by
    show _ = (((j + 1) * fa j : Nat) : Int)
    rw [Int.natCast_mul, Int.mul_comm]; rfl
  have b := facI_bd (n := ((j + 1 : Nat) : Int)) (by omega)
  unfold facI at b
  rw [Int.toNat_natCast] at b
  exact ⟨e, by omega, by omega⟩

set_option maxRecDepth 100000 in
set_option maxHeartbeats 400000 in
theorem i_factorial (n : Int) (w : World) (hn : n ≤ 20) :
    Calls Try.prog 64 #[.int .i64 n] w fun e w' => e = .returned (.int .i64 (facI n)) ∧ w = w' := by
  go_enter Try.func64, Try.ntmps64
  go_wp2
  go_loop [3, 4] (fun p i => ∃ j : Nat, 1 ≤ j ∧ (j : Int) ≤ max n 1 ∧ i = .int .i64 ((j : Int) + 1) ∧ p = .int .i64 (fa j)) (fun _ i => (30 - intOf i).toNat)
  case atStart => exact ⟨1, by omega, by omega, rfl, rfl⟩
  case round =>
    obtain ⟨j, hj, hj2, rfl, rfl⟩ := hrel
    by_cases hlt : (j : Int) + 1 ≤ n
    · obtain ⟨e, p0, p1⟩ := fac_step (j := j) (by omega)
      have E := Lib.hid e
      clear e
      generalize fa j = x at *
      go_wp2
      go_round
      case rel => exact ⟨j + 1, by omega, by omega, by go_num, by rw [E.out]⟩
      case measure => simp [intOf]; omega
    · have E := Lib.hid (show facI n = (fa j : Int) by
        unfold facI
        by_cases h1 : 1 ≤ n
        · rw [show n.toNat = j by omega]
        · rw [show n.toNat = 0 by omega, show j = 1 by omega]; rfl)
      go_wp2
      go_ret
      exact ⟨ret_int (by rw [E.out]), rfl⟩

set_option maxRecDepth 100000 in
set_option maxHeartbeats 400000 in
theorem i_triads (a b c d e f : Int) (w : World) :
    Calls Try.prog 43 #[.agg #[.int .i64 a, .int .i64 b, .int .i64 c, .int .i64 d, .int .i64 e, .int .i64 f]] w fun r w' => r = .returned (.agg #[.int .i64 a, .int .i64 b, .int .i64 c, .int .i64 a, .int .i64 e, .int .i64 f, .int .i64 d, .int .i64 b, .int .i64 f, .int .i64 d, .int .i64 e, .int .i64 c]) ∧ Below w.heap.size w w' := by
  go_enter Try.func43, Try.ntmps43
  go_wp2_with fail
  refine bodyPost_ret (v := .agg #[.int .i64 a, .int .i64 b, .int .i64 c, .int .i64 a, .int .i64 e, .int .i64 f, .int .i64 d, .int .i64 b, .int .i64 f, .int .i64 d, .int .i64 e, .int .i64 c]) (by simp [results, Try.results43, go_sem]) rfl ⟨rfl, by (repeat' (first | exact Below.refl _ _ | refine bl_out ?_ (by assumption) | exact (Hid.out (by assumption)) | refine bl_alloc ?_ _ | refine bl_drewN ?_ _ | refine bl_drew ?_ | refine bl_set ?_ ?_ _ | omega | (simp; done) | (simp; omega)))⟩

theorem ixT0 (a b c d e f : Int) (w : World) : (Instr.index 72 (.agg #[.int .i64 a, .int .i64 b, .int .i64 c, .int .i64 a, .int .i64 e, .int .i64 f, .int .i64 d, .int .i64 b, .int .i64 f, .int .i64 d, .int .i64 e, .int .i64 c]) (.int .i64 0)).run Try.prog w = .ok (.agg #[.int .i64 a, .int .i64 b, .int .i64 c]) w := by kernel_rfl
theorem ixT1 (a b c d e f : Int) (w : World) : (Instr.index 72 (.agg #[.int .i64 a, .int .i64 b, .int .i64 c, .int .i64 a, .int .i64 e, .int .i64 f, .int .i64 d, .int .i64 b, .int .i64 f, .int .i64 d, .int .i64 e, .int .i64 c]) (.int .i64 1)).run Try.prog w = .ok (.agg #[.int .i64 a, .int .i64 e, .int .i64 f]) w := by kernel_rfl
theorem ixT2 (a b c d e f : Int) (w : World) : (Instr.index 72 (.agg #[.int .i64 a, .int .i64 b, .int .i64 c, .int .i64 a, .int .i64 e, .int .i64 f, .int .i64 d, .int .i64 b, .int .i64 f, .int .i64 d, .int .i64 e, .int .i64 c]) (.int .i64 2)).run Try.prog w = .ok (.agg #[.int .i64 d, .int .i64 b, .int .i64 f]) w := by kernel_rfl
theorem ixT3 (a b c d e f : Int) (w : World) : (Instr.index 72 (.agg #[.int .i64 a, .int .i64 b, .int .i64 c, .int .i64 a, .int .i64 e, .int .i64 f, .int .i64 d, .int .i64 b, .int .i64 f, .int .i64 d, .int .i64 e, .int .i64 c]) (.int .i64 3)).run Try.prog w = .ok (.agg #[.int .i64 d, .int .i64 e, .int .i64 c]) w := by kernel_rfl
def exK (a b c d e f : Int) : Nat → Bool
  | 0 => true
  | 1 => tdB a b c
  | 2 => tdB a b c && tdB a e f
  | 3 => tdB a b c && tdB a e f && tdB d b f
  | _ => tdB a b c && tdB a e f && tdB d b f && tdB d e c

set_option maxRecDepth 100000 in
set_option maxHeartbeats 2000000 in
theorem i_exists (a b c d e f : Int) (w : World) :
    Calls Try.prog 23 #[.agg #[.int .i64 a, .int .i64 b, .int .i64 c, .int .i64 d, .int .i64 e, .int .i64 f]] w fun r w' => r = .returned (.bool (sixOk a b c d e f)) ∧ Below w.heap.size w w' := by
  have ix0 := ixT0 a b c d e f
  have ix1 := ixT1 a b c d e f
  have ix2 := ixT2 a b c d e f
  have ix3 := ixT3 a b c d e f
  go_enter Try.func23, Try.ntmps23
  go_wp2_with fail
  refine (i_triads _ _ _ _ _ _ _).mono ?_
  rintro r w1 ⟨rfl, hb1⟩
  have B1 := Lib.hid (btr (bl_alloc (Below.refl _ _) _) hb1)
  clear hb1
  go_wp2_with fail
  go_loopw [4, 7] (fun _ i wr => ∃ k : Nat, k ≤ 4 ∧ i = .int .i64 k ∧ exK a b c d e f k = true ∧ Below w.heap.size w wr) (fun _ i _ => 4 - (intOf i).toNat)
  case atStart => exact ⟨0, by omega, rfl, rfl, B1.out⟩
  case round =>
    obtain ⟨k, hk, rfl, hx, hnx⟩ := hrel
    have HX := Lib.hid hx
    have HN := Lib.hid hnx
    clear hx hnx
    rcases (by omega : k = 0 ∨ k = 1 ∨ k = 2 ∨ k = 3 ∨ k = 4) with rfl | rfl | rfl | rfl | rfl
    · cases ht : tdB a b c
      · have E := Lib.hid (show sixOk a b c d e f = false by simp [sixOk, ht])
        go_wp2_with (go_at_call 44; refine (i_triadValid _ _ _ _).mono ?_; rintro e w' ⟨rfl, rfl⟩)
        go_ret
        exact ⟨ret_bool (by rw [E.out]), by (repeat' (first | exact Below.refl _ _ | refine bl_out ?_ (by assumption) | exact (Hid.out (by assumption)) | refine bl_alloc ?_ _ | refine bl_drewN ?_ _ | refine bl_drew ?_ | refine bl_set ?_ ?_ _ | omega | (simp; done) | (simp; omega)))⟩
      · go_wp2_with (go_at_call 44; refine (i_triadValid _ _ _ _).mono ?_; rintro e w' ⟨rfl, rfl⟩)
        go_roundw
        case rel => exact ⟨1, by omega, rfl, by have := HX.out; simp [exK, ht] at *; try exact this, by (repeat' (first | exact Below.refl _ _ | refine bl_out ?_ (by assumption) | exact (Hid.out (by assumption)) | refine bl_alloc ?_ _ | refine bl_drewN ?_ _ | refine bl_drew ?_ | refine bl_set ?_ ?_ _ | omega | (simp; done) | (simp; omega)))⟩
        case measure => simp [intOf]
    · cases ht : tdB a e f
      · have E := Lib.hid (show sixOk a b c d e f = false by simp [sixOk, ht])
        go_wp2_with (go_at_call 44; refine (i_triadValid _ _ _ _).mono ?_; rintro e w' ⟨rfl, rfl⟩)
        go_ret
        exact ⟨ret_bool (by rw [E.out]), by (repeat' (first | exact Below.refl _ _ | refine bl_out ?_ (by assumption) | exact (Hid.out (by assumption)) | refine bl_alloc ?_ _ | refine bl_drewN ?_ _ | refine bl_drew ?_ | refine bl_set ?_ ?_ _ | omega | (simp; done) | (simp; omega)))⟩
      · go_wp2_with (go_at_call 44; refine (i_triadValid _ _ _ _).mono ?_; rintro e w' ⟨rfl, rfl⟩)
        go_roundw
        case rel => exact ⟨2, by omega, rfl, by have := HX.out; simp [exK, ht] at *; try exact this, by (repeat' (first | exact Below.refl _ _ | refine bl_out ?_ (by assumption) | exact (Hid.out (by assumption)) | refine bl_alloc ?_ _ | refine bl_drewN ?_ _ | refine bl_drew ?_ | refine bl_set ?_ ?_ _ | omega | (simp; done) | (simp; omega)))⟩
        case measure => simp [intOf]
    · cases ht : tdB d b f
      · have E := Lib.hid (show sixOk a b c d e f = false by simp [sixOk, ht])
        go_wp2_with (go_at_call 44; refine (i_triadValid _ _ _ _).mono ?_; rintro e w' ⟨rfl, rfl⟩)
        go_ret
        exact ⟨ret_bool (by rw [E.out]), by (repeat' (first | exact Below.refl _ _ | refine bl_out ?_ (by assumption) | exact (Hid.out (by assumption)) | refine bl_alloc ?_ _ | refine bl_drewN ?_ _ | refine bl_drew ?_ | refine bl_set ?_ ?_ _ | omega | (simp; done) | (simp; omega)))⟩
      · go_wp2_with (go_at_call 44; refine (i_triadValid _ _ _ _).mono ?_; rintro e w' ⟨rfl, rfl⟩)
        go_roundw
        case rel => exact ⟨3, by omega, rfl, by have := HX.out; simp [exK, ht] at *; try exact this, by (repeat' (first | exact Below.refl _ _ | refine bl_out ?_ (by assumption) | exact (Hid.out (by assumption)) | refine bl_alloc ?_ _ | refine bl_drewN ?_ _ | refine bl_drew ?_ | refine bl_set ?_ ?_ _ | omega | (simp; done) | (simp; omega)))⟩
        case measure => simp [intOf]
    · cases ht : tdB d e c
      · have E := Lib.hid (show sixOk a b c d e f = false by simp [sixOk, ht])
        go_wp2_with (go_at_call 44; refine (i_triadValid _ _ _ _).mono ?_; rintro e w' ⟨rfl, rfl⟩)
        go_ret
        exact ⟨ret_bool (by rw [E.out]), by (repeat' (first | exact Below.refl _ _ | refine bl_out ?_ (by assumption) | exact (Hid.out (by assumption)) | refine bl_alloc ?_ _ | refine bl_drewN ?_ _ | refine bl_drew ?_ | refine bl_set ?_ ?_ _ | omega | (simp; done) | (simp; omega)))⟩
      · go_wp2_with (go_at_call 44; refine (i_triadValid _ _ _ _).mono ?_; rintro e w' ⟨rfl, rfl⟩)
        go_roundw
        case rel => exact ⟨4, by omega, rfl, by have := HX.out; simp [exK, ht] at *; try exact this, by (repeat' (first | exact Below.refl _ _ | refine bl_out ?_ (by assumption) | exact (Hid.out (by assumption)) | refine bl_alloc ?_ _ | refine bl_drewN ?_ _ | refine bl_drew ?_ | refine bl_set ?_ ?_ _ | omega | (simp; done) | (simp; omega)))⟩
        case measure => simp [intOf]
    · have E := Lib.hid (show sixOk a b c d e f = true by have := HX.out; simp [exK] at this; simp [sixOk, this])
      go_wp2_with fail
      go_ret
      exact ⟨ret_bool (by rw [E.out]), HN.out⟩

def loK (a b c d e f : Int) : Nat → Int
  | 0 => 0
  | 1 => max 0 ((a + b + c) / 2)
  | 2 => max (max 0 ((a + b + c) / 2)) ((a + e + f) / 2)
  | 3 => max (max (max 0 ((a + b + c) / 2)) ((a + e + f) / 2)) ((d + b + f) / 2)
  | _ => max (max (max (max 0 ((a + b + c) / 2)) ((a + e + f) / 2)) ((d + b + f) / 2)) ((d + e + c) / 2)
def dvK (a b c d e f t : Int) : Nat → Int
  | 0 => facI (t + 1)
  | 1 => facI (t + 1) / facI (t - (a + b + c) / 2)
  | 2 => facI (t + 1) / facI (t - (a + b + c) / 2) / facI (t - (a + e + f) / 2)
  | 3 => facI (t + 1) / facI (t - (a + b + c) / 2) / facI (t - (a + e + f) / 2) / facI (t - (d + b + f) / 2)
  | _ => facI (t + 1) / facI (t - (a + b + c) / 2) / facI (t - (a + e + f) / 2) / facI (t - (d + b + f) / 2) / facI (t - (d + e + c) / 2)
def dwK (a b c d e f t : Int) : Nat → Int
  | 0 => dvK a b c d e f t 4
  | 1 => dvK a b c d e f t 4 / facI ((a + b + d + e) / 2 - t)
  | 2 => dvK a b c d e f t 4 / facI ((a + b + d + e) / 2 - t) / facI ((b + c + e + f) / 2 - t)
  | _ => dvK a b c d e f t 4 / facI ((a + b + d + e) / 2 - t) / facI ((b + c + e + f) / 2 - t) / facI ((a + c + d + f) / 2 - t)
theorem dw_T (a b c d e f t : Int) : dwK a b c d e f t 3 = sxT a b c d e f t := rfl
theorem div_bd {x y M : Int} (h0 : 0 ≤ x) (h1 : x ≤ M) (hy : 1 ≤ y) : 0 ≤ x / y ∧ x / y ≤ M :=
  ⟨Int.ediv_nonneg h0 (by omega), Int.le_trans (Int.ediv_le_self _ h0) h1⟩
theorem dvK_bd (a b c d e f t : Int) (ht : t ≤ 12) (hs : 0 ≤ (a + b + c) / 2 ∧ 0 ≤ (a + e + f) / 2 ∧ 0 ≤ (d + b + f) / 2 ∧ 0 ≤ (d + e + c) / 2) (k : Nat) : 0 ≤ dvK a b c d e f t k ∧ dvK a b c d e f t k ≤ 6227020800 := by
  have f0 := facI_bd13 (n := t + 1) (by omega)
  have f1 := facI_bd13 (n := t - (a + b + c) / 2) (by omega)
  have f2 := facI_bd13 (n := t - (a + e + f) / 2) (by omega)
  have f3 := facI_bd13 (n := t - (d + b + f) / 2) (by omega)
  have f4 := facI_bd13 (n := t - (d + e + c) / 2) (by omega)
  have g1 := div_bd (by omega) f0.2 f1.1
  have g2 := div_bd g1.1 g1.2 f2.1
  have g3 := div_bd g2.1 g2.2 f3.1
  have g4 := div_bd g3.1 g3.2 f4.1
  unfold dvK
  split
  · exact ⟨by omega, f0.2⟩
  · exact g1
  · exact g2
  · exact g3
  · exact g4
theorem dwK_bd (a b c d e f t : Int) (ht : t ≤ 12) (ht0 : 0 ≤ t) (hs : 0 ≤ (a + b + c) / 2 ∧ 0 ≤ (a + e + f) / 2 ∧ 0 ≤ (d + b + f) / 2 ∧ 0 ≤ (d + e + c) / 2) (hp : (a + b + d + e) / 2 ≤ 12 ∧ (b + c + e + f) / 2 ≤ 12 ∧ (a + c + d + f) / 2 ≤ 12) (k : Nat) : 0 ≤ dwK a b c d e f t k ∧ dwK a b c d e f t k ≤ 6227020800 := by
  have g0 := dvK_bd a b c d e f t ht hs 4
  have f1 := facI_bd13 (n := (a + b + d + e) / 2 - t) (by omega)
  have f2 := facI_bd13 (n := (b + c + e + f) / 2 - t) (by omega)
  have f3 := facI_bd13 (n := (a + c + d + f) / 2 - t) (by omega)
  have g1 := div_bd g0.1 g0.2 f1.1
  have g2 := div_bd g1.1 g1.2 f2.1
  have g3 := div_bd g2.1 g2.2 f3.1
  unfold dwK
  split
  · exact g0
  · exact g1
  · exact g2
  · exact g3

theorem ixP0 (x y z : Int) (w : World) : (Instr.index 83 (.agg #[.int .i64 x, .int .i64 y, .int .i64 z]) (.int .i64 0)).run Try.prog w = .ok (.int .i64 x) w := by kernel_rfl
theorem ixP1 (x y z : Int) (w : World) : (Instr.index 83 (.agg #[.int .i64 x, .int .i64 y, .int .i64 z]) (.int .i64 1)).run Try.prog w = .ok (.int .i64 y) w := by kernel_rfl
theorem ixP2 (x y z : Int) (w : World) : (Instr.index 83 (.agg #[.int .i64 x, .int .i64 y, .int .i64 z]) (.int .i64 2)).run Try.prog w = .ok (.int .i64 z) w := by kernel_rfl
end Go.Proofs.Ytneihommpncegaa
