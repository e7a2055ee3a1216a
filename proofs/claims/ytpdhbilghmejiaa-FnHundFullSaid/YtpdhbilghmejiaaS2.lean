/- The contract of compareShells. -/
import Derived.Test.YtpdhbilghmejiaaS1
namespace Go.Proofs.Ytpdhbilghmejiaa
open Go.RowKit
set_option linter.unusedVariables false

def cmpU (a b : Int) : Int := if a < b then -1 else if b < a then 1 else 0
theorem cmpU_bd (a b : Int) : -1 ≤ cmpU a b ∧ cmpU a b ≤ 1 := by unfold cmpU; split <;> (try split) <;> omega

set_option maxHeartbeats 400000 in
theorem c_isNaN (a : Int) (w : World) :
    Calls Try.prog 70 #[.int .i64 a] w fun e w' => e = .returned (.bool false) ∧ w = w' := by
  go_enter Try.func70, Try.ntmps70
  go_wp2
  all_goals go_ret
  all_goals exact ⟨ret_bool (by simp), rfl⟩

set_option maxHeartbeats 400000 in
theorem c_Compare (a b : Int) (w : World) :
    Calls Try.prog 67 #[.int .i64 a, .int .i64 b] w fun e w' => e = .returned (.int .i64 (cmpU a b)) ∧ w = w' := by
  by_cases h1 : a < b
  · have E := Lib.hid (show cmpU a b = -1 by simp [cmpU, h1])
    go_enter Try.func67, Try.ntmps67
    go_wp2_with (go_at_call 70; refine (c_isNaN _ _).mono ?_; rintro e w' ⟨rfl, rfl⟩)
    go_ret
    exact ⟨ret_int (by rw [E.out]), rfl⟩
  by_cases h2 : b < a
  · have E := Lib.hid (show cmpU a b = 1 by simp [cmpU, h1, h2])
    go_enter Try.func67, Try.ntmps67
    go_wp2_with (go_at_call 70; refine (c_isNaN _ _).mono ?_; rintro e w' ⟨rfl, rfl⟩)
    go_ret
    exact ⟨ret_int (by rw [E.out]), rfl⟩
  · have E := Lib.hid (show cmpU a b = 0 by simp [cmpU, h1, h2])
    go_enter Try.func67, Try.ntmps67
    go_wp2_with (go_at_call 70; refine (c_isNaN _ _).mono ?_; rintro e w' ⟨rfl, rfl⟩)
    go_ret
    exact ⟨ret_int (by rw [E.out]), rfl⟩

theorem blk_store2 {w : World} {g : Nat} {x y a b : Value} (h : Blk w g #[x, y]) : Blk ((w.setCell ⟨g, 0, none⟩ a).setCell ⟨g, 1, none⟩ b) g #[a, b] := blk_set (blk_set h 0 a) 1 b
theorem blk_store3 {w : World} {g : Nat} {x y z a b c : Value} (h : Blk w g #[x, y, z]) : Blk (((w.setCell ⟨g, 0, none⟩ a).setCell ⟨g, 1, none⟩ b).setCell ⟨g, 2, none⟩ c) g #[a, b, c] := blk_set (blk_set (blk_set h 0 a) 1 b) 2 c
/-- What a statement 'y, ok := f(..)' leaves, in whatever order. -/
def CutBlk (z : World) (cs : Array Value) (o : Bool) (p q : Value) (wx : World) : Prop := ∃ g : Nat, p = .pointer (some ⟨g, 0, none⟩) ∧ q = .bool o ∧ z.heap.size ≤ g ∧ Blk wx g cs ∧ Below z.heap.size z wx
theorem and_keep {A B : Prop} (a : A) (f : A → B) : A ∧ B := ⟨a, f a⟩
theorem held_cell {z w' : World} (hB : Below z.heap.size z w') {g i : Nat} {v : Value} (hz : z.cell? ⟨g, i, none⟩ = some v) (hl : g < z.heap.size) : w'.cell? ⟨g, i, none⟩ = some v := by
  rw [hB.cell (p := ⟨g, i, none⟩) hl]; exact hz

def orU (a b : Int) : Int := if a = 0 then b else a
/-- What compareShells returns. -/
def cmpSh (N L N2 L2 : Int) : Int := orU (cmpU N N2) (cmpU L L2)
theorem cmpSh_less (N L N2 L2 : Int) : decide (0 ≤ cmpSh N L N2 L2) = !lessB N L N2 L2 := by
  rw [Bool.eq_iff_iff]
  simp only [decide_eq_true_eq, Bool.not_eq_true', Bool.eq_false_iff, ne_eq, lessB_iff]
  unfold cmpSh orU cmpU
  split <;> rename_i h1 <;> (repeat' split at h1) <;> (repeat' split) <;> omega

set_option maxRecDepth 100000 in
set_option maxHeartbeats 1000000 in
theorem c_Or (g : Nat) (a b : Int) (w : World) (h0 : w.cell? ⟨g, 0, none⟩ = some (.int .i64 a)) (h1 : w.cell? ⟨g, 1, none⟩ = some (.int .i64 b)) :
    Calls Try.prog 66 #[.slice (some ⟨g, 0, none⟩) 2 2] w fun e w' => e = .returned (.int .i64 (orU a b)) ∧ w = w' := by
  by_cases ha : a = 0
  · subst ha
    by_cases hb : b = 0
    · subst hb
      go_enter Try.func66, Try.ntmps66
      go_wp2_with fail
      refine wp_loop_rounds 3 ?_
      rw [rounds_succ]
      go_wp2_with fail
      rw [rounds_succ]
      go_wp2_with fail
      rw [rounds_succ]
      go_wp2_with fail
      go_ret
      exact ⟨rfl, rfl⟩
    · have hb2 : (b == 0) = false := by simp [hb]
      have hb3 : (b != 0) = true := by simp [hb]
      go_enter Try.func66, Try.ntmps66
      go_wp2_with fail
      refine wp_loop_rounds 2 ?_
      rw [rounds_succ]
      go_wp2_with fail
      rw [rounds_succ]
      go_wp2_with fail
      go_ret
      exact ⟨rfl, rfl⟩
  · have ha2 : (a == 0) = false := by simp [ha]
    have ha3 : (a != 0) = true := by simp [ha]
    have E := Lib.hid (show orU a b = a by simp [orU, ha])
    go_enter Try.func66, Try.ntmps66
    go_wp2_with fail
    refine wp_loop_rounds 1 ?_
    rw [rounds_succ]
    go_wp2_with fail
    go_ret
    exact ⟨ret_int (by rw [E.out]), rfl⟩
set_option maxRecDepth 100000 in
set_option maxHeartbeats 1000000 in
theorem i_compareShells (N L C N2 L2 C2 : Int) (w : World) :
    Calls Try.prog 59 #[.agg #[.int .i64 N, .int .i64 L, .int .i64 C], .agg #[.int .i64 N2, .int .i64 L2, .int .i64 C2]] w fun e w' => e = .returned (.int .i64 (cmpSh N L N2 L2)) ∧ Below w.heap.size w w' := by
  go_enter Try.func59, Try.ntmps59
  go_wp2_with fail
  have Kz1_x : Blk ((w.alloc (.cells #[.int .i64 N, .int .i64 L, .int .i64 C] 51)).alloc (.cells #[.int .i64 N2, .int .i64 L2, .int .i64 C2] 51)) (w.heap.size) #[.int .i64 N, .int .i64 L, .int .i64 C] := (blk_alloc (blk_new (by simp)) (.cells #[.int .i64 N2, .int .i64 L2, .int .i64 C2] 51))
  have Kz1_y : Blk ((w.alloc (.cells #[.int .i64 N, .int .i64 L, .int .i64 C] 51)).alloc (.cells #[.int .i64 N2, .int .i64 L2, .int .i64 C2] 51)) (w.heap.size + 1) #[.int .i64 N2, .int .i64 L2, .int .i64 C2] := (blk_new (by simp))
  have Bz1 : Below w.heap.size w ((w.alloc (.cells #[.int .i64 N, .int .i64 L, .int .i64 C] 51)).alloc (.cells #[.int .i64 N2, .int .i64 L2, .int .i64 C2] 51)) := by (repeat' (first | exact Below.refl _ _ | refine bl_out ?_ (by assumption) | exact (Hid.out (by assumption)) | refine bl_alloc ?_ _ | refine bl_drewN ?_ _ | refine bl_drew ?_ | refine bl_set ?_ ?_ _ | omega | (simp; done) | (simp; omega)))
  have Sz1 : ((w.alloc (.cells #[.int .i64 N, .int .i64 L, .int .i64 C] 51)).alloc (.cells #[.int .i64 N2, .int .i64 L2, .int .i64 C2] 51)).heap.size = w.heap.size + 2 := by simp
  generalize ((w.alloc (.cells #[.int .i64 N, .int .i64 L, .int .i64 C] 51)).alloc (.cells #[.int .i64 N2, .int .i64 L2, .int .i64 C2] 51)) = z1 at *
  have Sz1a := Nat.le_of_eq Sz1
  have Sz1b := Nat.le_of_eq Sz1.symm
  clear Sz1
  obtain ⟨z1_c0_x, z1_c1_x, z1_c2_x, z1_f0_x, z1_f1_x, z1_f2_x⟩ := blk3 Kz1_x
  have Kz1_xH := Lib.hid Kz1_x
  have z1_l_x := Kz1_x.lt
  obtain ⟨z1_c0_y, z1_c1_y, z1_c2_y, z1_f0_y, z1_f1_y, z1_f2_y⟩ := blk3 Kz1_y
  have Kz1_yH := Lib.hid Kz1_y
  have z1_l_y := Kz1_y.lt
  have z1B := Lib.hid Bz1
  clear Bz1
  clear Kz1_x Kz1_y
  go_region_held3 (fun w' => Below z1.heap.size z1 w' ∧ w'.cell? ⟨w.heap.size, 0, none⟩ = some (.int .i64 N) ∧ w'.cell? ⟨w.heap.size, 1, none⟩ = some (.int .i64 L) ∧ w'.cell? ⟨w.heap.size, 2, none⟩ = some (.int .i64 C) ∧ w'.cell? ⟨w.heap.size + 1, 0, none⟩ = some (.int .i64 N2) ∧ w'.cell? ⟨w.heap.size + 1, 1, none⟩ = some (.int .i64 L2) ∧ w'.cell? ⟨w.heap.size + 1, 2, none⟩ = some (.int .i64 C2)) ((refine and_keep ?_ (fun hB => ⟨held_cell hB z1_c0_x z1_l_x, held_cell hB z1_c1_x z1_l_x, held_cell hB z1_c2_x z1_l_x, held_cell hB z1_c0_y z1_l_y, held_cell hB z1_c1_y z1_l_y, held_cell hB z1_c2_y z1_l_y⟩); (repeat' (first | exact (Below.refl _ _).drew | exact Below.refl _ _ | exact And.left (by assumption) | refine bl_alloc ?_ _ | refine bl_drew ?_ | refine bl_set ?_ ?_ _ | refine btr ?_ (by assumption) | omega | (simp; done) | (simp; omega))))) (first | (go_at_call 67; refine (c_Compare _ _ _).mono ?_; rintro e w' ⟨rfl, rfl⟩) | (go_at_call 66; refine (c_Or _ (cmpU N N2) (cmpU L L2) _ (by first | exact (blk2 (blk_new (by simp))).1 | exact (blk2 (blk_drew (blk_new (by simp)))).1) (by first | exact (blk2 (blk_new (by simp))).2.1 | exact (blk2 (blk_drew (blk_new (by simp)))).2.1)).mono ?_; rintro e w' ⟨rfl, rfl⟩))
  go_wp2_with fail
  go_ret
  exact ⟨rfl, btr z1B.out (by (repeat' (first | exact (Below.refl _ _).drew | exact Below.refl _ _ | exact And.left (by assumption) | refine bl_alloc ?_ _ | refine bl_drew ?_ | refine bl_set ?_ ?_ _ | refine btr ?_ (by assumption) | omega | (simp; done) | (simp; omega))))⟩

end Go.Proofs.Ytpdhbilghmejiaa
