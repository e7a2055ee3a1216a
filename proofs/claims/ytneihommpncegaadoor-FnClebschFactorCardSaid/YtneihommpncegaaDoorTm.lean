/- Contracts of TermValid and LevelValid, of the program and of the reference. -/
import Derived.Test.YtneihommpncegaaDoorPtm
import Derived.Test.YtneihommpncegaaDoorA
namespace Go.Proofs.YtneihommpncegaaDoor
open Go.RowKit
set_option linter.unusedVariables false

set_option maxRecDepth 100000 in
set_option maxHeartbeats 2000000 in
theorem i_TermValid (s l : Int) (w : World) :
    Calls Tryd.prog 42 #[.agg #[.int .i64 s, .int .i64 l]] w fun r w' => r = .returned (.bool (tmB s l)) ∧ Below w.heap.size w w' := by
  go_enter Tryd.func42, Tryd.ntmps42
  go_wp2_with fail
  all_goals go_ret
  all_goals exact ⟨ret_bool (by rw [Bool.eq_iff_iff]; simp [tmB, inB]; omega), bl_alloc (Below.refl _ _) _⟩
set_option maxRecDepth 100000 in
set_option maxHeartbeats 2000000 in
theorem s_TermValid (s l : Int) (w : World) :
    Calls Tryd.prog 34 #[.agg #[.int .i64 s, .int .i64 l]] w fun r w' => r = .returned (.bool (tmB s l)) ∧ Below w.heap.size w w' := by
  go_enter Tryd.func34, Tryd.ntmps34
  go_wp2_with (go_at_call 36; refine (s_l6In _ _ _ _).mono ?_; rintro r w' ⟨rfl, rfl⟩)
  all_goals go_ret
  all_goals exact ⟨ret_bool (by simp [tmB, *]), bl_alloc (Below.refl _ _) _⟩
set_option maxRecDepth 100000 in
set_option maxHeartbeats 2000000 in
theorem i_LevelValid (s l j : Int) (w : World) :
    Calls Tryd.prog 32 #[.agg #[.int .i64 s, .int .i64 l, .int .i64 j]] w fun r w' => r = .returned (.bool (lvB s l j)) ∧ Below w.heap.size w w' := by
  cases ht : tmB s l
  · have E := Lib.hid (show lvB s l j = false by simp [lvB, ht])
    go_enter Tryd.func32, Tryd.ntmps32
    go_wp2_with fail
    refine (i_TermValid _ _ _).mono ?_
    rintro e w1 ⟨rfl, hb1⟩
    have Kw1_x : Blk w1 (w.heap.size) #[.int .i64 s, .int .i64 l, .int .i64 j] := blk_later hb1 (blk_new (by simp))
    obtain ⟨w1_c0_x, w1_c1_x, w1_c2_x, w1_f0_x, w1_f1_x, w1_f2_x⟩ := blk3 Kw1_x
    have Kw1_xH := Lib.hid Kw1_x
    have w1_l_x := Kw1_x.lt
    have w1_m_x : w.heap.size < w1.heap.size + 1 := by omega
    have w1z := hb1.size
    try simp at w1z
    have w1B := Lib.hid hb1
    clear Kw1_x
    clear hb1
    rw [ht]
    go_wp2_with (go_at_call 43; refine (i_SpinTriangle _ _ _ _).mono ?_; rintro r w' ⟨rfl, rfl⟩)
    go_ret
    exact ⟨ret_bool (by rw [E.out]), by (repeat' (first | exact Below.refl _ _ | refine bl_out ?_ (by assumption) | exact (Hid.out (by assumption)) | refine bl_alloc ?_ _ | refine bl_drewN ?_ _ | refine bl_drew ?_ | refine bl_set ?_ ?_ _ | omega | (simp; done) | (simp; omega)))⟩
  · have E := Lib.hid (show lvB s l j = triB (2 * l) s j by simp [lvB, ht])
    have hb0 : (0 ≤ s ∧ s ≤ 8) ∧ (0 ≤ l ∧ l ≤ 8) := by simp [tmB, inB] at ht; omega
    go_enter Tryd.func32, Tryd.ntmps32
    go_wp2_with fail
    refine (i_TermValid _ _ _).mono ?_
    rintro e w1 ⟨rfl, hb1⟩
    have Kw1_x : Blk w1 (w.heap.size) #[.int .i64 s, .int .i64 l, .int .i64 j] := blk_later hb1 (blk_new (by simp))
    obtain ⟨w1_c0_x, w1_c1_x, w1_c2_x, w1_f0_x, w1_f1_x, w1_f2_x⟩ := blk3 Kw1_x
    have Kw1_xH := Lib.hid Kw1_x
    have w1_l_x := Kw1_x.lt
    have w1_m_x : w.heap.size < w1.heap.size + 1 := by omega
    have w1z := hb1.size
    try simp at w1z
    have w1B := Lib.hid hb1
    clear Kw1_x
    clear hb1
    rw [ht]
    go_wp2_with (go_at_call 43; refine (i_SpinTriangle _ _ _ _).mono ?_; rintro r w' ⟨rfl, rfl⟩)
    go_ret
    exact ⟨ret_bool (by rw [E.out]), by (repeat' (first | exact Below.refl _ _ | refine bl_out ?_ (by assumption) | exact (Hid.out (by assumption)) | refine bl_alloc ?_ _ | refine bl_drewN ?_ _ | refine bl_drew ?_ | refine bl_set ?_ ?_ _ | omega | (simp; done) | (simp; omega)))⟩

set_option maxRecDepth 100000 in
set_option maxHeartbeats 2000000 in
theorem s_LevelValid (s l j : Int) (w : World) :
    Calls Tryd.prog 16 #[.agg #[.int .i64 s, .int .i64 l, .int .i64 j]] w fun r w' => r = .returned (.bool (lvB s l j)) ∧ Below w.heap.size w w' := by
  cases ht : tmB s l
  · have E := Lib.hid (show lvB s l j = false by simp [lvB, ht])
    go_enter Tryd.func16, Tryd.ntmps16
    go_wp2_with fail
    refine (s_TermValid _ _ _).mono ?_
    rintro e w1 ⟨rfl, hb1⟩
    have Kw1_x : Blk w1 (w.heap.size) #[.int .i64 s, .int .i64 l, .int .i64 j] := blk_later hb1 (blk_new (by simp))
    obtain ⟨w1_c0_x, w1_c1_x, w1_c2_x, w1_f0_x, w1_f1_x, w1_f2_x⟩ := blk3 Kw1_x
    have Kw1_xH := Lib.hid Kw1_x
    have w1_l_x := Kw1_x.lt
    have w1_m_x : w.heap.size < w1.heap.size + 1 := by omega
    have w1z := hb1.size
    try simp at w1z
    have w1B := Lib.hid hb1
    clear Kw1_x
    clear hb1
    rw [ht]
    go_wp2_with (go_at_call 35; refine (s_SpinTriangle _ _ _ _).mono ?_; rintro r w' ⟨rfl, rfl⟩)
    go_ret
    exact ⟨ret_bool (by rw [E.out]), by (repeat' (first | exact Below.refl _ _ | refine bl_out ?_ (by assumption) | exact (Hid.out (by assumption)) | refine bl_alloc ?_ _ | refine bl_drewN ?_ _ | refine bl_drew ?_ | refine bl_set ?_ ?_ _ | omega | (simp; done) | (simp; omega)))⟩
  · have E := Lib.hid (show lvB s l j = triB (2 * l) s j by simp [lvB, ht])
    have hb0 : (0 ≤ s ∧ s ≤ 8) ∧ (0 ≤ l ∧ l ≤ 8) := by simp [tmB, inB] at ht; omega
    go_enter Tryd.func16, Tryd.ntmps16
    go_wp2_with fail
    refine (s_TermValid _ _ _).mono ?_
    rintro e w1 ⟨rfl, hb1⟩
    have Kw1_x : Blk w1 (w.heap.size) #[.int .i64 s, .int .i64 l, .int .i64 j] := blk_later hb1 (blk_new (by simp))
    obtain ⟨w1_c0_x, w1_c1_x, w1_c2_x, w1_f0_x, w1_f1_x, w1_f2_x⟩ := blk3 Kw1_x
    have Kw1_xH := Lib.hid Kw1_x
    have w1_l_x := Kw1_x.lt
    have w1_m_x : w.heap.size < w1.heap.size + 1 := by omega
    have w1z := hb1.size
    try simp at w1z
    have w1B := Lib.hid hb1
    clear Kw1_x
    clear hb1
    rw [ht]
    go_wp2_with (go_at_call 35; refine (s_SpinTriangle _ _ _ _).mono ?_; rintro r w' ⟨rfl, rfl⟩)
    go_ret
    exact ⟨ret_bool (by rw [E.out]), by (repeat' (first | exact Below.refl _ _ | refine bl_out ?_ (by assumption) | exact (Hid.out (by assumption)) | refine bl_alloc ?_ _ | refine bl_drewN ?_ _ | refine bl_drew ?_ | refine bl_set ?_ ?_ _ | omega | (simp; done) | (simp; omega)))⟩


end Go.Proofs.YtneihommpncegaaDoor
