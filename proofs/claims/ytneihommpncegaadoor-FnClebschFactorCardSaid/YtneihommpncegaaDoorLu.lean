/- Contracts of the small functions of the laws. -/
import Derived.Test.YtneihommpncegaaDoorRt
import Derived.Test.YtneihommpncegaaDoorPm
import Derived.Test.YtneihommpncegaaDoorHk
namespace Go.Proofs.YtneihommpncegaaDoor
open Go.RowKit
set_option linter.unusedVariables false

def RTrueK (w : World) (e : Ending) (w' : World) : Prop := e = .returned (.bool true) ∧ Below w.heap.size w w'
set_option maxHeartbeats 400000 in
theorem l_whole (n : Int) (w : World) :
    Calls Tryd.prog 8 #[.int .i64 n] w fun e w' => e = .returned (.agg #[.int .i64 n, .int .i64 1]) ∧ Below w.heap.size w w' := by
  go_enter Tryd.func8, Tryd.ntmps8
  go_wp2_with fail
  refine bodyPost_ret (v := .agg #[.int .i64 n, .int .i64 1]) ?_ rfl ?_
  · simp [results, Tryd.results8, go_sem]
  · exact ⟨rfl, by (repeat' (first | exact Below.refl _ _ | refine bl_out ?_ (by assumption) | exact (Hid.out (by assumption)) | refine bl_alloc ?_ _ | refine bl_drewN ?_ _ | refine bl_drew ?_ | refine bl_set ?_ ?_ _ | omega | (simp; done) | (simp; omega)))⟩

set_option maxRecDepth 100000 in
set_option maxHeartbeats 1000000 in
theorem l_addTo (a b c d : Int) (o : Bool) (w : World) :
    Calls Tryd.prog 12 #[.agg #[.int .i64 a, .int .i64 b], .agg #[.int .i64 c, .int .i64 d], .bool o] w fun e w' => e = .returned (.tuple #[.agg #[.int .i64 (ratAdd a b c d).1, .int .i64 (ratAdd a b c d).2.1], .bool ((ratAdd a b c d).2.2 && o)]) ∧ Below w.heap.size w w' := by
  go_enter Tryd.func12, Tryd.ntmps12
  go_wp2_with fail
  refine (i_RatAdd _ _ _ _ _).mono ?_
  rintro e w1 ⟨rfl, hb1⟩
  have Kw1_a : Blk w1 (w.heap.size) #[.int .i64 a, .int .i64 b] := blk_later hb1 (blk_alloc (blk_alloc (blk_new (by simp)) (.cells #[.int .i64 c, .int .i64 d] 29)) (.cells #[.int .i64 0, .int .i64 0] 29))
  have Kw1_c : Blk w1 (w.heap.size + 1) #[.int .i64 c, .int .i64 d] := blk_later hb1 (blk_alloc (blk_new (by simp)) (.cells #[.int .i64 0, .int .i64 0] 29))
  have Kw1_r : Blk w1 (w.heap.size + 2) #[.int .i64 0, .int .i64 0] := blk_later hb1 (blk_new (by simp))
  obtain ⟨w1_c0_a, w1_c1_a, w1_f0_a, w1_f1_a⟩ := blk2 Kw1_a
  have Kw1_aH := Lib.hid Kw1_a
  have w1_l_a := Kw1_a.lt
  have w1_m_a : w.heap.size < w1.heap.size + 1 := by omega
  obtain ⟨w1_c0_c, w1_c1_c, w1_f0_c, w1_f1_c⟩ := blk2 Kw1_c
  have Kw1_cH := Lib.hid Kw1_c
  have w1_l_c := Kw1_c.lt
  have w1_m_c : w.heap.size + 1 < w1.heap.size + 1 := by omega
  obtain ⟨w1_c0_r, w1_c1_r, w1_f0_r, w1_f1_r⟩ := blk2 Kw1_r
  have Kw1_rH := Lib.hid Kw1_r
  have w1_l_r := Kw1_r.lt
  have w1_m_r : w.heap.size + 2 < w1.heap.size + 1 := by omega
  have w1z := hb1.size
  try simp at w1z
  have w1B := Lib.hid hb1
  clear Kw1_a Kw1_c Kw1_r
  clear hb1
  generalize hX : ratAdd a b c d = X at *
  obtain ⟨N, D, p⟩ := X
  have HX := Lib.hid hX
  clear hX
  simp only [rv]
  cases p
  all_goals
    go_wp2_with fail
  refine bodyPost_ret (v := .tuple #[.agg #[.int .i64 N, .int .i64 D], .bool false]) ?_ rfl ?_
  · have KR : Blk _ (w.heap.size + 2) #[.int .i64 N, .int .i64 D] := (blk_alloc (blk_set (blk_set Kw1_rH.out 0 (.int .i64 N)) 1 (.int .i64 D)) (.cells #[.int .i64 N, .int .i64 D] 29))
    obtain ⟨r0, r1, _, _⟩ := blk2 KR
    simp [results, Tryd.results12, go_sem, r0, r1]
  · exact ⟨by rw [HX.out]; simp, by (repeat' (first | exact Below.refl _ _ | refine bl_out ?_ (by assumption) | exact (Hid.out (by assumption)) | refine bl_alloc ?_ _ | refine bl_drewN ?_ _ | refine bl_drew ?_ | refine bl_set ?_ ?_ _ | omega | (simp; done) | (simp; omega)))⟩
  refine bodyPost_ret (v := .tuple #[.agg #[.int .i64 N, .int .i64 D], .bool o]) ?_ rfl ?_
  · have KR : Blk _ (w.heap.size + 2) #[.int .i64 N, .int .i64 D] := (blk_alloc (blk_set (blk_set Kw1_rH.out 0 (.int .i64 N)) 1 (.int .i64 D)) (.cells #[.int .i64 N, .int .i64 D] 29))
    obtain ⟨r0, r1, _, _⟩ := blk2 KR
    simp [results, Tryd.results12, go_sem, r0, r1]
  · exact ⟨by rw [HX.out]; simp, by (repeat' (first | exact Below.refl _ _ | refine bl_out ?_ (by assumption) | exact (Hid.out (by assumption)) | refine bl_alloc ?_ _ | refine bl_drewN ?_ _ | refine bl_drew ?_ | refine bl_set ?_ ?_ _ | omega | (simp; done) | (simp; omega)))⟩

end Go.Proofs.YtneihommpncegaaDoor
