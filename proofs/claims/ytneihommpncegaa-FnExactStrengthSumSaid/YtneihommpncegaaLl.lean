/- The walk of the law that LineStrength returns what the reference's returns. -/
import Derived.Test.YtneihommpncegaaSt
namespace Go.Proofs.Ytneihommpncegaa
open Go.RowKit
set_option linter.unusedVariables false

theorem s_LineStrength2 (s l j s2 l2 j2 N D : Int) (o : Bool) (w : World) (h : Hid (lsI s l j s2 l2 j2 = (N, D, o))) :
    Calls Try.prog 10 #[.agg #[.int .i64 s, .int .i64 l, .int .i64 j], .agg #[.int .i64 s2, .int .i64 l2, .int .i64 j2]] w fun e w' => e = .returned (.tuple #[.agg #[.int .i64 N, .int .i64 D], .bool o]) ∧ Below w.heap.size w w' :=
  (s_LineStrength s l j s2 l2 j2 w).mono fun e w' ⟨he, hb⟩ => ⟨by rw [he, h.out]; rfl, hb⟩
theorem i_LineStrength2 (s l j s2 l2 j2 N D : Int) (o : Bool) (w : World) (h : Hid (lsI s l j s2 l2 j2 = (N, D, o))) :
    Calls Try.prog 9 #[.agg #[.int .i64 s, .int .i64 l, .int .i64 j], .agg #[.int .i64 s2, .int .i64 l2, .int .i64 j2]] w fun e w' => e = .returned (.tuple #[.agg #[.int .i64 N, .int .i64 D], .bool o]) ∧ Below w.heap.size w w' :=
  (i_LineStrength s l j s2 l2 j2 w).mono fun e w' ⟨he, hb⟩ => ⟨by rw [he, h.out]; rfl, hb⟩

set_option maxRecDepth 100000 in
set_option maxHeartbeats 400000 in
theorem l_toTerm (a b : Int) (w : World) :
    Calls Try.prog 15 #[.agg #[.int .i64 a, .int .i64 b]] w fun e w' => e = .returned (.agg #[.int .i64 a, .int .i64 b]) ∧ Below w.heap.size w w' := by
  go_enter Try.func15, Try.ntmps15
  go_wp2_with fail
  refine bodyPost_ret (v := .agg #[.int .i64 a, .int .i64 b]) ?_ rfl ?_
  · simp [results, Try.results15, go_sem]
  · exact ⟨rfl, by (repeat' (first | exact Below.refl _ _ | refine bl_out ?_ (by assumption) | exact (Hid.out (by assumption)) | refine bl_alloc ?_ _ | refine bl_drewN ?_ _ | refine bl_drew ?_ | refine bl_set ?_ ?_ _ | omega | (simp; done) | (simp; omega)))⟩

set_option maxRecDepth 100000 in
set_option maxHeartbeats 1000000 in
theorem l_toLevel (s l j : Int) (w : World) :
    Calls Try.prog 14 #[.agg #[.int .i64 s, .int .i64 l, .int .i64 j]] w fun e w' => e = .returned (.agg #[.int .i64 s, .int .i64 l, .int .i64 j]) ∧ Below w.heap.size w w' := by
  go_enter Try.func14, Try.ntmps14
  go_wp2_with fail
  refine (l_toTerm _ _ _).mono ?_
  rintro e w1 ⟨rfl, hb1⟩
  have Kw1_a : Blk w1 (w.heap.size) #[.int .i64 s, .int .i64 l, .int .i64 j] := blk_later hb1 (blk_alloc (blk_alloc (blk_new (by simp)) (.cells #[.int .i64 0, .int .i64 0, .int .i64 0] 26)) (.cells #[.int .i64 0, .int .i64 0, .int .i64 0] 26))
  have Kw1_r : Blk w1 (w.heap.size + 1) #[.int .i64 0, .int .i64 0, .int .i64 0] := blk_later hb1 (blk_alloc (blk_new (by simp)) (.cells #[.int .i64 0, .int .i64 0, .int .i64 0] 26))
  have Kw1_o : Blk w1 (w.heap.size + 2) #[.int .i64 0, .int .i64 0, .int .i64 0] := blk_later hb1 (blk_new (by simp))
  obtain ⟨w1_c0_a, w1_c1_a, w1_c2_a, w1_f0_a, w1_f1_a, w1_f2_a⟩ := blk3 Kw1_a
  have Kw1_aH := Lib.hid Kw1_a
  have w1_l_a := Kw1_a.lt
  have w1_m_a : w.heap.size < w1.heap.size + 1 := by omega
  obtain ⟨w1_c0_r, w1_c1_r, w1_c2_r, w1_f0_r, w1_f1_r, w1_f2_r⟩ := blk3 Kw1_r
  have Kw1_rH := Lib.hid Kw1_r
  have w1_l_r := Kw1_r.lt
  have w1_m_r : w.heap.size + 1 < w1.heap.size + 1 := by omega
  obtain ⟨w1_c0_o, w1_c1_o, w1_c2_o, w1_f0_o, w1_f1_o, w1_f2_o⟩ := blk3 Kw1_o
  have Kw1_oH := Lib.hid Kw1_o
  have w1_l_o := Kw1_o.lt
  have w1_m_o : w.heap.size + 2 < w1.heap.size + 1 := by omega
  have w1z := hb1.size
  try simp at w1z
  have w1B := Lib.hid hb1
  clear Kw1_a Kw1_r Kw1_o
  clear hb1
  go_wp2_with fail
  refine bodyPost_ret (v := .agg #[.int .i64 s, .int .i64 l, .int .i64 j]) ?_ rfl ?_
  · have KR : Blk _ (w.heap.size + 1) #[.int .i64 s, .int .i64 l, .int .i64 j] := (blk_set (blk_set (blk_set (blk_other (blk_other (blk_other Kw1_rH.out (p := ⟨w.heap.size + 2, 0, none⟩) (v := .int .i64 s) (by (first | omega | (simp; done) | (simp; omega)))) (p := ⟨w.heap.size + 2, 1, none⟩) (v := .int .i64 l) (by (first | omega | (simp; done) | (simp; omega)))) (p := ⟨w.heap.size + 2, 2, none⟩) (v := .int .i64 j) (by (first | omega | (simp; done) | (simp; omega)))) 0 (.int .i64 s)) 1 (.int .i64 l)) 2 (.int .i64 j))
    obtain ⟨r0, r1, r2, _, _, _⟩ := blk3 KR
    simp [results, Try.results14, go_sem, r0, r1, r2]
  · exact ⟨rfl, by (repeat' (first | with_reducible refine bl_set ?_ ?_ _ | exact btr (bl_alloc (bl_alloc (bl_alloc (Below.refl _ _) _) _) _) w1B.out | omega | (simp; done) | (simp; omega)))⟩

end Go.Proofs.Ytneihommpncegaa
