/- Contracts of RootValid and RatLess; contracts with known results. -/
import Derived.Test.YtneihommpncegaaLu
namespace Go.Proofs.Ytneihommpncegaa
open Go.RowKit
set_option linter.unusedVariables false

theorem i_RatMul2 (a b c d N D : Int) (o : Bool) (w : World) (h : Hid (ratMul a b c d = (N, D, o))) :
    Calls Try.prog 26 #[.agg #[.int .i64 a, .int .i64 b], .agg #[.int .i64 c, .int .i64 d]] w fun e w' => e = .returned (.tuple #[.agg #[.int .i64 N, .int .i64 D], .bool o]) ∧ Below w.heap.size w w' :=
  (i_RatMul a b c d w).mono fun e w' ⟨he, hb⟩ => ⟨by rw [he, h.out]; rfl, hb⟩

theorem i_RatAdd2 (a b c d N D : Int) (o : Bool) (w : World) (h : Hid (ratAdd a b c d = (N, D, o))) :
    Calls Try.prog 62 #[.agg #[.int .i64 a, .int .i64 b], .agg #[.int .i64 c, .int .i64 d]] w fun e w' => e = .returned (.tuple #[.agg #[.int .i64 N, .int .i64 D], .bool o]) ∧ Below w.heap.size w w' :=
  (i_RatAdd a b c d w).mono fun e w' ⟨he, hb⟩ => ⟨by rw [he, h.out]; rfl, hb⟩

theorem pair3 {A B C : Type} (x : A × B × C) : ∃ a b c, x = (a, b, c) := ⟨x.1, x.2.1, x.2.2, rfl⟩

set_option maxHeartbeats 400000 in
theorem i_compare (a b c d : Int) (w : World) (h1 : ratB a b = true) (h2 : ratB c d = true) :
    Calls Try.prog 32 #[.agg #[.int .i64 a, .int .i64 b], .agg #[.int .i64 c, .int .i64 d]] w fun e w' => e = .returned (.int .i64 (cmpI (a * d) (c * b))) ∧ Below w.heap.size w w' := by
  obtain ⟨⟨b0, b1⟩, ⟨a0, a1⟩, _⟩ := ratB_iff.1 h1
  obtain ⟨⟨d0, d1⟩, ⟨c0, c1⟩, _⟩ := ratB_iff.1 h2
  obtain ⟨p1, p2⟩ := mul_bd (A := 1000000000) (B := 1000000000) (a := a) (b := d) (by omega) (by omega) (by omega) (by omega)
  obtain ⟨p3, p4⟩ := mul_bd (A := 1000000000) (B := 1000000000) (a := c) (b := b) (by omega) (by omega) (by omega) (by omega)
  clear h1 h2
  go_enter Try.func32, Try.ntmps32
  go_wp2_with (go_at_call 58; refine (c_Compare _ _ _).mono ?_; rintro e w' ⟨rfl, rfl⟩)
  go_ret
  exact ⟨rfl, by (repeat' (first | exact Below.refl _ _ | refine bl_out ?_ (by assumption) | exact (Hid.out (by assumption)) | refine bl_alloc ?_ _ | refine bl_drewN ?_ _ | refine bl_drew ?_ | refine bl_set ?_ ?_ _ | omega | (simp; done) | (simp; omega)))⟩

set_option maxRecDepth 100000 in
set_option maxHeartbeats 1000000 in
theorem i_RatLess (a b c d : Int) (r : Bool) (w : World) (h1 : ratB a b = true) (h2 : ratB c d = true) (hr : cmpI (a * d) (c * b) < 0 ↔ r = true) :
    Calls Try.prog 11 #[.agg #[.int .i64 a, .int .i64 b], .agg #[.int .i64 c, .int .i64 d]] w fun e w' => e = .returned (.bool r) ∧ Below w.heap.size w w' := by
  have H1 := Lib.hid h1
  have H2 := Lib.hid h2
  have E := Lib.hid (show cmpI (a * d) (c * b) < 0 ↔ r = true from hr)
  have C0 : cmpI (a * d) (c * b) = -1 ∨ 0 ≤ cmpI (a * d) (c * b) := by unfold cmpI; split <;> (try split) <;> omega
  clear hr h1 h2
  go_enter Try.func11, Try.ntmps11
  go_wp2_with fail
  refine (i_RatValid _ _ _).mono ?_
  rintro e w1 ⟨rfl, hb1⟩
  have Kw1_a : Blk w1 (w.heap.size) #[.int .i64 a, .int .i64 b] := blk_later hb1 (blk_alloc (blk_new (by simp)) (.cells #[.int .i64 c, .int .i64 d] 30))
  have Kw1_c : Blk w1 (w.heap.size + 1) #[.int .i64 c, .int .i64 d] := blk_later hb1 (blk_new (by simp))
  obtain ⟨w1_c0_a, w1_c1_a, w1_f0_a, w1_f1_a⟩ := blk2 Kw1_a
  have Kw1_aH := Lib.hid Kw1_a
  have w1_l_a := Kw1_a.lt
  have w1_m_a : w.heap.size < w1.heap.size + 1 := by omega
  obtain ⟨w1_c0_c, w1_c1_c, w1_f0_c, w1_f1_c⟩ := blk2 Kw1_c
  have Kw1_cH := Lib.hid Kw1_c
  have w1_l_c := Kw1_c.lt
  have w1_m_c : w.heap.size + 1 < w1.heap.size + 1 := by omega
  have w1z := hb1.size
  try simp at w1z
  have w1B := Lib.hid hb1
  clear Kw1_a Kw1_c
  clear hb1
  rw [H1.out]
  go_wp2_with fail
  refine (i_RatValid _ _ _).mono ?_
  rintro e w2 ⟨rfl, hb2⟩
  have Kw2_a : Blk w2 (w.heap.size) #[.int .i64 a, .int .i64 b] := blk_later hb2 Kw1_aH.out
  have Kw2_c : Blk w2 (w.heap.size + 1) #[.int .i64 c, .int .i64 d] := blk_later hb2 Kw1_cH.out
  obtain ⟨w2_c0_a, w2_c1_a, w2_f0_a, w2_f1_a⟩ := blk2 Kw2_a
  have Kw2_aH := Lib.hid Kw2_a
  have w2_l_a := Kw2_a.lt
  have w2_m_a : w.heap.size < w2.heap.size + 1 := by omega
  obtain ⟨w2_c0_c, w2_c1_c, w2_f0_c, w2_f1_c⟩ := blk2 Kw2_c
  have Kw2_cH := Lib.hid Kw2_c
  have w2_l_c := Kw2_c.lt
  have w2_m_c : w.heap.size + 1 < w2.heap.size + 1 := by omega
  have w2z := hb2.size
  try simp at w2z
  have w2B := Lib.hid hb2
  clear Kw2_a Kw2_c
  clear hb2
  rw [H2.out]
  go_wp2_with fail
  refine (i_compare _ _ _ _ _ H1.out H2.out).mono ?_
  rintro e w3 ⟨rfl, hb3⟩
  have Kw3_a : Blk w3 (w.heap.size) #[.int .i64 a, .int .i64 b] := blk_later hb3 Kw2_aH.out
  have Kw3_c : Blk w3 (w.heap.size + 1) #[.int .i64 c, .int .i64 d] := blk_later hb3 Kw2_cH.out
  obtain ⟨w3_c0_a, w3_c1_a, w3_f0_a, w3_f1_a⟩ := blk2 Kw3_a
  have Kw3_aH := Lib.hid Kw3_a
  have w3_l_a := Kw3_a.lt
  have w3_m_a : w.heap.size < w3.heap.size + 1 := by omega
  obtain ⟨w3_c0_c, w3_c1_c, w3_f0_c, w3_f1_c⟩ := blk2 Kw3_c
  have Kw3_cH := Lib.hid Kw3_c
  have w3_l_c := Kw3_c.lt
  have w3_m_c : w.heap.size + 1 < w3.heap.size + 1 := by omega
  have w3z := hb3.size
  try simp at w3z
  have w3B := Lib.hid hb3
  clear Kw3_a Kw3_c
  clear hb3
  have R : r = decide (cmpI (a * d) (c * b) < 0) := by rw [Bool.eq_iff_iff, ← E.out]; simp
  have HR := Lib.hid R
  clear R
  go_wp2_with fail
  all_goals go_ret
  all_goals exact ⟨ret_bool (by rw [HR.out]), by (repeat' (first | exact Below.refl _ _ | refine bl_out ?_ (by assumption) | exact (Hid.out (by assumption)) | refine bl_alloc ?_ _ | refine bl_drewN ?_ _ | refine bl_drew ?_ | refine bl_set ?_ ?_ _ | omega | (simp; done) | (simp; omega)))⟩

end Go.Proofs.Ytneihommpncegaa
