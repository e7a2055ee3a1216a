/- The walks of the laws on 6j symbols. -/
import Derived.Test.YtgkkicmkflhbpaaSz
import Derived.Test.YtgkkicmkflhbpaaDx
import Derived.Test.YtgkkicmkflhbpaaP6
import Derived.Test.YtgkkicmkflhbpaaLv
namespace Go.Proofs.Ytgkkicmkflhbpaa
open Go.RowKit
set_option linter.unusedVariables false

set_option maxHeartbeats 400000 in
theorem l_FnExactSixSum (a b c d e f : Int) (w : World) (_ : I64 a) (_ : I64 b) (_ : I64 c) (_ : I64 d) (_ : I64 e) (_ : I64 f) :
    Calls Try.prog 3 #[.int .i64 a, .int .i64 b, .int .i64 c, .int .i64 d, .int .i64 e, .int .i64 f] w (RTrueK w) := by
  go_enter Try.func3, Try.ntmps3
  go_wp2_with fail
  refine (s_SixSum _ _ _ _ _ _ _).mono ?_
  rintro r w1 ⟨rfl, hb⟩
  have B1 := Lib.hid hb
  clear hb
  go_wp2_with fail
  refine (i_SixSum _ _ _ _ _ _ _).mono ?_
  rintro r w2 ⟨rfl, hb⟩
  have B2 := Lib.hid hb
  clear hb
  go_wp2_with fail
  go_ret
  exact ⟨rfl, btr B1.out B2.out⟩

set_option maxRecDepth 100000 in
set_option maxHeartbeats 1000000 in
theorem l_FnExactSixJ (a b c d e f : Int) (w : World) (_ : I64 a) (_ : I64 b) (_ : I64 c) (_ : I64 d) (_ : I64 e) (_ : I64 f) :
    Calls Try.prog 5 #[.int .i64 a, .int .i64 b, .int .i64 c, .int .i64 d, .int .i64 e, .int .i64 f] w (RTrueK w) := by
  go_enter Try.func5, Try.ntmps5
  go_wp2_with fail
  refine (s_SixJ _ _ _ _ _ _ _).mono ?_
  rintro e w1 ⟨rfl, hb1⟩
  have w1z := hb1.size
  try simp at w1z
  have w1B := Lib.hid hb1
  clear hb1
  generalize hX : sjI a b c d e f = XhX at *
  obtain ⟨S, N, D, o⟩ := XhX
  have HhX := Lib.hid hX
  clear hX
  simp only [rtv]
  go_wp2_with fail
  refine (i_SixJ _ _ _ _ _ _ _).mono ?_
  rintro e w2 ⟨rfl, hb2⟩
  have Kw2_x : Blk w2 (w1.heap.size) #[.int .i64 S, .int .i64 N, .int .i64 D] := blk_later hb2 (blk_new (by simp))
  obtain ⟨w2_c0_x, w2_c1_x, w2_c2_x, w2_f0_x, w2_f1_x, w2_f2_x⟩ := blk3 Kw2_x
  have Kw2_xH := Lib.hid Kw2_x
  have w2_l_x := Kw2_x.lt
  have w2_m_x : w1.heap.size < w2.heap.size + 1 := by omega
  have w2z := hb2.size
  try simp at w2z
  have w2B := Lib.hid hb2
  clear Kw2_x
  clear hb2
  rw [HhX.out]
  simp only [rtv]
  go_wp2_with fail
  refine (l_eqRoot _ _ _ _).mono ?_
  rintro e w3 ⟨rfl, hb3⟩
  have Kw3_x : Blk w3 (w1.heap.size) #[.int .i64 S, .int .i64 N, .int .i64 D] := blk_later hb3 (blk_alloc Kw2_xH.out (.cells #[.int .i64 S, .int .i64 N, .int .i64 D] 31))
  have Kw3_y : Blk w3 (w2.heap.size) #[.int .i64 S, .int .i64 N, .int .i64 D] := blk_later hb3 (blk_new (by simp))
  obtain ⟨w3_c0_x, w3_c1_x, w3_c2_x, w3_f0_x, w3_f1_x, w3_f2_x⟩ := blk3 Kw3_x
  have Kw3_xH := Lib.hid Kw3_x
  have w3_l_x := Kw3_x.lt
  have w3_m_x : w1.heap.size < w3.heap.size + 1 := by omega
  obtain ⟨w3_c0_y, w3_c1_y, w3_c2_y, w3_f0_y, w3_f1_y, w3_f2_y⟩ := blk3 Kw3_y
  have Kw3_yH := Lib.hid Kw3_y
  have w3_l_y := Kw3_y.lt
  have w3_m_y : w2.heap.size < w3.heap.size + 1 := by omega
  have w3z := hb3.size
  try simp at w3z
  have w3B := Lib.hid hb3
  clear Kw3_x Kw3_y
  clear hb3
  cases o
  all_goals
    go_wp2_with fail
    go_ret
    exact ⟨rfl, by (repeat' (first | exact Below.refl _ _ | refine bl_out ?_ (by assumption) | exact (Hid.out (by assumption)) | refine bl_alloc ?_ _ | refine bl_drewN ?_ _ | refine bl_drew ?_ | refine bl_set ?_ ?_ _ | omega | (simp; done) | (simp; omega)))⟩

set_option maxRecDepth 100000 in
set_option maxHeartbeats 2000000 in
theorem l_FnSixSum (s : Option Addr) (len cap : Nat) (w : World) (h : Code w s len cap) (hl : len ≤ 9223372036854775807) (hc : cap ≤ 9223372036854775807) :
    Calls Try.prog 4 #[.slice s len cap] w (RTrueK w) := by
  have H := Lib.hid h
  clear h
  by_cases hbig : 1048576 < len
  · go_enter Try.func4, Try.ntmps4
    go_wp2_with fail
    go_ret
    exact ⟨rfl, Below.refl _ _⟩
  go_enter Try.func4, Try.ntmps4
  go_wp2_with fail
  refine (s_DrawSixSum s len cap w H.out hl hc).mono ?_
  rintro e w1 ⟨a, b, c, d, e, f, rfl, ⟨a0, a1⟩, ⟨b0, b1⟩, ⟨c0, c1⟩, ⟨d0, d1⟩, ⟨e0, e1⟩, ⟨f0, f1⟩, hb1⟩
  have w1z := hb1.size
  try simp at w1z
  have w1B := Lib.hid hb1
  clear hb1
  go_wp2_with fail
  refine (i_SixSum _ _ _ _ _ _ _).mono ?_
  rintro e w2 ⟨rfl, hb2⟩
  have w2z := hb2.size
  try simp at w2z
  have w2B := Lib.hid hb2
  clear hb2
  go_wp2_with fail
  refine (s_SixSum _ _ _ _ _ _ _).mono ?_
  rintro e w3 ⟨rfl, hb3⟩
  have w3z := hb3.size
  try simp at w3z
  have w3B := Lib.hid hb3
  clear hb3
  by_cases hz : sixI a b c d e f = 0
  · have hz' : (sixI a b c d e f == 0) = true := by simp [hz]
    clear hz
    go_wp2_with fail
    go_ret
    exact ⟨rfl, by (repeat' (first | exact Below.refl _ _ | refine bl_out ?_ (by assumption) | exact (Hid.out (by assumption)) | refine bl_alloc ?_ _ | refine bl_drewN ?_ _ | refine bl_drew ?_ | refine bl_set ?_ ?_ _ | omega | (simp; done) | (simp; omega)))⟩
  have hz' : (sixI a b c d e f == 0) = false := by simp [hz]
  have P := allS_of okSix1_all (six_ne hz)
  simp only [okSix1, Bool.and_eq_true, decide_eq_true_eq] at P
  have E1 := Lib.hid P.1.1
  have E2 := Lib.hid P.1.2
  have E3 := Lib.hid P.2
  clear P hz
  go_wp2_with fail
  refine (i_SixSum _ _ _ _ _ _ _).mono ?_
  rintro e w4 ⟨rfl, hb4⟩
  have w4z := hb4.size
  try simp at w4z
  have w4B := Lib.hid hb4
  clear hb4
  rw [E1.out]
  go_wp2_with fail
  refine (i_SixSum _ _ _ _ _ _ _).mono ?_
  rintro e w5 ⟨rfl, hb5⟩
  have w5z := hb5.size
  try simp at w5z
  have w5B := Lib.hid hb5
  clear hb5
  rw [E2.out]
  go_wp2_with fail
  refine (i_SixSum _ _ _ _ _ _ _).mono ?_
  rintro e w6 ⟨rfl, hb6⟩
  have w6z := hb6.size
  try simp at w6z
  have w6B := Lib.hid hb6
  clear hb6
  rw [E3.out]
  go_wp2_with fail
  go_ret
  exact ⟨rfl, by (repeat' (first | exact Below.refl _ _ | refine bl_out ?_ (by assumption) | exact (Hid.out (by assumption)) | refine bl_alloc ?_ _ | refine bl_drewN ?_ _ | refine bl_drew ?_ | refine bl_set ?_ ?_ _ | omega | (simp; done) | (simp; omega)))⟩

set_option maxRecDepth 100000 in
set_option maxHeartbeats 2000000 in
theorem l_FnSixTriads (s : Option Addr) (len cap : Nat) (w : World) (h : Code w s len cap) (hl : len ≤ 9223372036854775807) (hc : cap ≤ 9223372036854775807) :
    Calls Try.prog 8 #[.slice s len cap] w (RTrueK w) := by
  have H := Lib.hid h
  clear h
  by_cases hbig : 1048576 < len
  · go_enter Try.func8, Try.ntmps8
    go_wp2_with fail
    go_ret
    exact ⟨rfl, Below.refl _ _⟩
  go_enter Try.func8, Try.ntmps8
  go_wp2_with fail
  refine (s_DrawSixJ s len cap w H.out hl hc).mono ?_
  rintro e w1 ⟨a, b, c, d, e, f, rfl, ⟨a0, a1⟩, ⟨b0, b1⟩, ⟨c0, c1⟩, ⟨d0, d1⟩, ⟨e0, e1⟩, ⟨f0, f1⟩, hb1⟩
  have w1z := hb1.size
  try simp at w1z
  have w1B := Lib.hid hb1
  clear hb1
  go_wp2_with fail
  refine (i_SixJ _ _ _ _ _ _ _).mono ?_
  rintro e w2 ⟨rfl, hb2⟩
  have w2z := hb2.size
  try simp at w2z
  have w2B := Lib.hid hb2
  clear hb2
  generalize hX : sjI a b c d e f = XhX at *
  obtain ⟨S, N, D, o⟩ := XhX
  have HhX := Lib.hid hX
  clear hX
  simp only [rtv]
  go_wp2_with fail
  refine (s_SixJ _ _ _ _ _ _ _).mono ?_
  rintro e w3 ⟨rfl, hb3⟩
  have Kw3_out : Blk w3 (w2.heap.size) #[.int .i64 S, .int .i64 N, .int .i64 D] := blk_later hb3 (blk_new (by simp))
  obtain ⟨w3_c0_out, w3_c1_out, w3_c2_out, w3_f0_out, w3_f1_out, w3_f2_out⟩ := blk3 Kw3_out
  have Kw3_outH := Lib.hid Kw3_out
  have w3_l_out := Kw3_out.lt
  have w3_m_out : w2.heap.size < w3.heap.size + 1 := by omega
  have w3z := hb3.size
  try simp at w3z
  have w3B := Lib.hid hb3
  clear Kw3_out
  clear hb3
  rw [HhX.out]
  simp only [rtv]
  cases o
  · go_wp2_with fail
    go_ret
    exact ⟨rfl, by (repeat' (first | exact Below.refl _ _ | refine bl_out ?_ (by assumption) | exact (Hid.out (by assumption)) | refine bl_alloc ?_ _ | refine bl_drewN ?_ _ | refine bl_drew ?_ | refine bl_set ?_ ?_ _ | omega | (simp; done) | (simp; omega)))⟩
  have OK := Lib.hid (sjI_ok HhX.out)
  have t1 := tdB_iff.1 (sixOk_iff.1 OK.out).1
  have t2 := tdB_iff.1 (sixOk_iff.1 OK.out).2.1
  have t3 := tdB_iff.1 (sixOk_iff.1 OK.out).2.2.1
  have t4 := tdB_iff.1 (sixOk_iff.1 OK.out).2.2.2
  have P := allS_of okTri_all OK.out
  simp only [okTri, Bool.and_eq_true, Bool.not_eq_true'] at P
  have E := Lib.hid (show sjI a b c (d + 1) e f = (0, 0, 0, false) by simp [sjI, P.1.1.1.1])
  have T1 := Lib.hid P.1.1.1.2
  have T2 := Lib.hid P.1.1.2
  have T3 := Lib.hid P.1.2
  have T4 := Lib.hid P.2
  clear P
  go_wp2_with fail
  refine (i_SixJ _ _ _ _ _ _ _).mono ?_
  rintro e w4 ⟨rfl, hb4⟩
  have Kw4_out : Blk w4 (w2.heap.size) #[.int .i64 S, .int .i64 N, .int .i64 D] := blk_later hb4 (blk_alloc Kw3_outH.out (.cells #[.int .i64 S, .int .i64 N, .int .i64 D] 31))
  obtain ⟨w4_c0_out, w4_c1_out, w4_c2_out, w4_f0_out, w4_f1_out, w4_f2_out⟩ := blk3 Kw4_out
  have Kw4_outH := Lib.hid Kw4_out
  have w4_l_out := Kw4_out.lt
  have w4_m_out : w2.heap.size < w4.heap.size + 1 := by omega
  have w4z := hb4.size
  try simp at w4z
  have w4B := Lib.hid hb4
  clear Kw4_out
  clear hb4
  rw [E.out]
  simp only [rtv]
  go_wp2_with (go_at_call 22; refine (i_SpinTriangle _ _ _ _).mono ?_; rintro r w' ⟨rfl, rfl⟩; first | rw [T1.out] | rw [T2.out] | rw [T3.out] | rw [T4.out])
  go_ret
  exact ⟨rfl, by (repeat' (first | exact Below.refl _ _ | refine bl_out ?_ (by assumption) | exact (Hid.out (by assumption)) | refine bl_alloc ?_ _ | refine bl_drewN ?_ _ | refine bl_drew ?_ | refine bl_set ?_ ?_ _ | omega | (simp; done) | (simp; omega)))⟩

end Go.Proofs.Ytgkkicmkflhbpaa
