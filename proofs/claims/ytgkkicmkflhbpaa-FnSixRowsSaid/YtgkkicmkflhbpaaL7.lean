/- The walks of the laws on 6j symbols. -/
import Derived.Test.YtgkkicmkflhbpaaSz
import Derived.Test.YtgkkicmkflhbpaaDx
import Derived.Test.YtgkkicmkflhbpaaP7
import Derived.Test.YtgkkicmkflhbpaaLv
namespace Go.Proofs.Ytgkkicmkflhbpaa
open Go.RowKit
set_option linter.unusedVariables false

set_option maxRecDepth 100000 in
set_option maxHeartbeats 2000000 in
theorem l_FnSixColumns (s : Option Addr) (len cap : Nat) (w : World) (h : Code w s len cap) (hl : len ≤ 9223372036854775807) (hc : cap ≤ 9223372036854775807) :
    Calls Try.prog 6 #[.slice s len cap] w (RTrueK w) := by
  have H := Lib.hid h
  clear h
  by_cases hbig : 1048576 < len
  · go_enter Try.func6, Try.ntmps6
    go_wp2_with fail
    go_ret
    exact ⟨rfl, Below.refl _ _⟩
  go_enter Try.func6, Try.ntmps6
  go_wp2_with fail
  refine (s_DrawSixJ s len cap w H.out hl hc).mono ?_
  rintro e w1 ⟨a, b, c, d, e, f, rfl, ⟨a0, a1⟩, ⟨b0, b1⟩, ⟨c0, c1⟩, ⟨d0, d1⟩, ⟨e0, e1⟩, ⟨f0, f1⟩, hb1⟩
  have w1z := hb1.size
  try simp at w1z
  have w1B := Lib.hid hb1
  clear hb1
  go_wp2_with fail
  refine (i_SixJ _ _ _ _ _ _ _).mono ?_
  rintro e w2 ⟨rfl, hb2⟩
  have w2z := hb2.size
  try simp at w2z
  have w2B := Lib.hid hb2
  clear hb2
  generalize hX : sjI a b c d e f = XhX at *
  obtain ⟨S, N, D, o⟩ := XhX
  have HhX := Lib.hid hX
  clear hX
  simp only [rtv]
  go_wp2_with fail
  refine (s_SixJ _ _ _ _ _ _ _).mono ?_
  rintro e w3 ⟨rfl, hb3⟩
  have Kw3_out : Blk w3 (w2.heap.size) #[.int .i64 S, .int .i64 N, .int .i64 D] := blk_later hb3 (blk_new (by simp))
  obtain ⟨w3_c0_out, w3_c1_out, w3_c2_out, w3_f0_out, w3_f1_out, w3_f2_out⟩ := blk3 Kw3_out
  have Kw3_outH := Lib.hid Kw3_out
  have w3_l_out := Kw3_out.lt
  have w3_m_out : w2.heap.size < w3.heap.size + 1 := by omega
  have w3z := hb3.size
  try simp at w3z
  have w3B := Lib.hid hb3
  clear Kw3_out
  clear hb3
  rw [HhX.out]
  simp only [rtv]
  cases o
  · go_wp2_with fail
    go_ret
    exact ⟨rfl, by (repeat' (first | exact Below.refl _ _ | refine bl_out ?_ (by assumption) | exact (Hid.out (by assumption)) | refine bl_alloc ?_ _ | refine bl_drewN ?_ _ | refine bl_drew ?_ | refine bl_set ?_ ?_ _ | omega | (simp; done) | (simp; omega)))⟩
  have OK := Lib.hid (sjI_ok HhX.out)
  have t1 := tdB_iff.1 (sixOk_iff.1 OK.out).1
  have t2 := tdB_iff.1 (sixOk_iff.1 OK.out).2.1
  have t3 := tdB_iff.1 (sixOk_iff.1 OK.out).2.2.1
  have t4 := tdB_iff.1 (sixOk_iff.1 OK.out).2.2.2
  have P := allS_of okCol_all OK.out
  simp only [okCol, Bool.and_eq_true, decide_eq_true_eq] at P
  rw [HhX.out] at P
  have E1 := Lib.hid P.1.1
  have E2 := Lib.hid P.1.2
  have E3 := Lib.hid P.2
  clear P
  clear t1 t2 t3 t4
  go_wp2_with fail
  refine (i_SixJ _ _ _ _ _ _ _).mono ?_
  rintro e w4 ⟨rfl, hb4⟩
  have Kw4_out : Blk w4 (w2.heap.size) #[.int .i64 S, .int .i64 N, .int .i64 D] := blk_later hb4 (blk_alloc Kw3_outH.out (.cells #[.int .i64 S, .int .i64 N, .int .i64 D] 31))
  obtain ⟨w4_c0_out, w4_c1_out, w4_c2_out, w4_f0_out, w4_f1_out, w4_f2_out⟩ := blk3 Kw4_out
  have Kw4_outH := Lib.hid Kw4_out
  have w4_l_out := Kw4_out.lt
  have w4_m_out : w2.heap.size < w4.heap.size + 1 := by omega
  have w4z := hb4.size
  try simp at w4z
  have w4B := Lib.hid hb4
  clear Kw4_out
  clear hb4
  rw [E1.out]
  simp only [rtv]
  go_wp2_with fail
  refine (i_SixJ _ _ _ _ _ _ _).mono ?_
  rintro e w5 ⟨rfl, hb5⟩
  have Kw5_out : Blk w5 (w2.heap.size) #[.int .i64 S, .int .i64 N, .int .i64 D] := blk_later hb5 (blk_alloc Kw4_outH.out (.cells #[.int .i64 S, .int .i64 N, .int .i64 D] 31))
  have Kw5_x0 : Blk w5 (w4.heap.size) #[.int .i64 S, .int .i64 N, .int .i64 D] := blk_later hb5 (blk_new (by simp))
  obtain ⟨w5_c0_out, w5_c1_out, w5_c2_out, w5_f0_out, w5_f1_out, w5_f2_out⟩ := blk3 Kw5_out
  have Kw5_outH := Lib.hid Kw5_out
  have w5_l_out := Kw5_out.lt
  have w5_m_out : w2.heap.size < w5.heap.size + 1 := by omega
  obtain ⟨w5_c0_x0, w5_c1_x0, w5_c2_x0, w5_f0_x0, w5_f1_x0, w5_f2_x0⟩ := blk3 Kw5_x0
  have Kw5_x0H := Lib.hid Kw5_x0
  have w5_l_x0 := Kw5_x0.lt
  have w5_m_x0 : w4.heap.size < w5.heap.size + 1 := by omega
  have w5z := hb5.size
  try simp at w5z
  have w5B := Lib.hid hb5
  clear Kw5_out Kw5_x0
  clear hb5
  rw [E2.out]
  simp only [rtv]
  go_wp2_with fail
  refine (i_SixJ _ _ _ _ _ _ _).mono ?_
  rintro e w6 ⟨rfl, hb6⟩
  have Kw6_out : Blk w6 (w2.heap.size) #[.int .i64 S, .int .i64 N, .int .i64 D] := blk_later hb6 (blk_alloc Kw5_outH.out (.cells #[.int .i64 S, .int .i64 N, .int .i64 D] 31))
  have Kw6_x0 : Blk w6 (w4.heap.size) #[.int .i64 S, .int .i64 N, .int .i64 D] := blk_later hb6 (blk_alloc Kw5_x0H.out (.cells #[.int .i64 S, .int .i64 N, .int .i64 D] 31))
  have Kw6_x1 : Blk w6 (w5.heap.size) #[.int .i64 S, .int .i64 N, .int .i64 D] := blk_later hb6 (blk_new (by simp))
  obtain ⟨w6_c0_out, w6_c1_out, w6_c2_out, w6_f0_out, w6_f1_out, w6_f2_out⟩ := blk3 Kw6_out
  have Kw6_outH := Lib.hid Kw6_out
  have w6_l_out := Kw6_out.lt
  have w6_m_out : w2.heap.size < w6.heap.size + 1 := by omega
  obtain ⟨w6_c0_x0, w6_c1_x0, w6_c2_x0, w6_f0_x0, w6_f1_x0, w6_f2_x0⟩ := blk3 Kw6_x0
  have Kw6_x0H := Lib.hid Kw6_x0
  have w6_l_x0 := Kw6_x0.lt
  have w6_m_x0 : w4.heap.size < w6.heap.size + 1 := by omega
  obtain ⟨w6_c0_x1, w6_c1_x1, w6_c2_x1, w6_f0_x1, w6_f1_x1, w6_f2_x1⟩ := blk3 Kw6_x1
  have Kw6_x1H := Lib.hid Kw6_x1
  have w6_l_x1 := Kw6_x1.lt
  have w6_m_x1 : w5.heap.size < w6.heap.size + 1 := by omega
  have w6z := hb6.size
  try simp at w6z
  have w6B := Lib.hid hb6
  clear Kw6_out Kw6_x0 Kw6_x1
  clear hb6
  rw [E3.out]
  simp only [rtv]
  go_wp2_with fail
  go_ret
  exact ⟨rfl, by (repeat' (first | exact Below.refl _ _ | refine bl_out ?_ (by assumption) | exact (Hid.out (by assumption)) | refine bl_alloc ?_ _ | refine bl_drewN ?_ _ | refine bl_drew ?_ | refine bl_set ?_ ?_ _ | omega | (simp; done) | (simp; omega)))⟩

set_option maxRecDepth 100000 in
set_option maxHeartbeats 2000000 in
theorem l_FnSixRows (s : Option Addr) (len cap : Nat) (w : World) (h : Code w s len cap) (hl : len ≤ 9223372036854775807) (hc : cap ≤ 9223372036854775807) :
    Calls Try.prog 7 #[.slice s len cap] w (RTrueK w) := by
  have H := Lib.hid h
  clear h
  by_cases hbig : 1048576 < len
  · go_enter Try.func7, Try.ntmps7
    go_wp2_with fail
    go_ret
    exact ⟨rfl, Below.refl _ _⟩
  go_enter Try.func7, Try.ntmps7
  go_wp2_with fail
  refine (s_DrawSixJ s len cap w H.out hl hc).mono ?_
  rintro e w1 ⟨a, b, c, d, e, f, rfl, ⟨a0, a1⟩, ⟨b0, b1⟩, ⟨c0, c1⟩, ⟨d0, d1⟩, ⟨e0, e1⟩, ⟨f0, f1⟩, hb1⟩
  have w1z := hb1.size
  try simp at w1z
  have w1B := Lib.hid hb1
  clear hb1
  go_wp2_with fail
  refine (i_SixJ _ _ _ _ _ _ _).mono ?_
  rintro e w2 ⟨rfl, hb2⟩
  have w2z := hb2.size
  try simp at w2z
  have w2B := Lib.hid hb2
  clear hb2
  generalize hX : sjI a b c d e f = XhX at *
  obtain ⟨S, N, D, o⟩ := XhX
  have HhX := Lib.hid hX
  clear hX
  simp only [rtv]
  go_wp2_with fail
  refine (s_SixJ _ _ _ _ _ _ _).mono ?_
  rintro e w3 ⟨rfl, hb3⟩
  have Kw3_out : Blk w3 (w2.heap.size) #[.int .i64 S, .int .i64 N, .int .i64 D] := blk_later hb3 (blk_new (by simp))
  obtain ⟨w3_c0_out, w3_c1_out, w3_c2_out, w3_f0_out, w3_f1_out, w3_f2_out⟩ := blk3 Kw3_out
  have Kw3_outH := Lib.hid Kw3_out
  have w3_l_out := Kw3_out.lt
  have w3_m_out : w2.heap.size < w3.heap.size + 1 := by omega
  have w3z := hb3.size
  try simp at w3z
  have w3B := Lib.hid hb3
  clear Kw3_out
  clear hb3
  rw [HhX.out]
  simp only [rtv]
  cases o
  · go_wp2_with fail
    go_ret
    exact ⟨rfl, by (repeat' (first | exact Below.refl _ _ | refine bl_out ?_ (by assumption) | exact (Hid.out (by assumption)) | refine bl_alloc ?_ _ | refine bl_drewN ?_ _ | refine bl_drew ?_ | refine bl_set ?_ ?_ _ | omega | (simp; done) | (simp; omega)))⟩
  have OK := Lib.hid (sjI_ok HhX.out)
  have t1 := tdB_iff.1 (sixOk_iff.1 OK.out).1
  have t2 := tdB_iff.1 (sixOk_iff.1 OK.out).2.1
  have t3 := tdB_iff.1 (sixOk_iff.1 OK.out).2.2.1
  have t4 := tdB_iff.1 (sixOk_iff.1 OK.out).2.2.2
  have P := allS_of okRow_all OK.out
  simp only [okRow, Bool.and_eq_true, decide_eq_true_eq] at P
  rw [HhX.out] at P
  have E1 := Lib.hid P.1
  have E2 := Lib.hid P.2
  clear P
  clear t1 t2 t3 t4
  go_wp2_with fail
  refine (i_SixJ _ _ _ _ _ _ _).mono ?_
  rintro e w4 ⟨rfl, hb4⟩
  have Kw4_out : Blk w4 (w2.heap.size) #[.int .i64 S, .int .i64 N, .int .i64 D] := blk_later hb4 (blk_alloc Kw3_outH.out (.cells #[.int .i64 S, .int .i64 N, .int .i64 D] 31))
  obtain ⟨w4_c0_out, w4_c1_out, w4_c2_out, w4_f0_out, w4_f1_out, w4_f2_out⟩ := blk3 Kw4_out
  have Kw4_outH := Lib.hid Kw4_out
  have w4_l_out := Kw4_out.lt
  have w4_m_out : w2.heap.size < w4.heap.size + 1 := by omega
  have w4z := hb4.size
  try simp at w4z
  have w4B := Lib.hid hb4
  clear Kw4_out
  clear hb4
  rw [E1.out]
  simp only [rtv]
  go_wp2_with fail
  refine (i_SixJ _ _ _ _ _ _ _).mono ?_
  rintro e w5 ⟨rfl, hb5⟩
  have Kw5_out : Blk w5 (w2.heap.size) #[.int .i64 S, .int .i64 N, .int .i64 D] := blk_later hb5 (blk_alloc Kw4_outH.out (.cells #[.int .i64 S, .int .i64 N, .int .i64 D] 31))
  have Kw5_x0 : Blk w5 (w4.heap.size) #[.int .i64 S, .int .i64 N, .int .i64 D] := blk_later hb5 (blk_new (by simp))
  obtain ⟨w5_c0_out, w5_c1_out, w5_c2_out, w5_f0_out, w5_f1_out, w5_f2_out⟩ := blk3 Kw5_out
  have Kw5_outH := Lib.hid Kw5_out
  have w5_l_out := Kw5_out.lt
  have w5_m_out : w2.heap.size < w5.heap.size + 1 := by omega
  obtain ⟨w5_c0_x0, w5_c1_x0, w5_c2_x0, w5_f0_x0, w5_f1_x0, w5_f2_x0⟩ := blk3 Kw5_x0
  have Kw5_x0H := Lib.hid Kw5_x0
  have w5_l_x0 := Kw5_x0.lt
  have w5_m_x0 : w4.heap.size < w5.heap.size + 1 := by omega
  have w5z := hb5.size
  try simp at w5z
  have w5B := Lib.hid hb5
  clear Kw5_out Kw5_x0
  clear hb5
  rw [E2.out]
  simp only [rtv]
  go_wp2_with fail
  go_ret
  exact ⟨rfl, by (repeat' (first | exact Below.refl _ _ | refine bl_out ?_ (by assumption) | exact (Hid.out (by assumption)) | refine bl_alloc ?_ _ | refine bl_drewN ?_ _ | refine bl_drew ?_ | refine bl_set ?_ ?_ _ | omega | (simp; done) | (simp; omega)))⟩

end Go.Proofs.Ytgkkicmkflhbpaa
