/- The walks of the laws on Clebsch. -/
import Derived.Test.YtnjcbohledafgaaCl
import Derived.Test.YtnjcbohledafgaaDr
import Derived.Test.YtnjcbohledafgaaPm
import Derived.Test.YtnjcbohledafgaaLu
namespace Go.Proofs.Ytnjcbohledafgaa
open Go.RowKit
set_option linter.unusedVariables false

set_option maxRecDepth 100000 in
set_option maxHeartbeats 1000000 in
theorem l_FnExactClebsch (a b c m n : Int) (w : World) (_ : I64 a) (_ : I64 b) (_ : I64 c) (_ : I64 m) (_ : I64 n) :
    Calls Try.prog 8 #[.int .i64 a, .int .i64 b, .int .i64 c, .int .i64 m, .int .i64 n] w (RTrueK w) := by
  go_enter Try.func8, Try.ntmps8
  go_wp2_with fail
  refine (s_Clebsch _ _ _ _ _ _).mono ?_
  rintro e w1 ⟨rfl, hb1⟩
  have w1z := hb1.size
  try simp at w1z
  have w1B := Lib.hid hb1
  clear hb1
  generalize hX : clebI a b c m n = XhX at *
  obtain ⟨S, N, D, o⟩ := XhX
  have HhX := Lib.hid hX
  clear hX
  simp only [rtv]
  go_wp2_with fail
  refine (i_Clebsch _ _ _ _ _ _).mono ?_
  rintro e w2 ⟨rfl, hb2⟩
  have Kw2_x : Blk w2 (w1.heap.size) #[.int .i64 S, .int .i64 N, .int .i64 D] := blk_later hb2 (blk_new (by simp))
  obtain ⟨w2_c0_x, w2_c1_x, w2_c2_x, w2_f0_x, w2_f1_x, w2_f2_x⟩ := blk3 Kw2_x
  have Kw2_xH := Lib.hid Kw2_x
  have w2_l_x := Kw2_x.lt
  have w2_m_x : w1.heap.size < w2.heap.size + 1 := by omega
  have w2z := hb2.size
  try simp at w2z
  have w2B := Lib.hid hb2
  clear Kw2_x
  clear hb2
  rw [HhX.out]
  simp only [rtv]
  go_wp2_with fail
  refine (l_eqRoot _ _ _ _).mono ?_
  rintro e w3 ⟨rfl, hb3⟩
  have Kw3_x : Blk w3 (w1.heap.size) #[.int .i64 S, .int .i64 N, .int .i64 D] := blk_later hb3 (blk_alloc Kw2_xH.out (.cells #[.int .i64 S, .int .i64 N, .int .i64 D] 39))
  have Kw3_y : Blk w3 (w2.heap.size) #[.int .i64 S, .int .i64 N, .int .i64 D] := blk_later hb3 (blk_new (by simp))
  obtain ⟨w3_c0_x, w3_c1_x, w3_c2_x, w3_f0_x, w3_f1_x, w3_f2_x⟩ := blk3 Kw3_x
  have Kw3_xH := Lib.hid Kw3_x
  have w3_l_x := Kw3_x.lt
  have w3_m_x : w1.heap.size < w3.heap.size + 1 := by omega
  obtain ⟨w3_c0_y, w3_c1_y, w3_c2_y, w3_f0_y, w3_f1_y, w3_f2_y⟩ := blk3 Kw3_y
  have Kw3_yH := Lib.hid Kw3_y
  have w3_l_y := Kw3_y.lt
  have w3_m_y : w2.heap.size < w3.heap.size + 1 := by omega
  have w3z := hb3.size
  try simp at w3z
  have w3B := Lib.hid hb3
  clear Kw3_x Kw3_y
  clear hb3
  cases o
  all_goals
    go_wp2_with fail
    go_ret
    exact ⟨rfl, by (repeat' (first | exact Below.refl _ _ | refine bl_out ?_ (by assumption) | exact (Hid.out (by assumption)) | refine bl_alloc ?_ _ | refine bl_drewN ?_ _ | refine bl_drew ?_ | refine bl_set ?_ ?_ _ | omega | (simp; done) | (simp; omega)))⟩

set_option maxRecDepth 100000 in
set_option maxHeartbeats 1000000 in
theorem l_FnClebschHalf (s : Option Addr) (len cap : Nat) (w : World) (h : Code w s len cap) (hl : len ≤ 9223372036854775807) (hc : cap ≤ 9223372036854775807) :
    Calls Try.prog 9 #[.slice s len cap] w (RTrueK w) := by
  have H := Lib.hid h
  clear h
  by_cases hbig : 1048576 < len
  · go_enter Try.func9, Try.ntmps9
    go_wp2_with fail
    go_ret
    exact ⟨rfl, Below.refl _ _⟩
  go_enter Try.func9, Try.ntmps9
  go_wp2_with fail
  refine (s_DrawClebsch s len cap w H.out hl hc).mono ?_
  rintro e w1 ⟨a, b, c, m, n, rfl, ⟨a0, a1⟩, ⟨b0, b1⟩, ⟨c0, c1⟩, ⟨m0, m1⟩, ⟨n0, n1⟩, hb1⟩
  have w1z := hb1.size
  try simp at w1z
  have w1B := Lib.hid hb1
  clear hb1
  go_wp2_with fail
  refine (i_Clebsch _ _ _ _ _ _).mono ?_
  rintro e w2 ⟨rfl, hb2⟩
  have w2z := hb2.size
  try simp at w2z
  have w2B := Lib.hid hb2
  clear hb2
  generalize hX : clebI a b c m n = XhX at *
  obtain ⟨S, N, D, o⟩ := XhX
  have HhX := Lib.hid hX
  clear hX
  simp only [rtv]
  go_wp2_with fail
  refine (s_Clebsch _ _ _ _ _ _).mono ?_
  rintro e w3 ⟨rfl, hb3⟩
  have Kw3_out : Blk w3 (w2.heap.size) #[.int .i64 S, .int .i64 N, .int .i64 D] := blk_later hb3 (blk_new (by simp))
  obtain ⟨w3_c0_out, w3_c1_out, w3_c2_out, w3_f0_out, w3_f1_out, w3_f2_out⟩ := blk3 Kw3_out
  have Kw3_outH := Lib.hid Kw3_out
  have w3_l_out := Kw3_out.lt
  have w3_m_out : w2.heap.size < w3.heap.size + 1 := by omega
  have w3z := hb3.size
  try simp at w3z
  have w3B := Lib.hid hb3
  clear Kw3_out
  clear hb3
  rw [HhX.out]
  simp only [rtv]
  cases o
  · go_wp2_with fail
    go_ret
    exact ⟨rfl, by (repeat' (first | exact Below.refl _ _ | refine bl_out ?_ (by assumption) | exact (Hid.out (by assumption)) | refine bl_alloc ?_ _ | refine bl_drewN ?_ _ | refine bl_drew ?_ | refine bl_set ?_ ?_ _ | omega | (simp; done) | (simp; omega)))⟩
  have OK := Lib.hid (clebI_ok HhX.out)
  have ht := tdB_iff.1 (cpOk_iff.1 OK.out).1
  have hm := hasB_iff.1 (cpOk_iff.1 OK.out).2.1
  have hn := hasB_iff.1 (cpOk_iff.1 OK.out).2.2
  go_wp2_with fail
  refine (i_Clebsch _ _ _ _ _ _).mono ?_
  rintro e w4 ⟨rfl, hb4⟩
  have Kw4_out : Blk w4 (w2.heap.size) #[.int .i64 S, .int .i64 N, .int .i64 D] := blk_later hb4 (blk_alloc Kw3_outH.out (.cells #[.int .i64 S, .int .i64 N, .int .i64 D] 39))
  have Kw4_want : Blk w4 (w3.heap.size) #[.int .i64 S, .int .i64 N, .int .i64 D] := blk_later hb4 (blk_new (by simp))
  obtain ⟨w4_c0_out, w4_c1_out, w4_c2_out, w4_f0_out, w4_f1_out, w4_f2_out⟩ := blk3 Kw4_out
  have Kw4_outH := Lib.hid Kw4_out
  have w4_l_out := Kw4_out.lt
  have w4_m_out : w2.heap.size < w4.heap.size + 1 := by omega
  obtain ⟨w4_c0_want, w4_c1_want, w4_c2_want, w4_f0_want, w4_f1_want, w4_f2_want⟩ := blk3 Kw4_want
  have Kw4_wantH := Lib.hid Kw4_want
  have w4_l_want := Kw4_want.lt
  have w4_m_want : w3.heap.size < w4.heap.size + 1 := by omega
  have w4z := hb4.size
  try simp at w4z
  have w4B := Lib.hid hb4
  clear Kw4_out Kw4_want
  clear hb4
  generalize hY : clebI a 1 (a + 1) m 1 = XhY at *
  obtain ⟨S1, N1, D1, o1⟩ := XhY
  have HhY := Lib.hid hY
  clear hY
  simp only [rtv]
  go_wp2_with fail
  refine (i_RatOf _ _ _).mono ?_
  rintro e w5 ⟨rfl, hb5⟩
  have Kw5_out : Blk w5 (w2.heap.size) #[.int .i64 S, .int .i64 N, .int .i64 D] := blk_later hb5 (blk_alloc Kw4_outH.out (.cells #[.int .i64 S1, .int .i64 N1, .int .i64 D1] 39))
  have Kw5_want : Blk w5 (w3.heap.size) #[.int .i64 S, .int .i64 N, .int .i64 D] := blk_later hb5 (blk_alloc Kw4_wantH.out (.cells #[.int .i64 S1, .int .i64 N1, .int .i64 D1] 39))
  have Kw5_x : Blk w5 (w4.heap.size) #[.int .i64 S1, .int .i64 N1, .int .i64 D1] := blk_later hb5 (blk_new (by simp))
  obtain ⟨w5_c0_out, w5_c1_out, w5_c2_out, w5_f0_out, w5_f1_out, w5_f2_out⟩ := blk3 Kw5_out
  have Kw5_outH := Lib.hid Kw5_out
  have w5_l_out := Kw5_out.lt
  have w5_m_out : w2.heap.size < w5.heap.size + 1 := by omega
  obtain ⟨w5_c0_want, w5_c1_want, w5_c2_want, w5_f0_want, w5_f1_want, w5_f2_want⟩ := blk3 Kw5_want
  have Kw5_wantH := Lib.hid Kw5_want
  have w5_l_want := Kw5_want.lt
  have w5_m_want : w3.heap.size < w5.heap.size + 1 := by omega
  obtain ⟨w5_c0_x, w5_c1_x, w5_c2_x, w5_f0_x, w5_f1_x, w5_f2_x⟩ := blk3 Kw5_x
  have Kw5_xH := Lib.hid Kw5_x
  have w5_l_x := Kw5_x.lt
  have w5_m_x : w4.heap.size < w5.heap.size + 1 := by omega
  have w5z := hb5.size
  try simp at w5z
  have w5B := Lib.hid hb5
  clear Kw5_out Kw5_want Kw5_x
  clear hb5
  generalize hZ : ratOf (a + m + 2) (2 * a + 2) = XhZ at *
  obtain ⟨N2, D2, o2⟩ := XhZ
  have HhZ := Lib.hid hZ
  clear hZ
  simp only [rv]
  have P := all5_of okHalf_all OK.out
  simp only [okHalf, HhY.out, HhZ.out] at P
  by_cases h6 : a = 6
  · subst h6
    obtain rfl : o1 = false := by simpa using P
    clear P
    go_wp2_with fail
    go_ret
    exact ⟨rfl, by (repeat' (first | exact Below.refl _ _ | refine bl_out ?_ (by assumption) | exact (Hid.out (by assumption)) | refine bl_alloc ?_ _ | refine bl_drewN ?_ _ | refine bl_drew ?_ | refine bl_set ?_ ?_ _ | omega | (simp; done) | (simp; omega)))⟩
  have h6b : (a == 6) = false := by simp [h6]
  obtain ⟨⟨⟨⟨rfl, rfl⟩, rfl⟩, rfl⟩, rfl⟩ : (((o1 = true ∧ o2 = true) ∧ S1 = 1) ∧ N1 = N2) ∧ D1 = D2 := by simpa [h6] using P
  clear P h6
  go_wp2_with fail
  go_ret
  exact ⟨rfl, by (repeat' (first | exact Below.refl _ _ | refine bl_out ?_ (by assumption) | exact (Hid.out (by assumption)) | refine bl_alloc ?_ _ | refine bl_drewN ?_ _ | refine bl_drew ?_ | refine bl_set ?_ ?_ _ | omega | (simp; done) | (simp; omega)))⟩

set_option maxRecDepth 100000 in
set_option maxHeartbeats 1000000 in
theorem l_FnClebschNone (s : Option Addr) (len cap : Nat) (w : World) (h : Code w s len cap) (hl : len ≤ 9223372036854775807) (hc : cap ≤ 9223372036854775807) :
    Calls Try.prog 10 #[.slice s len cap] w (RTrueK w) := by
  have H := Lib.hid h
  clear h
  by_cases hbig : 1048576 < len
  · go_enter Try.func10, Try.ntmps10
    go_wp2_with fail
    go_ret
    exact ⟨rfl, Below.refl _ _⟩
  go_enter Try.func10, Try.ntmps10
  go_wp2_with fail
  refine (s_DrawClebsch s len cap w H.out hl hc).mono ?_
  rintro e w1 ⟨a, b, c, m, n, rfl, ⟨a0, a1⟩, ⟨b0, b1⟩, ⟨c0, c1⟩, ⟨m0, m1⟩, ⟨n0, n1⟩, hb1⟩
  have w1z := hb1.size
  try simp at w1z
  have w1B := Lib.hid hb1
  clear hb1
  go_wp2_with fail
  refine (i_Clebsch _ _ _ _ _ _).mono ?_
  rintro e w2 ⟨rfl, hb2⟩
  have w2z := hb2.size
  try simp at w2z
  have w2B := Lib.hid hb2
  clear hb2
  generalize hX : clebI a b c m n = XhX at *
  obtain ⟨S, N, D, o⟩ := XhX
  have HhX := Lib.hid hX
  clear hX
  simp only [rtv]
  go_wp2_with fail
  refine (s_Clebsch _ _ _ _ _ _).mono ?_
  rintro e w3 ⟨rfl, hb3⟩
  have Kw3_out : Blk w3 (w2.heap.size) #[.int .i64 S, .int .i64 N, .int .i64 D] := blk_later hb3 (blk_new (by simp))
  obtain ⟨w3_c0_out, w3_c1_out, w3_c2_out, w3_f0_out, w3_f1_out, w3_f2_out⟩ := blk3 Kw3_out
  have Kw3_outH := Lib.hid Kw3_out
  have w3_l_out := Kw3_out.lt
  have w3_m_out : w2.heap.size < w3.heap.size + 1 := by omega
  have w3z := hb3.size
  try simp at w3z
  have w3B := Lib.hid hb3
  clear Kw3_out
  clear hb3
  rw [HhX.out]
  simp only [rtv]
  cases o
  · go_wp2_with fail
    go_ret
    exact ⟨rfl, by (repeat' (first | exact Below.refl _ _ | refine bl_out ?_ (by assumption) | exact (Hid.out (by assumption)) | refine bl_alloc ?_ _ | refine bl_drewN ?_ _ | refine bl_drew ?_ | refine bl_set ?_ ?_ _ | omega | (simp; done) | (simp; omega)))⟩
  have OK := Lib.hid (clebI_ok HhX.out)
  have ht := tdB_iff.1 (cpOk_iff.1 OK.out).1
  have hm := hasB_iff.1 (cpOk_iff.1 OK.out).2.1
  have hn := hasB_iff.1 (cpOk_iff.1 OK.out).2.2
  go_wp2_with fail
  refine (l_whole _ _).mono ?_
  rintro e w4 ⟨rfl, hb4⟩
  have Kw4_out : Blk w4 (w2.heap.size) #[.int .i64 S, .int .i64 N, .int .i64 D] := blk_later hb4 (blk_alloc Kw3_outH.out (.cells #[.int .i64 S, .int .i64 N, .int .i64 D] 39))
  have Kw4_want : Blk w4 (w3.heap.size) #[.int .i64 S, .int .i64 N, .int .i64 D] := blk_later hb4 (blk_new (by simp))
  obtain ⟨w4_c0_out, w4_c1_out, w4_c2_out, w4_f0_out, w4_f1_out, w4_f2_out⟩ := blk3 Kw4_out
  have Kw4_outH := Lib.hid Kw4_out
  have w4_l_out := Kw4_out.lt
  have w4_m_out : w2.heap.size < w4.heap.size + 1 := by omega
  obtain ⟨w4_c0_want, w4_c1_want, w4_c2_want, w4_f0_want, w4_f1_want, w4_f2_want⟩ := blk3 Kw4_want
  have Kw4_wantH := Lib.hid Kw4_want
  have w4_l_want := Kw4_want.lt
  have w4_m_want : w3.heap.size < w4.heap.size + 1 := by omega
  have w4z := hb4.size
  try simp at w4z
  have w4B := Lib.hid hb4
  clear Kw4_out Kw4_want
  clear hb4
  go_wp2_with fail
  refine (i_Clebsch _ _ _ _ _ _).mono ?_
  rintro e w5 ⟨rfl, hb5⟩
  have Kw5_out : Blk w5 (w2.heap.size) #[.int .i64 S, .int .i64 N, .int .i64 D] := blk_later hb5 (blk_alloc Kw4_outH.out (.cells #[.int .i64 1, .int .i64 1, .int .i64 1] 39))
  have Kw5_want : Blk w5 (w3.heap.size) #[.int .i64 S, .int .i64 N, .int .i64 D] := blk_later hb5 (blk_alloc Kw4_wantH.out (.cells #[.int .i64 1, .int .i64 1, .int .i64 1] 39))
  have Kw5_one : Blk w5 (w4.heap.size) #[.int .i64 1, .int .i64 1, .int .i64 1] := blk_later hb5 (blk_new (by simp))
  obtain ⟨w5_c0_out, w5_c1_out, w5_c2_out, w5_f0_out, w5_f1_out, w5_f2_out⟩ := blk3 Kw5_out
  have Kw5_outH := Lib.hid Kw5_out
  have w5_l_out := Kw5_out.lt
  have w5_m_out : w2.heap.size < w5.heap.size + 1 := by omega
  obtain ⟨w5_c0_want, w5_c1_want, w5_c2_want, w5_f0_want, w5_f1_want, w5_f2_want⟩ := blk3 Kw5_want
  have Kw5_wantH := Lib.hid Kw5_want
  have w5_l_want := Kw5_want.lt
  have w5_m_want : w3.heap.size < w5.heap.size + 1 := by omega
  obtain ⟨w5_c0_one, w5_c1_one, w5_c2_one, w5_f0_one, w5_f1_one, w5_f2_one⟩ := blk3 Kw5_one
  have Kw5_oneH := Lib.hid Kw5_one
  have w5_l_one := Kw5_one.lt
  have w5_m_one : w4.heap.size < w5.heap.size + 1 := by omega
  have w5z := hb5.size
  try simp at w5z
  have w5B := Lib.hid hb5
  clear Kw5_out Kw5_want Kw5_one
  clear hb5
  generalize hY : clebI a 0 a m 0 = XhY at *
  obtain ⟨S1, N1, D1, o1⟩ := XhY
  have HhY := Lib.hid hY
  clear hY
  simp only [rtv]
  go_wp2_with fail
  refine (i_Clebsch _ _ _ _ _ _).mono ?_
  rintro e w6 ⟨rfl, hb6⟩
  have Kw6_out : Blk w6 (w2.heap.size) #[.int .i64 S, .int .i64 N, .int .i64 D] := blk_later hb6 (blk_alloc Kw5_outH.out (.cells #[.int .i64 S1, .int .i64 N1, .int .i64 D1] 39))
  have Kw6_want : Blk w6 (w3.heap.size) #[.int .i64 S, .int .i64 N, .int .i64 D] := blk_later hb6 (blk_alloc Kw5_wantH.out (.cells #[.int .i64 S1, .int .i64 N1, .int .i64 D1] 39))
  have Kw6_one : Blk w6 (w4.heap.size) #[.int .i64 1, .int .i64 1, .int .i64 1] := blk_later hb6 (blk_alloc Kw5_oneH.out (.cells #[.int .i64 S1, .int .i64 N1, .int .i64 D1] 39))
  have Kw6_x : Blk w6 (w5.heap.size) #[.int .i64 S1, .int .i64 N1, .int .i64 D1] := blk_later hb6 (blk_new (by simp))
  obtain ⟨w6_c0_out, w6_c1_out, w6_c2_out, w6_f0_out, w6_f1_out, w6_f2_out⟩ := blk3 Kw6_out
  have Kw6_outH := Lib.hid Kw6_out
  have w6_l_out := Kw6_out.lt
  have w6_m_out : w2.heap.size < w6.heap.size + 1 := by omega
  obtain ⟨w6_c0_want, w6_c1_want, w6_c2_want, w6_f0_want, w6_f1_want, w6_f2_want⟩ := blk3 Kw6_want
  have Kw6_wantH := Lib.hid Kw6_want
  have w6_l_want := Kw6_want.lt
  have w6_m_want : w3.heap.size < w6.heap.size + 1 := by omega
  obtain ⟨w6_c0_one, w6_c1_one, w6_c2_one, w6_f0_one, w6_f1_one, w6_f2_one⟩ := blk3 Kw6_one
  have Kw6_oneH := Lib.hid Kw6_one
  have w6_l_one := Kw6_one.lt
  have w6_m_one : w4.heap.size < w6.heap.size + 1 := by omega
  obtain ⟨w6_c0_x, w6_c1_x, w6_c2_x, w6_f0_x, w6_f1_x, w6_f2_x⟩ := blk3 Kw6_x
  have Kw6_xH := Lib.hid Kw6_x
  have w6_l_x := Kw6_x.lt
  have w6_m_x : w5.heap.size < w6.heap.size + 1 := by omega
  have w6z := hb6.size
  try simp at w6z
  have w6B := Lib.hid hb6
  clear Kw6_out Kw6_want Kw6_one Kw6_x
  clear hb6
  generalize hZ : clebI a b (a + b) a b = XhZ at *
  obtain ⟨S2, N2, D2, o2⟩ := XhZ
  have HhZ := Lib.hid hZ
  clear hZ
  simp only [rtv]
  have P := all5_of okNoneC_all OK.out
  simp only [okNoneC, HhY.out, HhZ.out] at P
  by_cases h6 : 6 < a + b
  · skip
    obtain ⟨⟨⟨⟨rfl, rfl⟩, rfl⟩, rfl⟩, rfl⟩ : (((o1 = true ∧ S1 = 1) ∧ N1 = 1) ∧ D1 = 1) ∧ o2 = false := by simpa [h6] using P
    clear P
    go_wp2_with fail
    go_ret
    exact ⟨rfl, by (repeat' (first | exact Below.refl _ _ | refine bl_out ?_ (by assumption) | exact (Hid.out (by assumption)) | refine bl_alloc ?_ _ | refine bl_drewN ?_ _ | refine bl_drew ?_ | refine bl_set ?_ ?_ _ | omega | (simp; done) | (simp; omega)))⟩
  obtain ⟨⟨⟨⟨rfl, rfl⟩, rfl⟩, rfl⟩, ⟨⟨rfl, rfl⟩, rfl⟩, rfl⟩ : (((o1 = true ∧ S1 = 1) ∧ N1 = 1) ∧ D1 = 1) ∧ ((o2 = true ∧ S2 = 1) ∧ N2 = 1) ∧ D2 = 1 := by simpa [h6] using P
  clear P
  go_wp2_with fail
  go_ret
  exact ⟨rfl, by (repeat' (first | exact Below.refl _ _ | refine bl_out ?_ (by assumption) | exact (Hid.out (by assumption)) | refine bl_alloc ?_ _ | refine bl_drewN ?_ _ | refine bl_drew ?_ | refine bl_set ?_ ?_ _ | omega | (simp; done) | (simp; omega)))⟩

set_option maxRecDepth 100000 in
set_option maxHeartbeats 1000000 in
theorem l_FnClebschSwap (s : Option Addr) (len cap : Nat) (w : World) (h : Code w s len cap) (hl : len ≤ 9223372036854775807) (hc : cap ≤ 9223372036854775807) :
    Calls Try.prog 11 #[.slice s len cap] w (RTrueK w) := by
  have H := Lib.hid h
  clear h
  by_cases hbig : 1048576 < len
  · go_enter Try.func11, Try.ntmps11
    go_wp2_with fail
    go_ret
    exact ⟨rfl, Below.refl _ _⟩
  go_enter Try.func11, Try.ntmps11
  go_wp2_with fail
  refine (s_DrawClebsch s len cap w H.out hl hc).mono ?_
  rintro e w1 ⟨a, b, c, m, n, rfl, ⟨a0, a1⟩, ⟨b0, b1⟩, ⟨c0, c1⟩, ⟨m0, m1⟩, ⟨n0, n1⟩, hb1⟩
  have w1z := hb1.size
  try simp at w1z
  have w1B := Lib.hid hb1
  clear hb1
  go_wp2_with fail
  refine (i_Clebsch _ _ _ _ _ _).mono ?_
  rintro e w2 ⟨rfl, hb2⟩
  have w2z := hb2.size
  try simp at w2z
  have w2B := Lib.hid hb2
  clear hb2
  generalize hX : clebI a b c m n = XhX at *
  obtain ⟨S, N, D, o⟩ := XhX
  have HhX := Lib.hid hX
  clear hX
  simp only [rtv]
  go_wp2_with fail
  refine (s_Clebsch _ _ _ _ _ _).mono ?_
  rintro e w3 ⟨rfl, hb3⟩
  have Kw3_out : Blk w3 (w2.heap.size) #[.int .i64 S, .int .i64 N, .int .i64 D] := blk_later hb3 (blk_new (by simp))
  obtain ⟨w3_c0_out, w3_c1_out, w3_c2_out, w3_f0_out, w3_f1_out, w3_f2_out⟩ := blk3 Kw3_out
  have Kw3_outH := Lib.hid Kw3_out
  have w3_l_out := Kw3_out.lt
  have w3_m_out : w2.heap.size < w3.heap.size + 1 := by omega
  have w3z := hb3.size
  try simp at w3z
  have w3B := Lib.hid hb3
  clear Kw3_out
  clear hb3
  rw [HhX.out]
  simp only [rtv]
  cases o
  · go_wp2_with fail
    go_ret
    exact ⟨rfl, by (repeat' (first | exact Below.refl _ _ | refine bl_out ?_ (by assumption) | exact (Hid.out (by assumption)) | refine bl_alloc ?_ _ | refine bl_drewN ?_ _ | refine bl_drew ?_ | refine bl_set ?_ ?_ _ | omega | (simp; done) | (simp; omega)))⟩
  have OK := Lib.hid (clebI_ok HhX.out)
  have ht := tdB_iff.1 (cpOk_iff.1 OK.out).1
  have hm := hasB_iff.1 (cpOk_iff.1 OK.out).2.1
  have hn := hasB_iff.1 (cpOk_iff.1 OK.out).2.2
  go_wp2_with fail
  refine (i_Clebsch _ _ _ _ _ _).mono ?_
  rintro e w4 ⟨rfl, hb4⟩
  have Kw4_out : Blk w4 (w2.heap.size) #[.int .i64 S, .int .i64 N, .int .i64 D] := blk_later hb4 (blk_alloc Kw3_outH.out (.cells #[.int .i64 S, .int .i64 N, .int .i64 D] 39))
  have Kw4_want : Blk w4 (w3.heap.size) #[.int .i64 S, .int .i64 N, .int .i64 D] := blk_later hb4 (blk_new (by simp))
  obtain ⟨w4_c0_out, w4_c1_out, w4_c2_out, w4_f0_out, w4_f1_out, w4_f2_out⟩ := blk3 Kw4_out
  have Kw4_outH := Lib.hid Kw4_out
  have w4_l_out := Kw4_out.lt
  have w4_m_out : w2.heap.size < w4.heap.size + 1 := by omega
  obtain ⟨w4_c0_want, w4_c1_want, w4_c2_want, w4_f0_want, w4_f1_want, w4_f2_want⟩ := blk3 Kw4_want
  have Kw4_wantH := Lib.hid Kw4_want
  have w4_l_want := Kw4_want.lt
  have w4_m_want : w3.heap.size < w4.heap.size + 1 := by omega
  have w4z := hb4.size
  try simp at w4z
  have w4B := Lib.hid hb4
  clear Kw4_out Kw4_want
  clear hb4
  generalize hY : clebI b a c n m = XhY at *
  obtain ⟨S1, N1, D1, o1⟩ := XhY
  have HhY := Lib.hid hY
  clear hY
  simp only [rtv]
  go_wp2_with fail
  refine (i_Clebsch _ _ _ _ _ _).mono ?_
  rintro e w5 ⟨rfl, hb5⟩
  have Kw5_out : Blk w5 (w2.heap.size) #[.int .i64 S, .int .i64 N, .int .i64 D] := blk_later hb5 (blk_alloc Kw4_outH.out (.cells #[.int .i64 S1, .int .i64 N1, .int .i64 D1] 39))
  have Kw5_want : Blk w5 (w3.heap.size) #[.int .i64 S, .int .i64 N, .int .i64 D] := blk_later hb5 (blk_alloc Kw4_wantH.out (.cells #[.int .i64 S1, .int .i64 N1, .int .i64 D1] 39))
  have Kw5_x : Blk w5 (w4.heap.size) #[.int .i64 S1, .int .i64 N1, .int .i64 D1] := blk_later hb5 (blk_new (by simp))
  obtain ⟨w5_c0_out, w5_c1_out, w5_c2_out, w5_f0_out, w5_f1_out, w5_f2_out⟩ := blk3 Kw5_out
  have Kw5_outH := Lib.hid Kw5_out
  have w5_l_out := Kw5_out.lt
  have w5_m_out : w2.heap.size < w5.heap.size + 1 := by omega
  obtain ⟨w5_c0_want, w5_c1_want, w5_c2_want, w5_f0_want, w5_f1_want, w5_f2_want⟩ := blk3 Kw5_want
  have Kw5_wantH := Lib.hid Kw5_want
  have w5_l_want := Kw5_want.lt
  have w5_m_want : w3.heap.size < w5.heap.size + 1 := by omega
  obtain ⟨w5_c0_x, w5_c1_x, w5_c2_x, w5_f0_x, w5_f1_x, w5_f2_x⟩ := blk3 Kw5_x
  have Kw5_xH := Lib.hid Kw5_x
  have w5_l_x := Kw5_x.lt
  have w5_m_x : w4.heap.size < w5.heap.size + 1 := by omega
  have w5z := hb5.size
  try simp at w5z
  have w5B := Lib.hid hb5
  clear Kw5_out Kw5_want Kw5_x
  clear hb5
  try rw [Int.zero_sub, Int.zero_sub]
  generalize hZ : clebI a b c (-m) (-n) = XhZ at *
  obtain ⟨S2, N2, D2, o2⟩ := XhZ
  have HhZ := Lib.hid hZ
  clear hZ
  simp only [rtv]
  have P := all5_of okSwapC_all OK.out
  simp only [okSwapC, HhX.out, HhY.out, HhZ.out] at P
  obtain ⟨⟨⟨⟨⟨⟨⟨⟨rfl, rfl⟩, P1⟩, rfl⟩, rfl⟩, P2⟩, rfl⟩, rfl⟩, s0, s1⟩ : ((((((((o1 = true ∧ o2 = true) ∧ trn S1 ((a + b - c) / 2) = S) ∧ N = N1) ∧ D = D1) ∧ trn S2 ((a + b - c) / 2) = S) ∧ N = N2) ∧ D = D2) ∧ (-1 ≤ S1 ∧ S1 ≤ 1 ∧ -1 ≤ S2 ∧ S2 ≤ 1)) := by simpa using P
  have EW : IntKind.i64.wrap ((IntKind.i64.wrap (IntKind.i64.wrap (a + b) - c)).tdiv 2) = (a + b - c) / 2 := by
    rw [IntWalk.i64_in (a + b) (by omega), IntWalk.i64_in (a + b - c) (by omega), Int.tdiv_eq_ediv_of_nonneg (by omega), IntWalk.i64_in _ (by omega)]
  rw [← EW] at P1 P2
  have HP1 := Lib.hid P1
  have HP2 := Lib.hid P2
  clear P P1 P2 EW
  go_wp2_with fail
  have Kz6_out : Blk (w5.alloc (.cells #[.int .i64 S2, .int .i64 N, .int .i64 D] 39)) (w2.heap.size) #[.int .i64 S, .int .i64 N, .int .i64 D] := (blk_alloc Kw5_outH.out (.cells #[.int .i64 S2, .int .i64 N, .int .i64 D] 39))
  have Kz6_want : Blk (w5.alloc (.cells #[.int .i64 S2, .int .i64 N, .int .i64 D] 39)) (w3.heap.size) #[.int .i64 S, .int .i64 N, .int .i64 D] := (blk_alloc Kw5_wantH.out (.cells #[.int .i64 S2, .int .i64 N, .int .i64 D] 39))
  have Kz6_x : Blk (w5.alloc (.cells #[.int .i64 S2, .int .i64 N, .int .i64 D] 39)) (w4.heap.size) #[.int .i64 S1, .int .i64 N, .int .i64 D] := (blk_alloc Kw5_xH.out (.cells #[.int .i64 S2, .int .i64 N, .int .i64 D] 39))
  have Kz6_y : Blk (w5.alloc (.cells #[.int .i64 S2, .int .i64 N, .int .i64 D] 39)) (w5.heap.size) #[.int .i64 S2, .int .i64 N, .int .i64 D] := (blk_new (by simp))
  have Bz6 : Below w.heap.size w (w5.alloc (.cells #[.int .i64 S2, .int .i64 N, .int .i64 D] 39)) := by (repeat' (first | exact Below.refl _ _ | refine bl_out ?_ (by assumption) | exact (Hid.out (by assumption)) | refine bl_alloc ?_ _ | refine bl_drewN ?_ _ | refine bl_drew ?_ | refine bl_set ?_ ?_ _ | omega | (simp; done) | (simp; omega)))
  have Sz6 : (w5.alloc (.cells #[.int .i64 S2, .int .i64 N, .int .i64 D] 39)).heap.size = w5.heap.size + 1 := by simp
  generalize (w5.alloc (.cells #[.int .i64 S2, .int .i64 N, .int .i64 D] 39)) = z6 at *
  have Sz6a := Nat.le_of_eq Sz6
  have Sz6b := Nat.le_of_eq Sz6.symm
  clear Sz6
  obtain ⟨z6_c0_out, z6_c1_out, z6_c2_out, z6_f0_out, z6_f1_out, z6_f2_out⟩ := blk3 Kz6_out
  have Kz6_outH := Lib.hid Kz6_out
  have z6_l_out := Kz6_out.lt
  obtain ⟨z6_c0_want, z6_c1_want, z6_c2_want, z6_f0_want, z6_f1_want, z6_f2_want⟩ := blk3 Kz6_want
  have Kz6_wantH := Lib.hid Kz6_want
  have z6_l_want := Kz6_want.lt
  obtain ⟨z6_c0_x, z6_c1_x, z6_c2_x, z6_f0_x, z6_f1_x, z6_f2_x⟩ := blk3 Kz6_x
  have Kz6_xH := Lib.hid Kz6_x
  have z6_l_x := Kz6_x.lt
  obtain ⟨z6_c0_y, z6_c1_y, z6_c2_y, z6_f0_y, z6_f1_y, z6_f2_y⟩ := blk3 Kz6_y
  have Kz6_yH := Lib.hid Kz6_y
  have z6_l_y := Kz6_y.lt
  have z6B := Lib.hid Bz6
  clear Bz6
  clear Kz6_out Kz6_want Kz6_x Kz6_y
  go_region_held3 (fun w' => Below z6.heap.size z6 w' ∧ w'.cell? ⟨w4.heap.size, 0, none⟩ = some (.int .i64 S1) ∧ w'.cell? ⟨w4.heap.size, 1, none⟩ = some (.int .i64 N) ∧ w'.cell? ⟨w4.heap.size, 2, none⟩ = some (.int .i64 D) ∧ w'.cell? ⟨w2.heap.size, 0, none⟩ = some (.int .i64 S) ∧ w'.cell? ⟨w2.heap.size, 1, none⟩ = some (.int .i64 N) ∧ w'.cell? ⟨w2.heap.size, 2, none⟩ = some (.int .i64 D) ∧ w'.cell? ⟨w5.heap.size, 0, none⟩ = some (.int .i64 S2) ∧ w'.cell? ⟨w5.heap.size, 1, none⟩ = some (.int .i64 N) ∧ w'.cell? ⟨w5.heap.size, 2, none⟩ = some (.int .i64 D)) ((refine and_keep ?_ (fun hB => ⟨held_cell hB z6_c0_x z6_l_x, held_cell hB z6_c1_x z6_l_x, held_cell hB z6_c2_x z6_l_x, held_cell hB z6_c0_out z6_l_out, held_cell hB z6_c1_out z6_l_out, held_cell hB z6_c2_out z6_l_out, held_cell hB z6_c0_y z6_l_y, held_cell hB z6_c1_y z6_l_y, held_cell hB z6_c2_y z6_l_y⟩); (first | exact (Below.refl _ _).drew | exact Below.refl _ _ | exact btr (And.left (by assumption)) hb' | exact btr (Below.refl _ _).drew hb' | exact And.left (by assumption)))) (first | (go_at_call 28; refine (l_turned2 _ _ _ _ S _ (by assumption) (by omega) (by omega)).mono ?_; rintro e w' ⟨rfl, hb'⟩))
  go_wp2_with fail
  go_ret
  exact ⟨rfl, btr z6B.out (And.left (by assumption))⟩

end Go.Proofs.Ytnjcbohledafgaa
