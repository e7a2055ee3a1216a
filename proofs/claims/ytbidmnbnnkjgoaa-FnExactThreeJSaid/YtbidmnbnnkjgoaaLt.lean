/- The walks of the laws on ThreeJ. -/
import Derived.Test.YtbidmnbnnkjgoaaTh
import Derived.Test.YtbidmnbnnkjgoaaDr
import Derived.Test.YtbidmnbnnkjgoaaLv
namespace Go.Proofs.Ytbidmnbnnkjgoaa
open Go.RowKit
set_option linter.unusedVariables false

set_option maxRecDepth 100000 in
set_option maxHeartbeats 1000000 in
theorem l_FnExactThreeJ (a b c m n k : Int) (w : World) (_ : I64 a) (_ : I64 b) (_ : I64 c) (_ : I64 m) (_ : I64 n) (_ : I64 k) :
    Calls Try.prog 5 #[.int .i64 a, .int .i64 b, .int .i64 c, .int .i64 m, .int .i64 n, .int .i64 k] w (RTrueK w) := by
  go_enter Try.func5, Try.ntmps5
  go_wp2_with fail
  refine (s_ThreeJ _ _ _ _ _ _ _).mono ?_
  rintro e w1 ⟨rfl, hb1⟩
  have w1z := hb1.size
  try simp at w1z
  have w1B := Lib.hid hb1
  clear hb1
  generalize hX : thI a b c m n k = XhX at *
  obtain ⟨S, N, D, o⟩ := XhX
  have HhX := Lib.hid hX
  clear hX
  simp only [rtv]
  go_wp2_with fail
  refine (i_ThreeJ _ _ _ _ _ _ _).mono ?_
  rintro e w2 ⟨rfl, hb2⟩
  have Kw2_x : Blk w2 (w1.heap.size) #[.int .i64 S, .int .i64 N, .int .i64 D] := blk_later hb2 (blk_new (by simp))
  obtain ⟨w2_c0_x, w2_c1_x, w2_c2_x, w2_f0_x, w2_f1_x, w2_f2_x⟩ := blk3 Kw2_x
  have Kw2_xH := Lib.hid Kw2_x
  have w2_l_x := Kw2_x.lt
  have w2_m_x : w1.heap.size < w2.heap.size + 1 := by omega
  have w2z := hb2.size
  try simp at w2z
  have w2B := Lib.hid hb2
  clear Kw2_x
  clear hb2
  rw [HhX.out]
  simp only [rtv]
  go_wp2_with fail
  refine (l_eqRoot _ _ _ _).mono ?_
  rintro e w3 ⟨rfl, hb3⟩
  have Kw3_x : Blk w3 (w1.heap.size) #[.int .i64 S, .int .i64 N, .int .i64 D] := blk_later hb3 (blk_alloc Kw2_xH.out (.cells #[.int .i64 S, .int .i64 N, .int .i64 D] 28))
  have Kw3_y : Blk w3 (w2.heap.size) #[.int .i64 S, .int .i64 N, .int .i64 D] := blk_later hb3 (blk_new (by simp))
  obtain ⟨w3_c0_x, w3_c1_x, w3_c2_x, w3_f0_x, w3_f1_x, w3_f2_x⟩ := blk3 Kw3_x
  have Kw3_xH := Lib.hid Kw3_x
  have w3_l_x := Kw3_x.lt
  have w3_m_x : w1.heap.size < w3.heap.size + 1 := by omega
  obtain ⟨w3_c0_y, w3_c1_y, w3_c2_y, w3_f0_y, w3_f1_y, w3_f2_y⟩ := blk3 Kw3_y
  have Kw3_yH := Lib.hid Kw3_y
  have w3_l_y := Kw3_y.lt
  have w3_m_y : w2.heap.size < w3.heap.size + 1 := by omega
  have w3z := hb3.size
  try simp at w3z
  have w3B := Lib.hid hb3
  clear Kw3_x Kw3_y
  clear hb3
  cases o
  all_goals
    go_wp2_with fail
    go_ret
    exact ⟨rfl, by (repeat' (first | exact Below.refl _ _ | refine bl_out ?_ (by assumption) | exact (Hid.out (by assumption)) | refine bl_alloc ?_ _ | refine bl_drewN ?_ _ | refine bl_drew ?_ | refine bl_set ?_ ?_ _ | omega | (simp; done) | (simp; omega)))⟩

set_option maxRecDepth 100000 in
set_option maxHeartbeats 2000000 in
theorem l_FnThreeTurn (s : Option Addr) (len cap : Nat) (w : World) (h : Code w s len cap) (hl : len ≤ 9223372036854775807) (hc : cap ≤ 9223372036854775807) :
    Calls Try.prog 6 #[.slice s len cap] w (RTrueK w) := by
  have H := Lib.hid h
  clear h
  by_cases hbig : 1048576 < len
  · go_enter Try.func6, Try.ntmps6
    go_wp2_with fail
    go_ret
    exact ⟨rfl, Below.refl _ _⟩
  go_enter Try.func6, Try.ntmps6
  go_wp2_with fail
  refine (s_DrawThreeJ s len cap w H.out hl hc).mono ?_
  rintro e w1 ⟨a, b, c, m, n, k, rfl, ⟨a0, a1⟩, ⟨b0, b1⟩, ⟨c0, c1⟩, ⟨m0, m1⟩, ⟨n0, n1⟩, ⟨k0, k1⟩, hb1⟩
  have w1z := hb1.size
  try simp at w1z
  have w1B := Lib.hid hb1
  clear hb1
  go_wp2_with fail
  refine (i_ThreeJ _ _ _ _ _ _ _).mono ?_
  rintro e w2 ⟨rfl, hb2⟩
  have w2z := hb2.size
  try simp at w2z
  have w2B := Lib.hid hb2
  clear hb2
  generalize hX : thI a b c m n k = XhX at *
  obtain ⟨S, N, D, o⟩ := XhX
  have HhX := Lib.hid hX
  clear hX
  simp only [rtv]
  go_wp2_with fail
  refine (s_ThreeJ _ _ _ _ _ _ _).mono ?_
  rintro e w3 ⟨rfl, hb3⟩
  have Kw3_out : Blk w3 (w2.heap.size) #[.int .i64 S, .int .i64 N, .int .i64 D] := blk_later hb3 (blk_new (by simp))
  obtain ⟨w3_c0_out, w3_c1_out, w3_c2_out, w3_f0_out, w3_f1_out, w3_f2_out⟩ := blk3 Kw3_out
  have Kw3_outH := Lib.hid Kw3_out
  have w3_l_out := Kw3_out.lt
  have w3_m_out : w2.heap.size < w3.heap.size + 1 := by omega
  have w3z := hb3.size
  try simp at w3z
  have w3B := Lib.hid hb3
  clear Kw3_out
  clear hb3
  rw [HhX.out]
  simp only [rtv]
  cases o
  · go_wp2_with fail
    go_ret
    exact ⟨rfl, by (repeat' (first | exact Below.refl _ _ | refine bl_out ?_ (by assumption) | exact (Hid.out (by assumption)) | refine bl_alloc ?_ _ | refine bl_drewN ?_ _ | refine bl_drew ?_ | refine bl_set ?_ ?_ _ | omega | (simp; done) | (simp; omega)))⟩
  have OK := Lib.hid (thI_ok HhX.out)
  have ht := tdB_iff.1 (cpOk_iff.1 (thOk_iff.1 OK.out).1).1
  have hm := hasB_iff.1 (cpOk_iff.1 (thOk_iff.1 OK.out).1).2.1
  have hn := hasB_iff.1 (cpOk_iff.1 (thOk_iff.1 OK.out).1).2.2
  have hk := hasB_iff.1 (thOk_iff.1 OK.out).2
  have P := all6_of okTurn3_all OK.out
  simp only [okTurn3, Bool.and_eq_true, decide_eq_true_eq] at P
  rw [HhX.out] at P
  have E1 := Lib.hid P.1
  have E2 := Lib.hid P.2
  clear P
  go_wp2_with fail
  refine (i_ThreeJ _ _ _ _ _ _ _).mono ?_
  rintro e w4 ⟨rfl, hb4⟩
  have Kw4_out : Blk w4 (w2.heap.size) #[.int .i64 S, .int .i64 N, .int .i64 D] := blk_later hb4 (blk_alloc Kw3_outH.out (.cells #[.int .i64 S, .int .i64 N, .int .i64 D] 28))
  obtain ⟨w4_c0_out, w4_c1_out, w4_c2_out, w4_f0_out, w4_f1_out, w4_f2_out⟩ := blk3 Kw4_out
  have Kw4_outH := Lib.hid Kw4_out
  have w4_l_out := Kw4_out.lt
  have w4_m_out : w2.heap.size < w4.heap.size + 1 := by omega
  have w4z := hb4.size
  try simp at w4z
  have w4B := Lib.hid hb4
  clear Kw4_out
  clear hb4
  rw [E1.out]
  simp only [rtv]
  go_wp2_with fail
  refine (i_ThreeJ _ _ _ _ _ _ _).mono ?_
  rintro e w5 ⟨rfl, hb5⟩
  have Kw5_out : Blk w5 (w2.heap.size) #[.int .i64 S, .int .i64 N, .int .i64 D] := blk_later hb5 (blk_alloc Kw4_outH.out (.cells #[.int .i64 S, .int .i64 N, .int .i64 D] 28))
  have Kw5_x : Blk w5 (w4.heap.size) #[.int .i64 S, .int .i64 N, .int .i64 D] := blk_later hb5 (blk_new (by simp))
  obtain ⟨w5_c0_out, w5_c1_out, w5_c2_out, w5_f0_out, w5_f1_out, w5_f2_out⟩ := blk3 Kw5_out
  have Kw5_outH := Lib.hid Kw5_out
  have w5_l_out := Kw5_out.lt
  have w5_m_out : w2.heap.size < w5.heap.size + 1 := by omega
  obtain ⟨w5_c0_x, w5_c1_x, w5_c2_x, w5_f0_x, w5_f1_x, w5_f2_x⟩ := blk3 Kw5_x
  have Kw5_xH := Lib.hid Kw5_x
  have w5_l_x := Kw5_x.lt
  have w5_m_x : w4.heap.size < w5.heap.size + 1 := by omega
  have w5z := hb5.size
  try simp at w5z
  have w5B := Lib.hid hb5
  clear Kw5_out Kw5_x
  clear hb5
  rw [E2.out]
  simp only [rtv]
  go_wp2_with fail
  go_ret
  exact ⟨rfl, by (repeat' (first | exact Below.refl _ _ | refine bl_out ?_ (by assumption) | exact (Hid.out (by assumption)) | refine bl_alloc ?_ _ | refine bl_drewN ?_ _ | refine bl_drew ?_ | refine bl_set ?_ ?_ _ | omega | (simp; done) | (simp; omega)))⟩

set_option maxRecDepth 100000 in
set_option maxHeartbeats 2000000 in
theorem l_FnThreeZero (s : Option Addr) (len cap : Nat) (w : World) (h : Code w s len cap) (hl : len ≤ 9223372036854775807) (hc : cap ≤ 9223372036854775807) :
    Calls Try.prog 7 #[.slice s len cap] w (RTrueK w) := by
  have H := Lib.hid h
  clear h
  by_cases hbig : 1048576 < len
  · go_enter Try.func7, Try.ntmps7
    go_wp2_with fail
    go_ret
    exact ⟨rfl, Below.refl _ _⟩
  go_enter Try.func7, Try.ntmps7
  go_wp2_with fail
  refine (s_DrawThreeJ s len cap w H.out hl hc).mono ?_
  rintro e w1 ⟨a, b, c, m, n, k, rfl, ⟨a0, a1⟩, ⟨b0, b1⟩, ⟨c0, c1⟩, ⟨m0, m1⟩, ⟨n0, n1⟩, ⟨k0, k1⟩, hb1⟩
  have w1z := hb1.size
  try simp at w1z
  have w1B := Lib.hid hb1
  clear hb1
  go_wp2_with fail
  refine (i_ThreeJ _ _ _ _ _ _ _).mono ?_
  rintro e w2 ⟨rfl, hb2⟩
  have w2z := hb2.size
  try simp at w2z
  have w2B := Lib.hid hb2
  clear hb2
  generalize hX : thI a b c m n k = XhX at *
  obtain ⟨S, N, D, o⟩ := XhX
  have HhX := Lib.hid hX
  clear hX
  simp only [rtv]
  go_wp2_with fail
  refine (s_ThreeJ _ _ _ _ _ _ _).mono ?_
  rintro e w3 ⟨rfl, hb3⟩
  have Kw3_out : Blk w3 (w2.heap.size) #[.int .i64 S, .int .i64 N, .int .i64 D] := blk_later hb3 (blk_new (by simp))
  obtain ⟨w3_c0_out, w3_c1_out, w3_c2_out, w3_f0_out, w3_f1_out, w3_f2_out⟩ := blk3 Kw3_out
  have Kw3_outH := Lib.hid Kw3_out
  have w3_l_out := Kw3_out.lt
  have w3_m_out : w2.heap.size < w3.heap.size + 1 := by omega
  have w3z := hb3.size
  try simp at w3z
  have w3B := Lib.hid hb3
  clear Kw3_out
  clear hb3
  rw [HhX.out]
  simp only [rtv]
  cases o
  · go_wp2_with fail
    go_ret
    exact ⟨rfl, by (repeat' (first | exact Below.refl _ _ | refine bl_out ?_ (by assumption) | exact (Hid.out (by assumption)) | refine bl_alloc ?_ _ | refine bl_drewN ?_ _ | refine bl_drew ?_ | refine bl_set ?_ ?_ _ | omega | (simp; done) | (simp; omega)))⟩
  have OK := Lib.hid (thI_ok HhX.out)
  have ht := tdB_iff.1 (cpOk_iff.1 (thOk_iff.1 OK.out).1).1
  have hm := hasB_iff.1 (cpOk_iff.1 (thOk_iff.1 OK.out).1).2.1
  have hn := hasB_iff.1 (cpOk_iff.1 (thOk_iff.1 OK.out).1).2.2
  have hk := hasB_iff.1 (thOk_iff.1 OK.out).2
  go_wp2_with fail
  refine (i_ThreeJ _ _ _ _ _ _ _).mono ?_
  rintro e w4 ⟨rfl, hb4⟩
  have Kw4_out : Blk w4 (w2.heap.size) #[.int .i64 S, .int .i64 N, .int .i64 D] := blk_later hb4 (blk_alloc Kw3_outH.out (.cells #[.int .i64 S, .int .i64 N, .int .i64 D] 28))
  obtain ⟨w4_c0_out, w4_c1_out, w4_c2_out, w4_f0_out, w4_f1_out, w4_f2_out⟩ := blk3 Kw4_out
  have Kw4_outH := Lib.hid Kw4_out
  have w4_l_out := Kw4_out.lt
  have w4_m_out : w2.heap.size < w4.heap.size + 1 := by omega
  have w4z := hb4.size
  try simp at w4z
  have w4B := Lib.hid hb4
  clear Kw4_out
  clear hb4
  try rw [Int.zero_sub]
  generalize hY : thI a a 0 m (-m) 0 = XhY at *
  obtain ⟨S1, N1, D1, o1⟩ := XhY
  have HhY := Lib.hid hY
  clear hY
  simp only [rtv]
  go_wp2_with fail
  refine (i_RatOf _ _ _).mono ?_
  rintro e w5 ⟨rfl, hb5⟩
  have Kw5_out : Blk w5 (w2.heap.size) #[.int .i64 S, .int .i64 N, .int .i64 D] := blk_later hb5 (blk_alloc Kw4_outH.out (.cells #[.int .i64 S1, .int .i64 N1, .int .i64 D1] 28))
  have Kw5_x : Blk w5 (w4.heap.size) #[.int .i64 S1, .int .i64 N1, .int .i64 D1] := blk_later hb5 (blk_new (by simp))
  obtain ⟨w5_c0_out, w5_c1_out, w5_c2_out, w5_f0_out, w5_f1_out, w5_f2_out⟩ := blk3 Kw5_out
  have Kw5_outH := Lib.hid Kw5_out
  have w5_l_out := Kw5_out.lt
  have w5_m_out : w2.heap.size < w5.heap.size + 1 := by omega
  obtain ⟨w5_c0_x, w5_c1_x, w5_c2_x, w5_f0_x, w5_f1_x, w5_f2_x⟩ := blk3 Kw5_x
  have Kw5_xH := Lib.hid Kw5_x
  have w5_l_x := Kw5_x.lt
  have w5_m_x : w4.heap.size < w5.heap.size + 1 := by omega
  have w5z := hb5.size
  try simp at w5z
  have w5B := Lib.hid hb5
  clear Kw5_out Kw5_x
  clear hb5
  generalize hZ : ratOf 1 (a + 1) = XhZ at *
  obtain ⟨N2, D2, o2⟩ := XhZ
  have HhZ := Lib.hid hZ
  clear hZ
  simp only [rv]
  have P := all5_of okZero3_all (thOk_iff.1 OK.out).1
  simp only [okZero3, HhY.out, HhZ.out] at P
  obtain ⟨⟨⟨⟨rfl, rfl⟩, rfl⟩, rfl⟩, P5⟩ : (((o1 = true ∧ o2 = true) ∧ N1 = N2) ∧ D1 = D2) ∧ (decide (S1 < 0) == decide ((a - m) / 2 % 2 ≠ 0)) = true := by simpa using P
  clear P
  rw [beq_iff_eq, decide_eq_decide] at P5
  by_cases hp : (a - m) / 2 % 2 = 0
  · have hp1 : ((a - m) / 2 % 2 == 0) = true := by simp [hp]
    have hp2 : ((a - m) / 2 % 2 != 0) = false := by simp [hp]
    have hs : ¬ S1 < 0 := by omega
    have hs2 : decide (S1 < 0) = false := by simpa using hs
    clear P5 hp
    go_wp2_with fail
    go_ret
    exact ⟨rfl, by (repeat' (first | exact Below.refl _ _ | refine bl_out ?_ (by assumption) | exact (Hid.out (by assumption)) | refine bl_alloc ?_ _ | refine bl_drewN ?_ _ | refine bl_drew ?_ | refine bl_set ?_ ?_ _ | omega | (simp; done) | (simp; omega)))⟩
  have hp1 : ((a - m) / 2 % 2 == 0) = false := by simp [hp]
  have hp2 : ((a - m) / 2 % 2 != 0) = true := by simp [hp]
  have hs : S1 < 0 := by omega
  have hs2 : decide (S1 < 0) = true := by simpa using hs
  clear P5 hp
  go_wp2_with fail
  go_ret
  exact ⟨rfl, by (repeat' (first | exact Below.refl _ _ | refine bl_out ?_ (by assumption) | exact (Hid.out (by assumption)) | refine bl_alloc ?_ _ | refine bl_drewN ?_ _ | refine bl_drew ?_ | refine bl_set ?_ ?_ _ | omega | (simp; done) | (simp; omega)))⟩

set_option maxRecDepth 100000 in
set_option maxHeartbeats 2000000 in
theorem l_FnThreeSwap (s : Option Addr) (len cap : Nat) (w : World) (h : Code w s len cap) (hl : len ≤ 9223372036854775807) (hc : cap ≤ 9223372036854775807) :
    Calls Try.prog 9 #[.slice s len cap] w (RTrueK w) := by
  have H := Lib.hid h
  clear h
  by_cases hbig : 1048576 < len
  · go_enter Try.func9, Try.ntmps9
    go_wp2_with fail
    go_ret
    exact ⟨rfl, Below.refl _ _⟩
  go_enter Try.func9, Try.ntmps9
  go_wp2_with fail
  refine (s_DrawThreeJ s len cap w H.out hl hc).mono ?_
  rintro e w1 ⟨a, b, c, m, n, k, rfl, ⟨a0, a1⟩, ⟨b0, b1⟩, ⟨c0, c1⟩, ⟨m0, m1⟩, ⟨n0, n1⟩, ⟨k0, k1⟩, hb1⟩
  have w1z := hb1.size
  try simp at w1z
  have w1B := Lib.hid hb1
  clear hb1
  go_wp2_with fail
  refine (i_ThreeJ _ _ _ _ _ _ _).mono ?_
  rintro e w2 ⟨rfl, hb2⟩
  have w2z := hb2.size
  try simp at w2z
  have w2B := Lib.hid hb2
  clear hb2
  generalize hX : thI a b c m n k = XhX at *
  obtain ⟨S, N, D, o⟩ := XhX
  have HhX := Lib.hid hX
  clear hX
  simp only [rtv]
  go_wp2_with fail
  refine (s_ThreeJ _ _ _ _ _ _ _).mono ?_
  rintro e w3 ⟨rfl, hb3⟩
  have Kw3_out : Blk w3 (w2.heap.size) #[.int .i64 S, .int .i64 N, .int .i64 D] := blk_later hb3 (blk_new (by simp))
  obtain ⟨w3_c0_out, w3_c1_out, w3_c2_out, w3_f0_out, w3_f1_out, w3_f2_out⟩ := blk3 Kw3_out
  have Kw3_outH := Lib.hid Kw3_out
  have w3_l_out := Kw3_out.lt
  have w3_m_out : w2.heap.size < w3.heap.size + 1 := by omega
  have w3z := hb3.size
  try simp at w3z
  have w3B := Lib.hid hb3
  clear Kw3_out
  clear hb3
  rw [HhX.out]
  simp only [rtv]
  cases o
  · go_wp2_with fail
    go_ret
    exact ⟨rfl, by (repeat' (first | exact Below.refl _ _ | refine bl_out ?_ (by assumption) | exact (Hid.out (by assumption)) | refine bl_alloc ?_ _ | refine bl_drewN ?_ _ | refine bl_drew ?_ | refine bl_set ?_ ?_ _ | omega | (simp; done) | (simp; omega)))⟩
  have OK := Lib.hid (thI_ok HhX.out)
  have ht := tdB_iff.1 (cpOk_iff.1 (thOk_iff.1 OK.out).1).1
  have hm := hasB_iff.1 (cpOk_iff.1 (thOk_iff.1 OK.out).1).2.1
  have hn := hasB_iff.1 (cpOk_iff.1 (thOk_iff.1 OK.out).1).2.2
  have hk := hasB_iff.1 (thOk_iff.1 OK.out).2
  go_wp2_with fail
  refine (i_ThreeJ _ _ _ _ _ _ _).mono ?_
  rintro e w4 ⟨rfl, hb4⟩
  have Kw4_out : Blk w4 (w2.heap.size) #[.int .i64 S, .int .i64 N, .int .i64 D] := blk_later hb4 (blk_alloc Kw3_outH.out (.cells #[.int .i64 S, .int .i64 N, .int .i64 D] 28))
  obtain ⟨w4_c0_out, w4_c1_out, w4_c2_out, w4_f0_out, w4_f1_out, w4_f2_out⟩ := blk3 Kw4_out
  have Kw4_outH := Lib.hid Kw4_out
  have w4_l_out := Kw4_out.lt
  have w4_m_out : w2.heap.size < w4.heap.size + 1 := by omega
  have w4z := hb4.size
  try simp at w4z
  have w4B := Lib.hid hb4
  clear Kw4_out
  clear hb4
  generalize hY : thI b a c n m k = XhY at *
  obtain ⟨S1, N1, D1, o1⟩ := XhY
  have HhY := Lib.hid hY
  clear hY
  simp only [rtv]
  go_wp2_with fail
  refine (i_ThreeJ _ _ _ _ _ _ _).mono ?_
  rintro e w5 ⟨rfl, hb5⟩
  have Kw5_out : Blk w5 (w2.heap.size) #[.int .i64 S, .int .i64 N, .int .i64 D] := blk_later hb5 (blk_alloc Kw4_outH.out (.cells #[.int .i64 S1, .int .i64 N1, .int .i64 D1] 28))
  have Kw5_x : Blk w5 (w4.heap.size) #[.int .i64 S1, .int .i64 N1, .int .i64 D1] := blk_later hb5 (blk_new (by simp))
  obtain ⟨w5_c0_out, w5_c1_out, w5_c2_out, w5_f0_out, w5_f1_out, w5_f2_out⟩ := blk3 Kw5_out
  have Kw5_outH := Lib.hid Kw5_out
  have w5_l_out := Kw5_out.lt
  have w5_m_out : w2.heap.size < w5.heap.size + 1 := by omega
  obtain ⟨w5_c0_x, w5_c1_x, w5_c2_x, w5_f0_x, w5_f1_x, w5_f2_x⟩ := blk3 Kw5_x
  have Kw5_xH := Lib.hid Kw5_x
  have w5_l_x := Kw5_x.lt
  have w5_m_x : w4.heap.size < w5.heap.size + 1 := by omega
  have w5z := hb5.size
  try simp at w5z
  have w5B := Lib.hid hb5
  clear Kw5_out Kw5_x
  clear hb5
  generalize hZ : thI a c b m k n = XhZ at *
  obtain ⟨S2, N2, D2, o2⟩ := XhZ
  have HhZ := Lib.hid hZ
  clear hZ
  simp only [rtv]
  have P := all6_of okSwap3_all OK.out
  simp only [okSwap3, HhX.out, HhY.out, HhZ.out] at P
  obtain ⟨⟨⟨⟨⟨⟨⟨⟨rfl, rfl⟩, P1⟩, rfl⟩, rfl⟩, P2⟩, rfl⟩, rfl⟩, s0, s1⟩ : ((((((((o1 = true ∧ o2 = true) ∧ trn S1 ((a + b + c) / 2) = S) ∧ N = N1) ∧ D = D1) ∧ trn S2 ((a + b + c) / 2) = S) ∧ N = N2) ∧ D = D2) ∧ (-1 ≤ S1 ∧ S1 ≤ 1 ∧ -1 ≤ S2 ∧ S2 ≤ 1)) := by simpa using P
  have EW : IntKind.i64.wrap ((IntKind.i64.wrap (IntKind.i64.wrap (a + b) + c)).tdiv 2) = (a + b + c) / 2 := by
    rw [IntWalk.i64_in (a + b) (by omega), IntWalk.i64_in (a + b + c) (by omega), Int.tdiv_eq_ediv_of_nonneg (by omega), IntWalk.i64_in _ (by omega)]
  rw [← EW] at P1 P2
  have HP1 := Lib.hid P1
  have HP2 := Lib.hid P2
  clear P P1 P2 EW
  go_wp2_with fail
  have Kz6_out : Blk (w5.alloc (.cells #[.int .i64 S2, .int .i64 N, .int .i64 D] 28)) (w2.heap.size) #[.int .i64 S, .int .i64 N, .int .i64 D] := (blk_alloc Kw5_outH.out (.cells #[.int .i64 S2, .int .i64 N, .int .i64 D] 28))
  have Kz6_x : Blk (w5.alloc (.cells #[.int .i64 S2, .int .i64 N, .int .i64 D] 28)) (w4.heap.size) #[.int .i64 S1, .int .i64 N, .int .i64 D] := (blk_alloc Kw5_xH.out (.cells #[.int .i64 S2, .int .i64 N, .int .i64 D] 28))
  have Kz6_y : Blk (w5.alloc (.cells #[.int .i64 S2, .int .i64 N, .int .i64 D] 28)) (w5.heap.size) #[.int .i64 S2, .int .i64 N, .int .i64 D] := (blk_new (by simp))
  have Bz6 : Below w.heap.size w (w5.alloc (.cells #[.int .i64 S2, .int .i64 N, .int .i64 D] 28)) := by (repeat' (first | exact Below.refl _ _ | refine bl_out ?_ (by assumption) | exact (Hid.out (by assumption)) | refine bl_alloc ?_ _ | refine bl_drewN ?_ _ | refine bl_drew ?_ | refine bl_set ?_ ?_ _ | omega | (simp; done) | (simp; omega)))
  have Sz6 : (w5.alloc (.cells #[.int .i64 S2, .int .i64 N, .int .i64 D] 28)).heap.size = w5.heap.size + 1 := by simp
  generalize (w5.alloc (.cells #[.int .i64 S2, .int .i64 N, .int .i64 D] 28)) = z6 at *
  have Sz6a := Nat.le_of_eq Sz6
  have Sz6b := Nat.le_of_eq Sz6.symm
  clear Sz6
  obtain ⟨z6_c0_out, z6_c1_out, z6_c2_out, z6_f0_out, z6_f1_out, z6_f2_out⟩ := blk3 Kz6_out
  have Kz6_outH := Lib.hid Kz6_out
  have z6_l_out := Kz6_out.lt
  obtain ⟨z6_c0_x, z6_c1_x, z6_c2_x, z6_f0_x, z6_f1_x, z6_f2_x⟩ := blk3 Kz6_x
  have Kz6_xH := Lib.hid Kz6_x
  have z6_l_x := Kz6_x.lt
  obtain ⟨z6_c0_y, z6_c1_y, z6_c2_y, z6_f0_y, z6_f1_y, z6_f2_y⟩ := blk3 Kz6_y
  have Kz6_yH := Lib.hid Kz6_y
  have z6_l_y := Kz6_y.lt
  have z6B := Lib.hid Bz6
  clear Bz6
  clear Kz6_out Kz6_x Kz6_y
  go_region_held3 (fun w' => Below z6.heap.size z6 w' ∧ w'.cell? ⟨w4.heap.size, 0, none⟩ = some (.int .i64 S1) ∧ w'.cell? ⟨w4.heap.size, 1, none⟩ = some (.int .i64 N) ∧ w'.cell? ⟨w4.heap.size, 2, none⟩ = some (.int .i64 D) ∧ w'.cell? ⟨w2.heap.size, 0, none⟩ = some (.int .i64 S) ∧ w'.cell? ⟨w2.heap.size, 1, none⟩ = some (.int .i64 N) ∧ w'.cell? ⟨w2.heap.size, 2, none⟩ = some (.int .i64 D) ∧ w'.cell? ⟨w5.heap.size, 0, none⟩ = some (.int .i64 S2) ∧ w'.cell? ⟨w5.heap.size, 1, none⟩ = some (.int .i64 N) ∧ w'.cell? ⟨w5.heap.size, 2, none⟩ = some (.int .i64 D)) ((refine and_keep ?_ (fun hB => ⟨held_cell hB z6_c0_x z6_l_x, held_cell hB z6_c1_x z6_l_x, held_cell hB z6_c2_x z6_l_x, held_cell hB z6_c0_out z6_l_out, held_cell hB z6_c1_out z6_l_out, held_cell hB z6_c2_out z6_l_out, held_cell hB z6_c0_y z6_l_y, held_cell hB z6_c1_y z6_l_y, held_cell hB z6_c2_y z6_l_y⟩); (repeat' (first | exact (Below.refl _ _).drew | exact Below.refl _ _ | exact And.left (by assumption) | refine bl_alloc ?_ _ | refine bl_drew ?_ | refine bl_set ?_ ?_ _ | refine btr ?_ (by assumption) | omega | (simp; done) | (simp; omega))))) (first | (go_at_call 28; refine (l_turned2 _ _ _ _ S _ (by assumption) (by omega) (by omega)).mono ?_; rintro e w' ⟨rfl, hb'⟩))
  go_wp2_with fail
  go_ret
  exact ⟨rfl, btr z6B.out (by (repeat' (first | exact (Below.refl _ _).drew | exact Below.refl _ _ | exact And.left (by assumption) | refine bl_alloc ?_ _ | refine bl_drew ?_ | refine bl_set ?_ ?_ _ | refine btr ?_ (by assumption) | omega | (simp; done) | (simp; omega))))⟩

set_option maxRecDepth 100000 in
set_option maxHeartbeats 2000000 in
theorem l_FnThreeClebsch (s : Option Addr) (len cap : Nat) (w : World) (h : Code w s len cap) (hl : len ≤ 9223372036854775807) (hc : cap ≤ 9223372036854775807) :
    Calls Try.prog 10 #[.slice s len cap] w (RTrueK w) := by
  have H := Lib.hid h
  clear h
  by_cases hbig : 1048576 < len
  · go_enter Try.func10, Try.ntmps10
    go_wp2_with fail
    go_ret
    exact ⟨rfl, Below.refl _ _⟩
  go_enter Try.func10, Try.ntmps10
  go_wp2_with fail
  refine (s_DrawThreeJ s len cap w H.out hl hc).mono ?_
  rintro e w1 ⟨a, b, c, m, n, k, rfl, ⟨a0, a1⟩, ⟨b0, b1⟩, ⟨c0, c1⟩, ⟨m0, m1⟩, ⟨n0, n1⟩, ⟨k0, k1⟩, hb1⟩
  have w1z := hb1.size
  try simp at w1z
  have w1B := Lib.hid hb1
  clear hb1
  go_wp2_with fail
  refine (i_ThreeJ _ _ _ _ _ _ _).mono ?_
  rintro e w2 ⟨rfl, hb2⟩
  have w2z := hb2.size
  try simp at w2z
  have w2B := Lib.hid hb2
  clear hb2
  generalize hX : thI a b c m n k = XhX at *
  obtain ⟨S, N, D, o⟩ := XhX
  have HhX := Lib.hid hX
  clear hX
  simp only [rtv]
  go_wp2_with fail
  refine (s_ThreeJ _ _ _ _ _ _ _).mono ?_
  rintro e w3 ⟨rfl, hb3⟩
  have Kw3_out : Blk w3 (w2.heap.size) #[.int .i64 S, .int .i64 N, .int .i64 D] := blk_later hb3 (blk_new (by simp))
  obtain ⟨w3_c0_out, w3_c1_out, w3_c2_out, w3_f0_out, w3_f1_out, w3_f2_out⟩ := blk3 Kw3_out
  have Kw3_outH := Lib.hid Kw3_out
  have w3_l_out := Kw3_out.lt
  have w3_m_out : w2.heap.size < w3.heap.size + 1 := by omega
  have w3z := hb3.size
  try simp at w3z
  have w3B := Lib.hid hb3
  clear Kw3_out
  clear hb3
  rw [HhX.out]
  simp only [rtv]
  cases o
  · go_wp2_with fail
    go_ret
    exact ⟨rfl, by (repeat' (first | exact Below.refl _ _ | refine bl_out ?_ (by assumption) | exact (Hid.out (by assumption)) | refine bl_alloc ?_ _ | refine bl_drewN ?_ _ | refine bl_drew ?_ | refine bl_set ?_ ?_ _ | omega | (simp; done) | (simp; omega)))⟩
  have OK := Lib.hid (thI_ok HhX.out)
  have ht := tdB_iff.1 (cpOk_iff.1 (thOk_iff.1 OK.out).1).1
  have hm := hasB_iff.1 (cpOk_iff.1 (thOk_iff.1 OK.out).1).2.1
  have hn := hasB_iff.1 (cpOk_iff.1 (thOk_iff.1 OK.out).1).2.2
  have hk := hasB_iff.1 (thOk_iff.1 OK.out).2
  by_cases hs : m + n + k = 0
  case neg =>
    obtain rfl : S = 0 := by have := HhX.out; simp [thI, OK.out, hs] at this; omega
    have hs1 : (m + n + k == 0) = false := by simp [hs]
    have hs2 : (m + n + k != 0) = true := by simp [hs]
    clear hs
    go_wp2_with fail
    go_ret
    exact ⟨rfl, by (repeat' (first | exact Below.refl _ _ | refine bl_out ?_ (by assumption) | exact (Hid.out (by assumption)) | refine bl_alloc ?_ _ | refine bl_drewN ?_ _ | refine bl_drew ?_ | refine bl_set ?_ ?_ _ | omega | (simp; done) | (simp; omega)))⟩
  have P := all6_of okCl3_all OK.out
  simp only [okCl3, HhX.out] at P
  have hs1 : (m + n + k == 0) = true := by simp [hs]
  have hs2 : (m + n + k != 0) = false := by simp [hs]
  go_wp2_with fail
  refine (i_Clebsch _ _ _ _ _ _).mono ?_
  rintro e w4 ⟨rfl, hb4⟩
  have Kw4_out : Blk w4 (w2.heap.size) #[.int .i64 S, .int .i64 N, .int .i64 D] := blk_later hb4 (blk_alloc Kw3_outH.out (.cells #[.int .i64 S, .int .i64 N, .int .i64 D] 28))
  obtain ⟨w4_c0_out, w4_c1_out, w4_c2_out, w4_f0_out, w4_f1_out, w4_f2_out⟩ := blk3 Kw4_out
  have Kw4_outH := Lib.hid Kw4_out
  have w4_l_out := Kw4_out.lt
  have w4_m_out : w2.heap.size < w4.heap.size + 1 := by omega
  have w4z := hb4.size
  try simp at w4z
  have w4B := Lib.hid hb4
  clear Kw4_out
  clear hb4
  generalize hY : clebI a b c m n = XhY at *
  obtain ⟨S1, N1, D1, o1⟩ := XhY
  have HhY := Lib.hid hY
  clear hY
  simp only [rtv]
  obtain ⟨N2, D2, o2, hy⟩ := pair3 (ratMul N D (c + 1) 1)
  simp only [hy] at P
  obtain ⟨⟨⟨rfl, rfl⟩, rfl⟩, rfl⟩ : (((o1 = true ∧ o2 = true) ∧ N2 = N1) ∧ D2 = D1) := by simpa [hs] using P
  have HY := Lib.hid hy
  have wrc : IntKind.i64.wrap (c + 1) = c + 1 := IntWalk.i64_in _ (by omega)
  clear P hy hs
  go_upto_region 11 with fail
  have Kz5_out : Blk (w4.alloc (.cells #[.int .i64 S1, .int .i64 N2, .int .i64 D2] 28)) (w2.heap.size) #[.int .i64 S, .int .i64 N, .int .i64 D] := (blk_alloc Kw4_outH.out (.cells #[.int .i64 S1, .int .i64 N2, .int .i64 D2] 28))
  have Kz5_x : Blk (w4.alloc (.cells #[.int .i64 S1, .int .i64 N2, .int .i64 D2] 28)) (w4.heap.size) #[.int .i64 S1, .int .i64 N2, .int .i64 D2] := (blk_new (by simp))
  have Bz5 : Below w.heap.size w (w4.alloc (.cells #[.int .i64 S1, .int .i64 N2, .int .i64 D2] 28)) := by (repeat' (first | exact Below.refl _ _ | refine bl_out ?_ (by assumption) | exact (Hid.out (by assumption)) | refine bl_alloc ?_ _ | refine bl_drewN ?_ _ | refine bl_drew ?_ | refine bl_set ?_ ?_ _ | omega | (simp; done) | (simp; omega)))
  have Sz5 : (w4.alloc (.cells #[.int .i64 S1, .int .i64 N2, .int .i64 D2] 28)).heap.size = w4.heap.size + 1 := by simp
  generalize (w4.alloc (.cells #[.int .i64 S1, .int .i64 N2, .int .i64 D2] 28)) = z5 at *
  have Sz5a := Nat.le_of_eq Sz5
  have Sz5b := Nat.le_of_eq Sz5.symm
  clear Sz5
  obtain ⟨z5_c0_out, z5_c1_out, z5_c2_out, z5_f0_out, z5_f1_out, z5_f2_out⟩ := blk3 Kz5_out
  have Kz5_outH := Lib.hid Kz5_out
  have z5_l_out := Kz5_out.lt
  obtain ⟨z5_c0_x, z5_c1_x, z5_c2_x, z5_f0_x, z5_f1_x, z5_f2_x⟩ := blk3 Kz5_x
  have Kz5_xH := Lib.hid Kz5_x
  have z5_l_x := Kz5_x.lt
  have z5B := Lib.hid Bz5
  clear Bz5
  clear Kz5_out Kz5_x
  go_cut [15, 16] (CutBlk z5 #[.int .i64 N2, .int .i64 D2] true)
  case first =>
    go_region_held3 (fun w' => Below z5.heap.size z5 w' ∧ w'.cell? ⟨w2.heap.size, 0, none⟩ = some (.int .i64 S) ∧ w'.cell? ⟨w2.heap.size, 1, none⟩ = some (.int .i64 N) ∧ w'.cell? ⟨w2.heap.size, 2, none⟩ = some (.int .i64 D)) ((refine and_keep ?_ (fun hB => ⟨held_cell hB z5_c0_out z5_l_out, held_cell hB z5_c1_out z5_l_out, held_cell hB z5_c2_out z5_l_out⟩); (repeat' (first | with_reducible exact Below.refl _ _ | with_reducible refine bl_alloc ?_ _ | with_reducible refine bl_set ?_ ?_ _ | exact (Below.refl _ _).drew | with_reducible refine bl_drew ?_ | with_reducible refine btr ?_ hbB | with_reducible refine btr ?_ hbA | omega | (simp; done) | (simp; omega))))) (first | (go_at_call 20; refine (l_whole _ _).mono ?_; rintro e wA ⟨rfl, hbA⟩; obtain ⟨hcA, hfA⟩ := bcell hbA; have hzA : z5.heap.size ≤ wA.heap.size := (by first | exact hbA.size | exact Nat.le_trans hzA hbA.size | (have h0 := hbA.size; simp at h0; omega)); (try (have hyA : z5.heap.size < wA.heap.size := by (have h0 := hbA.size; simp at h0; omega)))) | (go_at_call 22; refine (i_RatMul2 _ _ _ _ _ _ _ _ HY).mono ?_; rintro e wB ⟨rfl, hbB⟩; obtain ⟨hcB, hfB⟩ := bcell hbB; have hzB : z5.heap.size ≤ wB.heap.size := (by first | exact hbB.size | exact Nat.le_trans hzA hbB.size | (have h0 := hbB.size; simp at h0; omega)); (try (have hyB : z5.heap.size < wB.heap.size := by (have h0 := hbB.size; simp at h0; omega)))))
    all_goals
      go_wp2_with fail
      go_meet
      exact ⟨_, rfl, rfl, by (first | omega | (simp; omega)), by (repeat' (first | exact blk_new (by simp) | with_reducible refine blk_store2 (x := .int .i64 0) (y := .int .i64 0) ?_ | with_reducible refine blk_store3 (x := .int .i64 0) (y := .int .i64 0) (z := .int .i64 0) ?_ | with_reducible refine blk_drew ?_ | with_reducible refine blk_later hbB ?_ | with_reducible refine blk_later hbA ?_)), by (repeat' (first | with_reducible exact Below.refl _ _ | with_reducible refine bl_alloc ?_ _ | with_reducible refine bl_set ?_ ?_ _ | exact (Below.refl _ _).drew | with_reducible refine bl_drew ?_ | with_reducible refine btr ?_ hbB | with_reducible refine btr ?_ hbA | omega | (simp; done) | (simp; omega)))⟩
  case rest =>
    obtain ⟨g6, rfl, rfl, g6z, Kg6, hb6⟩ := hcut
    obtain ⟨w6, rfl⟩ : ∃ x, x = wc := ⟨_, rfl⟩
    have Kw6_x : Blk w6 (w4.heap.size) #[.int .i64 S1, .int .i64 N2, .int .i64 D2] := blk_later hb6 Kz5_xH.out
    obtain ⟨w6_c0_x, w6_c1_x, w6_c2_x, w6_f0_x, w6_f1_x, w6_f2_x⟩ := blk3 Kw6_x
    have Kw6_xH := Lib.hid Kw6_x
    have w6_l_x := Kw6_x.lt
    have w6_m_x : w4.heap.size < w6.heap.size + 1 := by omega
    have w6z := hb6.size
    try simp at w6z
    have w6B := Lib.hid hb6
    clear Kw6_x
    clear hb6
    obtain ⟨w6_c0_y, w6_c1_y, w6_f0_y, w6_f1_y⟩ := blk2 Kg6
    have Kg6H := Lib.hid Kg6
    have w6_l_y := Kg6.lt
    clear Kg6
    go_wp2_with fail
    go_ret
    exact ⟨rfl, by (repeat' (first | exact Below.refl _ _ | refine bl_out ?_ (by assumption) | exact (Hid.out (by assumption)) | refine bl_alloc ?_ _ | refine bl_drewN ?_ _ | refine bl_drew ?_ | refine bl_set ?_ ?_ _ | omega | (simp; done) | (simp; omega)))⟩

end Go.Proofs.Ytbidmnbnnkjgoaa
