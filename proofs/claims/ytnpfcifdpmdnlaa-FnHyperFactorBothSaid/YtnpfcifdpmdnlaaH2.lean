/- The walks of the laws that both parts make the whole and that factors have a known sum. -/
import Derived.Test.YtnpfcifdpmdnlaaH
import Derived.Test.YtnpfcifdpmdnlaaB
import Derived.Test.YtnpfcifdpmdnlaaHk
namespace Go.Proofs.Ytnpfcifdpmdnlaa
open Go.RowKit
set_option linter.unusedVariables false

set_option maxHeartbeats 1000000 in
theorem l_FnHyperFactorBoth (a : Option Addr) (len cap : Nat) (w : World) (h : Code w a len cap) (hl : len ≤ 9223372036854775807) (hc : cap ≤ 9223372036854775807) :
    Calls Try.prog 11 #[.slice a len cap] w (RTrueF w) := by
  have H := Lib.hid h
  clear h
  by_cases hbig : 1048576 < len
  · go_enter Try.func11, Try.ntmps11
    go_wp2_with fail
    go_ret
    exact ⟨rfl, Below.refl _ _⟩
  go_enter Try.func11, Try.ntmps11
  go_wp2_with fail
  refine (s_DrawHyperFactor a len cap w H.out hl hc).mono ?_
  rintro e w1 ⟨p, q, f, j, i, rfl, hp, hq, hf, hj, hi, hb1⟩
  have w1z := hb1.size
  try simp at w1z
  have w1B := Lib.hid hb1
  clear hb1
  go_wp2_with fail
  refine (i_HyperFactor _ _ _ _ _ _).mono ?_
  rintro e w2 ⟨rfl, hb2⟩
  have Kw2_g : Blk w2 (w1.heap.size) #[.int .i64 p, .int .i64 q] := blk_later hb2 (blk_new (by simp))
  obtain ⟨w2_c0_g, w2_c1_g, w2_f0_g, w2_f1_g⟩ := blk2 Kw2_g
  have Kw2_gH := Lib.hid Kw2_g
  have w2_l_g := Kw2_g.lt
  have w2_m_g : w1.heap.size < w2.heap.size + 1 := by omega
  have w2z := hb2.size
  try simp at w2z
  have w2B := Lib.hid hb2
  clear Kw2_g
  clear hb2
  generalize hX : hyFac p q f j i = X at *
  obtain ⟨N, D, o⟩ := X
  have HX := Lib.hid hX
  clear hX
  simp only [rv]
  go_wp2_with fail
  refine (s_HyperFactor _ _ _ _ _ _).mono ?_
  rintro e w3 ⟨rfl, hb3⟩
  have Kw3_g : Blk w3 (w1.heap.size) #[.int .i64 p, .int .i64 q] := blk_later hb3 (blk_alloc Kw2_gH.out (.cells #[.int .i64 N, .int .i64 D] 36))
  have Kw3_out : Blk w3 (w2.heap.size) #[.int .i64 N, .int .i64 D] := blk_later hb3 (blk_new (by simp))
  obtain ⟨w3_c0_g, w3_c1_g, w3_f0_g, w3_f1_g⟩ := blk2 Kw3_g
  have Kw3_gH := Lib.hid Kw3_g
  have w3_l_g := Kw3_g.lt
  have w3_m_g : w1.heap.size < w3.heap.size + 1 := by omega
  obtain ⟨w3_c0_out, w3_c1_out, w3_f0_out, w3_f1_out⟩ := blk2 Kw3_out
  have Kw3_outH := Lib.hid Kw3_out
  have w3_l_out := Kw3_out.lt
  have w3_m_out : w2.heap.size < w3.heap.size + 1 := by omega
  have w3z := hb3.size
  try simp at w3z
  have w3B := Lib.hid hb3
  clear Kw3_g Kw3_out
  clear hb3
  rw [HX.out]
  simp only [rv]
  cases o
  · go_wp2_with fail
    go_ret
    exact ⟨rfl, by (repeat' (first | exact Below.refl _ _ | refine bl_out ?_ (by assumption) | exact (Hid.out (by assumption)) | refine bl_alloc ?_ _ | refine bl_drewN ?_ _ | refine bl_drew ?_ | refine bl_set ?_ ?_ _ | omega | (simp; done) | (simp; omega)))⟩
  have OK := hyFac_ok HX.out
  have B3 := Lib.hid (okBoth_of OK.2.1 OK.2.2.1)
  have B1 := B3.out.1
  have B2 := B3.out.2.1
  clear OK
  go_wp2_with fail
  refine (l_whole _ _).mono ?_
  rintro e w4 ⟨rfl, hb4⟩
  have Kw4_g : Blk w4 (w1.heap.size) #[.int .i64 p, .int .i64 q] := blk_later hb4 (blk_alloc Kw3_gH.out (.cells #[.int .i64 N, .int .i64 D] 36))
  have Kw4_out : Blk w4 (w2.heap.size) #[.int .i64 N, .int .i64 D] := blk_later hb4 (blk_alloc Kw3_outH.out (.cells #[.int .i64 N, .int .i64 D] 36))
  have Kw4_want : Blk w4 (w3.heap.size) #[.int .i64 N, .int .i64 D] := blk_later hb4 (blk_new (by simp))
  obtain ⟨w4_c0_g, w4_c1_g, w4_f0_g, w4_f1_g⟩ := blk2 Kw4_g
  have Kw4_gH := Lib.hid Kw4_g
  have w4_l_g := Kw4_g.lt
  have w4_m_g : w1.heap.size < w4.heap.size + 1 := by omega
  obtain ⟨w4_c0_out, w4_c1_out, w4_f0_out, w4_f1_out⟩ := blk2 Kw4_out
  have Kw4_outH := Lib.hid Kw4_out
  have w4_l_out := Kw4_out.lt
  have w4_m_out : w2.heap.size < w4.heap.size + 1 := by omega
  obtain ⟨w4_c0_want, w4_c1_want, w4_f0_want, w4_f1_want⟩ := blk2 Kw4_want
  have Kw4_wantH := Lib.hid Kw4_want
  have w4_l_want := Kw4_want.lt
  have w4_m_want : w3.heap.size < w4.heap.size + 1 := by omega
  have w4z := hb4.size
  try simp at w4z
  have w4B := Lib.hid hb4
  clear Kw4_g Kw4_out Kw4_want
  clear hb4
  go_wp2_with fail
  refine (i_HyperFactor _ _ _ _ _ _).mono ?_
  rintro e w5 ⟨rfl, hb5⟩
  have Kw5_g : Blk w5 (w1.heap.size) #[.int .i64 p, .int .i64 q] := blk_later hb5 Kw4_gH.out
  have Kw5_out : Blk w5 (w2.heap.size) #[.int .i64 N, .int .i64 D] := blk_later hb5 Kw4_outH.out
  have Kw5_want : Blk w5 (w3.heap.size) #[.int .i64 N, .int .i64 D] := blk_later hb5 Kw4_wantH.out
  obtain ⟨w5_c0_g, w5_c1_g, w5_f0_g, w5_f1_g⟩ := blk2 Kw5_g
  have Kw5_gH := Lib.hid Kw5_g
  have w5_l_g := Kw5_g.lt
  have w5_m_g : w1.heap.size < w5.heap.size + 1 := by omega
  obtain ⟨w5_c0_out, w5_c1_out, w5_f0_out, w5_f1_out⟩ := blk2 Kw5_out
  have Kw5_outH := Lib.hid Kw5_out
  have w5_l_out := Kw5_out.lt
  have w5_m_out : w2.heap.size < w5.heap.size + 1 := by omega
  obtain ⟨w5_c0_want, w5_c1_want, w5_f0_want, w5_f1_want⟩ := blk2 Kw5_want
  have Kw5_wantH := Lib.hid Kw5_want
  have w5_l_want := Kw5_want.lt
  have w5_m_want : w3.heap.size < w5.heap.size + 1 := by omega
  have w5z := hb5.size
  try simp at w5z
  have w5B := Lib.hid hb5
  clear Kw5_g Kw5_out Kw5_want
  clear hb5
  generalize hY : hyFac 1 1 f j i = XhY at *
  obtain ⟨N1, D1, o1⟩ := XhY
  have HhY := Lib.hid hY
  clear hY
  simp only [rv]
  obtain rfl : o1 = true := B1
  go_wp2_with fail
  refine (l_whole _ _).mono ?_
  rintro e w6 ⟨rfl, hb6⟩
  have Kw6_g : Blk w6 (w1.heap.size) #[.int .i64 p, .int .i64 q] := blk_later hb6 (blk_alloc Kw5_gH.out (.cells #[.int .i64 N1, .int .i64 D1] 36))
  have Kw6_out : Blk w6 (w2.heap.size) #[.int .i64 N, .int .i64 D] := blk_later hb6 (blk_alloc Kw5_outH.out (.cells #[.int .i64 N1, .int .i64 D1] 36))
  have Kw6_want : Blk w6 (w3.heap.size) #[.int .i64 N, .int .i64 D] := blk_later hb6 (blk_alloc Kw5_wantH.out (.cells #[.int .i64 N1, .int .i64 D1] 36))
  have Kw6_x : Blk w6 (w5.heap.size) #[.int .i64 N1, .int .i64 D1] := blk_later hb6 (blk_new (by simp))
  obtain ⟨w6_c0_g, w6_c1_g, w6_f0_g, w6_f1_g⟩ := blk2 Kw6_g
  have Kw6_gH := Lib.hid Kw6_g
  have w6_l_g := Kw6_g.lt
  have w6_m_g : w1.heap.size < w6.heap.size + 1 := by omega
  obtain ⟨w6_c0_out, w6_c1_out, w6_f0_out, w6_f1_out⟩ := blk2 Kw6_out
  have Kw6_outH := Lib.hid Kw6_out
  have w6_l_out := Kw6_out.lt
  have w6_m_out : w2.heap.size < w6.heap.size + 1 := by omega
  obtain ⟨w6_c0_want, w6_c1_want, w6_f0_want, w6_f1_want⟩ := blk2 Kw6_want
  have Kw6_wantH := Lib.hid Kw6_want
  have w6_l_want := Kw6_want.lt
  have w6_m_want : w3.heap.size < w6.heap.size + 1 := by omega
  obtain ⟨w6_c0_x, w6_c1_x, w6_f0_x, w6_f1_x⟩ := blk2 Kw6_x
  have Kw6_xH := Lib.hid Kw6_x
  have w6_l_x := Kw6_x.lt
  have w6_m_x : w5.heap.size < w6.heap.size + 1 := by omega
  have w6z := hb6.size
  try simp at w6z
  have w6B := Lib.hid hb6
  clear Kw6_g Kw6_out Kw6_want Kw6_x
  clear hb6
  go_wp2_with fail
  refine (i_HyperFactor _ _ _ _ _ _).mono ?_
  rintro e w7 ⟨rfl, hb7⟩
  have Kw7_g : Blk w7 (w1.heap.size) #[.int .i64 p, .int .i64 q] := blk_later hb7 Kw6_gH.out
  have Kw7_out : Blk w7 (w2.heap.size) #[.int .i64 N, .int .i64 D] := blk_later hb7 Kw6_outH.out
  have Kw7_want : Blk w7 (w3.heap.size) #[.int .i64 N, .int .i64 D] := blk_later hb7 Kw6_wantH.out
  have Kw7_x : Blk w7 (w5.heap.size) #[.int .i64 N1, .int .i64 D1] := blk_later hb7 Kw6_xH.out
  obtain ⟨w7_c0_g, w7_c1_g, w7_f0_g, w7_f1_g⟩ := blk2 Kw7_g
  have Kw7_gH := Lib.hid Kw7_g
  have w7_l_g := Kw7_g.lt
  have w7_m_g : w1.heap.size < w7.heap.size + 1 := by omega
  obtain ⟨w7_c0_out, w7_c1_out, w7_f0_out, w7_f1_out⟩ := blk2 Kw7_out
  have Kw7_outH := Lib.hid Kw7_out
  have w7_l_out := Kw7_out.lt
  have w7_m_out : w2.heap.size < w7.heap.size + 1 := by omega
  obtain ⟨w7_c0_want, w7_c1_want, w7_f0_want, w7_f1_want⟩ := blk2 Kw7_want
  have Kw7_wantH := Lib.hid Kw7_want
  have w7_l_want := Kw7_want.lt
  have w7_m_want : w3.heap.size < w7.heap.size + 1 := by omega
  obtain ⟨w7_c0_x, w7_c1_x, w7_f0_x, w7_f1_x⟩ := blk2 Kw7_x
  have Kw7_xH := Lib.hid Kw7_x
  have w7_l_x := Kw7_x.lt
  have w7_m_x : w5.heap.size < w7.heap.size + 1 := by omega
  have w7z := hb7.size
  try simp at w7z
  have w7B := Lib.hid hb7
  clear Kw7_g Kw7_out Kw7_want Kw7_x
  clear hb7
  generalize hZ : hyFac 1 1 f i j = XhZ at *
  obtain ⟨N2, D2, o2⟩ := XhZ
  have HhZ := Lib.hid hZ
  clear hZ
  simp only [rv]
  obtain rfl : o2 = true := B2
  go_wp2_with fail
  refine (i_RatAdd _ _ _ _ _).mono ?_
  rintro e w8 ⟨rfl, hb8⟩
  have Kw8_g : Blk w8 (w1.heap.size) #[.int .i64 p, .int .i64 q] := blk_later hb8 (blk_alloc Kw7_gH.out (.cells #[.int .i64 N2, .int .i64 D2] 36))
  have Kw8_out : Blk w8 (w2.heap.size) #[.int .i64 N, .int .i64 D] := blk_later hb8 (blk_alloc Kw7_outH.out (.cells #[.int .i64 N2, .int .i64 D2] 36))
  have Kw8_want : Blk w8 (w3.heap.size) #[.int .i64 N, .int .i64 D] := blk_later hb8 (blk_alloc Kw7_wantH.out (.cells #[.int .i64 N2, .int .i64 D2] 36))
  have Kw8_x : Blk w8 (w5.heap.size) #[.int .i64 N1, .int .i64 D1] := blk_later hb8 (blk_alloc Kw7_xH.out (.cells #[.int .i64 N2, .int .i64 D2] 36))
  have Kw8_y : Blk w8 (w7.heap.size) #[.int .i64 N2, .int .i64 D2] := blk_later hb8 (blk_new (by simp))
  obtain ⟨w8_c0_g, w8_c1_g, w8_f0_g, w8_f1_g⟩ := blk2 Kw8_g
  have Kw8_gH := Lib.hid Kw8_g
  have w8_l_g := Kw8_g.lt
  have w8_m_g : w1.heap.size < w8.heap.size + 1 := by omega
  obtain ⟨w8_c0_out, w8_c1_out, w8_f0_out, w8_f1_out⟩ := blk2 Kw8_out
  have Kw8_outH := Lib.hid Kw8_out
  have w8_l_out := Kw8_out.lt
  have w8_m_out : w2.heap.size < w8.heap.size + 1 := by omega
  obtain ⟨w8_c0_want, w8_c1_want, w8_f0_want, w8_f1_want⟩ := blk2 Kw8_want
  have Kw8_wantH := Lib.hid Kw8_want
  have w8_l_want := Kw8_want.lt
  have w8_m_want : w3.heap.size < w8.heap.size + 1 := by omega
  obtain ⟨w8_c0_x, w8_c1_x, w8_f0_x, w8_f1_x⟩ := blk2 Kw8_x
  have Kw8_xH := Lib.hid Kw8_x
  have w8_l_x := Kw8_x.lt
  have w8_m_x : w5.heap.size < w8.heap.size + 1 := by omega
  obtain ⟨w8_c0_y, w8_c1_y, w8_f0_y, w8_f1_y⟩ := blk2 Kw8_y
  have Kw8_yH := Lib.hid Kw8_y
  have w8_l_y := Kw8_y.lt
  have w8_m_y : w7.heap.size < w8.heap.size + 1 := by omega
  have w8z := hb8.size
  try simp at w8z
  have w8B := Lib.hid hb8
  clear Kw8_g Kw8_out Kw8_want Kw8_x Kw8_y
  clear hb8
  rw [show ratAdd N1 D1 N2 D2 = (1, 1, true) from B3.out.2.2]
  simp only [rv]
  go_wp2_with fail
  have Kz9_g : Blk (w8.alloc (.cells #[.int .i64 1, .int .i64 1] 36)) (w1.heap.size) #[.int .i64 p, .int .i64 q] := (blk_alloc Kw8_gH.out (.cells #[.int .i64 1, .int .i64 1] 36))
  have Kz9_out : Blk (w8.alloc (.cells #[.int .i64 1, .int .i64 1] 36)) (w2.heap.size) #[.int .i64 N, .int .i64 D] := (blk_alloc Kw8_outH.out (.cells #[.int .i64 1, .int .i64 1] 36))
  have Kz9_want : Blk (w8.alloc (.cells #[.int .i64 1, .int .i64 1] 36)) (w3.heap.size) #[.int .i64 N, .int .i64 D] := (blk_alloc Kw8_wantH.out (.cells #[.int .i64 1, .int .i64 1] 36))
  have Kz9_x : Blk (w8.alloc (.cells #[.int .i64 1, .int .i64 1] 36)) (w5.heap.size) #[.int .i64 N1, .int .i64 D1] := (blk_alloc Kw8_xH.out (.cells #[.int .i64 1, .int .i64 1] 36))
  have Kz9_y : Blk (w8.alloc (.cells #[.int .i64 1, .int .i64 1] 36)) (w7.heap.size) #[.int .i64 N2, .int .i64 D2] := (blk_alloc Kw8_yH.out (.cells #[.int .i64 1, .int .i64 1] 36))
  have Kz9_z : Blk (w8.alloc (.cells #[.int .i64 1, .int .i64 1] 36)) (w8.heap.size) #[.int .i64 1, .int .i64 1] := (blk_new (by simp))
  have Bz9 : Below w.heap.size w (w8.alloc (.cells #[.int .i64 1, .int .i64 1] 36)) := by (repeat' (first | exact Below.refl _ _ | refine bl_out ?_ (by assumption) | exact (Hid.out (by assumption)) | refine bl_alloc ?_ _ | refine bl_drewN ?_ _ | refine bl_drew ?_ | refine bl_set ?_ ?_ _ | omega | (simp; done) | (simp; omega)))
  have Sz9 : (w8.alloc (.cells #[.int .i64 1, .int .i64 1] 36)).heap.size = w8.heap.size + 1 := by simp
  generalize (w8.alloc (.cells #[.int .i64 1, .int .i64 1] 36)) = z9 at *
  have Sz9a := Nat.le_of_eq Sz9
  have Sz9b := Nat.le_of_eq Sz9.symm
  clear Sz9
  obtain ⟨z9_c0_g, z9_c1_g, z9_f0_g, z9_f1_g⟩ := blk2 Kz9_g
  have Kz9_gH := Lib.hid Kz9_g
  have z9_l_g := Kz9_g.lt
  obtain ⟨z9_c0_out, z9_c1_out, z9_f0_out, z9_f1_out⟩ := blk2 Kz9_out
  have Kz9_outH := Lib.hid Kz9_out
  have z9_l_out := Kz9_out.lt
  obtain ⟨z9_c0_want, z9_c1_want, z9_f0_want, z9_f1_want⟩ := blk2 Kz9_want
  have Kz9_wantH := Lib.hid Kz9_want
  have z9_l_want := Kz9_want.lt
  obtain ⟨z9_c0_x, z9_c1_x, z9_f0_x, z9_f1_x⟩ := blk2 Kz9_x
  have Kz9_xH := Lib.hid Kz9_x
  have z9_l_x := Kz9_x.lt
  obtain ⟨z9_c0_y, z9_c1_y, z9_f0_y, z9_f1_y⟩ := blk2 Kz9_y
  have Kz9_yH := Lib.hid Kz9_y
  have z9_l_y := Kz9_y.lt
  obtain ⟨z9_c0_z, z9_c1_z, z9_f0_z, z9_f1_z⟩ := blk2 Kz9_z
  have Kz9_zH := Lib.hid Kz9_z
  have z9_l_z := Kz9_z.lt
  have z9B := Lib.hid Bz9
  clear Bz9
  clear Kz9_g Kz9_out Kz9_want Kz9_x Kz9_y Kz9_z
  go_region_held3 (fun w' => Below z9.heap.size z9 w' ∧ w'.cell? ⟨w8.heap.size, 0, none⟩ = some (.int .i64 1) ∧ w'.cell? ⟨w8.heap.size, 1, none⟩ = some (.int .i64 1)) ((refine and_keep ?_ (fun hB => ⟨held_cell hB z9_c0_z z9_l_z, held_cell hB z9_c1_z z9_l_z⟩); (repeat' (first | exact (Below.refl _ _).drew | exact Below.refl _ _ | exact And.left (by assumption) | refine bl_alloc ?_ _ | refine bl_drew ?_ | refine bl_set ?_ ?_ _ | refine btr ?_ (by assumption) | omega | (simp; done) | (simp; omega))))) (first | (go_at_call 31; refine (l_whole _ _).mono ?_; rintro e w' ⟨rfl, hb'⟩))
  go_wp2_with fail
  go_ret
  exact ⟨rfl, btr z9B.out (by (repeat' (first | exact (Below.refl _ _).drew | exact Below.refl _ _ | exact And.left (by assumption) | refine bl_alloc ?_ _ | refine bl_drew ?_ | refine bl_set ?_ ?_ _ | refine btr ?_ (by assumption) | omega | (simp; done) | (simp; omega))))⟩

end Go.Proofs.Ytnpfcifdpmdnlaa
