/- The walks of the laws on HyperFactor. -/
import Derived.Test.YtnpfcifdpmdnlaaPh
import Derived.Deep.RegionHeld3
namespace Go.Proofs.Ytnpfcifdpmdnlaa
open Go.RowKit

def RTrueF (w : World) (e : Ending) (w' : World) : Prop := e = .returned (.bool true) ∧ Below w.heap.size w w'

set_option maxHeartbeats 1000000 in
theorem l_toRat (a b : Int) (w : World) :
    Calls Try.prog 24 #[.agg #[.int .i64 a, .int .i64 b]] w fun e w' => e = .returned (.agg #[.int .i64 a, .int .i64 b]) ∧ Below w.heap.size w w' := by
  go_enter Try.func24, Try.ntmps24
  go_wp2_with fail
  refine bodyPost_ret (v := .agg #[.int .i64 a, .int .i64 b]) ?_ rfl ?_
  · simp [results, Try.results24, go_sem]
  · exact ⟨rfl, by (repeat' (first | exact Below.refl _ _ | refine bl_out ?_ (by assumption) | exact (Hid.out (by assumption)) | refine bl_alloc ?_ _ | refine bl_drewN ?_ _ | refine bl_drew ?_ | refine bl_set ?_ ?_ _ | omega | (simp; done) | (simp; omega)))⟩

set_option maxHeartbeats 1000000 in
theorem l_eqRat (a b : Int) (w : World) :
    Calls Try.prog 26 #[.agg #[.int .i64 a, .int .i64 b], .agg #[.int .i64 a, .int .i64 b]] w (RBool w true) := by
  go_enter Try.func26, Try.ntmps26
  go_wp2_with fail
  go_ret
  exact ⟨rfl, by (repeat' (first | exact Below.refl _ _ | refine bl_out ?_ (by assumption) | exact (Hid.out (by assumption)) | refine bl_alloc ?_ _ | refine bl_drewN ?_ _ | refine bl_drew ?_ | refine bl_set ?_ ?_ _ | omega | (simp; done) | (simp; omega)))⟩

set_option maxHeartbeats 1000000 in
theorem l_FnHyperFactorNone (a : Option Addr) (len cap : Nat) (w : World) (h : Code w a len cap) (hl : len ≤ 9223372036854775807) (hc : cap ≤ 9223372036854775807) :
    Calls Try.prog 9 #[.slice a len cap] w (RTrueF w) := by
  have H := Lib.hid h
  clear h
  by_cases hbig : 1048576 < len
  · go_enter Try.func9, Try.ntmps9
    go_wp2_with fail
    go_ret
    exact ⟨rfl, Below.refl _ _⟩
  go_enter Try.func9, Try.ntmps9
  go_wp2_with fail
  refine (s_DrawHyperFactor a len cap w H.out hl hc).mono ?_
  rintro e w1 ⟨p, q, f, j, i, rfl, hp, hq, hf, hj, hi, hb1⟩
  have w1z := hb1.size
  try simp at w1z
  have w1B := Lib.hid hb1
  clear hb1
  go_wp2_with fail
  refine (i_HyperFactor _ _ _ _ _ _).mono ?_
  rintro e w2 ⟨rfl, hb2⟩
  have Kw2_g : Blk w2 (w1.heap.size) #[.int .i64 p, .int .i64 q] := blk_later hb2 (blk_new (by simp))
  obtain ⟨w2_c0_g, w2_c1_g, w2_f0_g, w2_f1_g⟩ := blk2 Kw2_g
  have Kw2_gH := Lib.hid Kw2_g
  have w2_l_g := Kw2_g.lt
  have w2_m_g : w1.heap.size < w2.heap.size + 1 := by omega
  have w2z := hb2.size
  try simp at w2z
  have w2B := Lib.hid hb2
  clear Kw2_g
  clear hb2
  generalize hX : hyFac p q f j i = X at *
  obtain ⟨N, D, o⟩ := X
  have HX := Lib.hid hX
  clear hX
  simp only [rv]
  go_wp2_with fail
  refine (s_HyperFactor _ _ _ _ _ _).mono ?_
  rintro e w3 ⟨rfl, hb3⟩
  have Kw3_g : Blk w3 (w1.heap.size) #[.int .i64 p, .int .i64 q] := blk_later hb3 (blk_alloc Kw2_gH.out (.cells #[.int .i64 N, .int .i64 D] 36))
  have Kw3_out : Blk w3 (w2.heap.size) #[.int .i64 N, .int .i64 D] := blk_later hb3 (blk_new (by simp))
  obtain ⟨w3_c0_g, w3_c1_g, w3_f0_g, w3_f1_g⟩ := blk2 Kw3_g
  have Kw3_gH := Lib.hid Kw3_g
  have w3_l_g := Kw3_g.lt
  have w3_m_g : w1.heap.size < w3.heap.size + 1 := by omega
  obtain ⟨w3_c0_out, w3_c1_out, w3_f0_out, w3_f1_out⟩ := blk2 Kw3_out
  have Kw3_outH := Lib.hid Kw3_out
  have w3_l_out := Kw3_out.lt
  have w3_m_out : w2.heap.size < w3.heap.size + 1 := by omega
  have w3z := hb3.size
  try simp at w3z
  have w3B := Lib.hid hb3
  clear Kw3_g Kw3_out
  clear hb3
  rw [HX.out]
  simp only [rv]
  cases o
  · go_wp2_with fail
    go_ret
    exact ⟨rfl, by (repeat' (first | exact Below.refl _ _ | refine bl_out ?_ (by assumption) | exact (Hid.out (by assumption)) | refine bl_alloc ?_ _ | refine bl_drewN ?_ _ | refine bl_drew ?_ | refine bl_set ?_ ?_ _ | omega | (simp; done) | (simp; omega)))⟩
  have OK := hyFac_ok HX.out
  have R0 := Lib.hid OK.1
  have hh := hyB_iff.1 OK.2.1
  clear OK
  by_cases hj0 : j = 0
  · subst hj0
    go_wp2_with fail
    refine (i_HyperFactor _ _ _ _ _ _).mono ?_
    rintro e w4 ⟨rfl, hb4⟩
    have Kw4_g : Blk w4 (w1.heap.size) #[.int .i64 p, .int .i64 q] := blk_later hb4 (blk_alloc Kw3_gH.out (.cells #[.int .i64 N, .int .i64 D] 36))
    have Kw4_out : Blk w4 (w2.heap.size) #[.int .i64 N, .int .i64 D] := blk_later hb4 (blk_alloc Kw3_outH.out (.cells #[.int .i64 N, .int .i64 D] 36))
    have Kw4_want : Blk w4 (w3.heap.size) #[.int .i64 N, .int .i64 D] := blk_later hb4 (blk_new (by simp))
    obtain ⟨w4_c0_g, w4_c1_g, w4_f0_g, w4_f1_g⟩ := blk2 Kw4_g
    have Kw4_gH := Lib.hid Kw4_g
    have w4_l_g := Kw4_g.lt
    have w4_m_g : w1.heap.size < w4.heap.size + 1 := by omega
    obtain ⟨w4_c0_out, w4_c1_out, w4_f0_out, w4_f1_out⟩ := blk2 Kw4_out
    have Kw4_outH := Lib.hid Kw4_out
    have w4_l_out := Kw4_out.lt
    have w4_m_out : w2.heap.size < w4.heap.size + 1 := by omega
    obtain ⟨w4_c0_want, w4_c1_want, w4_f0_want, w4_f1_want⟩ := blk2 Kw4_want
    have Kw4_wantH := Lib.hid Kw4_want
    have w4_l_want := Kw4_want.lt
    have w4_m_want : w3.heap.size < w4.heap.size + 1 := by omega
    have w4z := hb4.size
    try simp at w4z
    have w4B := Lib.hid hb4
    clear Kw4_g Kw4_out Kw4_want
    clear hb4
    rw [hyFac_zero]
    simp only [rv]
    go_wp2_with fail
    go_ret
    exact ⟨rfl, by (repeat' (first | exact Below.refl _ _ | refine bl_out ?_ (by assumption) | exact (Hid.out (by assumption)) | refine bl_alloc ?_ _ | refine bl_drewN ?_ _ | refine bl_drew ?_ | refine bl_set ?_ ?_ _ | omega | (simp; done) | (simp; omega)))⟩
  have hj1 : (j == 0) = false := by simp [hj0]
  have E := Lib.hid (hyFac_none R0.out (show 1 ≤ j by omega) (by omega))
  clear hj0
  go_wp2_with fail
  refine (i_HyperFactor _ _ _ _ _ _).mono ?_
  rintro e w4 ⟨rfl, hb4⟩
  have Kw4_g : Blk w4 (w1.heap.size) #[.int .i64 p, .int .i64 q] := blk_later hb4 (blk_alloc Kw3_gH.out (.cells #[.int .i64 N, .int .i64 D] 36))
  have Kw4_out : Blk w4 (w2.heap.size) #[.int .i64 N, .int .i64 D] := blk_later hb4 (blk_alloc Kw3_outH.out (.cells #[.int .i64 N, .int .i64 D] 36))
  have Kw4_want : Blk w4 (w3.heap.size) #[.int .i64 N, .int .i64 D] := blk_later hb4 (blk_new (by simp))
  obtain ⟨w4_c0_g, w4_c1_g, w4_f0_g, w4_f1_g⟩ := blk2 Kw4_g
  have Kw4_gH := Lib.hid Kw4_g
  have w4_l_g := Kw4_g.lt
  have w4_m_g : w1.heap.size < w4.heap.size + 1 := by omega
  obtain ⟨w4_c0_out, w4_c1_out, w4_f0_out, w4_f1_out⟩ := blk2 Kw4_out
  have Kw4_outH := Lib.hid Kw4_out
  have w4_l_out := Kw4_out.lt
  have w4_m_out : w2.heap.size < w4.heap.size + 1 := by omega
  obtain ⟨w4_c0_want, w4_c1_want, w4_f0_want, w4_f1_want⟩ := blk2 Kw4_want
  have Kw4_wantH := Lib.hid Kw4_want
  have w4_l_want := Kw4_want.lt
  have w4_m_want : w3.heap.size < w4.heap.size + 1 := by omega
  have w4z := hb4.size
  try simp at w4z
  have w4B := Lib.hid hb4
  clear Kw4_g Kw4_out Kw4_want
  clear hb4
  rw [E.out]
  simp only [rv]
  go_wp2_with fail
  go_ret
  exact ⟨rfl, by (repeat' (first | exact Below.refl _ _ | refine bl_out ?_ (by assumption) | exact (Hid.out (by assumption)) | refine bl_alloc ?_ _ | refine bl_drewN ?_ _ | refine bl_drew ?_ | refine bl_set ?_ ?_ _ | omega | (simp; done) | (simp; omega)))⟩

set_option maxHeartbeats 1000000 in
theorem l_FnHyperFactorTop (a : Option Addr) (len cap : Nat) (w : World) (h : Code w a len cap) (hl : len ≤ 9223372036854775807) (hc : cap ≤ 9223372036854775807) :
    Calls Try.prog 10 #[.slice a len cap] w (RTrueF w) := by
  have H := Lib.hid h
  clear h
  by_cases hbig : 1048576 < len
  · go_enter Try.func10, Try.ntmps10
    go_wp2_with fail
    go_ret
    exact ⟨rfl, Below.refl _ _⟩
  go_enter Try.func10, Try.ntmps10
  go_wp2_with fail
  refine (s_DrawHyperFactor a len cap w H.out hl hc).mono ?_
  rintro e w1 ⟨p, q, f, j, i, rfl, hp, hq, hf, hj, hi, hb1⟩
  have w1z := hb1.size
  try simp at w1z
  have w1B := Lib.hid hb1
  clear hb1
  go_wp2_with fail
  refine (i_HyperFactor _ _ _ _ _ _).mono ?_
  rintro e w2 ⟨rfl, hb2⟩
  have Kw2_g : Blk w2 (w1.heap.size) #[.int .i64 p, .int .i64 q] := blk_later hb2 (blk_new (by simp))
  obtain ⟨w2_c0_g, w2_c1_g, w2_f0_g, w2_f1_g⟩ := blk2 Kw2_g
  have Kw2_gH := Lib.hid Kw2_g
  have w2_l_g := Kw2_g.lt
  have w2_m_g : w1.heap.size < w2.heap.size + 1 := by omega
  have w2z := hb2.size
  try simp at w2z
  have w2B := Lib.hid hb2
  clear Kw2_g
  clear hb2
  generalize hX : hyFac p q f j i = X at *
  obtain ⟨N, D, o⟩ := X
  have HX := Lib.hid hX
  clear hX
  simp only [rv]
  go_wp2_with fail
  refine (s_HyperFactor _ _ _ _ _ _).mono ?_
  rintro e w3 ⟨rfl, hb3⟩
  have Kw3_g : Blk w3 (w1.heap.size) #[.int .i64 p, .int .i64 q] := blk_later hb3 (blk_alloc Kw2_gH.out (.cells #[.int .i64 N, .int .i64 D] 36))
  have Kw3_out : Blk w3 (w2.heap.size) #[.int .i64 N, .int .i64 D] := blk_later hb3 (blk_new (by simp))
  obtain ⟨w3_c0_g, w3_c1_g, w3_f0_g, w3_f1_g⟩ := blk2 Kw3_g
  have Kw3_gH := Lib.hid Kw3_g
  have w3_l_g := Kw3_g.lt
  have w3_m_g : w1.heap.size < w3.heap.size + 1 := by omega
  obtain ⟨w3_c0_out, w3_c1_out, w3_f0_out, w3_f1_out⟩ := blk2 Kw3_out
  have Kw3_outH := Lib.hid Kw3_out
  have w3_l_out := Kw3_out.lt
  have w3_m_out : w2.heap.size < w3.heap.size + 1 := by omega
  have w3z := hb3.size
  try simp at w3z
  have w3B := Lib.hid hb3
  clear Kw3_g Kw3_out
  clear hb3
  rw [HX.out]
  simp only [rv]
  cases o
  · go_wp2_with fail
    go_ret
    exact ⟨rfl, by (repeat' (first | exact Below.refl _ _ | refine bl_out ?_ (by assumption) | exact (Hid.out (by assumption)) | refine bl_alloc ?_ _ | refine bl_drewN ?_ _ | refine bl_drew ?_ | refine bl_set ?_ ?_ _ | omega | (simp; done) | (simp; omega)))⟩
  have OK := hyFac_ok HX.out
  have M := Lib.hid OK.2.2.2
  have V := Lib.hid (ratMul_ok OK.2.2.2)
  have hh := hyB_iff.1 OK.2.1
  have F0 := Lib.hid OK.2.2.1
  clear OK
  by_cases hf0 : f = j + i
  · subst hf0
    have T := Lib.hid (okTop_of (j := j) (i := i) (by omega) (by omega) F0.out)
    have TT := T.out.2
    rw [T.out.1] at M
    go_wp2_with fail
    refine (i_RatOf _ _ _).mono ?_
    rintro e w4 ⟨rfl, hb4⟩
    have Kw4_g : Blk w4 (w1.heap.size) #[.int .i64 p, .int .i64 q] := blk_later hb4 (blk_alloc Kw3_gH.out (.cells #[.int .i64 N, .int .i64 D] 36))
    have Kw4_out : Blk w4 (w2.heap.size) #[.int .i64 N, .int .i64 D] := blk_later hb4 (blk_alloc Kw3_outH.out (.cells #[.int .i64 N, .int .i64 D] 36))
    have Kw4_want : Blk w4 (w3.heap.size) #[.int .i64 N, .int .i64 D] := blk_later hb4 (blk_new (by simp))
    obtain ⟨w4_c0_g, w4_c1_g, w4_f0_g, w4_f1_g⟩ := blk2 Kw4_g
    have Kw4_gH := Lib.hid Kw4_g
    have w4_l_g := Kw4_g.lt
    have w4_m_g : w1.heap.size < w4.heap.size + 1 := by omega
    obtain ⟨w4_c0_out, w4_c1_out, w4_f0_out, w4_f1_out⟩ := blk2 Kw4_out
    have Kw4_outH := Lib.hid Kw4_out
    have w4_l_out := Kw4_out.lt
    have w4_m_out : w2.heap.size < w4.heap.size + 1 := by omega
    obtain ⟨w4_c0_want, w4_c1_want, w4_f0_want, w4_f1_want⟩ := blk2 Kw4_want
    have Kw4_wantH := Lib.hid Kw4_want
    have w4_l_want := Kw4_want.lt
    have w4_m_want : w3.heap.size < w4.heap.size + 1 := by omega
    have w4z := hb4.size
    try simp at w4z
    have w4B := Lib.hid hb4
    clear Kw4_g Kw4_out Kw4_want
    clear hb4
    generalize hY : ratOf j (j + i) = XhY at *
    obtain ⟨N2, D2, o2⟩ := XhY
    have HhY := Lib.hid hY
    clear hY
    simp only [rv]
    obtain rfl : o2 = true := TT
    go_wp2_with fail
    refine (i_RatMul _ _ _ _ _).mono ?_
    rintro e w5 ⟨rfl, hb5⟩
    have Kw5_g : Blk w5 (w1.heap.size) #[.int .i64 p, .int .i64 q] := blk_later hb5 (blk_alloc Kw4_gH.out (.cells #[.int .i64 N2, .int .i64 D2] 36))
    have Kw5_out : Blk w5 (w2.heap.size) #[.int .i64 N, .int .i64 D] := blk_later hb5 (blk_alloc Kw4_outH.out (.cells #[.int .i64 N2, .int .i64 D2] 36))
    have Kw5_want : Blk w5 (w3.heap.size) #[.int .i64 N, .int .i64 D] := blk_later hb5 (blk_alloc Kw4_wantH.out (.cells #[.int .i64 N2, .int .i64 D2] 36))
    have Kw5_x : Blk w5 (w4.heap.size) #[.int .i64 N2, .int .i64 D2] := blk_later hb5 (blk_new (by simp))
    obtain ⟨w5_c0_g, w5_c1_g, w5_f0_g, w5_f1_g⟩ := blk2 Kw5_g
    have Kw5_gH := Lib.hid Kw5_g
    have w5_l_g := Kw5_g.lt
    have w5_m_g : w1.heap.size < w5.heap.size + 1 := by omega
    obtain ⟨w5_c0_out, w5_c1_out, w5_f0_out, w5_f1_out⟩ := blk2 Kw5_out
    have Kw5_outH := Lib.hid Kw5_out
    have w5_l_out := Kw5_out.lt
    have w5_m_out : w2.heap.size < w5.heap.size + 1 := by omega
    obtain ⟨w5_c0_want, w5_c1_want, w5_f0_want, w5_f1_want⟩ := blk2 Kw5_want
    have Kw5_wantH := Lib.hid Kw5_want
    have w5_l_want := Kw5_want.lt
    have w5_m_want : w3.heap.size < w5.heap.size + 1 := by omega
    obtain ⟨w5_c0_x, w5_c1_x, w5_f0_x, w5_f1_x⟩ := blk2 Kw5_x
    have Kw5_xH := Lib.hid Kw5_x
    have w5_l_x := Kw5_x.lt
    have w5_m_x : w4.heap.size < w5.heap.size + 1 := by omega
    have w5z := hb5.size
    try simp at w5z
    have w5B := Lib.hid hb5
    clear Kw5_g Kw5_out Kw5_want Kw5_x
    clear hb5
    rw [show ratMul p q N2 D2 = (N, D, true) from M.out]
    simp only [rv]
    go_wp2_with fail
    go_ret
    exact ⟨rfl, by (repeat' (first | exact Below.refl _ _ | refine bl_out ?_ (by assumption) | exact (Hid.out (by assumption)) | refine bl_alloc ?_ _ | refine bl_drewN ?_ _ | refine bl_drew ?_ | refine bl_set ?_ ?_ _ | omega | (simp; done) | (simp; omega)))⟩
  have hf1 : (f == j + i) = false := by simp [hf0]
  have hf2 : (f != j + i) = true := by simp [hf0]
  clear hf0
  go_wp2_with fail
  refine (i_RatValid _ _ _).mono ?_
  rintro e w4 ⟨rfl, hb4⟩
  have Kw4_g : Blk w4 (w1.heap.size) #[.int .i64 p, .int .i64 q] := blk_later hb4 (blk_alloc Kw3_gH.out (.cells #[.int .i64 N, .int .i64 D] 36))
  have Kw4_out : Blk w4 (w2.heap.size) #[.int .i64 N, .int .i64 D] := blk_later hb4 (blk_alloc Kw3_outH.out (.cells #[.int .i64 N, .int .i64 D] 36))
  have Kw4_want : Blk w4 (w3.heap.size) #[.int .i64 N, .int .i64 D] := blk_later hb4 (blk_new (by simp))
  obtain ⟨w4_c0_g, w4_c1_g, w4_f0_g, w4_f1_g⟩ := blk2 Kw4_g
  have Kw4_gH := Lib.hid Kw4_g
  have w4_l_g := Kw4_g.lt
  have w4_m_g : w1.heap.size < w4.heap.size + 1 := by omega
  obtain ⟨w4_c0_out, w4_c1_out, w4_f0_out, w4_f1_out⟩ := blk2 Kw4_out
  have Kw4_outH := Lib.hid Kw4_out
  have w4_l_out := Kw4_out.lt
  have w4_m_out : w2.heap.size < w4.heap.size + 1 := by omega
  obtain ⟨w4_c0_want, w4_c1_want, w4_f0_want, w4_f1_want⟩ := blk2 Kw4_want
  have Kw4_wantH := Lib.hid Kw4_want
  have w4_l_want := Kw4_want.lt
  have w4_m_want : w3.heap.size < w4.heap.size + 1 := by omega
  have w4z := hb4.size
  try simp at w4z
  have w4B := Lib.hid hb4
  clear Kw4_g Kw4_out Kw4_want
  clear hb4
  rw [V.out]
  go_wp2_with fail
  go_ret
  exact ⟨rfl, by (repeat' (first | exact Below.refl _ _ | refine bl_out ?_ (by assumption) | exact (Hid.out (by assumption)) | refine bl_alloc ?_ _ | refine bl_drewN ?_ _ | refine bl_drew ?_ | refine bl_set ?_ ?_ _ | omega | (simp; done) | (simp; omega)))⟩

set_option maxHeartbeats 1000000 in
theorem l_whole (n : Int) (w : World) :
    Calls Try.prog 31 #[.int .i64 n] w fun e w' => e = .returned (.agg #[.int .i64 n, .int .i64 1]) ∧ Below w.heap.size w w' := by
  go_enter Try.func31, Try.ntmps31
  go_wp2_with fail
  refine bodyPost_ret (v := .agg #[.int .i64 n, .int .i64 1]) ?_ rfl ?_
  · simp [results, Try.results31, go_sem]
  · exact ⟨rfl, by (repeat' (first | exact Below.refl _ _ | refine bl_out ?_ (by assumption) | exact (Hid.out (by assumption)) | refine bl_alloc ?_ _ | refine bl_drewN ?_ _ | refine bl_drew ?_ | refine bl_set ?_ ?_ _ | omega | (simp; done) | (simp; omega)))⟩

set_option maxHeartbeats 1000000 in
theorem l_FnExactHyperFactor (a b f j i : Int) (w : World) (_ : I64 a) (_ : I64 b) (_ : I64 f) (_ : I64 j) (_ : I64 i) :
    Calls Try.prog 8 #[.agg #[.int .i64 a, .int .i64 b], .int .i64 f, .int .i64 j, .int .i64 i] w (RTrueF w) := by
  go_enter Try.func8, Try.ntmps8
  go_wp2_with fail
  refine (l_toRat _ _ _).mono ?_
  rintro e w1 ⟨rfl, hb1⟩
  have Kw1_a : Blk w1 (w.heap.size) #[.int .i64 a, .int .i64 b] := blk_later hb1 (blk_new (by simp))
  obtain ⟨w1_c0_a, w1_c1_a, w1_f0_a, w1_f1_a⟩ := blk2 Kw1_a
  have Kw1_aH := Lib.hid Kw1_a
  have w1_l_a := Kw1_a.lt
  have w1_m_a : w.heap.size < w1.heap.size + 1 := by omega
  have w1z := hb1.size
  try simp at w1z
  have w1B := Lib.hid hb1
  clear Kw1_a
  clear hb1
  go_wp2_with fail
  refine (s_HyperFactor _ _ _ _ _ _).mono ?_
  rintro e w2 ⟨rfl, hb2⟩
  have Kw2_a : Blk w2 (w.heap.size) #[.int .i64 a, .int .i64 b] := blk_later hb2 Kw1_aH.out
  obtain ⟨w2_c0_a, w2_c1_a, w2_f0_a, w2_f1_a⟩ := blk2 Kw2_a
  have Kw2_aH := Lib.hid Kw2_a
  have w2_l_a := Kw2_a.lt
  have w2_m_a : w.heap.size < w2.heap.size + 1 := by omega
  have w2z := hb2.size
  try simp at w2z
  have w2B := Lib.hid hb2
  clear Kw2_a
  clear hb2
  generalize hY : hyFac a b f j i = XhY at *
  obtain ⟨N, D, o⟩ := XhY
  have HhY := Lib.hid hY
  clear hY
  simp only [rv]
  go_wp2_with fail
  refine (l_toRat _ _ _).mono ?_
  rintro e w3 ⟨rfl, hb3⟩
  have Kw3_a : Blk w3 (w.heap.size) #[.int .i64 a, .int .i64 b] := blk_later hb3 (blk_alloc Kw2_aH.out (.cells #[.int .i64 N, .int .i64 D] 36))
  have Kw3_x : Blk w3 (w2.heap.size) #[.int .i64 N, .int .i64 D] := blk_later hb3 (blk_new (by simp))
  obtain ⟨w3_c0_a, w3_c1_a, w3_f0_a, w3_f1_a⟩ := blk2 Kw3_a
  have Kw3_aH := Lib.hid Kw3_a
  have w3_l_a := Kw3_a.lt
  have w3_m_a : w.heap.size < w3.heap.size + 1 := by omega
  obtain ⟨w3_c0_x, w3_c1_x, w3_f0_x, w3_f1_x⟩ := blk2 Kw3_x
  have Kw3_xH := Lib.hid Kw3_x
  have w3_l_x := Kw3_x.lt
  have w3_m_x : w2.heap.size < w3.heap.size + 1 := by omega
  have w3z := hb3.size
  try simp at w3z
  have w3B := Lib.hid hb3
  clear Kw3_a Kw3_x
  clear hb3
  go_wp2_with fail
  refine (i_HyperFactor _ _ _ _ _ _).mono ?_
  rintro e w4 ⟨rfl, hb4⟩
  have Kw4_a : Blk w4 (w.heap.size) #[.int .i64 a, .int .i64 b] := blk_later hb4 Kw3_aH.out
  have Kw4_x : Blk w4 (w2.heap.size) #[.int .i64 N, .int .i64 D] := blk_later hb4 Kw3_xH.out
  obtain ⟨w4_c0_a, w4_c1_a, w4_f0_a, w4_f1_a⟩ := blk2 Kw4_a
  have Kw4_aH := Lib.hid Kw4_a
  have w4_l_a := Kw4_a.lt
  have w4_m_a : w.heap.size < w4.heap.size + 1 := by omega
  obtain ⟨w4_c0_x, w4_c1_x, w4_f0_x, w4_f1_x⟩ := blk2 Kw4_x
  have Kw4_xH := Lib.hid Kw4_x
  have w4_l_x := Kw4_x.lt
  have w4_m_x : w2.heap.size < w4.heap.size + 1 := by omega
  have w4z := hb4.size
  try simp at w4z
  have w4B := Lib.hid hb4
  clear Kw4_a Kw4_x
  clear hb4
  rw [HhY.out]
  simp only [rv]
  go_wp2_with fail
  refine (l_eqRat _ _ _).mono ?_
  rintro e w5 ⟨rfl, hb5⟩
  have Kw5_a : Blk w5 (w.heap.size) #[.int .i64 a, .int .i64 b] := blk_later hb5 (blk_alloc Kw4_aH.out (.cells #[.int .i64 N, .int .i64 D] 36))
  have Kw5_x : Blk w5 (w2.heap.size) #[.int .i64 N, .int .i64 D] := blk_later hb5 (blk_alloc Kw4_xH.out (.cells #[.int .i64 N, .int .i64 D] 36))
  have Kw5_y : Blk w5 (w4.heap.size) #[.int .i64 N, .int .i64 D] := blk_later hb5 (blk_new (by simp))
  obtain ⟨w5_c0_a, w5_c1_a, w5_f0_a, w5_f1_a⟩ := blk2 Kw5_a
  have Kw5_aH := Lib.hid Kw5_a
  have w5_l_a := Kw5_a.lt
  have w5_m_a : w.heap.size < w5.heap.size + 1 := by omega
  obtain ⟨w5_c0_x, w5_c1_x, w5_f0_x, w5_f1_x⟩ := blk2 Kw5_x
  have Kw5_xH := Lib.hid Kw5_x
  have w5_l_x := Kw5_x.lt
  have w5_m_x : w2.heap.size < w5.heap.size + 1 := by omega
  obtain ⟨w5_c0_y, w5_c1_y, w5_f0_y, w5_f1_y⟩ := blk2 Kw5_y
  have Kw5_yH := Lib.hid Kw5_y
  have w5_l_y := Kw5_y.lt
  have w5_m_y : w4.heap.size < w5.heap.size + 1 := by omega
  have w5z := hb5.size
  try simp at w5z
  have w5B := Lib.hid hb5
  clear Kw5_a Kw5_x Kw5_y
  clear hb5
  cases o
  all_goals
    go_wp2_with fail
    go_ret
    exact ⟨rfl, by (repeat' (first | exact Below.refl _ _ | refine bl_out ?_ (by assumption) | exact (Hid.out (by assumption)) | refine bl_alloc ?_ _ | refine bl_drewN ?_ _ | refine bl_drew ?_ | refine bl_set ?_ ?_ _ | omega | (simp; done) | (simp; omega)))⟩

end Go.Proofs.Ytnpfcifdpmdnlaa
