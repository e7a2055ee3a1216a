/- Contracts of Clebsch, of the program and of the reference. -/
import Derived.Test.YtdhmjmnpaigagaaRt
import Derived.Test.YtdhmjmnpaigagaaK3
namespace Go.Proofs.Ytdhmjmnpaigagaa
open Go.RowKit
set_option linter.unusedVariables false

theorem mul_nn {a b A B : Int} (h1 : 0 ≤ a) (h2 : a ≤ A) (h3 : 0 ≤ b) (h4 : b ≤ B) : 0 ≤ a * b ∧ a * b ≤ A * B :=
  ⟨Int.mul_nonneg h1 h3, Int.mul_le_mul h2 h4 h3 (by omega)⟩

theorem clD_bd {a b c m n : Int} (h : tdB a b c = true) :
    (0 ≤ chooseI ((a + b + c) / 2 + 1) ((a + b - c) / 2) ∧ chooseI ((a + b + c) / 2 + 1) ((a + b - c) / 2) ≤ 1024) ∧
    (0 ≤ chooseI ((a + b + c) / 2 + 1) ((a + b - c) / 2) * chooseI a ((a - m) / 2) ∧ chooseI ((a + b + c) / 2 + 1) ((a + b - c) / 2) * chooseI a ((a - m) / 2) ≤ 65536) ∧
    (0 ≤ chooseI ((a + b + c) / 2 + 1) ((a + b - c) / 2) * chooseI a ((a - m) / 2) * chooseI b ((b - n) / 2) ∧ chooseI ((a + b + c) / 2 + 1) ((a + b - c) / 2) * chooseI a ((a - m) / 2) * chooseI b ((b - n) / 2) ≤ 4194304) ∧
    (0 ≤ clD a b c m n ∧ clD a b c m n ≤ 268435456) ∧ (0 ≤ clN a b c ∧ clN a b c ≤ 4096) := by
  have hh := tdB_iff.1 h
  have q0 := chooseI_bd (n := (a + b + c) / 2 + 1) (k := (a + b - c) / 2) 10 (by omega) (by omega) (by omega)
  have q1 := chooseI_bd (n := a) (k := (a - m) / 2) 6 (by omega) (by omega) (by omega)
  have q2 := chooseI_bd (n := b) (k := (b - n) / 2) 6 (by omega) (by omega) (by omega)
  have q3 := chooseI_bd (n := c) (k := (c - m - n) / 2) 6 (by omega) (by omega) (by omega)
  have q4 := chooseI_bd (n := a) (k := (a + b - c) / 2) 6 (by omega) (by omega) (by omega)
  have q5 := chooseI_bd (n := b) (k := (a + b - c) / 2) 6 (by omega) (by omega) (by omega)
  have p1 := mul_nn q0.1 q0.2 q1.1 q1.2
  have p2 := mul_nn p1.1 p1.2 q2.1 q2.2
  have p3 := mul_nn p2.1 p2.2 q3.1 q3.2
  have p4 := mul_nn q4.1 q4.2 q5.1 q5.2
  exact ⟨q0, p1, p2, p3, p4⟩

set_option maxRecDepth 100000 in
set_option maxHeartbeats 400000 in
theorem i_whole (n : Int) (w : World) :
    Calls Try.prog 16 #[.int .i64 n] w fun e w' => e = .returned (.agg #[.int .i64 n, .int .i64 1]) ∧ Below w.heap.size w w' := by
  go_enter Try.func16, Try.ntmps16
  go_wp2_with fail
  refine bodyPost_ret (v := .agg #[.int .i64 n, .int .i64 1]) ?_ rfl ?_
  · simp [results, Try.results16, go_sem]
  · exact ⟨rfl, by (repeat' (first | exact Below.refl _ _ | refine bl_out ?_ (by assumption) | exact (Hid.out (by assumption)) | refine bl_alloc ?_ _ | refine bl_drewN ?_ _ | refine bl_drew ?_ | refine bl_set ?_ ?_ _ | omega | (simp; done) | (simp; omega)))⟩

set_option maxRecDepth 100000 in
set_option maxHeartbeats 1000000 in
theorem i_Clebsch (a b c m n : Int) (w : World) :
    Calls Try.prog 35 #[.int .i64 a, .int .i64 b, .int .i64 c, .int .i64 m, .int .i64 n] w (RRoot w (clebI a b c m n)) := by
  cases hok : cpOk a b c m n
  · have E := Lib.hid (show clebI a b c m n = (0, 0, 0, false) by simp [clebI, hok])
    go_enter Try.func35, Try.ntmps35
    go_wp2_with (go_at_call 47; refine (i_coupleValid _ _ _ _ _ _).mono ?_; rintro e w' ⟨rfl, rfl⟩)
    refine bodyPost_ret (v := rtv (0, 0, 0, false)) (by simp [results, Try.results35, go_sem, rtv]) rfl ⟨by rw [E.out], by (repeat' (first | exact Below.refl _ _ | refine bl_out ?_ (by assumption) | exact (Hid.out (by assumption)) | refine bl_alloc ?_ _ | refine bl_drewN ?_ _ | refine bl_drew ?_ | refine bl_set ?_ ?_ _ | omega | (simp; done) | (simp; omega)))⟩
  have hk := cpOk_iff.1 hok
  have ht := tdB_iff.1 hk.1
  have hm := hasB_iff.1 hk.2.1
  have hn := hasB_iff.1 hk.2.2
  have HT := Lib.hid hk.1
  clear hk
  cases hh : hasB c (m + n)
  · have E := Lib.hid (show clebI a b c m n = (0, 0, 1, true) by simp [clebI, hok, hh])
    go_enter Try.func35, Try.ntmps35
    go_wp2_with (first | (go_at_call 47; refine (i_coupleValid _ _ _ _ _ _).mono ?_; rintro e w' ⟨rfl, rfl⟩) | (go_at_call 18; refine (i_SpinHas _ _ _).mono ?_; rintro e w' ⟨rfl, rfl⟩))
    refine (i_whole _ _).mono ?_
    rintro e w1 ⟨rfl, hb1⟩
    have Kw1_r : Blk w1 (w.heap.size) #[.int .i64 0, .int .i64 0, .int .i64 0] := blk_later hb1 (blk_new (by simp))
    obtain ⟨w1_c0_r, w1_c1_r, w1_c2_r, w1_f0_r, w1_f1_r, w1_f2_r⟩ := blk3 Kw1_r
    have Kw1_rH := Lib.hid Kw1_r
    have w1_l_r := Kw1_r.lt
    have w1_m_r : w.heap.size < w1.heap.size + 1 := by omega
    have w1z := hb1.size
    try simp at w1z
    have w1B := Lib.hid hb1
    clear Kw1_r
    clear hb1
    go_wp2_with fail
    refine bodyPost_ret (v := rtv (0, 0, 1, true)) ?_ rfl ?_
    · have KR : Blk _ (w.heap.size) #[.int .i64 0, .int .i64 0, .int .i64 1] := (blk_set (blk_set (blk_set Kw1_rH.out 0 (.int .i64 0)) 1 (.int .i64 0)) 2 (.int .i64 1))
      obtain ⟨r0, r1, r2, _, _, _⟩ := blk3 KR
      simp [results, Try.results35, go_sem, rtv, r0, r1, r2]
    · exact ⟨by rw [E.out], by (repeat' (first | exact Below.refl _ _ | refine bl_out ?_ (by assumption) | exact (Hid.out (by assumption)) | refine bl_alloc ?_ _ | refine bl_drewN ?_ _ | refine bl_drew ?_ | refine bl_set ?_ ?_ _ | omega | (simp; done) | (simp; omega)))⟩
  have E := Lib.hid (show clebI a b c m n = rootOf (coupleI a b c m n) (clN a b c) (clD a b c m n) by simp [clebI, hok, hh])
  have hc := hasB_iff.1 hh
  obtain ⟨⟨q0, q1⟩, ⟨p0, p1⟩, ⟨p2, p3⟩, ⟨p4, p5⟩, p6, p7⟩ := clD_bd (m := m) (n := n) HT.out
  have ED := Lib.hid (show clD a b c m n = chooseI ((a + b + c) / 2 + 1) ((a + b - c) / 2) * chooseI a ((a - m) / 2) * chooseI b ((b - n) / 2) * chooseI c ((c - m - n) / 2) from rfl)
  have EN := Lib.hid (show clN a b c = chooseI a ((a + b - c) / 2) * chooseI b ((a + b - c) / 2) from rfl)
  rw [ED.out] at p4 p5
  rw [EN.out] at p6 p7
  go_enter Try.func35, Try.ntmps35
  go_wp2_with (first | (go_at_call 47; refine (i_coupleValid _ _ _ _ _ _).mono ?_; rintro e w' ⟨rfl, rfl⟩) | (go_at_call 18; refine (i_SpinHas _ _ _).mono ?_; rintro e w' ⟨rfl, rfl⟩))
  refine (i_Choose _ _ _).mono ?_
  rintro e w1 ⟨rfl, hb1⟩
  have Kw1_r : Blk w1 (w.heap.size) #[.int .i64 0, .int .i64 0, .int .i64 0] := blk_later hb1 (blk_new (by simp))
  obtain ⟨w1_c0_r, w1_c1_r, w1_c2_r, w1_f0_r, w1_f1_r, w1_f2_r⟩ := blk3 Kw1_r
  have Kw1_rH := Lib.hid Kw1_r
  have w1_l_r := Kw1_r.lt
  have w1_m_r : w.heap.size < w1.heap.size + 1 := by omega
  have w1z := hb1.size
  try simp at w1z
  have w1B := Lib.hid hb1
  clear Kw1_r
  clear hb1
  go_wp2_with fail
  refine (i_Choose _ _ _).mono ?_
  rintro e w2 ⟨rfl, hb2⟩
  have Kw2_r : Blk w2 (w.heap.size) #[.int .i64 0, .int .i64 0, .int .i64 0] := blk_later hb2 Kw1_rH.out
  obtain ⟨w2_c0_r, w2_c1_r, w2_c2_r, w2_f0_r, w2_f1_r, w2_f2_r⟩ := blk3 Kw2_r
  have Kw2_rH := Lib.hid Kw2_r
  have w2_l_r := Kw2_r.lt
  have w2_m_r : w.heap.size < w2.heap.size + 1 := by omega
  have w2z := hb2.size
  try simp at w2z
  have w2B := Lib.hid hb2
  clear Kw2_r
  clear hb2
  go_wp2_with fail
  refine (i_Choose _ _ _).mono ?_
  rintro e w3 ⟨rfl, hb3⟩
  have Kw3_r : Blk w3 (w.heap.size) #[.int .i64 0, .int .i64 0, .int .i64 0] := blk_later hb3 Kw2_rH.out
  obtain ⟨w3_c0_r, w3_c1_r, w3_c2_r, w3_f0_r, w3_f1_r, w3_f2_r⟩ := blk3 Kw3_r
  have Kw3_rH := Lib.hid Kw3_r
  have w3_l_r := Kw3_r.lt
  have w3_m_r : w.heap.size < w3.heap.size + 1 := by omega
  have w3z := hb3.size
  try simp at w3z
  have w3B := Lib.hid hb3
  clear Kw3_r
  clear hb3
  go_wp2_with fail
  refine (i_Choose _ _ _).mono ?_
  rintro e w4 ⟨rfl, hb4⟩
  have Kw4_r : Blk w4 (w.heap.size) #[.int .i64 0, .int .i64 0, .int .i64 0] := blk_later hb4 Kw3_rH.out
  obtain ⟨w4_c0_r, w4_c1_r, w4_c2_r, w4_f0_r, w4_f1_r, w4_f2_r⟩ := blk3 Kw4_r
  have Kw4_rH := Lib.hid Kw4_r
  have w4_l_r := Kw4_r.lt
  have w4_m_r : w.heap.size < w4.heap.size + 1 := by omega
  have w4z := hb4.size
  try simp at w4z
  have w4B := Lib.hid hb4
  clear Kw4_r
  clear hb4
  go_wp2_with fail
  refine (i_CoupleSum _ _ _ _ _ _).mono ?_
  rintro e w5 ⟨rfl, hb5⟩
  have Kw5_r : Blk w5 (w.heap.size) #[.int .i64 0, .int .i64 0, .int .i64 0] := blk_later hb5 Kw4_rH.out
  obtain ⟨w5_c0_r, w5_c1_r, w5_c2_r, w5_f0_r, w5_f1_r, w5_f2_r⟩ := blk3 Kw5_r
  have Kw5_rH := Lib.hid Kw5_r
  have w5_l_r := Kw5_r.lt
  have w5_m_r : w.heap.size < w5.heap.size + 1 := by omega
  have w5z := hb5.size
  try simp at w5z
  have w5B := Lib.hid hb5
  clear Kw5_r
  clear hb5
  go_wp2_with fail
  refine (i_Choose _ _ _).mono ?_
  rintro e w6 ⟨rfl, hb6⟩
  have Kw6_r : Blk w6 (w.heap.size) #[.int .i64 0, .int .i64 0, .int .i64 0] := blk_later hb6 Kw5_rH.out
  obtain ⟨w6_c0_r, w6_c1_r, w6_c2_r, w6_f0_r, w6_f1_r, w6_f2_r⟩ := blk3 Kw6_r
  have Kw6_rH := Lib.hid Kw6_r
  have w6_l_r := Kw6_r.lt
  have w6_m_r : w.heap.size < w6.heap.size + 1 := by omega
  have w6z := hb6.size
  try simp at w6z
  have w6B := Lib.hid hb6
  clear Kw6_r
  clear hb6
  go_wp2_with fail
  refine (i_Choose _ _ _).mono ?_
  rintro e w7 ⟨rfl, hb7⟩
  have Kw7_r : Blk w7 (w.heap.size) #[.int .i64 0, .int .i64 0, .int .i64 0] := blk_later hb7 Kw6_rH.out
  obtain ⟨w7_c0_r, w7_c1_r, w7_c2_r, w7_f0_r, w7_f1_r, w7_f2_r⟩ := blk3 Kw7_r
  have Kw7_rH := Lib.hid Kw7_r
  have w7_l_r := Kw7_r.lt
  have w7_m_r : w.heap.size < w7.heap.size + 1 := by omega
  have w7z := hb7.size
  try simp at w7z
  have w7B := Lib.hid hb7
  clear Kw7_r
  clear hb7
  go_wp2_with fail
  refine (i_RootOf _ _ _ _).mono ?_
  rintro e w8 ⟨rfl, hb8⟩
  have Kw8_r : Blk w8 (w.heap.size) #[.int .i64 0, .int .i64 0, .int .i64 0] := blk_later hb8 Kw7_rH.out
  obtain ⟨w8_c0_r, w8_c1_r, w8_c2_r, w8_f0_r, w8_f1_r, w8_f2_r⟩ := blk3 Kw8_r
  have Kw8_rH := Lib.hid Kw8_r
  have w8_l_r := Kw8_r.lt
  have w8_m_r : w.heap.size < w8.heap.size + 1 := by omega
  have w8z := hb8.size
  try simp at w8z
  have w8B := Lib.hid hb8
  clear Kw8_r
  clear hb8
  rw [← ED.out, ← EN.out]
  generalize rootOf (coupleI a b c m n) (clN a b c) (clD a b c m n) = X at *
  obtain ⟨S, N, D, o⟩ := X
  simp only [rtv]
  go_wp2_with fail
  refine bodyPost_ret (v := rtv (S, N, D, o)) ?_ rfl ?_
  · have KR : Blk _ (w.heap.size) #[.int .i64 S, .int .i64 N, .int .i64 D] := (blk_set (blk_set (blk_set Kw8_rH.out 0 (.int .i64 S)) 1 (.int .i64 N)) 2 (.int .i64 D))
    obtain ⟨r0, r1, r2, _, _, _⟩ := blk3 KR
    simp [results, Try.results35, go_sem, rtv, r0, r1, r2]
  · exact ⟨by rw [E.out], by (repeat' (first | exact Below.refl _ _ | refine bl_out ?_ (by assumption) | exact (Hid.out (by assumption)) | refine bl_alloc ?_ _ | refine bl_drewN ?_ _ | refine bl_drew ?_ | refine bl_set ?_ ?_ _ | omega | (simp; done) | (simp; omega)))⟩

set_option maxRecDepth 100000 in
set_option maxHeartbeats 1000000 in
theorem s_Clebsch (a b c m n : Int) (w : World) :
    Calls Try.prog 26 #[.int .i64 a, .int .i64 b, .int .i64 c, .int .i64 m, .int .i64 n] w (RRoot w (clebI a b c m n)) := by
  cases hok : cpOk a b c m n
  · have E := Lib.hid (show clebI a b c m n = (0, 0, 0, false) by simp [clebI, hok])
    go_enter Try.func26, Try.ntmps26
    go_wp2_with (go_at_call 10; refine (s_l21Ok _ _ _ _ _ _).mono ?_; rintro e w' ⟨rfl, rfl⟩)
    refine bodyPost_ret (v := rtv (0, 0, 0, false)) (by simp [results, Try.results26, go_sem, rtv]) rfl ⟨by rw [E.out], by (repeat' (first | exact Below.refl _ _ | refine bl_out ?_ (by assumption) | exact (Hid.out (by assumption)) | refine bl_alloc ?_ _ | refine bl_drewN ?_ _ | refine bl_drew ?_ | refine bl_set ?_ ?_ _ | omega | (simp; done) | (simp; omega)))⟩
  have hk := cpOk_iff.1 hok
  have ht := tdB_iff.1 hk.1
  have hm := hasB_iff.1 hk.2.1
  have hn := hasB_iff.1 hk.2.2
  have HT := Lib.hid hk.1
  clear hk
  cases hh : hasB c (m + n)
  · have E := Lib.hid (show clebI a b c m n = (0, 0, 1, true) by simp [clebI, hok, hh])
    go_enter Try.func26, Try.ntmps26
    go_wp2_with (first | (go_at_call 10; refine (s_l21Ok _ _ _ _ _ _).mono ?_; rintro e w' ⟨rfl, rfl⟩) | (go_at_call 12; refine (s_SpinHas _ _ _).mono ?_; rintro e w' ⟨rfl, rfl⟩))
    refine bodyPost_ret (v := rtv (0, 0, 1, true)) (by simp [results, Try.results26, go_sem, rtv]) rfl ⟨by rw [E.out], by (repeat' (first | exact Below.refl _ _ | refine bl_out ?_ (by assumption) | exact (Hid.out (by assumption)) | refine bl_alloc ?_ _ | refine bl_drewN ?_ _ | refine bl_drew ?_ | refine bl_set ?_ ?_ _ | omega | (simp; done) | (simp; omega)))⟩
  have E := Lib.hid (show clebI a b c m n = rootOf (coupleI a b c m n) (clN a b c) (clD a b c m n) by simp [clebI, hok, hh])
  have hc := hasB_iff.1 hh
  obtain ⟨⟨q0, q1⟩, ⟨p0, p1⟩, ⟨p2, p3⟩, ⟨p4, p5⟩, p6, p7⟩ := clD_bd (m := m) (n := n) HT.out
  have ED := Lib.hid (show clD a b c m n = chooseI ((a + b + c) / 2 + 1) ((a + b - c) / 2) * chooseI a ((a - m) / 2) * chooseI b ((b - n) / 2) * chooseI c ((c - m - n) / 2) from rfl)
  have EN := Lib.hid (show clN a b c = chooseI a ((a + b - c) / 2) * chooseI b ((a + b - c) / 2) from rfl)
  rw [ED.out] at p4 p5
  rw [EN.out] at p6 p7
  go_enter Try.func26, Try.ntmps26
  go_wp2_with (first | (go_at_call 10; refine (s_l21Ok _ _ _ _ _ _).mono ?_; rintro e w' ⟨rfl, rfl⟩) | (go_at_call 12; refine (s_SpinHas _ _ _).mono ?_; rintro e w' ⟨rfl, rfl⟩) | (go_at_call 42; refine (s_Choose _ _ _).mono ?_; rintro e w' ⟨rfl, rfl⟩) | (go_at_call 44; refine (s_CoupleSum _ _ _ _ _ _).mono ?_; rintro e w' ⟨rfl, rfl⟩))
  refine (s_RootOf _ _ _ _).mono ?_
  rintro e w1 ⟨rfl, hb1⟩
  have Kw1_r : Blk w1 (w.heap.size) #[.int .i64 0, .int .i64 0, .int .i64 0] := blk_later hb1 (blk_new (by simp))
  obtain ⟨w1_c0_r, w1_c1_r, w1_c2_r, w1_f0_r, w1_f1_r, w1_f2_r⟩ := blk3 Kw1_r
  have Kw1_rH := Lib.hid Kw1_r
  have w1_l_r := Kw1_r.lt
  have w1_m_r : w.heap.size < w1.heap.size + 1 := by omega
  have w1z := hb1.size
  try simp at w1z
  have w1B := Lib.hid hb1
  clear Kw1_r
  clear hb1
  rw [← ED.out, ← EN.out]
  generalize rootOf (coupleI a b c m n) (clN a b c) (clD a b c m n) = X at *
  obtain ⟨S, N, D, o⟩ := X
  simp only [rtv]
  go_wp2_with fail
  refine bodyPost_ret (v := rtv (S, N, D, o)) ?_ rfl ?_
  · have KR : Blk _ (w.heap.size) #[.int .i64 S, .int .i64 N, .int .i64 D] := (blk_set (blk_set (blk_set Kw1_rH.out 0 (.int .i64 S)) 1 (.int .i64 N)) 2 (.int .i64 D))
    obtain ⟨r0, r1, r2, _, _, _⟩ := blk3 KR
    simp [results, Try.results26, go_sem, rtv, r0, r1, r2]
  · exact ⟨by rw [E.out], by (repeat' (first | exact Below.refl _ _ | refine bl_out ?_ (by assumption) | exact (Hid.out (by assumption)) | refine bl_alloc ?_ _ | refine bl_drewN ?_ _ | refine bl_drew ?_ | refine bl_set ?_ ?_ _ | omega | (simp; done) | (simp; omega)))⟩

end Go.Proofs.Ytdhmjmnpaigagaa
