/- Contracts of ThreeJ, of the program and of the reference. -/
import Derived.Test.YtdhmjmnpaigagaaCl
import Derived.Test.YtdhmjmnpaigagaaPt
import Derived.Test.YtdhmjmnpaigagaaLv
namespace Go.Proofs.Ytdhmjmnpaigagaa
open Go.RowKit
set_option linter.unusedVariables false

set_option maxHeartbeats 400000 in
theorem i_times (a b c s : Int) (w : World) (a0 : -1 ≤ a) (a1 : a ≤ 1) (s0 : s = 1 ∨ s = -1) :
    Calls Try.prog 37 #[.agg #[.int .i64 a, .int .i64 b, .int .i64 c], .int .i64 s] w fun e w' => e = .returned (.agg #[.int .i64 (a * s), .int .i64 b, .int .i64 c]) ∧ Below w.heap.size w w' := by
  obtain ⟨p1, p2⟩ := mul_bd (A := 1) (B := 1) a0 a1 (show -1 ≤ s by omega) (by omega)
  clear s0
  go_enter Try.func37, Try.ntmps37
  go_wp2_with fail
  refine bodyPost_ret (v := .agg #[.int .i64 (a * s), .int .i64 b, .int .i64 c]) (by simp [results, Try.results37, go_sem]) rfl ⟨rfl, by (repeat' (first | exact Below.refl _ _ | refine bl_out ?_ (by assumption) | exact (Hid.out (by assumption)) | refine bl_alloc ?_ _ | refine bl_drewN ?_ _ | refine bl_drew ?_ | refine bl_set ?_ ?_ _ | omega | (simp; done) | (simp; omega)))⟩

theorem i_times1 (a b c : Int) (w : World) (a0 : -1 ≤ a) (a1 : a ≤ 1) :
    Calls Try.prog 37 #[.agg #[.int .i64 a, .int .i64 b, .int .i64 c], .int .i64 1] w fun e w' => e = .returned (.agg #[.int .i64 a, .int .i64 b, .int .i64 c]) ∧ Below w.heap.size w w' := by
  have := i_times a b c 1 w a0 a1 (Or.inl rfl)
  rw [Int.mul_one] at this
  exact this
theorem i_timesN (a b c : Int) (w : World) (a0 : -1 ≤ a) (a1 : a ≤ 1) :
    Calls Try.prog 37 #[.agg #[.int .i64 a, .int .i64 b, .int .i64 c], .int .i64 (-1)] w fun e w' => e = .returned (.agg #[.int .i64 (-a), .int .i64 b, .int .i64 c]) ∧ Below w.heap.size w w' := by
  have := i_times a b c (-1) w a0 a1 (Or.inr rfl)
  rw [show a * -1 = -a by omega] at this
  exact this

theorem odd2_yes {x : Int} (h : odd2 x = true) : ((x.tdiv 2).tmod 2 == 0) = false ∧ ((x.tdiv 2).tmod 2 != 0) = true := by
  simp [odd2] at h; simp [h]
theorem odd2_no {x : Int} (h : odd2 x = false) : ((x.tdiv 2).tmod 2 == 0) = true ∧ ((x.tdiv 2).tmod 2 != 0) = false := by
  simp [odd2] at h; simp [h]

set_option maxRecDepth 100000 in
set_option maxHeartbeats 2000000 in
theorem s_ThreeJ (a b c m n k : Int) (w : World) :
    Calls Try.prog 13 #[.int .i64 a, .int .i64 b, .int .i64 c, .int .i64 m, .int .i64 n, .int .i64 k] w (RRoot w (thI a b c m n k)) := by
  cases h1 : cpOk a b c m n
  · have E := Lib.hid (show thI a b c m n k = (0, 0, 0, false) by simp [thI, thOk, h1])
    go_enter Try.func13, Try.ntmps13
    go_wp2_with (first | (go_at_call 10; refine (s_l21Ok _ _ _ _ _ _).mono ?_; rintro e w' ⟨rfl, rfl⟩) | (go_at_call 12; refine (s_SpinHas _ _ _).mono ?_; rintro e w' ⟨rfl, rfl⟩))
    refine bodyPost_ret (v := rtv (0, 0, 0, false)) (by simp [results, Try.results13, go_sem, rtv]) rfl ⟨by rw [E.out], by (repeat' (first | exact Below.refl _ _ | refine bl_out ?_ (by assumption) | exact (Hid.out (by assumption)) | refine bl_alloc ?_ _ | refine bl_drewN ?_ _ | refine bl_drew ?_ | refine bl_set ?_ ?_ _ | omega | (simp; done) | (simp; omega)))⟩
  cases h2 : hasB c k
  · have E := Lib.hid (show thI a b c m n k = (0, 0, 0, false) by simp [thI, thOk, h2])
    go_enter Try.func13, Try.ntmps13
    go_wp2_with (first | (go_at_call 10; refine (s_l21Ok _ _ _ _ _ _).mono ?_; rintro e w' ⟨rfl, rfl⟩) | (go_at_call 12; refine (s_SpinHas _ _ _).mono ?_; rintro e w' ⟨rfl, rfl⟩))
    refine bodyPost_ret (v := rtv (0, 0, 0, false)) (by simp [results, Try.results13, go_sem, rtv]) rfl ⟨by rw [E.out], by (repeat' (first | exact Below.refl _ _ | refine bl_out ?_ (by assumption) | exact (Hid.out (by assumption)) | refine bl_alloc ?_ _ | refine bl_drewN ?_ _ | refine bl_drew ?_ | refine bl_set ?_ ?_ _ | omega | (simp; done) | (simp; omega)))⟩
  have h3 : thOk a b c m n k = true := by simp [thOk, h1, h2]
  have ht := tdB_iff.1 (cpOk_iff.1 h1).1
  have hm := hasB_iff.1 (cpOk_iff.1 h1).2.1
  have hn := hasB_iff.1 (cpOk_iff.1 h1).2.2
  have hk := hasB_iff.1 h2
  have H3 := Lib.hid h3
  clear h3
  by_cases hs : m + n + k = 0
  case neg =>
    have E := Lib.hid (show thI a b c m n k = (0, 0, 1, true) by simp [thI, H3.out, hs])
    have hs1 : (m + n + k == 0) = false := by simp [hs]
    have hs2 : (m + n + k != 0) = true := by simp [hs]
    clear hs
    go_enter Try.func13, Try.ntmps13
    go_wp2_with (first | (go_at_call 10; refine (s_l21Ok _ _ _ _ _ _).mono ?_; rintro e w' ⟨rfl, rfl⟩) | (go_at_call 12; refine (s_SpinHas _ _ _).mono ?_; rintro e w' ⟨rfl, rfl⟩))
    refine bodyPost_ret (v := rtv (0, 0, 1, true)) (by simp [results, Try.results13, go_sem, rtv]) rfl ⟨by rw [E.out], by (repeat' (first | exact Below.refl _ _ | refine bl_out ?_ (by assumption) | exact (Hid.out (by assumption)) | refine bl_alloc ?_ _ | refine bl_drewN ?_ _ | refine bl_drew ?_ | refine bl_set ?_ ?_ _ | omega | (simp; done) | (simp; omega)))⟩
  have TP := Lib.hid (th_parts H3.out hs)
  have E := Lib.hid (show thI a b c m n k = (if odd2 (a - b - k) = true then -(clebI a b c m n).1 else (clebI a b c m n).1, (ratDiv (clebI a b c m n).2.1 (clebI a b c m n).2.2.1 (c + 1) 1).1, (ratDiv (clebI a b c m n).2.1 (clebI a b c m n).2.2.1 (c + 1) 1).2.1, true) by simp [thI, H3.out, hs])
  have hs1 : (m + n + k == 0) = true := by simp [hs]
  have hs2 : (m + n + k != 0) = false := by simp [hs]
  clear hs
  go_enter Try.func13, Try.ntmps13
  go_wp2_with (first | (go_at_call 10; refine (s_l21Ok _ _ _ _ _ _).mono ?_; rintro e w' ⟨rfl, rfl⟩) | (go_at_call 12; refine (s_SpinHas _ _ _).mono ?_; rintro e w' ⟨rfl, rfl⟩))
  refine (s_Clebsch _ _ _ _ _ _).mono ?_
  rintro e w1 ⟨rfl, hb1⟩
  have Kw1_r : Blk w1 (w.heap.size) #[.int .i64 0, .int .i64 0, .int .i64 0] := blk_later hb1 (blk_new (by simp))
  obtain ⟨w1_c0_r, w1_c1_r, w1_c2_r, w1_f0_r, w1_f1_r, w1_f2_r⟩ := blk3 Kw1_r
  have Kw1_rH := Lib.hid Kw1_r
  have w1_l_r := Kw1_r.lt
  have w1_m_r : w.heap.size < w1.heap.size + 1 := by omega
  have w1z := hb1.size
  try simp at w1z
  have w1B := Lib.hid hb1
  clear Kw1_r
  clear hb1
  generalize hX : clebI a b c m n = XhX at *
  obtain ⟨S, N, D, o⟩ := XhX
  have HhX := Lib.hid hX
  clear hX
  simp only [rtv]
  have sb := TP.out.2.2
  simp only at sb
  go_wp2_with fail
  refine (s_RatDiv _ _ _ _ _).mono ?_
  rintro e w2 ⟨rfl, hb2⟩
  have Kw2_r : Blk w2 (w.heap.size) #[.int .i64 0, .int .i64 0, .int .i64 0] := blk_later hb2 (blk_alloc Kw1_rH.out (.cells #[.int .i64 S, .int .i64 N, .int .i64 D] 38))
  have Kw2_x : Blk w2 (w1.heap.size) #[.int .i64 S, .int .i64 N, .int .i64 D] := blk_later hb2 (blk_new (by simp))
  obtain ⟨w2_c0_r, w2_c1_r, w2_c2_r, w2_f0_r, w2_f1_r, w2_f2_r⟩ := blk3 Kw2_r
  have Kw2_rH := Lib.hid Kw2_r
  have w2_l_r := Kw2_r.lt
  have w2_m_r : w.heap.size < w2.heap.size + 1 := by omega
  obtain ⟨w2_c0_x, w2_c1_x, w2_c2_x, w2_f0_x, w2_f1_x, w2_f2_x⟩ := blk3 Kw2_x
  have Kw2_xH := Lib.hid Kw2_x
  have w2_l_x := Kw2_x.lt
  have w2_m_x : w1.heap.size < w2.heap.size + 1 := by omega
  have w2z := hb2.size
  try simp at w2z
  have w2B := Lib.hid hb2
  clear Kw2_r Kw2_x
  clear hb2
  generalize hY : ratDiv N D (c + 1) 1 = XhY at *
  obtain ⟨N2, D2, o2⟩ := XhY
  have HhY := Lib.hid hY
  clear hY
  simp only [rv]
  cases ho : odd2 (a - b - k)
  · obtain ⟨od1, od2⟩ := odd2_no ho
    simp only [ho] at E
    go_wp2_with fail
    refine bodyPost_ret (v := rtv (S, N2, D2, true)) ?_ rfl ?_
    · have KR : Blk _ (w.heap.size) #[.int .i64 S, .int .i64 N2, .int .i64 D2] := (blk_alloc (blk_set (blk_set (blk_set Kw2_rH.out 0 (.int .i64 S)) 1 (.int .i64 N2)) 2 (.int .i64 D2)) (.cells #[.int .i64 N2, .int .i64 D2] 23))
      obtain ⟨r0, r1, r2, _, _, _⟩ := blk3 KR
      simp [results, Try.results13, go_sem, rtv, r0, r1, r2]
    · exact ⟨by rw [E.out]; simp, by (repeat' (first | exact Below.refl _ _ | refine bl_out ?_ (by assumption) | exact (Hid.out (by assumption)) | refine bl_alloc ?_ _ | refine bl_drewN ?_ _ | refine bl_drew ?_ | refine bl_set ?_ ?_ _ | omega | (simp; done) | (simp; omega)))⟩
  · obtain ⟨od1, od2⟩ := odd2_yes ho
    simp only [ho] at E
    go_wp2_with fail
    refine bodyPost_ret (v := rtv ((-S), N2, D2, true)) ?_ rfl ?_
    · have KR : Blk _ (w.heap.size) #[.int .i64 (-S), .int .i64 N2, .int .i64 D2] := (blk_alloc (blk_set (blk_set (blk_set Kw2_rH.out 0 (.int .i64 (-S))) 1 (.int .i64 N2)) 2 (.int .i64 D2)) (.cells #[.int .i64 N2, .int .i64 D2] 23))
      obtain ⟨r0, r1, r2, _, _, _⟩ := blk3 KR
      simp [results, Try.results13, go_sem, rtv, r0, r1, r2]
    · exact ⟨by rw [E.out]; simp, by (repeat' (first | exact Below.refl _ _ | refine bl_out ?_ (by assumption) | exact (Hid.out (by assumption)) | refine bl_alloc ?_ _ | refine bl_drewN ?_ _ | refine bl_drew ?_ | refine bl_set ?_ ?_ _ | omega | (simp; done) | (simp; omega)))⟩

set_option maxRecDepth 100000 in
set_option maxHeartbeats 2000000 in
theorem i_symbol (a b c m n k : Int) (w : World) (h : thOk a b c m n k = true) :
    Calls Try.prog 19 #[.agg #[.int .i64 a, .int .i64 b, .int .i64 c], .int .i64 m, .int .i64 n, .int .i64 k] w (RRoot w (thI a b c m n k)) := by
  obtain ⟨h1, h2⟩ := thOk_iff.1 h
  have ht := tdB_iff.1 (cpOk_iff.1 h1).1
  have hm := hasB_iff.1 (cpOk_iff.1 h1).2.1
  have hn := hasB_iff.1 (cpOk_iff.1 h1).2.2
  have hk := hasB_iff.1 h2
  have H3 := Lib.hid h
  clear h h1 h2
  by_cases hs : m + n + k = 0
  case neg =>
    have E := Lib.hid (show thI a b c m n k = (0, 0, 1, true) by simp [thI, H3.out, hs])
    have hs1 : (m + n + k == 0) = false := by simp [hs]
    have hs2 : (m + n + k != 0) = true := by simp [hs]
    clear hs
    go_enter Try.func19, Try.ntmps19
    go_wp2_with fail
    refine (i_whole _ _).mono ?_
    rintro e w1 ⟨rfl, hb1⟩
    have Kw1_t : Blk w1 (w.heap.size) #[.int .i64 a, .int .i64 b, .int .i64 c] := blk_later hb1 (blk_alloc (blk_new (by simp)) (.cells #[.int .i64 0, .int .i64 0, .int .i64 0] 38))
    have Kw1_r : Blk w1 (w.heap.size + 1) #[.int .i64 0, .int .i64 0, .int .i64 0] := blk_later hb1 (blk_new (by simp))
    obtain ⟨w1_c0_t, w1_c1_t, w1_c2_t, w1_f0_t, w1_f1_t, w1_f2_t⟩ := blk3 Kw1_t
    have Kw1_tH := Lib.hid Kw1_t
    have w1_l_t := Kw1_t.lt
    have w1_m_t : w.heap.size < w1.heap.size + 1 := by omega
    obtain ⟨w1_c0_r, w1_c1_r, w1_c2_r, w1_f0_r, w1_f1_r, w1_f2_r⟩ := blk3 Kw1_r
    have Kw1_rH := Lib.hid Kw1_r
    have w1_l_r := Kw1_r.lt
    have w1_m_r : w.heap.size + 1 < w1.heap.size + 1 := by omega
    have w1z := hb1.size
    try simp at w1z
    have w1B := Lib.hid hb1
    clear Kw1_t Kw1_r
    clear hb1
    go_wp2_with fail
    refine bodyPost_ret (v := rtv (0, 0, 1, true)) ?_ rfl ?_
    · have KR : Blk _ (w.heap.size + 1) #[.int .i64 0, .int .i64 0, .int .i64 1] := (blk_set (blk_set (blk_set Kw1_rH.out 0 (.int .i64 0)) 1 (.int .i64 0)) 2 (.int .i64 1))
      obtain ⟨r0, r1, r2, _, _, _⟩ := blk3 KR
      simp [results, Try.results19, go_sem, rtv, r0, r1, r2]
    · exact ⟨by rw [E.out], by (repeat' (first | exact Below.refl _ _ | refine bl_out ?_ (by assumption) | exact (Hid.out (by assumption)) | refine bl_alloc ?_ _ | refine bl_drewN ?_ _ | refine bl_drew ?_ | refine bl_set ?_ ?_ _ | omega | (simp; done) | (simp; omega)))⟩
  have TP := Lib.hid (th_parts H3.out hs)
  have E := Lib.hid (show thI a b c m n k = (if odd2 (a - b - k) = true then -(clebI a b c m n).1 else (clebI a b c m n).1, (ratDiv (clebI a b c m n).2.1 (clebI a b c m n).2.2.1 (c + 1) 1).1, (ratDiv (clebI a b c m n).2.1 (clebI a b c m n).2.2.1 (c + 1) 1).2.1, true) by simp [thI, H3.out, hs])
  have hs1 : (m + n + k == 0) = true := by simp [hs]
  have hs2 : (m + n + k != 0) = false := by simp [hs]
  clear hs
  go_enter Try.func19, Try.ntmps19
  go_wp2_with fail
  refine (i_Clebsch _ _ _ _ _ _).mono ?_
  rintro e w1 ⟨rfl, hb1⟩
  have Kw1_t : Blk w1 (w.heap.size) #[.int .i64 a, .int .i64 b, .int .i64 c] := blk_later hb1 (blk_alloc (blk_new (by simp)) (.cells #[.int .i64 0, .int .i64 0, .int .i64 0] 38))
  have Kw1_r : Blk w1 (w.heap.size + 1) #[.int .i64 0, .int .i64 0, .int .i64 0] := blk_later hb1 (blk_new (by simp))
  obtain ⟨w1_c0_t, w1_c1_t, w1_c2_t, w1_f0_t, w1_f1_t, w1_f2_t⟩ := blk3 Kw1_t
  have Kw1_tH := Lib.hid Kw1_t
  have w1_l_t := Kw1_t.lt
  have w1_m_t : w.heap.size < w1.heap.size + 1 := by omega
  obtain ⟨w1_c0_r, w1_c1_r, w1_c2_r, w1_f0_r, w1_f1_r, w1_f2_r⟩ := blk3 Kw1_r
  have Kw1_rH := Lib.hid Kw1_r
  have w1_l_r := Kw1_r.lt
  have w1_m_r : w.heap.size + 1 < w1.heap.size + 1 := by omega
  have w1z := hb1.size
  try simp at w1z
  have w1B := Lib.hid hb1
  clear Kw1_t Kw1_r
  clear hb1
  generalize hX : clebI a b c m n = XhX at *
  obtain ⟨S, N, D, o⟩ := XhX
  have HhX := Lib.hid hX
  clear hX
  simp only [rtv]
  obtain ⟨N2, D2, o2, hy⟩ := pair3 (ratDiv N D (c + 1) 1)
  simp only [hy] at TP E
  obtain ⟨rfl, rfl, s0, s1⟩ := TP.out
  have HY := Lib.hid hy
  have wrc : IntKind.i64.wrap (c + 1) = c + 1 := IntWalk.i64_in _ (by omega)
  clear hy
  go_upto_region 4 with fail
  have Kz2_t : Blk (w1.alloc (.cells #[.int .i64 S, .int .i64 N, .int .i64 D] 38)) (w.heap.size) #[.int .i64 a, .int .i64 b, .int .i64 c] := (blk_alloc Kw1_tH.out (.cells #[.int .i64 S, .int .i64 N, .int .i64 D] 38))
  have Kz2_r : Blk (w1.alloc (.cells #[.int .i64 S, .int .i64 N, .int .i64 D] 38)) (w.heap.size + 1) #[.int .i64 0, .int .i64 0, .int .i64 0] := (blk_alloc Kw1_rH.out (.cells #[.int .i64 S, .int .i64 N, .int .i64 D] 38))
  have Kz2_x : Blk (w1.alloc (.cells #[.int .i64 S, .int .i64 N, .int .i64 D] 38)) (w1.heap.size) #[.int .i64 S, .int .i64 N, .int .i64 D] := (blk_new (by simp))
  have Bz2 : Below w.heap.size w (w1.alloc (.cells #[.int .i64 S, .int .i64 N, .int .i64 D] 38)) := by (repeat' (first | exact Below.refl _ _ | refine bl_out ?_ (by assumption) | exact (Hid.out (by assumption)) | refine bl_alloc ?_ _ | refine bl_drewN ?_ _ | refine bl_drew ?_ | refine bl_set ?_ ?_ _ | omega | (simp; done) | (simp; omega)))
  have Sz2 : (w1.alloc (.cells #[.int .i64 S, .int .i64 N, .int .i64 D] 38)).heap.size = w1.heap.size + 1 := by simp
  generalize (w1.alloc (.cells #[.int .i64 S, .int .i64 N, .int .i64 D] 38)) = z2 at *
  have Sz2a := Nat.le_of_eq Sz2
  have Sz2b := Nat.le_of_eq Sz2.symm
  clear Sz2
  obtain ⟨z2_c0_t, z2_c1_t, z2_c2_t, z2_f0_t, z2_f1_t, z2_f2_t⟩ := blk3 Kz2_t
  have Kz2_tH := Lib.hid Kz2_t
  have z2_l_t := Kz2_t.lt
  obtain ⟨z2_c0_r, z2_c1_r, z2_c2_r, z2_f0_r, z2_f1_r, z2_f2_r⟩ := blk3 Kz2_r
  have Kz2_rH := Lib.hid Kz2_r
  have z2_l_r := Kz2_r.lt
  obtain ⟨z2_c0_x, z2_c1_x, z2_c2_x, z2_f0_x, z2_f1_x, z2_f2_x⟩ := blk3 Kz2_x
  have Kz2_xH := Lib.hid Kz2_x
  have z2_l_x := Kz2_x.lt
  have z2B := Lib.hid Bz2
  clear Bz2
  clear Kz2_t Kz2_r Kz2_x
  go_cut [12, 13] (CutBlk z2 #[.int .i64 N2, .int .i64 D2] true)
  case first =>
    go_region_held3 (fun w' => Below z2.heap.size z2 w' ∧ w'.cell? ⟨w1.heap.size, 0, none⟩ = some (.int .i64 S) ∧ w'.cell? ⟨w1.heap.size, 1, none⟩ = some (.int .i64 N) ∧ w'.cell? ⟨w1.heap.size, 2, none⟩ = some (.int .i64 D) ∧ w'.cell? ⟨w.heap.size, 0, none⟩ = some (.int .i64 a) ∧ w'.cell? ⟨w.heap.size, 1, none⟩ = some (.int .i64 b) ∧ w'.cell? ⟨w.heap.size, 2, none⟩ = some (.int .i64 c)) ((refine and_keep ?_ (fun hB => ⟨held_cell hB z2_c0_x z2_l_x, held_cell hB z2_c1_x z2_l_x, held_cell hB z2_c2_x z2_l_x, held_cell hB z2_c0_t z2_l_t, held_cell hB z2_c1_t z2_l_t, held_cell hB z2_c2_t z2_l_t⟩); (repeat' (first | with_reducible exact Below.refl _ _ | with_reducible refine bl_alloc ?_ _ | with_reducible refine bl_set ?_ ?_ _ | exact (Below.refl _ _).drew | with_reducible refine bl_drew ?_ | with_reducible refine btr ?_ hbB | with_reducible refine btr ?_ hbA | omega | (simp; done) | (simp; omega))))) (first | (go_at_call 16; refine (i_whole _ _).mono ?_; rintro e wA ⟨rfl, hbA⟩; obtain ⟨hcA, hfA⟩ := bcell hbA; have hzA : z2.heap.size ≤ wA.heap.size := (by first | exact hbA.size | exact Nat.le_trans hzA hbA.size | (have h0 := hbA.size; simp at h0; omega)); (try (have hyA : z2.heap.size < wA.heap.size := by (have h0 := hbA.size; simp at h0; omega)))) | (go_at_call 36; refine (i_RatDiv2 _ _ _ _ _ _ _ _ HY).mono ?_; rintro e wB ⟨rfl, hbB⟩; obtain ⟨hcB, hfB⟩ := bcell hbB; have hzB : z2.heap.size ≤ wB.heap.size := (by first | exact hbB.size | exact Nat.le_trans hzA hbB.size | (have h0 := hbB.size; simp at h0; omega)); (try (have hyB : z2.heap.size < wB.heap.size := by (have h0 := hbB.size; simp at h0; omega)))))
    all_goals
      go_wp2_with fail
      go_meet
      exact ⟨_, rfl, rfl, by (first | omega | (simp; omega)), by (repeat' (first | exact blk_new (by simp) | with_reducible refine blk_store2 (x := .int .i64 0) (y := .int .i64 0) ?_ | with_reducible refine blk_store3 (x := .int .i64 0) (y := .int .i64 0) (z := .int .i64 0) ?_ | with_reducible refine blk_drew ?_ | with_reducible refine blk_later hbB ?_ | with_reducible refine blk_later hbA ?_)), by (repeat' (first | with_reducible exact Below.refl _ _ | with_reducible refine bl_alloc ?_ _ | with_reducible refine bl_set ?_ ?_ _ | exact (Below.refl _ _).drew | with_reducible refine bl_drew ?_ | with_reducible refine btr ?_ hbB | with_reducible refine btr ?_ hbA | omega | (simp; done) | (simp; omega)))⟩
  case rest =>
    obtain ⟨g3, rfl, rfl, g3z, Kg3, hb3⟩ := hcut
    obtain ⟨w3, rfl⟩ : ∃ x, x = wc := ⟨_, rfl⟩
    have Kw3_t : Blk w3 (w.heap.size) #[.int .i64 a, .int .i64 b, .int .i64 c] := blk_later hb3 Kz2_tH.out
    have Kw3_r : Blk w3 (w.heap.size + 1) #[.int .i64 0, .int .i64 0, .int .i64 0] := blk_later hb3 Kz2_rH.out
    have Kw3_x : Blk w3 (w1.heap.size) #[.int .i64 S, .int .i64 N, .int .i64 D] := blk_later hb3 Kz2_xH.out
    obtain ⟨w3_c0_t, w3_c1_t, w3_c2_t, w3_f0_t, w3_f1_t, w3_f2_t⟩ := blk3 Kw3_t
    have Kw3_tH := Lib.hid Kw3_t
    have w3_l_t := Kw3_t.lt
    have w3_m_t : w.heap.size < w3.heap.size + 1 := by omega
    obtain ⟨w3_c0_r, w3_c1_r, w3_c2_r, w3_f0_r, w3_f1_r, w3_f2_r⟩ := blk3 Kw3_r
    have Kw3_rH := Lib.hid Kw3_r
    have w3_l_r := Kw3_r.lt
    have w3_m_r : w.heap.size + 1 < w3.heap.size + 1 := by omega
    obtain ⟨w3_c0_x, w3_c1_x, w3_c2_x, w3_f0_x, w3_f1_x, w3_f2_x⟩ := blk3 Kw3_x
    have Kw3_xH := Lib.hid Kw3_x
    have w3_l_x := Kw3_x.lt
    have w3_m_x : w1.heap.size < w3.heap.size + 1 := by omega
    have w3z := hb3.size
    try simp at w3z
    have w3B := Lib.hid hb3
    clear Kw3_t Kw3_r Kw3_x
    clear hb3
    obtain ⟨w3_c0_y, w3_c1_y, w3_f0_y, w3_f1_y⟩ := blk2 Kg3
    have Kg3H := Lib.hid Kg3
    have w3_l_y := Kg3.lt
    clear Kg3
    clear wrc
    cases ho : odd2 (a - b - k)
    · obtain ⟨od1, od2⟩ := odd2_no ho
      simp only [ho] at E
      go_wp2_with fail
      refine (i_times1 _ _ _ _ (by omega) (by omega)).mono ?_
      rintro e w4 ⟨rfl, hb4⟩
      have Kw4_r : Blk w4 (w.heap.size + 1) #[.int .i64 0, .int .i64 0, .int .i64 0] := blk_later hb4 Kw3_rH.out
      obtain ⟨w4_c0_r, w4_c1_r, w4_c2_r, w4_f0_r, w4_f1_r, w4_f2_r⟩ := blk3 Kw4_r
      have Kw4_rH := Lib.hid Kw4_r
      have w4_l_r := Kw4_r.lt
      have w4_m_r : w.heap.size + 1 < w4.heap.size + 1 := by omega
      have w4z := hb4.size
      try simp at w4z
      have w4B := Lib.hid hb4
      clear Kw4_r
      clear hb4
      go_wp2_with fail
      refine bodyPost_ret (v := rtv (S, N2, D2, true)) ?_ rfl ?_
      · have KR : Blk _ (w.heap.size + 1) #[.int .i64 S, .int .i64 N2, .int .i64 D2] := (blk_set (blk_set (blk_set Kw4_rH.out 0 (.int .i64 S)) 1 (.int .i64 N2)) 2 (.int .i64 D2))
        obtain ⟨r0, r1, r2, _, _, _⟩ := blk3 KR
        simp [results, Try.results19, go_sem, rtv, r0, r1, r2]
      · exact ⟨by rw [E.out]; simp, by (repeat' (first | exact Below.refl _ _ | refine bl_out ?_ (by assumption) | exact (Hid.out (by assumption)) | refine bl_alloc ?_ _ | refine bl_drewN ?_ _ | refine bl_drew ?_ | refine bl_set ?_ ?_ _ | omega | (simp; done) | (simp; omega)))⟩
    · obtain ⟨od1, od2⟩ := odd2_yes ho
      simp only [ho] at E
      go_wp2_with fail
      refine (i_timesN _ _ _ _ (by omega) (by omega)).mono ?_
      rintro e w4 ⟨rfl, hb4⟩
      have Kw4_r : Blk w4 (w.heap.size + 1) #[.int .i64 0, .int .i64 0, .int .i64 0] := blk_later hb4 Kw3_rH.out
      obtain ⟨w4_c0_r, w4_c1_r, w4_c2_r, w4_f0_r, w4_f1_r, w4_f2_r⟩ := blk3 Kw4_r
      have Kw4_rH := Lib.hid Kw4_r
      have w4_l_r := Kw4_r.lt
      have w4_m_r : w.heap.size + 1 < w4.heap.size + 1 := by omega
      have w4z := hb4.size
      try simp at w4z
      have w4B := Lib.hid hb4
      clear Kw4_r
      clear hb4
      go_wp2_with fail
      refine bodyPost_ret (v := rtv ((-S), N2, D2, true)) ?_ rfl ?_
      · have KR : Blk _ (w.heap.size + 1) #[.int .i64 (-S), .int .i64 N2, .int .i64 D2] := (blk_set (blk_set (blk_set Kw4_rH.out 0 (.int .i64 (-S))) 1 (.int .i64 N2)) 2 (.int .i64 D2))
        obtain ⟨r0, r1, r2, _, _, _⟩ := blk3 KR
        simp [results, Try.results19, go_sem, rtv, r0, r1, r2]
      · exact ⟨by rw [E.out]; simp, by (repeat' (first | exact Below.refl _ _ | refine bl_out ?_ (by assumption) | exact (Hid.out (by assumption)) | refine bl_alloc ?_ _ | refine bl_drewN ?_ _ | refine bl_drew ?_ | refine bl_set ?_ ?_ _ | omega | (simp; done) | (simp; omega)))⟩

end Go.Proofs.Ytdhmjmnpaigagaa
