/- Contracts of RootOf, of the program and of the reference. -/
import Derived.Test.YtdhmjmnpaigagaaQ
import Derived.Test.YtdhmjmnpaigagaaPk
import Derived.Deep.RegionWith
import Derived.Deep.RegionHeld3
namespace Go.Proofs.Ytdhmjmnpaigagaa
open Go.RowKit
set_option linter.unusedVariables false

def cmpI (a b : Int) : Int := if a < b then -1 else if b < a then 1 else 0
theorem cmpI_zero (n : Int) : cmpI n 0 = sgnI n := rfl

def RRoot (w : World) (x : Int × Int × Int × Bool) (e : Ending) (w' : World) : Prop := e = .returned (rtv x) ∧ Below w.heap.size w w'

set_option maxHeartbeats 400000 in
theorem s_l4Sign (n : Int) (w : World) :
    Calls Try.prog 53 #[.int .i64 n] w fun e w' => e = .returned (.int .i64 (sgnI n)) ∧ w = w' := by
  go_enter Try.func53, Try.ntmps53
  go_wp2
  all_goals go_ret
  all_goals exact ⟨ret_int (by unfold sgnI; split <;> (try split) <;> omega), rfl⟩

set_option maxHeartbeats 400000 in
theorem c_isNaN (a : Int) (w : World) :
    Calls Try.prog 56 #[.int .i64 a] w fun e w' => e = .returned (.bool false) ∧ w = w' := by
  go_enter Try.func56, Try.ntmps56
  go_wp2
  all_goals go_ret
  all_goals exact ⟨ret_bool (by simp), rfl⟩

set_option maxHeartbeats 400000 in
theorem c_Compare (a b : Int) (w : World) :
    Calls Try.prog 54 #[.int .i64 a, .int .i64 b] w fun e w' => e = .returned (.int .i64 (cmpI a b)) ∧ w = w' := by
  by_cases h1 : a < b
  · have E := Lib.hid (show cmpI a b = -1 by simp [cmpI, h1])
    go_enter Try.func54, Try.ntmps54
    go_wp2_with (go_at_call 56; refine (c_isNaN _ _).mono ?_; rintro e w' ⟨rfl, rfl⟩)
    go_ret
    exact ⟨ret_int (by rw [E.out]), rfl⟩
  by_cases h2 : b < a
  · have E := Lib.hid (show cmpI a b = 1 by simp [cmpI, h1, h2])
    go_enter Try.func54, Try.ntmps54
    go_wp2_with (go_at_call 56; refine (c_isNaN _ _).mono ?_; rintro e w' ⟨rfl, rfl⟩)
    go_ret
    exact ⟨ret_int (by rw [E.out]), rfl⟩
  · have E := Lib.hid (show cmpI a b = 0 by simp [cmpI, h1, h2])
    go_enter Try.func54, Try.ntmps54
    go_wp2_with (go_at_call 56; refine (c_isNaN _ _).mono ?_; rintro e w' ⟨rfl, rfl⟩)
    go_ret
    exact ⟨ret_int (by rw [E.out]), rfl⟩

theorem root_sq {n num : Int} (h1 : -1000000000 ≤ n) (h2 : n ≤ 1000000000) (hn : n ≠ 0) (hq : num ≤ 4000000000000000000 / (n * n)) (h0 : 1 ≤ num) :
    (1 ≤ n * n ∧ n * n ≤ 1000000000000000000) ∧ (0 ≤ n * n * num ∧ n * n * num ≤ 4000000000000000000) := by
  have b := mul_bd (A := 1000000000) (B := 1000000000) h1 h2 h1 h2
  have p : 0 < n * n := by
    rcases Int.lt_or_gt_of_ne hn with h | h
    · exact Int.mul_pos_of_neg_of_neg h h
    · exact Int.mul_pos h h
  refine ⟨⟨by omega, by omega⟩, Int.mul_nonneg (by omega) (by omega), ?_⟩
  have := Int.mul_le_mul_of_nonneg_left hq (show 0 ≤ n * n by omega)
  exact Int.le_trans this (Int.mul_ediv_self_le (by omega))

set_option maxHeartbeats 1000000 in
theorem i_RootOf (n num den : Int) (w : World) :
    Calls Try.prog 49 #[.int .i64 n, .int .i64 num, .int .i64 den] w (RRoot w (rootOf n num den)) := by
  by_cases hr : (-1000000000 ≤ n ∧ n ≤ 1000000000) ∧ (1 ≤ num ∧ num ≤ 4000000000000000000) ∧ (1 ≤ den ∧ den ≤ 4000000000000000000)
  case neg =>
    have E := Lib.hid (show rootOf n num den = (0, 0, 0, false) by
      have : rootG n num den = false := by
        cases h : rootG n num den
        · rfl
        · exfalso; apply hr; simp [rootG, inB] at h; omega
      simp [rootOf, this])
    rcases (by omega : n < -1000000000 ∨ (-1000000000 ≤ n ∧ 1000000000 < n) ∨ (-1000000000 ≤ n ∧ n ≤ 1000000000 ∧ num < 1) ∨ (-1000000000 ≤ n ∧ n ≤ 1000000000 ∧ 1 ≤ num ∧ 4000000000000000000 < num) ∨ (-1000000000 ≤ n ∧ n ≤ 1000000000 ∧ 1 ≤ num ∧ num ≤ 4000000000000000000 ∧ den < 1) ∨ (-1000000000 ≤ n ∧ n ≤ 1000000000 ∧ 1 ≤ num ∧ num ≤ 4000000000000000000 ∧ 1 ≤ den ∧ 4000000000000000000 < den)) with h | h | h | h | h | h
    all_goals
      clear hr
      go_enter Try.func49, Try.ntmps49
      go_wp2_with fail
      refine bodyPost_ret (v := rtv (0, 0, 0, false)) (by simp [results, Try.results49, go_sem, rtv]) rfl ⟨by rw [E.out], by (repeat' (first | exact Below.refl _ _ | refine bl_out ?_ (by assumption) | exact (Hid.out (by assumption)) | refine bl_alloc ?_ _ | refine bl_drewN ?_ _ | refine bl_drew ?_ | refine bl_set ?_ ?_ _ | omega | (simp; done) | (simp; omega)))⟩
  obtain ⟨⟨n0, n1⟩, ⟨u0, u1⟩, d0, d1⟩ := hr
  by_cases hz : n = 0
  · subst hz
    have E := Lib.hid (show rootOf 0 num den = if (ratOf 0 den).2.2 = true then (0, (ratOf 0 den).1, (ratOf 0 den).2.1, true) else (0, 0, 0, false) by simp [rootOf, rootG, inB, u0, u1, d0, d1, sgnI])
    go_enter Try.func49, Try.ntmps49
    go_wp2_with fail
    refine (i_RatOf _ _ _).mono ?_
    rintro e w1 ⟨rfl, hb1⟩
    have Kw1_r : Blk w1 (w.heap.size) #[.int .i64 0, .int .i64 0, .int .i64 0] := blk_later hb1 (blk_new (by simp))
    obtain ⟨w1_c0_r, w1_c1_r, w1_c2_r, w1_f0_r, w1_f1_r, w1_f2_r⟩ := blk3 Kw1_r
    have Kw1_rH := Lib.hid Kw1_r
    have w1_l_r := Kw1_r.lt
    have w1_m_r : w.heap.size < w1.heap.size + 1 := by omega
    have w1z := hb1.size
    try simp at w1z
    have w1B := Lib.hid hb1
    clear Kw1_r
    clear hb1
    generalize hX : ratOf (0) den = X at *
    obtain ⟨N, D, o⟩ := X
    have HX := Lib.hid hX
    clear hX
    simp only [rv]
    cases o
    · obtain ⟨rfl, rfl⟩ := ratOf_no2 HX.out
      go_wp2_with fail
      refine bodyPost_ret (v := rtv (0, 0, 0, false)) ?_ rfl ?_
      · have KR : Blk _ (w.heap.size) #[.int .i64 0, .int .i64 0, .int .i64 0] := (blk_alloc (blk_set (blk_set (blk_set Kw1_rH.out 0 (.int .i64 0)) 1 (.int .i64 0)) 2 (.int .i64 0)) (.cells #[.int .i64 0, .int .i64 0] 23))
        obtain ⟨r0, r1, r2, _, _, _⟩ := blk3 KR
        simp [results, Try.results49, go_sem, rtv, r0, r1, r2]
      · exact ⟨by rw [E.out]; rfl, by (repeat' (first | exact Below.refl _ _ | refine bl_out ?_ (by assumption) | exact (Hid.out (by assumption)) | refine bl_alloc ?_ _ | refine bl_drewN ?_ _ | refine bl_drew ?_ | refine bl_set ?_ ?_ _ | omega | (simp; done) | (simp; omega)))⟩
    go_wp2_with fail
    have Kz2_r : Blk (w1.alloc (.cells #[.int .i64 N, .int .i64 D] 23)) (w.heap.size) #[.int .i64 0, .int .i64 0, .int .i64 0] := (blk_alloc Kw1_rH.out (.cells #[.int .i64 N, .int .i64 D] 23))
    have Kz2_x : Blk (w1.alloc (.cells #[.int .i64 N, .int .i64 D] 23)) (w1.heap.size) #[.int .i64 N, .int .i64 D] := (blk_new (by simp))
    have Bz2 : Below w.heap.size w (w1.alloc (.cells #[.int .i64 N, .int .i64 D] 23)) := by (repeat' (first | exact Below.refl _ _ | refine bl_out ?_ (by assumption) | exact (Hid.out (by assumption)) | refine bl_alloc ?_ _ | refine bl_drewN ?_ _ | refine bl_drew ?_ | refine bl_set ?_ ?_ _ | omega | (simp; done) | (simp; omega)))
    have Sz2 : (w1.alloc (.cells #[.int .i64 N, .int .i64 D] 23)).heap.size = w1.heap.size + 1 := by simp
    generalize (w1.alloc (.cells #[.int .i64 N, .int .i64 D] 23)) = z2 at *
    have Sz2a := Nat.le_of_eq Sz2
    have Sz2b := Nat.le_of_eq Sz2.symm
    clear Sz2
    obtain ⟨z2_c0_r, z2_c1_r, z2_c2_r, z2_f0_r, z2_f1_r, z2_f2_r⟩ := blk3 Kz2_r
    have Kz2_rH := Lib.hid Kz2_r
    have z2_l_r := Kz2_r.lt
    obtain ⟨z2_c0_x, z2_c1_x, z2_f0_x, z2_f1_x⟩ := blk2 Kz2_x
    have Kz2_xH := Lib.hid Kz2_x
    have z2_l_x := Kz2_x.lt
    have z2B := Lib.hid Bz2
    clear Bz2
    clear Kz2_r Kz2_x
    have ne_x_r : w1.heap.size ≠ w.heap.size := by omega
    have ne_r_x : w.heap.size ≠ w1.heap.size := by omega
    go_region_held3 (fun w' => w'.cell? ⟨w1.heap.size, 0, none⟩ = some (.int .i64 N) ∧ w'.cell? ⟨w1.heap.size, 1, none⟩ = some (.int .i64 D)) (go_keep) (first | (go_at_call 54; refine (c_Compare _ _ _).mono ?_; rintro e w' ⟨rfl, rfl⟩))
    go_wp2_with fail
    refine bodyPost_ret (v := rtv (cmpI 0 0, N, D, true)) ?_ rfl ?_
    · have KR : Blk _ (w.heap.size) #[.int .i64 (cmpI 0 0), .int .i64 N, .int .i64 D] := (blk_drew (blk_set (blk_set (blk_set Kz2_rH.out 0 (.int .i64 (cmpI 0 0))) 1 (.int .i64 N)) 2 (.int .i64 D)))
      obtain ⟨r0, r1, r2, _, _, _⟩ := blk3 KR
      simp [results, Try.results49, go_sem, rtv, r0, r1, r2]
    · exact ⟨by rw [E.out]; rfl, by (repeat' (first | exact Below.refl _ _ | refine bl_out ?_ (by assumption) | exact (Hid.out (by assumption)) | refine bl_alloc ?_ _ | refine bl_drewN ?_ _ | refine bl_drew ?_ | refine bl_set ?_ ?_ _ | omega | (simp; done) | (simp; omega)))⟩
  have hz1 : (n == 0) = false := by simp [hz]
  have hz2 : (n != 0) = true := by simp [hz]
  by_cases hq : 4000000000000000000 / (n * n) < num
  · have E := Lib.hid (show rootOf n num den = (0, 0, 0, false) by
      have : rootG n num den = false := by simp [rootG, hz]; omega
      simp [rootOf, this])
    have b := mul_bd (A := 1000000000) (B := 1000000000) n0 n1 n0 n1
    have p : 0 < n * n := by
      rcases Int.lt_or_gt_of_ne hz with h | h
      · exact Int.mul_pos_of_neg_of_neg h h
      · exact Int.mul_pos h h
    clear hz
    go_enter Try.func49, Try.ntmps49
    go_wp2_with fail
    refine bodyPost_ret (v := rtv (0, 0, 0, false)) (by simp [results, Try.results49, go_sem, rtv]) rfl ⟨by rw [E.out], by (repeat' (first | exact Below.refl _ _ | refine bl_out ?_ (by assumption) | exact (Hid.out (by assumption)) | refine bl_alloc ?_ _ | refine bl_drewN ?_ _ | refine bl_drew ?_ | refine bl_set ?_ ?_ _ | omega | (simp; done) | (simp; omega)))⟩
  obtain ⟨⟨p1, p2⟩, p3, p4⟩ := root_sq n0 n1 hz (Int.not_lt.1 hq) u0
  have E := Lib.hid (show rootOf n num den = if (ratOf (n * n * num) den).2.2 = true then (sgnI n, (ratOf (n * n * num) den).1, (ratOf (n * n * num) den).2.1, true) else (0, 0, 0, false) by
    have : rootG n num den = true := by simp [rootG, inB, n0, n1, u0, u1, d0, d1, Int.not_lt.1 hq]
    simp [rootOf, this])
  clear hz
  go_enter Try.func49, Try.ntmps49
  go_wp2_with fail
  refine (i_RatOf _ _ _).mono ?_
  rintro e w1 ⟨rfl, hb1⟩
  have Kw1_r : Blk w1 (w.heap.size) #[.int .i64 0, .int .i64 0, .int .i64 0] := blk_later hb1 (blk_new (by simp))
  obtain ⟨w1_c0_r, w1_c1_r, w1_c2_r, w1_f0_r, w1_f1_r, w1_f2_r⟩ := blk3 Kw1_r
  have Kw1_rH := Lib.hid Kw1_r
  have w1_l_r := Kw1_r.lt
  have w1_m_r : w.heap.size < w1.heap.size + 1 := by omega
  have w1z := hb1.size
  try simp at w1z
  have w1B := Lib.hid hb1
  clear Kw1_r
  clear hb1
  generalize hX : ratOf (n * n * num) den = X at *
  obtain ⟨N, D, o⟩ := X
  have HX := Lib.hid hX
  clear hX
  simp only [rv]
  cases o
  · obtain ⟨rfl, rfl⟩ := ratOf_no2 HX.out
    go_wp2_with fail
    refine bodyPost_ret (v := rtv (0, 0, 0, false)) ?_ rfl ?_
    · have KR : Blk _ (w.heap.size) #[.int .i64 0, .int .i64 0, .int .i64 0] := (blk_alloc (blk_set (blk_set (blk_set Kw1_rH.out 0 (.int .i64 0)) 1 (.int .i64 0)) 2 (.int .i64 0)) (.cells #[.int .i64 0, .int .i64 0] 23))
      obtain ⟨r0, r1, r2, _, _, _⟩ := blk3 KR
      simp [results, Try.results49, go_sem, rtv, r0, r1, r2]
    · exact ⟨by rw [E.out]; rfl, by (repeat' (first | exact Below.refl _ _ | refine bl_out ?_ (by assumption) | exact (Hid.out (by assumption)) | refine bl_alloc ?_ _ | refine bl_drewN ?_ _ | refine bl_drew ?_ | refine bl_set ?_ ?_ _ | omega | (simp; done) | (simp; omega)))⟩
  go_wp2_with fail
  have Kz2_r : Blk (w1.alloc (.cells #[.int .i64 N, .int .i64 D] 23)) (w.heap.size) #[.int .i64 0, .int .i64 0, .int .i64 0] := (blk_alloc Kw1_rH.out (.cells #[.int .i64 N, .int .i64 D] 23))
  have Kz2_x : Blk (w1.alloc (.cells #[.int .i64 N, .int .i64 D] 23)) (w1.heap.size) #[.int .i64 N, .int .i64 D] := (blk_new (by simp))
  have Bz2 : Below w.heap.size w (w1.alloc (.cells #[.int .i64 N, .int .i64 D] 23)) := by (repeat' (first | exact Below.refl _ _ | refine bl_out ?_ (by assumption) | exact (Hid.out (by assumption)) | refine bl_alloc ?_ _ | refine bl_drewN ?_ _ | refine bl_drew ?_ | refine bl_set ?_ ?_ _ | omega | (simp; done) | (simp; omega)))
  have Sz2 : (w1.alloc (.cells #[.int .i64 N, .int .i64 D] 23)).heap.size = w1.heap.size + 1 := by simp
  generalize (w1.alloc (.cells #[.int .i64 N, .int .i64 D] 23)) = z2 at *
  have Sz2a := Nat.le_of_eq Sz2
  have Sz2b := Nat.le_of_eq Sz2.symm
  clear Sz2
  obtain ⟨z2_c0_r, z2_c1_r, z2_c2_r, z2_f0_r, z2_f1_r, z2_f2_r⟩ := blk3 Kz2_r
  have Kz2_rH := Lib.hid Kz2_r
  have z2_l_r := Kz2_r.lt
  obtain ⟨z2_c0_x, z2_c1_x, z2_f0_x, z2_f1_x⟩ := blk2 Kz2_x
  have Kz2_xH := Lib.hid Kz2_x
  have z2_l_x := Kz2_x.lt
  have z2B := Lib.hid Bz2
  clear Bz2
  clear Kz2_r Kz2_x
  have ne_x_r : w1.heap.size ≠ w.heap.size := by omega
  have ne_r_x : w.heap.size ≠ w1.heap.size := by omega
  go_region_held3 (fun w' => w'.cell? ⟨w1.heap.size, 0, none⟩ = some (.int .i64 N) ∧ w'.cell? ⟨w1.heap.size, 1, none⟩ = some (.int .i64 D)) (go_keep) (first | (go_at_call 54; refine (c_Compare _ _ _).mono ?_; rintro e w' ⟨rfl, rfl⟩))
  go_wp2_with fail
  refine bodyPost_ret (v := rtv (cmpI n 0, N, D, true)) ?_ rfl ?_
  · have KR : Blk _ (w.heap.size) #[.int .i64 (cmpI n 0), .int .i64 N, .int .i64 D] := (blk_drew (blk_set (blk_set (blk_set Kz2_rH.out 0 (.int .i64 (cmpI n 0))) 1 (.int .i64 N)) 2 (.int .i64 D)))
    obtain ⟨r0, r1, r2, _, _, _⟩ := blk3 KR
    simp [results, Try.results49, go_sem, rtv, r0, r1, r2]
  · exact ⟨by rw [E.out]; rfl, by (repeat' (first | exact Below.refl _ _ | refine bl_out ?_ (by assumption) | exact (Hid.out (by assumption)) | refine bl_alloc ?_ _ | refine bl_drewN ?_ _ | refine bl_drew ?_ | refine bl_set ?_ ?_ _ | omega | (simp; done) | (simp; omega)))⟩

set_option maxHeartbeats 1000000 in
theorem s_RootOf (n num den : Int) (w : World) :
    Calls Try.prog 43 #[.int .i64 n, .int .i64 num, .int .i64 den] w (RRoot w (rootOf n num den)) := by
  cases hn : inB n (-1000000000) 1000000000
  · have E := Lib.hid (show rootOf n num den = (0, 0, 0, false) by simp [rootOf, rootG, hn])
    go_enter Try.func43, Try.ntmps43
    go_wp2_with (go_at_call 23; refine (s_l6In _ _ _ _).mono ?_; rintro e w' ⟨rfl, rfl⟩)
    refine bodyPost_ret (v := rtv (0, 0, 0, false)) (by simp [results, Try.results43, go_sem, rtv]) rfl ⟨by rw [E.out], by (repeat' (first | exact Below.refl _ _ | refine bl_out ?_ (by assumption) | exact (Hid.out (by assumption)) | refine bl_alloc ?_ _ | refine bl_drewN ?_ _ | refine bl_drew ?_ | refine bl_set ?_ ?_ _ | omega | (simp; done) | (simp; omega)))⟩
  cases hu : inB num 1 4000000000000000000
  · have E := Lib.hid (show rootOf n num den = (0, 0, 0, false) by simp [rootOf, rootG, hu])
    go_enter Try.func43, Try.ntmps43
    go_wp2_with (go_at_call 23; refine (s_l6In _ _ _ _).mono ?_; rintro e w' ⟨rfl, rfl⟩)
    refine bodyPost_ret (v := rtv (0, 0, 0, false)) (by simp [results, Try.results43, go_sem, rtv]) rfl ⟨by rw [E.out], by (repeat' (first | exact Below.refl _ _ | refine bl_out ?_ (by assumption) | exact (Hid.out (by assumption)) | refine bl_alloc ?_ _ | refine bl_drewN ?_ _ | refine bl_drew ?_ | refine bl_set ?_ ?_ _ | omega | (simp; done) | (simp; omega)))⟩
  cases hd : inB den 1 4000000000000000000
  · have E := Lib.hid (show rootOf n num den = (0, 0, 0, false) by simp [rootOf, rootG, hd])
    go_enter Try.func43, Try.ntmps43
    go_wp2_with (go_at_call 23; refine (s_l6In _ _ _ _).mono ?_; rintro e w' ⟨rfl, rfl⟩)
    refine bodyPost_ret (v := rtv (0, 0, 0, false)) (by simp [results, Try.results43, go_sem, rtv]) rfl ⟨by rw [E.out], by (repeat' (first | exact Below.refl _ _ | refine bl_out ?_ (by assumption) | exact (Hid.out (by assumption)) | refine bl_alloc ?_ _ | refine bl_drewN ?_ _ | refine bl_drew ?_ | refine bl_set ?_ ?_ _ | omega | (simp; done) | (simp; omega)))⟩
  obtain ⟨n0, n1⟩ := inB_iff.1 hn
  obtain ⟨u0, u1⟩ := inB_iff.1 hu
  obtain ⟨d0, d1⟩ := inB_iff.1 hd
  by_cases hz : n = 0
  · subst hz
    have E := Lib.hid (show rootOf 0 num den = if (ratOf 0 den).2.2 = true then (0, (ratOf 0 den).1, (ratOf 0 den).2.1, true) else (0, 0, 0, false) by simp [rootOf, rootG, inB, u0, u1, d0, d1, sgnI])
    go_enter Try.func43, Try.ntmps43
    go_wp2_with (go_at_call 23; refine (s_l6In _ _ _ _).mono ?_; rintro e w' ⟨rfl, rfl⟩)
    refine (s_RatOf _ _ _).mono ?_
    rintro e w1 ⟨rfl, hb1⟩
    have Kw1_r : Blk w1 (w.heap.size) #[.int .i64 0, .int .i64 0, .int .i64 0] := blk_later hb1 (blk_new (by simp))
    obtain ⟨w1_c0_r, w1_c1_r, w1_c2_r, w1_f0_r, w1_f1_r, w1_f2_r⟩ := blk3 Kw1_r
    have Kw1_rH := Lib.hid Kw1_r
    have w1_l_r := Kw1_r.lt
    have w1_m_r : w.heap.size < w1.heap.size + 1 := by omega
    have w1z := hb1.size
    try simp at w1z
    have w1B := Lib.hid hb1
    clear Kw1_r
    clear hb1
    generalize hX : ratOf (0) den = X at *
    obtain ⟨N, D, o⟩ := X
    have HX := Lib.hid hX
    clear hX
    simp only [rv]
    cases o
    · obtain ⟨rfl, rfl⟩ := ratOf_no2 HX.out
      go_wp2_with fail
      refine bodyPost_ret (v := rtv (0, 0, 0, false)) ?_ rfl ?_
      · have KR : Blk _ (w.heap.size) #[.int .i64 0, .int .i64 0, .int .i64 0] := (blk_alloc (blk_set (blk_set (blk_set Kw1_rH.out 0 (.int .i64 0)) 1 (.int .i64 0)) 2 (.int .i64 0)) (.cells #[.int .i64 0, .int .i64 0] 23))
        obtain ⟨r0, r1, r2, _, _, _⟩ := blk3 KR
        simp [results, Try.results43, go_sem, rtv, r0, r1, r2]
      · exact ⟨by rw [E.out]; rfl, by (repeat' (first | exact Below.refl _ _ | refine bl_out ?_ (by assumption) | exact (Hid.out (by assumption)) | refine bl_alloc ?_ _ | refine bl_drewN ?_ _ | refine bl_drew ?_ | refine bl_set ?_ ?_ _ | omega | (simp; done) | (simp; omega)))⟩
    go_wp2_with fail
    have Kz2_r : Blk (w1.alloc (.cells #[.int .i64 N, .int .i64 D] 23)) (w.heap.size) #[.int .i64 0, .int .i64 0, .int .i64 0] := (blk_alloc Kw1_rH.out (.cells #[.int .i64 N, .int .i64 D] 23))
    have Kz2_x : Blk (w1.alloc (.cells #[.int .i64 N, .int .i64 D] 23)) (w1.heap.size) #[.int .i64 N, .int .i64 D] := (blk_new (by simp))
    have Bz2 : Below w.heap.size w (w1.alloc (.cells #[.int .i64 N, .int .i64 D] 23)) := by (repeat' (first | exact Below.refl _ _ | refine bl_out ?_ (by assumption) | exact (Hid.out (by assumption)) | refine bl_alloc ?_ _ | refine bl_drewN ?_ _ | refine bl_drew ?_ | refine bl_set ?_ ?_ _ | omega | (simp; done) | (simp; omega)))
    have Sz2 : (w1.alloc (.cells #[.int .i64 N, .int .i64 D] 23)).heap.size = w1.heap.size + 1 := by simp
    generalize (w1.alloc (.cells #[.int .i64 N, .int .i64 D] 23)) = z2 at *
    have Sz2a := Nat.le_of_eq Sz2
    have Sz2b := Nat.le_of_eq Sz2.symm
    clear Sz2
    obtain ⟨z2_c0_r, z2_c1_r, z2_c2_r, z2_f0_r, z2_f1_r, z2_f2_r⟩ := blk3 Kz2_r
    have Kz2_rH := Lib.hid Kz2_r
    have z2_l_r := Kz2_r.lt
    obtain ⟨z2_c0_x, z2_c1_x, z2_f0_x, z2_f1_x⟩ := blk2 Kz2_x
    have Kz2_xH := Lib.hid Kz2_x
    have z2_l_x := Kz2_x.lt
    have z2B := Lib.hid Bz2
    clear Bz2
    clear Kz2_r Kz2_x
    have ne_x_r : w1.heap.size ≠ w.heap.size := by omega
    have ne_r_x : w.heap.size ≠ w1.heap.size := by omega
    go_region_held3 (fun w' => w'.cell? ⟨w1.heap.size, 0, none⟩ = some (.int .i64 N) ∧ w'.cell? ⟨w1.heap.size, 1, none⟩ = some (.int .i64 D)) (go_keep) (first | (go_at_call 53; refine (s_l4Sign _ _).mono ?_; rintro e w' ⟨rfl, rfl⟩))
    go_wp2_with fail
    refine bodyPost_ret (v := rtv (sgnI 0, N, D, true)) ?_ rfl ?_
    · have KR : Blk _ (w.heap.size) #[.int .i64 (sgnI 0), .int .i64 N, .int .i64 D] := (blk_drew (blk_set (blk_set (blk_set Kz2_rH.out 0 (.int .i64 (sgnI 0))) 1 (.int .i64 N)) 2 (.int .i64 D)))
      obtain ⟨r0, r1, r2, _, _, _⟩ := blk3 KR
      simp [results, Try.results43, go_sem, rtv, r0, r1, r2]
    · exact ⟨by rw [E.out]; rfl, by (repeat' (first | exact Below.refl _ _ | refine bl_out ?_ (by assumption) | exact (Hid.out (by assumption)) | refine bl_alloc ?_ _ | refine bl_drewN ?_ _ | refine bl_drew ?_ | refine bl_set ?_ ?_ _ | omega | (simp; done) | (simp; omega)))⟩
  have hz1 : (n == 0) = false := by simp [hz]
  have hz2 : (n != 0) = true := by simp [hz]
  by_cases hq : 4000000000000000000 / (n * n) < num
  · have E := Lib.hid (show rootOf n num den = (0, 0, 0, false) by
      have : rootG n num den = false := by simp [rootG, hz]; omega
      simp [rootOf, this])
    have b := mul_bd (A := 1000000000) (B := 1000000000) n0 n1 n0 n1
    have p : 0 < n * n := by
      rcases Int.lt_or_gt_of_ne hz with h | h
      · exact Int.mul_pos_of_neg_of_neg h h
      · exact Int.mul_pos h h
    clear hz
    go_enter Try.func43, Try.ntmps43
    go_wp2_with (go_at_call 23; refine (s_l6In _ _ _ _).mono ?_; rintro e w' ⟨rfl, rfl⟩)
    refine bodyPost_ret (v := rtv (0, 0, 0, false)) (by simp [results, Try.results43, go_sem, rtv]) rfl ⟨by rw [E.out], by (repeat' (first | exact Below.refl _ _ | refine bl_out ?_ (by assumption) | exact (Hid.out (by assumption)) | refine bl_alloc ?_ _ | refine bl_drewN ?_ _ | refine bl_drew ?_ | refine bl_set ?_ ?_ _ | omega | (simp; done) | (simp; omega)))⟩
  obtain ⟨⟨p1, p2⟩, p3, p4⟩ := root_sq n0 n1 hz (Int.not_lt.1 hq) u0
  have E := Lib.hid (show rootOf n num den = if (ratOf (n * n * num) den).2.2 = true then (sgnI n, (ratOf (n * n * num) den).1, (ratOf (n * n * num) den).2.1, true) else (0, 0, 0, false) by
    have : rootG n num den = true := by simp [rootG, inB, n0, n1, u0, u1, d0, d1, Int.not_lt.1 hq]
    simp [rootOf, this])
  clear hz
  go_enter Try.func43, Try.ntmps43
  go_wp2_with (go_at_call 23; refine (s_l6In _ _ _ _).mono ?_; rintro e w' ⟨rfl, rfl⟩)
  refine (s_RatOf _ _ _).mono ?_
  rintro e w1 ⟨rfl, hb1⟩
  have Kw1_r : Blk w1 (w.heap.size) #[.int .i64 0, .int .i64 0, .int .i64 0] := blk_later hb1 (blk_new (by simp))
  obtain ⟨w1_c0_r, w1_c1_r, w1_c2_r, w1_f0_r, w1_f1_r, w1_f2_r⟩ := blk3 Kw1_r
  have Kw1_rH := Lib.hid Kw1_r
  have w1_l_r := Kw1_r.lt
  have w1_m_r : w.heap.size < w1.heap.size + 1 := by omega
  have w1z := hb1.size
  try simp at w1z
  have w1B := Lib.hid hb1
  clear Kw1_r
  clear hb1
  generalize hX : ratOf (n * n * num) den = X at *
  obtain ⟨N, D, o⟩ := X
  have HX := Lib.hid hX
  clear hX
  simp only [rv]
  cases o
  · obtain ⟨rfl, rfl⟩ := ratOf_no2 HX.out
    go_wp2_with fail
    refine bodyPost_ret (v := rtv (0, 0, 0, false)) ?_ rfl ?_
    · have KR : Blk _ (w.heap.size) #[.int .i64 0, .int .i64 0, .int .i64 0] := (blk_alloc (blk_set (blk_set (blk_set Kw1_rH.out 0 (.int .i64 0)) 1 (.int .i64 0)) 2 (.int .i64 0)) (.cells #[.int .i64 0, .int .i64 0] 23))
      obtain ⟨r0, r1, r2, _, _, _⟩ := blk3 KR
      simp [results, Try.results43, go_sem, rtv, r0, r1, r2]
    · exact ⟨by rw [E.out]; rfl, by (repeat' (first | exact Below.refl _ _ | refine bl_out ?_ (by assumption) | exact (Hid.out (by assumption)) | refine bl_alloc ?_ _ | refine bl_drewN ?_ _ | refine bl_drew ?_ | refine bl_set ?_ ?_ _ | omega | (simp; done) | (simp; omega)))⟩
  go_wp2_with fail
  have Kz2_r : Blk (w1.alloc (.cells #[.int .i64 N, .int .i64 D] 23)) (w.heap.size) #[.int .i64 0, .int .i64 0, .int .i64 0] := (blk_alloc Kw1_rH.out (.cells #[.int .i64 N, .int .i64 D] 23))
  have Kz2_x : Blk (w1.alloc (.cells #[.int .i64 N, .int .i64 D] 23)) (w1.heap.size) #[.int .i64 N, .int .i64 D] := (blk_new (by simp))
  have Bz2 : Below w.heap.size w (w1.alloc (.cells #[.int .i64 N, .int .i64 D] 23)) := by (repeat' (first | exact Below.refl _ _ | refine bl_out ?_ (by assumption) | exact (Hid.out (by assumption)) | refine bl_alloc ?_ _ | refine bl_drewN ?_ _ | refine bl_drew ?_ | refine bl_set ?_ ?_ _ | omega | (simp; done) | (simp; omega)))
  have Sz2 : (w1.alloc (.cells #[.int .i64 N, .int .i64 D] 23)).heap.size = w1.heap.size + 1 := by simp
  generalize (w1.alloc (.cells #[.int .i64 N, .int .i64 D] 23)) = z2 at *
  have Sz2a := Nat.le_of_eq Sz2
  have Sz2b := Nat.le_of_eq Sz2.symm
  clear Sz2
  obtain ⟨z2_c0_r, z2_c1_r, z2_c2_r, z2_f0_r, z2_f1_r, z2_f2_r⟩ := blk3 Kz2_r
  have Kz2_rH := Lib.hid Kz2_r
  have z2_l_r := Kz2_r.lt
  obtain ⟨z2_c0_x, z2_c1_x, z2_f0_x, z2_f1_x⟩ := blk2 Kz2_x
  have Kz2_xH := Lib.hid Kz2_x
  have z2_l_x := Kz2_x.lt
  have z2B := Lib.hid Bz2
  clear Bz2
  clear Kz2_r Kz2_x
  have ne_x_r : w1.heap.size ≠ w.heap.size := by omega
  have ne_r_x : w.heap.size ≠ w1.heap.size := by omega
  go_region_held3 (fun w' => w'.cell? ⟨w1.heap.size, 0, none⟩ = some (.int .i64 N) ∧ w'.cell? ⟨w1.heap.size, 1, none⟩ = some (.int .i64 D)) (go_keep) (first | (go_at_call 53; refine (s_l4Sign _ _).mono ?_; rintro e w' ⟨rfl, rfl⟩))
  go_wp2_with fail
  refine bodyPost_ret (v := rtv (sgnI n, N, D, true)) ?_ rfl ?_
  · have KR : Blk _ (w.heap.size) #[.int .i64 (sgnI n), .int .i64 N, .int .i64 D] := (blk_drew (blk_set (blk_set (blk_set Kz2_rH.out 0 (.int .i64 (sgnI n))) 1 (.int .i64 N)) 2 (.int .i64 D)))
    obtain ⟨r0, r1, r2, _, _, _⟩ := blk3 KR
    simp [results, Try.results43, go_sem, rtv, r0, r1, r2]
  · exact ⟨by rw [E.out]; rfl, by (repeat' (first | exact Below.refl _ _ | refine bl_out ?_ (by assumption) | exact (Hid.out (by assumption)) | refine bl_alloc ?_ _ | refine bl_drewN ?_ _ | refine bl_drew ?_ | refine bl_set ?_ ?_ _ | omega | (simp; done) | (simp; omega)))⟩

end Go.Proofs.Ytdhmjmnpaigagaa
