/- Contracts of SixSum, Delta and SixJ. -/
import Derived.Test.YtneihommpncegaaSs
import Derived.Test.YtneihommpncegaaSy
import Derived.Test.YtneihommpncegaaRt
import Derived.Test.YtneihommpncegaaPd
namespace Go.Proofs.Ytneihommpncegaa
open Go.RowKit
set_option linter.unusedVariables false

theorem triB_all {a b c : Int} : triB a b c = true ↔ (0 ≤ a ∧ a ≤ 24) ∧ (0 ≤ b ∧ b ≤ 24) ∧ (0 ≤ c ∧ c ≤ 24) ∧ (a + b + c) % 2 = 0 ∧ a ≤ b + c ∧ b ≤ a + c ∧ c ≤ a + b := by
  unfold triB
  simp [inB, and_assoc]

set_option maxRecDepth 100000 in
set_option maxHeartbeats 1000000 in
theorem i_Delta (a b c : Int) (w : World) (h : tdB a b c = true) :
    Calls Try.prog 45 #[.int .i64 a, .int .i64 b, .int .i64 c] w fun r w' => r = .returned (.int .i64 (dl a b c)) ∧ w = w' := by
  have t := tdB_iff.1 h
  have HT : Hid (triB a b c = true) := Lib.hid (by rw [triB_all]; omega)
  have f0 := facI_bd13 (n := (a + b + c) / 2 + 1) (by omega)
  have f1 := facI_bd6 (n := (a + b - c) / 2) (by omega)
  have f2 := facI_bd6 (n := (a - b + c) / 2) (by omega)
  have f3 := facI_bd6 (n := (b + c - a) / 2) (by omega)
  have p1 := mul_le1 f1 f2
  have p2 := mul_le1 p1 f3
  have E := Lib.hid (show dl a b c = facI ((a + b + c) / 2 + 1) / (facI ((a + b - c) / 2) * facI ((a - b + c) / 2) * facI ((b + c - a) / 2)) from rfl)
  clear h
  go_enter Try.func45, Try.ntmps45
  go_wp2_with (first | (go_at_call 63; refine (i_SpinTriangle _ _ _ _).mono ?_; rintro r w' ⟨rfl, rfl⟩; rw [HT.out]) | (go_at_call 64; refine (i_factorial _ _ (by omega)).mono ?_; rintro r w' ⟨rfl, rfl⟩))
  go_ret
  exact ⟨ret_int (by rw [E.out]), rfl⟩

set_option maxRecDepth 100000 in
set_option maxHeartbeats 1000000 in
theorem s_Delta (a b c : Int) (w : World) (h : tdB a b c = true) :
    Calls Try.prog 52 #[.int .i64 a, .int .i64 b, .int .i64 c] w fun r w' => r = .returned (.int .i64 (dl a b c)) ∧ w = w' := by
  have t := tdB_iff.1 h
  have HT : Hid (triB a b c = true) := Lib.hid (by rw [triB_all]; omega)
  obtain ⟨c0, c1⟩ := chooseI_bd (n := (a + b + c) / 2) (k := (a + b - c) / 2) 9 (by omega) (by omega) (by omega)
  obtain ⟨d0, d1⟩ := chooseI_bd (n := (a + b + c) / 2 - (a + b - c) / 2) (k := (a - b + c) / 2) 9 (by omega) (by omega) (by omega)
  have p1 := mul_bd (A := 10) (B := 512) (a := (a + b + c) / 2 + 1) (b := chooseI ((a + b + c) / 2) ((a + b - c) / 2)) (by omega) (by omega) (by omega) (by omega)
  have p2 := mul_bd (A := 5120) (B := 512) (a := ((a + b + c) / 2 + 1) * chooseI ((a + b + c) / 2) ((a + b - c) / 2)) (b := chooseI ((a + b + c) / 2 - (a + b - c) / 2) ((a - b + c) / 2)) (by omega) (by omega) (by omega) (by omega)
  have E := Lib.hid (dl_eq h)
  clear h
  go_enter Try.func52, Try.ntmps52
  go_wp2_with (first | (go_at_call 51; refine (s_SpinTriangle _ _ _ _).mono ?_; rintro r w' ⟨rfl, rfl⟩; rw [HT.out]) | (go_at_call 66; refine (s_Choose _ _ _).mono ?_; rintro r w' ⟨rfl, rfl⟩))
  go_ret
  exact ⟨ret_int (by rw [E.out]), rfl⟩

set_option maxRecDepth 100000 in
set_option maxHeartbeats 2000000 in
theorem s_SixJ (a b c d e f : Int) (w : World) :
    Calls Try.prog 29 #[.int .i64 a, .int .i64 b, .int .i64 c, .int .i64 d, .int .i64 e, .int .i64 f] w (RRoot w (sjI a b c d e f)) := by
  cases hok : sixOk a b c d e f
  · have E := Lib.hid (show sjI a b c d e f = (0, 0, 0, false) by simp [sjI, hok])
    go_enter Try.func29, Try.ntmps29
    go_wp2_with fail
    refine (s_l23Ok _ _ _ _ _ _ _).mono ?_
    rintro e w1 ⟨rfl, hb1⟩
    have Kw1_r : Blk w1 (w.heap.size) #[.int .i64 0, .int .i64 0, .int .i64 0] := blk_later hb1 (blk_new (by simp))
    obtain ⟨w1_c0_r, w1_c1_r, w1_c2_r, w1_f0_r, w1_f1_r, w1_f2_r⟩ := blk3 Kw1_r
    have Kw1_rH := Lib.hid Kw1_r
    have w1_l_r := Kw1_r.lt
    have w1_m_r : w.heap.size < w1.heap.size + 1 := by omega
    have w1z := hb1.size
    try simp at w1z
    have w1B := Lib.hid hb1
    clear Kw1_r
    clear hb1
    rw [hok]
    go_wp2_with fail
    refine bodyPost_ret (v := rtv (0, 0, 0, false)) ?_ rfl ?_
    · have KR : Blk _ (w.heap.size) #[.int .i64 0, .int .i64 0, .int .i64 0] := (blk_set (blk_set (blk_set Kw1_rH.out 0 (.int .i64 0)) 1 (.int .i64 0)) 2 (.int .i64 0))
      obtain ⟨r0, r1, r2, _, _, _⟩ := blk3 KR
      simp [results, Try.results29, go_sem, rtv, r0, r1, r2]
    · exact ⟨by rw [E.out], by (repeat' (first | exact Below.refl _ _ | refine bl_out ?_ (by assumption) | exact (Hid.out (by assumption)) | refine bl_alloc ?_ _ | refine bl_drewN ?_ _ | refine bl_drew ?_ | refine bl_set ?_ ?_ _ | omega | (simp; done) | (simp; omega)))⟩
  obtain ⟨o1, o2, o3, o4⟩ := sixOk_iff.1 hok
  obtain ⟨⟨p0, p1⟩, ⟨p2, p3⟩, p4, p5⟩ := dl_prod hok
  obtain ⟨q0, q1⟩ := dl_bd o1
  obtain ⟨q2, q3⟩ := dl_bd o2
  obtain ⟨q4, q5⟩ := dl_bd o3
  obtain ⟨q6, q7⟩ := dl_bd o4
  have E := Lib.hid (show sjI a b c d e f = rootOf (sixI a b c d e f) 1 (dl a b c * dl a e f * dl d b f * dl d e c) by simp [sjI, hok])
  have O1 := Lib.hid o1
  have O2 := Lib.hid o2
  have O3 := Lib.hid o3
  have O4 := Lib.hid o4
  have OK := Lib.hid hok
  clear o1 o2 o3 o4
  go_enter Try.func29, Try.ntmps29
  go_wp2_with fail
  refine (s_l23Ok _ _ _ _ _ _ _).mono ?_
  rintro e w1 ⟨rfl, hb1⟩
  have Kw1_r : Blk w1 (w.heap.size) #[.int .i64 0, .int .i64 0, .int .i64 0] := blk_later hb1 (blk_new (by simp))
  obtain ⟨w1_c0_r, w1_c1_r, w1_c2_r, w1_f0_r, w1_f1_r, w1_f2_r⟩ := blk3 Kw1_r
  have Kw1_rH := Lib.hid Kw1_r
  have w1_l_r := Kw1_r.lt
  have w1_m_r : w.heap.size < w1.heap.size + 1 := by omega
  have w1z := hb1.size
  try simp at w1z
  have w1B := Lib.hid hb1
  clear Kw1_r
  clear hb1
  rw [hok]
  go_wp2_with fail
  refine (s_Delta _ _ _ _ O1.out).mono ?_
  rintro r w' ⟨rfl, rfl⟩
  go_wp2_with fail
  refine (s_Delta _ _ _ _ O2.out).mono ?_
  rintro r w' ⟨rfl, rfl⟩
  go_wp2_with fail
  refine (s_Delta _ _ _ _ O3.out).mono ?_
  rintro r w' ⟨rfl, rfl⟩
  go_wp2_with fail
  refine (s_Delta _ _ _ _ O4.out).mono ?_
  rintro r w' ⟨rfl, rfl⟩
  go_wp2_with fail
  refine (s_SixSum _ _ _ _ _ _ _).mono ?_
  rintro e w2 ⟨rfl, hb2⟩
  have Kw2_r : Blk w2 (w.heap.size) #[.int .i64 0, .int .i64 0, .int .i64 0] := blk_later hb2 Kw1_rH.out
  obtain ⟨w2_c0_r, w2_c1_r, w2_c2_r, w2_f0_r, w2_f1_r, w2_f2_r⟩ := blk3 Kw2_r
  have Kw2_rH := Lib.hid Kw2_r
  have w2_l_r := Kw2_r.lt
  have w2_m_r : w.heap.size < w2.heap.size + 1 := by omega
  have w2z := hb2.size
  try simp at w2z
  have w2B := Lib.hid hb2
  clear Kw2_r
  clear hb2
  go_wp2_with fail
  refine (s_RootOf _ _ _ _).mono ?_
  rintro e w3 ⟨rfl, hb3⟩
  have Kw3_r : Blk w3 (w.heap.size) #[.int .i64 0, .int .i64 0, .int .i64 0] := blk_later hb3 Kw2_rH.out
  obtain ⟨w3_c0_r, w3_c1_r, w3_c2_r, w3_f0_r, w3_f1_r, w3_f2_r⟩ := blk3 Kw3_r
  have Kw3_rH := Lib.hid Kw3_r
  have w3_l_r := Kw3_r.lt
  have w3_m_r : w.heap.size < w3.heap.size + 1 := by omega
  have w3z := hb3.size
  try simp at w3z
  have w3B := Lib.hid hb3
  clear Kw3_r
  clear hb3
  generalize hX : rootOf (sixI a b c d e f) 1 (dl a b c * dl a e f * dl d b f * dl d e c) = X at *
  obtain ⟨S, N, DD, o⟩ := X
  have HX := Lib.hid hX
  clear hX
  simp only [rtv]
  go_wp2_with fail
  refine bodyPost_ret (v := rtv (S, N, DD, o)) ?_ rfl ?_
  · have KR : Blk _ (w.heap.size) #[.int .i64 S, .int .i64 N, .int .i64 DD] := (blk_set (blk_set (blk_set Kw3_rH.out 0 (.int .i64 S)) 1 (.int .i64 N)) 2 (.int .i64 DD))
    obtain ⟨r0, r1, r2, _, _, _⟩ := blk3 KR
    simp [results, Try.results29, go_sem, rtv, r0, r1, r2]
  · exact ⟨by rw [E.out], by (repeat' (first | exact Below.refl _ _ | refine bl_out ?_ (by assumption) | exact (Hid.out (by assumption)) | refine bl_alloc ?_ _ | refine bl_drewN ?_ _ | refine bl_drew ?_ | refine bl_set ?_ ?_ _ | omega | (simp; done) | (simp; omega)))⟩

def dnK (a b c d e f : Int) : Nat → Int
  | 0 => 1
  | 1 => dl a b c
  | 2 => dl a b c * dl a e f
  | 3 => dl a b c * dl a e f * dl d b f
  | _ => dl a b c * dl a e f * dl d b f * dl d e c

set_option maxRecDepth 100000 in
set_option maxHeartbeats 3000000 in
theorem i_SixJ (a b c d e f : Int) (w : World) :
    Calls Try.prog 25 #[.int .i64 a, .int .i64 b, .int .i64 c, .int .i64 d, .int .i64 e, .int .i64 f] w (RRoot w (sjI a b c d e f)) := by
  cases hok : sixOk a b c d e f
  · have E := Lib.hid (show sjI a b c d e f = (0, 0, 0, false) by simp [sjI, hok])
    go_enter Try.func25, Try.ntmps25
    go_wp2_with fail
    refine (i_exists _ _ _ _ _ _ _).mono ?_
    rintro e w1 ⟨rfl, hb1⟩
    have Kw1_r : Blk w1 (w.heap.size) #[.int .i64 0, .int .i64 0, .int .i64 0] := blk_later hb1 (blk_alloc (blk_new (by simp)) (.cells #[.int .i64 a, .int .i64 b, .int .i64 c, .int .i64 d, .int .i64 e, .int .i64 f] 50))
    have Kw1_x : Blk w1 (w.heap.size + 1) #[.int .i64 a, .int .i64 b, .int .i64 c, .int .i64 d, .int .i64 e, .int .i64 f] := blk_later hb1 (blk_new (by simp))
    obtain ⟨w1_c0_r, w1_c1_r, w1_c2_r, w1_f0_r, w1_f1_r, w1_f2_r⟩ := blk3 Kw1_r
    have Kw1_rH := Lib.hid Kw1_r
    have w1_l_r := Kw1_r.lt
    have w1_m_r : w.heap.size < w1.heap.size + 1 := by omega
    obtain ⟨w1_c0_x, w1_c1_x, w1_c2_x, w1_c3_x, w1_c4_x, w1_c5_x, w1_f0_x, w1_f1_x, w1_f2_x, w1_f3_x, w1_f4_x, w1_f5_x⟩ := blk6 Kw1_x
    have Kw1_xH := Lib.hid Kw1_x
    have w1_l_x := Kw1_x.lt
    have w1_m_x : w.heap.size + 1 < w1.heap.size + 1 := by omega
    have w1z := hb1.size
    try simp at w1z
    have w1B := Lib.hid hb1
    clear Kw1_r Kw1_x
    clear hb1
    rw [hok]
    go_wp2_with fail
    refine bodyPost_ret (v := rtv (0, 0, 0, false)) ?_ rfl ?_
    · have KR : Blk _ (w.heap.size) #[.int .i64 0, .int .i64 0, .int .i64 0] := (blk_set (blk_set (blk_set Kw1_rH.out 0 (.int .i64 0)) 1 (.int .i64 0)) 2 (.int .i64 0))
      obtain ⟨r0, r1, r2, _, _, _⟩ := blk3 KR
      simp [results, Try.results25, go_sem, rtv, r0, r1, r2]
    · exact ⟨by rw [E.out], by (repeat' (first | exact Below.refl _ _ | refine bl_out ?_ (by assumption) | exact (Hid.out (by assumption)) | refine bl_alloc ?_ _ | refine bl_drewN ?_ _ | refine bl_drew ?_ | refine bl_set ?_ ?_ _ | omega | (simp; done) | (simp; omega)))⟩
  obtain ⟨o1, o2, o3, o4⟩ := sixOk_iff.1 hok
  obtain ⟨⟨p0, p1⟩, ⟨p2, p3⟩, p4, p5⟩ := dl_prod hok
  obtain ⟨q0, q1⟩ := dl_bd o1
  obtain ⟨q2, q3⟩ := dl_bd o2
  obtain ⟨q4, q5⟩ := dl_bd o3
  obtain ⟨q6, q7⟩ := dl_bd o4
  have E := Lib.hid (show sjI a b c d e f = rootOf (sixI a b c d e f) 1 (dl a b c * dl a e f * dl d b f * dl d e c) by simp [sjI, hok])
  have O1 := Lib.hid o1
  have O2 := Lib.hid o2
  have O3 := Lib.hid o3
  have O4 := Lib.hid o4
  have OK := Lib.hid hok
  clear o1 o2 o3 o4
  have ix0 := ixT0 a b c d e f
  have ix1 := ixT1 a b c d e f
  have ix2 := ixT2 a b c d e f
  have ix3 := ixT3 a b c d e f
  go_enter Try.func25, Try.ntmps25
  go_wp2_with fail
  refine (i_exists _ _ _ _ _ _ _).mono ?_
  rintro e w1 ⟨rfl, hb1⟩
  have Kw1_r : Blk w1 (w.heap.size) #[.int .i64 0, .int .i64 0, .int .i64 0] := blk_later hb1 (blk_alloc (blk_new (by simp)) (.cells #[.int .i64 a, .int .i64 b, .int .i64 c, .int .i64 d, .int .i64 e, .int .i64 f] 50))
  have Kw1_x : Blk w1 (w.heap.size + 1) #[.int .i64 a, .int .i64 b, .int .i64 c, .int .i64 d, .int .i64 e, .int .i64 f] := blk_later hb1 (blk_new (by simp))
  obtain ⟨w1_c0_r, w1_c1_r, w1_c2_r, w1_f0_r, w1_f1_r, w1_f2_r⟩ := blk3 Kw1_r
  have Kw1_rH := Lib.hid Kw1_r
  have w1_l_r := Kw1_r.lt
  have w1_m_r : w.heap.size < w1.heap.size + 1 := by omega
  obtain ⟨w1_c0_x, w1_c1_x, w1_c2_x, w1_c3_x, w1_c4_x, w1_c5_x, w1_f0_x, w1_f1_x, w1_f2_x, w1_f3_x, w1_f4_x, w1_f5_x⟩ := blk6 Kw1_x
  have Kw1_xH := Lib.hid Kw1_x
  have w1_l_x := Kw1_x.lt
  have w1_m_x : w.heap.size + 1 < w1.heap.size + 1 := by omega
  have w1z := hb1.size
  try simp at w1z
  have w1B := Lib.hid hb1
  clear Kw1_r Kw1_x
  clear hb1
  rw [hok]
  go_wp2_with fail
  refine (i_triads _ _ _ _ _ _ _).mono ?_
  rintro e w2 ⟨rfl, hb2⟩
  have Kw2_r : Blk w2 (w.heap.size) #[.int .i64 0, .int .i64 0, .int .i64 0] := blk_later hb2 Kw1_rH.out
  have Kw2_x : Blk w2 (w.heap.size + 1) #[.int .i64 a, .int .i64 b, .int .i64 c, .int .i64 d, .int .i64 e, .int .i64 f] := blk_later hb2 Kw1_xH.out
  obtain ⟨w2_c0_r, w2_c1_r, w2_c2_r, w2_f0_r, w2_f1_r, w2_f2_r⟩ := blk3 Kw2_r
  have Kw2_rH := Lib.hid Kw2_r
  have w2_l_r := Kw2_r.lt
  have w2_m_r : w.heap.size < w2.heap.size + 1 := by omega
  obtain ⟨w2_c0_x, w2_c1_x, w2_c2_x, w2_c3_x, w2_c4_x, w2_c5_x, w2_f0_x, w2_f1_x, w2_f2_x, w2_f3_x, w2_f4_x, w2_f5_x⟩ := blk6 Kw2_x
  have Kw2_xH := Lib.hid Kw2_x
  have w2_l_x := Kw2_x.lt
  have w2_m_x : w.heap.size + 1 < w2.heap.size + 1 := by omega
  have w2z := hb2.size
  try simp at w2z
  have w2B := Lib.hid hb2
  clear Kw2_r Kw2_x
  clear hb2
  go_wp2_with fail
  have BB : Hid (Below w.heap.size w w2) := Lib.hid (by (repeat' (first | exact Below.refl _ _ | refine bl_out ?_ (by assumption) | exact (Hid.out (by assumption)) | refine bl_alloc ?_ _ | refine bl_drewN ?_ _ | refine bl_drew ?_ | refine bl_set ?_ ?_ _ | omega | (simp; done) | (simp; omega))))
  go_loopw [15, 17, 31] (fun dn _ i wr => ∃ k : Nat, k ≤ 4 ∧ i = .int .i64 k ∧ dn = .int .i64 (dnK a b c d e f k) ∧ Below w2.heap.size w2 wr) (fun _ _ i _ => 4 - (intOf i).toNat)
  case atStart => exact ⟨0, by omega, rfl, rfl, Below.refl _ _⟩
  case round =>
    obtain ⟨k, hk, rfl, rfl, hnx⟩ := hrel
    rcases (by omega : k = 0 ∨ k = 1 ∨ k = 2 ∨ k = 3 ∨ k = 4) with rfl | rfl | rfl | rfl | rfl
    · have HN := Lib.hid hnx
      clear hnx
      simp only [dnK]
      go_wp2_with (go_at_call 45; refine (i_Delta _ _ _ _ O1.out).mono ?_; rintro r w' ⟨rfl, rfl⟩)
      go_roundw
      case rel => exact ⟨1, by omega, rfl, by simp, bl_alloc HN.out _⟩
      case measure => simp [intOf]
    · have HN := Lib.hid hnx
      clear hnx
      simp only [dnK]
      go_wp2_with (go_at_call 45; refine (i_Delta _ _ _ _ O2.out).mono ?_; rintro r w' ⟨rfl, rfl⟩)
      go_roundw
      case rel => exact ⟨2, by omega, rfl, by simp, bl_alloc HN.out _⟩
      case measure => simp [intOf]
    · have HN := Lib.hid hnx
      clear hnx
      simp only [dnK]
      go_wp2_with (go_at_call 45; refine (i_Delta _ _ _ _ O3.out).mono ?_; rintro r w' ⟨rfl, rfl⟩)
      go_roundw
      case rel => exact ⟨3, by omega, rfl, by simp, bl_alloc HN.out _⟩
      case measure => simp [intOf]
    · have HN := Lib.hid hnx
      clear hnx
      simp only [dnK]
      go_wp2_with (go_at_call 45; refine (i_Delta _ _ _ _ O4.out).mono ?_; rintro r w' ⟨rfl, rfl⟩)
      go_roundw
      case rel => exact ⟨4, by omega, rfl, by simp, bl_alloc HN.out _⟩
      case measure => simp [intOf]
    · have Kr : Blk wr w.heap.size #[.int .i64 0, .int .i64 0, .int .i64 0] := blk_later hnx Kw2_rH.out
      have Kx : Blk wr (w.heap.size + 1) #[.int .i64 a, .int .i64 b, .int .i64 c, .int .i64 d, .int .i64 e, .int .i64 f] := blk_later hnx Kw2_xH.out
      have HNw := Lib.hid (btr BB.out hnx)
      have hszr := (btr BB.out hnx).size
      obtain ⟨kr0, kr1, kr2, kf0, kf1, kf2⟩ := blk3 Kr
      obtain ⟨xc0, xc1, xc2, xc3, xc4, xc5, _, _, _, _, _, _⟩ := blk6 Kx
      have KrH := Lib.hid Kr
      have KxH := Lib.hid Kx
      have krl := Kr.lt
      have kxl := Kx.lt
      clear Kr Kx hnx
      simp only [dnK]
      go_wp2_with fail
      refine (i_six_sum _ _ _ _ _ _ _ OK.out).mono ?_
      rintro e w11 ⟨rfl, hb11⟩
      have Kw11_r : Blk w11 (w.heap.size) #[.int .i64 0, .int .i64 0, .int .i64 0] := blk_later hb11 KrH.out
      obtain ⟨w11_c0_r, w11_c1_r, w11_c2_r, w11_f0_r, w11_f1_r, w11_f2_r⟩ := blk3 Kw11_r
      have Kw11_rH := Lib.hid Kw11_r
      have w11_l_r := Kw11_r.lt
      have w11_m_r : w.heap.size < w11.heap.size + 1 := by omega
      have w11z := hb11.size
      try simp at w11z
      have w11B := Lib.hid hb11
      clear Kw11_r
      clear hb11
      go_wp2_with fail
      refine (i_RootOf _ _ _ _).mono ?_
      rintro e w12 ⟨rfl, hb12⟩
      have Kw12_r : Blk w12 (w.heap.size) #[.int .i64 0, .int .i64 0, .int .i64 0] := blk_later hb12 Kw11_rH.out
      obtain ⟨w12_c0_r, w12_c1_r, w12_c2_r, w12_f0_r, w12_f1_r, w12_f2_r⟩ := blk3 Kw12_r
      have Kw12_rH := Lib.hid Kw12_r
      have w12_l_r := Kw12_r.lt
      have w12_m_r : w.heap.size < w12.heap.size + 1 := by omega
      have w12z := hb12.size
      try simp at w12z
      have w12B := Lib.hid hb12
      clear Kw12_r
      clear hb12
      generalize hX : rootOf (sixI a b c d e f) 1 (dl a b c * dl a e f * dl d b f * dl d e c) = X at *
      obtain ⟨S, N, DD, o⟩ := X
      have HX := Lib.hid hX
      clear hX
      simp only [rtv]
      go_wp2_with fail
      refine bodyPost_ret (v := rtv (S, N, DD, o)) ?_ rfl ?_
      · have KR : Blk _ (w.heap.size) #[.int .i64 S, .int .i64 N, .int .i64 DD] := (blk_set (blk_set (blk_set Kw12_rH.out 0 (.int .i64 S)) 1 (.int .i64 N)) 2 (.int .i64 DD))
        obtain ⟨r0, r1, r2, _, _, _⟩ := blk3 KR
        simp [results, Try.results25, go_sem, rtv, r0, r1, r2]
      · exact ⟨by rw [E.out], by (repeat' (first | exact Below.refl _ _ | refine bl_out ?_ (by assumption) | exact (Hid.out (by assumption)) | refine bl_alloc ?_ _ | refine bl_drewN ?_ _ | refine bl_drew ?_ | refine bl_set ?_ ?_ _ | omega | (simp; done) | (simp; omega)))⟩

end Go.Proofs.Ytneihommpncegaa
