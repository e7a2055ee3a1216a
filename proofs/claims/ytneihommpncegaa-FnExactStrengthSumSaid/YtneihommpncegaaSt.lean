/- Contracts of LineStrength, of the program and of the reference. -/
import Derived.Test.YtneihommpncegaaSz
import Derived.Test.YtneihommpncegaaTm
import Derived.Test.YtneihommpncegaaCl0
import Derived.Test.YtneihommpncegaaPs
import Derived.Test.YtneihommpncegaaLv
namespace Go.Proofs.Ytneihommpncegaa
open Go.RowKit
set_option linter.unusedVariables false

theorem held_free {z w' : World} (hB : Below z.heap.size z w') {g i : Nat} (hz : z.frozen? ⟨g, i, none⟩ = false) (hl : g < z.heap.size) : w'.frozen? ⟨g, i, none⟩ = false := by
  rw [hB.frozen (p := ⟨g, i, none⟩) hl]; exact hz

set_option maxRecDepth 100000 in
set_option maxHeartbeats 2000000 in
theorem i_strengthValid (s l j : Int) (w : World) :
    Calls Try.prog 22 #[.agg #[.int .i64 s, .int .i64 l, .int .i64 j]] w fun r w' => r = .returned (.bool (smlB s l j)) ∧ Below w.heap.size w w' := by
  cases ht : lvB s l j
  · have E := Lib.hid (show smlB s l j = false by simp [smlB, ht])
    go_enter Try.func22, Try.ntmps22
    go_wp2_with fail
    refine (i_LevelValid _ _ _ _).mono ?_
    rintro e w1 ⟨rfl, hb1⟩
    have Kw1_x : Blk w1 (w.heap.size) #[.int .i64 s, .int .i64 l, .int .i64 j] := blk_later hb1 (blk_new (by simp))
    obtain ⟨w1_c0_x, w1_c1_x, w1_c2_x, w1_f0_x, w1_f1_x, w1_f2_x⟩ := blk3 Kw1_x
    have Kw1_xH := Lib.hid Kw1_x
    have w1_l_x := Kw1_x.lt
    have w1_m_x : w.heap.size < w1.heap.size + 1 := by omega
    have w1z := hb1.size
    try simp at w1z
    have w1B := Lib.hid hb1
    clear Kw1_x
    clear hb1
    rw [ht]
    go_wp2_with (go_at_call 42; refine (i_coupleSpin _ _).mono ?_; rintro r w' ⟨rfl, rfl⟩)
    all_goals go_ret
    all_goals exact ⟨ret_bool (by rw [E.out]), by (repeat' (first | exact Below.refl _ _ | refine bl_out ?_ (by assumption) | exact (Hid.out (by assumption)) | refine bl_alloc ?_ _ | refine bl_drewN ?_ _ | refine bl_drew ?_ | refine bl_set ?_ ?_ _ | omega | (simp; done) | (simp; omega)))⟩
  · have hb0 : (0 ≤ s ∧ s ≤ 8) ∧ (0 ≤ l ∧ l ≤ 8) ∧ (0 ≤ j ∧ j ≤ 24) := by simp [lvB, tmB, triB, inB] at ht; omega
    have E := Lib.hid (show smlB s l j = (inB (2 * l) 0 6 && inB j 0 6 && inB s 0 6) by rw [smlB_eq, ht]; simp)
    go_enter Try.func22, Try.ntmps22
    go_wp2_with fail
    refine (i_LevelValid _ _ _ _).mono ?_
    rintro e w1 ⟨rfl, hb1⟩
    have Kw1_x : Blk w1 (w.heap.size) #[.int .i64 s, .int .i64 l, .int .i64 j] := blk_later hb1 (blk_new (by simp))
    obtain ⟨w1_c0_x, w1_c1_x, w1_c2_x, w1_f0_x, w1_f1_x, w1_f2_x⟩ := blk3 Kw1_x
    have Kw1_xH := Lib.hid Kw1_x
    have w1_l_x := Kw1_x.lt
    have w1_m_x : w.heap.size < w1.heap.size + 1 := by omega
    have w1z := hb1.size
    try simp at w1z
    have w1B := Lib.hid hb1
    clear Kw1_x
    clear hb1
    rw [ht]
    go_wp2_with (go_at_call 42; refine (i_coupleSpin _ _).mono ?_; rintro r w' ⟨rfl, rfl⟩)
    all_goals go_ret
    all_goals exact ⟨ret_bool (by rw [E.out]; simp [*]), by (repeat' (first | exact Below.refl _ _ | refine bl_out ?_ (by assumption) | exact (Hid.out (by assumption)) | refine bl_alloc ?_ _ | refine bl_drewN ?_ _ | refine bl_drew ?_ | refine bl_set ?_ ?_ _ | omega | (simp; done) | (simp; omega)))⟩

set_option maxRecDepth 100000 in
set_option maxHeartbeats 2000000 in
theorem s_l24Small (s l j : Int) (w : World) :
    Calls Try.prog 27 #[.agg #[.int .i64 s, .int .i64 l, .int .i64 j]] w fun r w' => r = .returned (.bool (smlB s l j)) ∧ Below w.heap.size w w' := by
  cases ht : lvB s l j
  · have E := Lib.hid (show smlB s l j = false by simp [smlB, ht])
    go_enter Try.func27, Try.ntmps27
    go_wp2_with fail
    refine (s_LevelValid _ _ _ _).mono ?_
    rintro e w1 ⟨rfl, hb1⟩
    have Kw1_x : Blk w1 (w.heap.size) #[.int .i64 s, .int .i64 l, .int .i64 j] := blk_later hb1 (blk_new (by simp))
    obtain ⟨w1_c0_x, w1_c1_x, w1_c2_x, w1_f0_x, w1_f1_x, w1_f2_x⟩ := blk3 Kw1_x
    have Kw1_xH := Lib.hid Kw1_x
    have w1_l_x := Kw1_x.lt
    have w1_m_x : w.heap.size < w1.heap.size + 1 := by omega
    have w1z := hb1.size
    try simp at w1z
    have w1B := Lib.hid hb1
    clear Kw1_x
    clear hb1
    rw [ht]
    go_wp2_with fail
    all_goals go_ret
    all_goals exact ⟨ret_bool (by rw [E.out]), by (repeat' (first | exact Below.refl _ _ | refine bl_out ?_ (by assumption) | exact (Hid.out (by assumption)) | refine bl_alloc ?_ _ | refine bl_drewN ?_ _ | refine bl_drew ?_ | refine bl_set ?_ ?_ _ | omega | (simp; done) | (simp; omega)))⟩
  · have hb0 : (0 ≤ s ∧ s ≤ 8) ∧ (0 ≤ l ∧ l ≤ 8) ∧ (0 ≤ j ∧ j ≤ 24) := by simp [lvB, tmB, triB, inB] at ht; omega
    have E := Lib.hid (show smlB s l j = (decide (2 * l ≤ 6) && decide (j ≤ 6) && decide (s ≤ 6)) by simp [smlB, ht])
    go_enter Try.func27, Try.ntmps27
    go_wp2_with fail
    refine (s_LevelValid _ _ _ _).mono ?_
    rintro e w1 ⟨rfl, hb1⟩
    have Kw1_x : Blk w1 (w.heap.size) #[.int .i64 s, .int .i64 l, .int .i64 j] := blk_later hb1 (blk_new (by simp))
    obtain ⟨w1_c0_x, w1_c1_x, w1_c2_x, w1_f0_x, w1_f1_x, w1_f2_x⟩ := blk3 Kw1_x
    have Kw1_xH := Lib.hid Kw1_x
    have w1_l_x := Kw1_x.lt
    have w1_m_x : w.heap.size < w1.heap.size + 1 := by omega
    have w1z := hb1.size
    try simp at w1z
    have w1B := Lib.hid hb1
    clear Kw1_x
    clear hb1
    rw [ht]
    go_wp2_with fail
    all_goals go_ret
    all_goals exact ⟨ret_bool (by rw [E.out]; simp; try omega), by (repeat' (first | exact Below.refl _ _ | refine bl_out ?_ (by assumption) | exact (Hid.out (by assumption)) | refine bl_alloc ?_ _ | refine bl_drewN ?_ _ | refine bl_drew ?_ | refine bl_set ?_ ?_ _ | omega | (simp; done) | (simp; omega)))⟩

set_option maxRecDepth 100000 in
set_option maxHeartbeats 3000000 in
theorem i_LineStrength (s l j s2 l2 j2 : Int) (w : World) :
    Calls Try.prog 9 #[.agg #[.int .i64 s, .int .i64 l, .int .i64 j], .agg #[.int .i64 s2, .int .i64 l2, .int .i64 j2]] w (RRat w (lsI s l j s2 l2 j2)) := by
  cases h1 : smlB s l j
  · have E := Lib.hid (show lsI s l j s2 l2 j2 = (0, 0, false) by simp [lsI, h1])
    go_enter Try.func9, Try.ntmps9
    go_wp2_with fail
    refine (i_strengthValid _ _ _ _).mono ?_
    rintro e w1 ⟨rfl, hb1⟩
    have Kw1_x : Blk w1 (w.heap.size) #[.int .i64 s, .int .i64 l, .int .i64 j] := blk_later hb1 (blk_alloc (blk_alloc (blk_new (by simp)) (.cells #[.int .i64 s2, .int .i64 l2, .int .i64 j2] 26)) (.cells #[.int .i64 0, .int .i64 0] 30))
    have Kw1_y : Blk w1 (w.heap.size + 1) #[.int .i64 s2, .int .i64 l2, .int .i64 j2] := blk_later hb1 (blk_alloc (blk_new (by simp)) (.cells #[.int .i64 0, .int .i64 0] 30))
    have Kw1_r : Blk w1 (w.heap.size + 2) #[.int .i64 0, .int .i64 0] := blk_later hb1 (blk_new (by simp))
    obtain ⟨w1_c0_x, w1_c1_x, w1_c2_x, w1_f0_x, w1_f1_x, w1_f2_x⟩ := blk3 Kw1_x
    have Kw1_xH := Lib.hid Kw1_x
    have w1_l_x := Kw1_x.lt
    have w1_m_x : w.heap.size < w1.heap.size + 1 := by omega
    obtain ⟨w1_c0_y, w1_c1_y, w1_c2_y, w1_f0_y, w1_f1_y, w1_f2_y⟩ := blk3 Kw1_y
    have Kw1_yH := Lib.hid Kw1_y
    have w1_l_y := Kw1_y.lt
    have w1_m_y : w.heap.size + 1 < w1.heap.size + 1 := by omega
    obtain ⟨w1_c0_r, w1_c1_r, w1_f0_r, w1_f1_r⟩ := blk2 Kw1_r
    have Kw1_rH := Lib.hid Kw1_r
    have w1_l_r := Kw1_r.lt
    have w1_m_r : w.heap.size + 2 < w1.heap.size + 1 := by omega
    have w1z := hb1.size
    try simp at w1z
    have w1B := Lib.hid hb1
    clear Kw1_x Kw1_y Kw1_r
    clear hb1
    rw [h1]
    go_wp2_with fail
    refine bodyPost_ret (v := rv (0, 0, false)) ?_ rfl ?_
    · have KR : Blk _ (w.heap.size + 2) #[.int .i64 0, .int .i64 0] := (blk_set (blk_set Kw1_rH.out 0 (.int .i64 0)) 1 (.int .i64 0))
      obtain ⟨r0, r1, _, _⟩ := blk2 KR
      simp [results, Try.results9, go_sem, rv, r0, r1]
    · exact ⟨by rw [E.out], by (repeat' (first | exact Below.refl _ _ | refine bl_out ?_ (by assumption) | exact (Hid.out (by assumption)) | refine bl_alloc ?_ _ | refine bl_drewN ?_ _ | refine bl_drew ?_ | refine bl_set ?_ ?_ _ | omega | (simp; done) | (simp; omega)))⟩
  cases h2 : smlB s2 l2 j2
  · have E := Lib.hid (show lsI s l j s2 l2 j2 = (0, 0, false) by simp [lsI, h2])
    go_enter Try.func9, Try.ntmps9
    go_wp2_with fail
    refine (i_strengthValid _ _ _ _).mono ?_
    rintro e w1 ⟨rfl, hb1⟩
    have Kw1_x : Blk w1 (w.heap.size) #[.int .i64 s, .int .i64 l, .int .i64 j] := blk_later hb1 (blk_alloc (blk_alloc (blk_new (by simp)) (.cells #[.int .i64 s2, .int .i64 l2, .int .i64 j2] 26)) (.cells #[.int .i64 0, .int .i64 0] 30))
    have Kw1_y : Blk w1 (w.heap.size + 1) #[.int .i64 s2, .int .i64 l2, .int .i64 j2] := blk_later hb1 (blk_alloc (blk_new (by simp)) (.cells #[.int .i64 0, .int .i64 0] 30))
    have Kw1_r : Blk w1 (w.heap.size + 2) #[.int .i64 0, .int .i64 0] := blk_later hb1 (blk_new (by simp))
    obtain ⟨w1_c0_x, w1_c1_x, w1_c2_x, w1_f0_x, w1_f1_x, w1_f2_x⟩ := blk3 Kw1_x
    have Kw1_xH := Lib.hid Kw1_x
    have w1_l_x := Kw1_x.lt
    have w1_m_x : w.heap.size < w1.heap.size + 1 := by omega
    obtain ⟨w1_c0_y, w1_c1_y, w1_c2_y, w1_f0_y, w1_f1_y, w1_f2_y⟩ := blk3 Kw1_y
    have Kw1_yH := Lib.hid Kw1_y
    have w1_l_y := Kw1_y.lt
    have w1_m_y : w.heap.size + 1 < w1.heap.size + 1 := by omega
    obtain ⟨w1_c0_r, w1_c1_r, w1_f0_r, w1_f1_r⟩ := blk2 Kw1_r
    have Kw1_rH := Lib.hid Kw1_r
    have w1_l_r := Kw1_r.lt
    have w1_m_r : w.heap.size + 2 < w1.heap.size + 1 := by omega
    have w1z := hb1.size
    try simp at w1z
    have w1B := Lib.hid hb1
    clear Kw1_x Kw1_y Kw1_r
    clear hb1
    rw [h1]
    go_wp2_with fail
    refine (i_strengthValid _ _ _ _).mono ?_
    rintro e w2 ⟨rfl, hb2⟩
    have Kw2_x : Blk w2 (w.heap.size) #[.int .i64 s, .int .i64 l, .int .i64 j] := blk_later hb2 Kw1_xH.out
    have Kw2_y : Blk w2 (w.heap.size + 1) #[.int .i64 s2, .int .i64 l2, .int .i64 j2] := blk_later hb2 Kw1_yH.out
    have Kw2_r : Blk w2 (w.heap.size + 2) #[.int .i64 0, .int .i64 0] := blk_later hb2 Kw1_rH.out
    obtain ⟨w2_c0_x, w2_c1_x, w2_c2_x, w2_f0_x, w2_f1_x, w2_f2_x⟩ := blk3 Kw2_x
    have Kw2_xH := Lib.hid Kw2_x
    have w2_l_x := Kw2_x.lt
    have w2_m_x : w.heap.size < w2.heap.size + 1 := by omega
    obtain ⟨w2_c0_y, w2_c1_y, w2_c2_y, w2_f0_y, w2_f1_y, w2_f2_y⟩ := blk3 Kw2_y
    have Kw2_yH := Lib.hid Kw2_y
    have w2_l_y := Kw2_y.lt
    have w2_m_y : w.heap.size + 1 < w2.heap.size + 1 := by omega
    obtain ⟨w2_c0_r, w2_c1_r, w2_f0_r, w2_f1_r⟩ := blk2 Kw2_r
    have Kw2_rH := Lib.hid Kw2_r
    have w2_l_r := Kw2_r.lt
    have w2_m_r : w.heap.size + 2 < w2.heap.size + 1 := by omega
    have w2z := hb2.size
    try simp at w2z
    have w2B := Lib.hid hb2
    clear Kw2_x Kw2_y Kw2_r
    clear hb2
    rw [h2]
    go_wp2_with fail
    refine bodyPost_ret (v := rv (0, 0, false)) ?_ rfl ?_
    · have KR : Blk _ (w.heap.size + 2) #[.int .i64 0, .int .i64 0] := (blk_set (blk_set Kw2_rH.out 0 (.int .i64 0)) 1 (.int .i64 0))
      obtain ⟨r0, r1, _, _⟩ := blk2 KR
      simp [results, Try.results9, go_sem, rv, r0, r1]
    · exact ⟨by rw [E.out], by (repeat' (first | exact Below.refl _ _ | refine bl_out ?_ (by assumption) | exact (Hid.out (by assumption)) | refine bl_alloc ?_ _ | refine bl_drewN ?_ _ | refine bl_drew ?_ | refine bl_set ?_ ?_ _ | omega | (simp; done) | (simp; omega)))⟩
  by_cases h3 : s = s2
  case neg =>
    have E := Lib.hid (show lsI s l j s2 l2 j2 = (0, 0, false) by simp [lsI, h3])
    have h31 : (s == s2) = false := by simp [h3]
    have h32 : (s != s2) = true := by simp [h3]
    clear h3
    go_enter Try.func9, Try.ntmps9
    go_wp2_with fail
    refine (i_strengthValid _ _ _ _).mono ?_
    rintro e w1 ⟨rfl, hb1⟩
    have Kw1_x : Blk w1 (w.heap.size) #[.int .i64 s, .int .i64 l, .int .i64 j] := blk_later hb1 (blk_alloc (blk_alloc (blk_new (by simp)) (.cells #[.int .i64 s2, .int .i64 l2, .int .i64 j2] 26)) (.cells #[.int .i64 0, .int .i64 0] 30))
    have Kw1_y : Blk w1 (w.heap.size + 1) #[.int .i64 s2, .int .i64 l2, .int .i64 j2] := blk_later hb1 (blk_alloc (blk_new (by simp)) (.cells #[.int .i64 0, .int .i64 0] 30))
    have Kw1_r : Blk w1 (w.heap.size + 2) #[.int .i64 0, .int .i64 0] := blk_later hb1 (blk_new (by simp))
    obtain ⟨w1_c0_x, w1_c1_x, w1_c2_x, w1_f0_x, w1_f1_x, w1_f2_x⟩ := blk3 Kw1_x
    have Kw1_xH := Lib.hid Kw1_x
    have w1_l_x := Kw1_x.lt
    have w1_m_x : w.heap.size < w1.heap.size + 1 := by omega
    obtain ⟨w1_c0_y, w1_c1_y, w1_c2_y, w1_f0_y, w1_f1_y, w1_f2_y⟩ := blk3 Kw1_y
    have Kw1_yH := Lib.hid Kw1_y
    have w1_l_y := Kw1_y.lt
    have w1_m_y : w.heap.size + 1 < w1.heap.size + 1 := by omega
    obtain ⟨w1_c0_r, w1_c1_r, w1_f0_r, w1_f1_r⟩ := blk2 Kw1_r
    have Kw1_rH := Lib.hid Kw1_r
    have w1_l_r := Kw1_r.lt
    have w1_m_r : w.heap.size + 2 < w1.heap.size + 1 := by omega
    have w1z := hb1.size
    try simp at w1z
    have w1B := Lib.hid hb1
    clear Kw1_x Kw1_y Kw1_r
    clear hb1
    rw [h1]
    go_wp2_with fail
    refine (i_strengthValid _ _ _ _).mono ?_
    rintro e w2 ⟨rfl, hb2⟩
    have Kw2_x : Blk w2 (w.heap.size) #[.int .i64 s, .int .i64 l, .int .i64 j] := blk_later hb2 Kw1_xH.out
    have Kw2_y : Blk w2 (w.heap.size + 1) #[.int .i64 s2, .int .i64 l2, .int .i64 j2] := blk_later hb2 Kw1_yH.out
    have Kw2_r : Blk w2 (w.heap.size + 2) #[.int .i64 0, .int .i64 0] := blk_later hb2 Kw1_rH.out
    obtain ⟨w2_c0_x, w2_c1_x, w2_c2_x, w2_f0_x, w2_f1_x, w2_f2_x⟩ := blk3 Kw2_x
    have Kw2_xH := Lib.hid Kw2_x
    have w2_l_x := Kw2_x.lt
    have w2_m_x : w.heap.size < w2.heap.size + 1 := by omega
    obtain ⟨w2_c0_y, w2_c1_y, w2_c2_y, w2_f0_y, w2_f1_y, w2_f2_y⟩ := blk3 Kw2_y
    have Kw2_yH := Lib.hid Kw2_y
    have w2_l_y := Kw2_y.lt
    have w2_m_y : w.heap.size + 1 < w2.heap.size + 1 := by omega
    obtain ⟨w2_c0_r, w2_c1_r, w2_f0_r, w2_f1_r⟩ := blk2 Kw2_r
    have Kw2_rH := Lib.hid Kw2_r
    have w2_l_r := Kw2_r.lt
    have w2_m_r : w.heap.size + 2 < w2.heap.size + 1 := by omega
    have w2z := hb2.size
    try simp at w2z
    have w2B := Lib.hid hb2
    clear Kw2_x Kw2_y Kw2_r
    clear hb2
    rw [h2]
    go_wp2_with fail
    refine bodyPost_ret (v := rv (0, 0, false)) ?_ rfl ?_
    · have KR : Blk _ (w.heap.size + 2) #[.int .i64 0, .int .i64 0] := (blk_set (blk_set Kw2_rH.out 0 (.int .i64 0)) 1 (.int .i64 0))
      obtain ⟨r0, r1, _, _⟩ := blk2 KR
      simp [results, Try.results9, go_sem, rv, r0, r1]
    · exact ⟨by rw [E.out], by (repeat' (first | exact Below.refl _ _ | refine bl_out ?_ (by assumption) | exact (Hid.out (by assumption)) | refine bl_alloc ?_ _ | refine bl_drewN ?_ _ | refine bl_drew ?_ | refine bl_set ?_ ?_ _ | omega | (simp; done) | (simp; omega)))⟩
  subst h3
  obtain ⟨⟨s0, s1⟩, ⟨l0, l1⟩, j0, j1⟩ := smlB_iff h1
  obtain ⟨_, ⟨m0, m1⟩, k0, k1⟩ := smlB_iff h2
  obtain ⟨p0, p1⟩ := mul_bd (A := 7) (B := 7) (a := j + 1) (b := j2 + 1) (by omega) (by omega) (by omega) (by omega)
  cases h4 : sixOk (2 * l) j s j2 (2 * l2) 2
  · have E := Lib.hid (show lsI s l j s l2 j2 = (0, 1, true) by simp [lsI, h1, h2, h4])
    go_enter Try.func9, Try.ntmps9
    go_wp2_with fail
    refine (i_strengthValid _ _ _ _).mono ?_
    rintro e w1 ⟨rfl, hb1⟩
    have Kw1_x : Blk w1 (w.heap.size) #[.int .i64 s, .int .i64 l, .int .i64 j] := blk_later hb1 (blk_alloc (blk_alloc (blk_new (by simp)) (.cells #[.int .i64 s, .int .i64 l2, .int .i64 j2] 26)) (.cells #[.int .i64 0, .int .i64 0] 30))
    have Kw1_y : Blk w1 (w.heap.size + 1) #[.int .i64 s, .int .i64 l2, .int .i64 j2] := blk_later hb1 (blk_alloc (blk_new (by simp)) (.cells #[.int .i64 0, .int .i64 0] 30))
    have Kw1_r : Blk w1 (w.heap.size + 2) #[.int .i64 0, .int .i64 0] := blk_later hb1 (blk_new (by simp))
    obtain ⟨w1_c0_x, w1_c1_x, w1_c2_x, w1_f0_x, w1_f1_x, w1_f2_x⟩ := blk3 Kw1_x
    have Kw1_xH := Lib.hid Kw1_x
    have w1_l_x := Kw1_x.lt
    have w1_m_x : w.heap.size < w1.heap.size + 1 := by omega
    obtain ⟨w1_c0_y, w1_c1_y, w1_c2_y, w1_f0_y, w1_f1_y, w1_f2_y⟩ := blk3 Kw1_y
    have Kw1_yH := Lib.hid Kw1_y
    have w1_l_y := Kw1_y.lt
    have w1_m_y : w.heap.size + 1 < w1.heap.size + 1 := by omega
    obtain ⟨w1_c0_r, w1_c1_r, w1_f0_r, w1_f1_r⟩ := blk2 Kw1_r
    have Kw1_rH := Lib.hid Kw1_r
    have w1_l_r := Kw1_r.lt
    have w1_m_r : w.heap.size + 2 < w1.heap.size + 1 := by omega
    have w1z := hb1.size
    try simp at w1z
    have w1B := Lib.hid hb1
    clear Kw1_x Kw1_y Kw1_r
    clear hb1
    rw [h1]
    go_wp2_with fail
    refine (i_strengthValid _ _ _ _).mono ?_
    rintro e w2 ⟨rfl, hb2⟩
    have Kw2_x : Blk w2 (w.heap.size) #[.int .i64 s, .int .i64 l, .int .i64 j] := blk_later hb2 Kw1_xH.out
    have Kw2_y : Blk w2 (w.heap.size + 1) #[.int .i64 s, .int .i64 l2, .int .i64 j2] := blk_later hb2 Kw1_yH.out
    have Kw2_r : Blk w2 (w.heap.size + 2) #[.int .i64 0, .int .i64 0] := blk_later hb2 Kw1_rH.out
    obtain ⟨w2_c0_x, w2_c1_x, w2_c2_x, w2_f0_x, w2_f1_x, w2_f2_x⟩ := blk3 Kw2_x
    have Kw2_xH := Lib.hid Kw2_x
    have w2_l_x := Kw2_x.lt
    have w2_m_x : w.heap.size < w2.heap.size + 1 := by omega
    obtain ⟨w2_c0_y, w2_c1_y, w2_c2_y, w2_f0_y, w2_f1_y, w2_f2_y⟩ := blk3 Kw2_y
    have Kw2_yH := Lib.hid Kw2_y
    have w2_l_y := Kw2_y.lt
    have w2_m_y : w.heap.size + 1 < w2.heap.size + 1 := by omega
    obtain ⟨w2_c0_r, w2_c1_r, w2_f0_r, w2_f1_r⟩ := blk2 Kw2_r
    have Kw2_rH := Lib.hid Kw2_r
    have w2_l_r := Kw2_r.lt
    have w2_m_r : w.heap.size + 2 < w2.heap.size + 1 := by omega
    have w2z := hb2.size
    try simp at w2z
    have w2B := Lib.hid hb2
    clear Kw2_x Kw2_y Kw2_r
    clear hb2
    rw [h2]
    go_wp2_with fail
    refine (i_exists _ _ _ _ _ _ _).mono ?_
    rintro e w3 ⟨rfl, hb3⟩
    have Kw3_x : Blk w3 (w.heap.size) #[.int .i64 s, .int .i64 l, .int .i64 j] := blk_later hb3 (blk_alloc Kw2_xH.out (.cells #[.int .i64 (2 * l), .int .i64 j, .int .i64 s, .int .i64 j2, .int .i64 (2 * l2), .int .i64 2] 50))
    have Kw3_y : Blk w3 (w.heap.size + 1) #[.int .i64 s, .int .i64 l2, .int .i64 j2] := blk_later hb3 (blk_alloc Kw2_yH.out (.cells #[.int .i64 (2 * l), .int .i64 j, .int .i64 s, .int .i64 j2, .int .i64 (2 * l2), .int .i64 2] 50))
    have Kw3_r : Blk w3 (w.heap.size + 2) #[.int .i64 0, .int .i64 0] := blk_later hb3 (blk_alloc Kw2_rH.out (.cells #[.int .i64 (2 * l), .int .i64 j, .int .i64 s, .int .i64 j2, .int .i64 (2 * l2), .int .i64 2] 50))
    have Kw3_six : Blk w3 (w2.heap.size) #[.int .i64 (2 * l), .int .i64 j, .int .i64 s, .int .i64 j2, .int .i64 (2 * l2), .int .i64 2] := blk_later hb3 (blk_new (by simp))
    obtain ⟨w3_c0_x, w3_c1_x, w3_c2_x, w3_f0_x, w3_f1_x, w3_f2_x⟩ := blk3 Kw3_x
    have Kw3_xH := Lib.hid Kw3_x
    have w3_l_x := Kw3_x.lt
    have w3_m_x : w.heap.size < w3.heap.size + 1 := by omega
    obtain ⟨w3_c0_y, w3_c1_y, w3_c2_y, w3_f0_y, w3_f1_y, w3_f2_y⟩ := blk3 Kw3_y
    have Kw3_yH := Lib.hid Kw3_y
    have w3_l_y := Kw3_y.lt
    have w3_m_y : w.heap.size + 1 < w3.heap.size + 1 := by omega
    obtain ⟨w3_c0_r, w3_c1_r, w3_f0_r, w3_f1_r⟩ := blk2 Kw3_r
    have Kw3_rH := Lib.hid Kw3_r
    have w3_l_r := Kw3_r.lt
    have w3_m_r : w.heap.size + 2 < w3.heap.size + 1 := by omega
    obtain ⟨w3_c0_six, w3_c1_six, w3_c2_six, w3_c3_six, w3_c4_six, w3_c5_six, w3_f0_six, w3_f1_six, w3_f2_six, w3_f3_six, w3_f4_six, w3_f5_six⟩ := blk6 Kw3_six
    have Kw3_sixH := Lib.hid Kw3_six
    have w3_l_six := Kw3_six.lt
    have w3_m_six : w2.heap.size < w3.heap.size + 1 := by omega
    have w3z := hb3.size
    try simp at w3z
    have w3B := Lib.hid hb3
    clear Kw3_x Kw3_y Kw3_r Kw3_six
    clear hb3
    rw [h4]
    go_wp2_with fail
    refine (i_whole _ _).mono ?_
    rintro e w4 ⟨rfl, hb4⟩
    have Kw4_x : Blk w4 (w.heap.size) #[.int .i64 s, .int .i64 l, .int .i64 j] := blk_later hb4 Kw3_xH.out
    have Kw4_y : Blk w4 (w.heap.size + 1) #[.int .i64 s, .int .i64 l2, .int .i64 j2] := blk_later hb4 Kw3_yH.out
    have Kw4_r : Blk w4 (w.heap.size + 2) #[.int .i64 0, .int .i64 0] := blk_later hb4 Kw3_rH.out
    have Kw4_six : Blk w4 (w2.heap.size) #[.int .i64 (2 * l), .int .i64 j, .int .i64 s, .int .i64 j2, .int .i64 (2 * l2), .int .i64 2] := blk_later hb4 Kw3_sixH.out
    obtain ⟨w4_c0_x, w4_c1_x, w4_c2_x, w4_f0_x, w4_f1_x, w4_f2_x⟩ := blk3 Kw4_x
    have Kw4_xH := Lib.hid Kw4_x
    have w4_l_x := Kw4_x.lt
    have w4_m_x : w.heap.size < w4.heap.size + 1 := by omega
    obtain ⟨w4_c0_y, w4_c1_y, w4_c2_y, w4_f0_y, w4_f1_y, w4_f2_y⟩ := blk3 Kw4_y
    have Kw4_yH := Lib.hid Kw4_y
    have w4_l_y := Kw4_y.lt
    have w4_m_y : w.heap.size + 1 < w4.heap.size + 1 := by omega
    obtain ⟨w4_c0_r, w4_c1_r, w4_f0_r, w4_f1_r⟩ := blk2 Kw4_r
    have Kw4_rH := Lib.hid Kw4_r
    have w4_l_r := Kw4_r.lt
    have w4_m_r : w.heap.size + 2 < w4.heap.size + 1 := by omega
    obtain ⟨w4_c0_six, w4_c1_six, w4_c2_six, w4_c3_six, w4_c4_six, w4_c5_six, w4_f0_six, w4_f1_six, w4_f2_six, w4_f3_six, w4_f4_six, w4_f5_six⟩ := blk6 Kw4_six
    have Kw4_sixH := Lib.hid Kw4_six
    have w4_l_six := Kw4_six.lt
    have w4_m_six : w2.heap.size < w4.heap.size + 1 := by omega
    have w4z := hb4.size
    try simp at w4z
    have w4B := Lib.hid hb4
    clear Kw4_x Kw4_y Kw4_r Kw4_six
    clear hb4
    go_wp2_with fail
    refine bodyPost_ret (v := rv (0, 1, true)) ?_ rfl ?_
    · have KR : Blk _ (w.heap.size + 2) #[.int .i64 0, .int .i64 1] := (blk_set (blk_set Kw4_rH.out 0 (.int .i64 0)) 1 (.int .i64 1))
      obtain ⟨r0, r1, _, _⟩ := blk2 KR
      simp [results, Try.results9, go_sem, rv, r0, r1]
    · exact ⟨by rw [E.out], by (repeat' (first | exact Below.refl _ _ | refine bl_out ?_ (by assumption) | exact (Hid.out (by assumption)) | refine bl_alloc ?_ _ | refine bl_drewN ?_ _ | refine bl_drew ?_ | refine bl_set ?_ ?_ _ | omega | (simp; done) | (simp; omega)))⟩
  have E := Lib.hid (show lsI s l j s l2 j2 = if (sjI (2 * l) j s j2 (2 * l2) 2).2.2.2 = true then ratMul (sjI (2 * l) j s j2 (2 * l2) 2).2.1 (sjI (2 * l) j s j2 (2 * l2) 2).2.2.1 ((j + 1) * (j2 + 1)) 1 else (0, 0, false) by simp [lsI, h1, h2, h4])
  go_enter Try.func9, Try.ntmps9
  go_wp2_with fail
  refine (i_strengthValid _ _ _ _).mono ?_
  rintro e w1 ⟨rfl, hb1⟩
  have Kw1_x : Blk w1 (w.heap.size) #[.int .i64 s, .int .i64 l, .int .i64 j] := blk_later hb1 (blk_alloc (blk_alloc (blk_new (by simp)) (.cells #[.int .i64 s, .int .i64 l2, .int .i64 j2] 26)) (.cells #[.int .i64 0, .int .i64 0] 30))
  have Kw1_y : Blk w1 (w.heap.size + 1) #[.int .i64 s, .int .i64 l2, .int .i64 j2] := blk_later hb1 (blk_alloc (blk_new (by simp)) (.cells #[.int .i64 0, .int .i64 0] 30))
  have Kw1_r : Blk w1 (w.heap.size + 2) #[.int .i64 0, .int .i64 0] := blk_later hb1 (blk_new (by simp))
  obtain ⟨w1_c0_x, w1_c1_x, w1_c2_x, w1_f0_x, w1_f1_x, w1_f2_x⟩ := blk3 Kw1_x
  have Kw1_xH := Lib.hid Kw1_x
  have w1_l_x := Kw1_x.lt
  have w1_m_x : w.heap.size < w1.heap.size + 1 := by omega
  obtain ⟨w1_c0_y, w1_c1_y, w1_c2_y, w1_f0_y, w1_f1_y, w1_f2_y⟩ := blk3 Kw1_y
  have Kw1_yH := Lib.hid Kw1_y
  have w1_l_y := Kw1_y.lt
  have w1_m_y : w.heap.size + 1 < w1.heap.size + 1 := by omega
  obtain ⟨w1_c0_r, w1_c1_r, w1_f0_r, w1_f1_r⟩ := blk2 Kw1_r
  have Kw1_rH := Lib.hid Kw1_r
  have w1_l_r := Kw1_r.lt
  have w1_m_r : w.heap.size + 2 < w1.heap.size + 1 := by omega
  have w1z := hb1.size
  try simp at w1z
  have w1B := Lib.hid hb1
  clear Kw1_x Kw1_y Kw1_r
  clear hb1
  rw [h1]
  go_wp2_with fail
  refine (i_strengthValid _ _ _ _).mono ?_
  rintro e w2 ⟨rfl, hb2⟩
  have Kw2_x : Blk w2 (w.heap.size) #[.int .i64 s, .int .i64 l, .int .i64 j] := blk_later hb2 Kw1_xH.out
  have Kw2_y : Blk w2 (w.heap.size + 1) #[.int .i64 s, .int .i64 l2, .int .i64 j2] := blk_later hb2 Kw1_yH.out
  have Kw2_r : Blk w2 (w.heap.size + 2) #[.int .i64 0, .int .i64 0] := blk_later hb2 Kw1_rH.out
  obtain ⟨w2_c0_x, w2_c1_x, w2_c2_x, w2_f0_x, w2_f1_x, w2_f2_x⟩ := blk3 Kw2_x
  have Kw2_xH := Lib.hid Kw2_x
  have w2_l_x := Kw2_x.lt
  have w2_m_x : w.heap.size < w2.heap.size + 1 := by omega
  obtain ⟨w2_c0_y, w2_c1_y, w2_c2_y, w2_f0_y, w2_f1_y, w2_f2_y⟩ := blk3 Kw2_y
  have Kw2_yH := Lib.hid Kw2_y
  have w2_l_y := Kw2_y.lt
  have w2_m_y : w.heap.size + 1 < w2.heap.size + 1 := by omega
  obtain ⟨w2_c0_r, w2_c1_r, w2_f0_r, w2_f1_r⟩ := blk2 Kw2_r
  have Kw2_rH := Lib.hid Kw2_r
  have w2_l_r := Kw2_r.lt
  have w2_m_r : w.heap.size + 2 < w2.heap.size + 1 := by omega
  have w2z := hb2.size
  try simp at w2z
  have w2B := Lib.hid hb2
  clear Kw2_x Kw2_y Kw2_r
  clear hb2
  rw [h2]
  go_wp2_with fail
  refine (i_exists _ _ _ _ _ _ _).mono ?_
  rintro e w3 ⟨rfl, hb3⟩
  have Kw3_x : Blk w3 (w.heap.size) #[.int .i64 s, .int .i64 l, .int .i64 j] := blk_later hb3 (blk_alloc Kw2_xH.out (.cells #[.int .i64 (2 * l), .int .i64 j, .int .i64 s, .int .i64 j2, .int .i64 (2 * l2), .int .i64 2] 50))
  have Kw3_y : Blk w3 (w.heap.size + 1) #[.int .i64 s, .int .i64 l2, .int .i64 j2] := blk_later hb3 (blk_alloc Kw2_yH.out (.cells #[.int .i64 (2 * l), .int .i64 j, .int .i64 s, .int .i64 j2, .int .i64 (2 * l2), .int .i64 2] 50))
  have Kw3_r : Blk w3 (w.heap.size + 2) #[.int .i64 0, .int .i64 0] := blk_later hb3 (blk_alloc Kw2_rH.out (.cells #[.int .i64 (2 * l), .int .i64 j, .int .i64 s, .int .i64 j2, .int .i64 (2 * l2), .int .i64 2] 50))
  have Kw3_six : Blk w3 (w2.heap.size) #[.int .i64 (2 * l), .int .i64 j, .int .i64 s, .int .i64 j2, .int .i64 (2 * l2), .int .i64 2] := blk_later hb3 (blk_new (by simp))
  obtain ⟨w3_c0_x, w3_c1_x, w3_c2_x, w3_f0_x, w3_f1_x, w3_f2_x⟩ := blk3 Kw3_x
  have Kw3_xH := Lib.hid Kw3_x
  have w3_l_x := Kw3_x.lt
  have w3_m_x : w.heap.size < w3.heap.size + 1 := by omega
  obtain ⟨w3_c0_y, w3_c1_y, w3_c2_y, w3_f0_y, w3_f1_y, w3_f2_y⟩ := blk3 Kw3_y
  have Kw3_yH := Lib.hid Kw3_y
  have w3_l_y := Kw3_y.lt
  have w3_m_y : w.heap.size + 1 < w3.heap.size + 1 := by omega
  obtain ⟨w3_c0_r, w3_c1_r, w3_f0_r, w3_f1_r⟩ := blk2 Kw3_r
  have Kw3_rH := Lib.hid Kw3_r
  have w3_l_r := Kw3_r.lt
  have w3_m_r : w.heap.size + 2 < w3.heap.size + 1 := by omega
  obtain ⟨w3_c0_six, w3_c1_six, w3_c2_six, w3_c3_six, w3_c4_six, w3_c5_six, w3_f0_six, w3_f1_six, w3_f2_six, w3_f3_six, w3_f4_six, w3_f5_six⟩ := blk6 Kw3_six
  have Kw3_sixH := Lib.hid Kw3_six
  have w3_l_six := Kw3_six.lt
  have w3_m_six : w2.heap.size < w3.heap.size + 1 := by omega
  have w3z := hb3.size
  try simp at w3z
  have w3B := Lib.hid hb3
  clear Kw3_x Kw3_y Kw3_r Kw3_six
  clear hb3
  rw [h4]
  go_wp2_with fail
  refine (i_SixJ _ _ _ _ _ _ _).mono ?_
  rintro e w4 ⟨rfl, hb4⟩
  have Kw4_x : Blk w4 (w.heap.size) #[.int .i64 s, .int .i64 l, .int .i64 j] := blk_later hb4 Kw3_xH.out
  have Kw4_y : Blk w4 (w.heap.size + 1) #[.int .i64 s, .int .i64 l2, .int .i64 j2] := blk_later hb4 Kw3_yH.out
  have Kw4_r : Blk w4 (w.heap.size + 2) #[.int .i64 0, .int .i64 0] := blk_later hb4 Kw3_rH.out
  obtain ⟨w4_c0_x, w4_c1_x, w4_c2_x, w4_f0_x, w4_f1_x, w4_f2_x⟩ := blk3 Kw4_x
  have Kw4_xH := Lib.hid Kw4_x
  have w4_l_x := Kw4_x.lt
  have w4_m_x : w.heap.size < w4.heap.size + 1 := by omega
  obtain ⟨w4_c0_y, w4_c1_y, w4_c2_y, w4_f0_y, w4_f1_y, w4_f2_y⟩ := blk3 Kw4_y
  have Kw4_yH := Lib.hid Kw4_y
  have w4_l_y := Kw4_y.lt
  have w4_m_y : w.heap.size + 1 < w4.heap.size + 1 := by omega
  obtain ⟨w4_c0_r, w4_c1_r, w4_f0_r, w4_f1_r⟩ := blk2 Kw4_r
  have Kw4_rH := Lib.hid Kw4_r
  have w4_l_r := Kw4_r.lt
  have w4_m_r : w.heap.size + 2 < w4.heap.size + 1 := by omega
  have w4z := hb4.size
  try simp at w4z
  have w4B := Lib.hid hb4
  clear Kw4_x Kw4_y Kw4_r
  clear hb4
  generalize hX : sjI (2 * l) j s j2 (2 * l2) 2 = XhX at *
  obtain ⟨S, N, D, o⟩ := XhX
  have HhX := Lib.hid hX
  clear hX
  simp only [rtv]
  cases o
  · simp only [Bool.false_eq_true, if_false] at E
    go_wp2_with fail
    refine bodyPost_ret (v := rv (0, 0, false)) ?_ rfl ?_
    · have KR : Blk _ (w.heap.size + 2) #[.int .i64 0, .int .i64 0] := (blk_alloc (blk_set (blk_set Kw4_rH.out 0 (.int .i64 0)) 1 (.int .i64 0)) (.cells #[.int .i64 S, .int .i64 N, .int .i64 D] 53))
      obtain ⟨r0, r1, _, _⟩ := blk2 KR
      simp [results, Try.results9, go_sem, rv, r0, r1]
    · exact ⟨by rw [E.out], by (repeat' (first | exact Below.refl _ _ | refine bl_out ?_ (by assumption) | exact (Hid.out (by assumption)) | refine bl_alloc ?_ _ | refine bl_drewN ?_ _ | refine bl_drew ?_ | refine bl_set ?_ ?_ _ | omega | (simp; done) | (simp; omega)))⟩
  simp only [if_true] at E
  obtain ⟨N2, D2, o2, hy⟩ := pair3 (ratMul N D ((j + 1) * (j2 + 1)) 1)
  rw [hy] at E
  have HY := Lib.hid hy
  clear hy
  have wr1 : IntKind.i64.wrap (j + 1) = j + 1 := IntWalk.i64_in _ (by omega)
  have wr2 : IntKind.i64.wrap (j2 + 1) = j2 + 1 := IntWalk.i64_in _ (by omega)
  have wr3 : IntKind.i64.wrap ((j + 1) * (j2 + 1)) = (j + 1) * (j2 + 1) := IntWalk.i64_in _ (by omega)
  go_wp2_with fail
  have Kz5_x : Blk (w4.alloc (.cells #[.int .i64 S, .int .i64 N, .int .i64 D] 53)) (w.heap.size) #[.int .i64 s, .int .i64 l, .int .i64 j] := (blk_alloc Kw4_xH.out (.cells #[.int .i64 S, .int .i64 N, .int .i64 D] 53))
  have Kz5_y : Blk (w4.alloc (.cells #[.int .i64 S, .int .i64 N, .int .i64 D] 53)) (w.heap.size + 1) #[.int .i64 s, .int .i64 l2, .int .i64 j2] := (blk_alloc Kw4_yH.out (.cells #[.int .i64 S, .int .i64 N, .int .i64 D] 53))
  have Kz5_r : Blk (w4.alloc (.cells #[.int .i64 S, .int .i64 N, .int .i64 D] 53)) (w.heap.size + 2) #[.int .i64 0, .int .i64 0] := (blk_alloc Kw4_rH.out (.cells #[.int .i64 S, .int .i64 N, .int .i64 D] 53))
  have Kz5_root : Blk (w4.alloc (.cells #[.int .i64 S, .int .i64 N, .int .i64 D] 53)) (w4.heap.size) #[.int .i64 S, .int .i64 N, .int .i64 D] := (blk_new (by simp))
  have Bz5 : Below w.heap.size w (w4.alloc (.cells #[.int .i64 S, .int .i64 N, .int .i64 D] 53)) := by (repeat' (first | exact Below.refl _ _ | refine bl_out ?_ (by assumption) | exact (Hid.out (by assumption)) | refine bl_alloc ?_ _ | refine bl_drewN ?_ _ | refine bl_drew ?_ | refine bl_set ?_ ?_ _ | omega | (simp; done) | (simp; omega)))
  have Sz5 : (w4.alloc (.cells #[.int .i64 S, .int .i64 N, .int .i64 D] 53)).heap.size = w4.heap.size + 1 := by simp
  generalize (w4.alloc (.cells #[.int .i64 S, .int .i64 N, .int .i64 D] 53)) = z5 at *
  have Sz5a := Nat.le_of_eq Sz5
  have Sz5b := Nat.le_of_eq Sz5.symm
  clear Sz5
  obtain ⟨z5_c0_x, z5_c1_x, z5_c2_x, z5_f0_x, z5_f1_x, z5_f2_x⟩ := blk3 Kz5_x
  have Kz5_xH := Lib.hid Kz5_x
  have z5_l_x := Kz5_x.lt
  obtain ⟨z5_c0_y, z5_c1_y, z5_c2_y, z5_f0_y, z5_f1_y, z5_f2_y⟩ := blk3 Kz5_y
  have Kz5_yH := Lib.hid Kz5_y
  have z5_l_y := Kz5_y.lt
  obtain ⟨z5_c0_r, z5_c1_r, z5_f0_r, z5_f1_r⟩ := blk2 Kz5_r
  have Kz5_rH := Lib.hid Kz5_r
  have z5_l_r := Kz5_r.lt
  obtain ⟨z5_c0_root, z5_c1_root, z5_c2_root, z5_f0_root, z5_f1_root, z5_f2_root⟩ := blk3 Kz5_root
  have Kz5_rootH := Lib.hid Kz5_root
  have z5_l_root := Kz5_root.lt
  have z5B := Lib.hid Bz5
  clear Bz5
  clear Kz5_x Kz5_y Kz5_r Kz5_root
  have ne_root_x : w4.heap.size ≠ w.heap.size := by omega
  have ne_x_root : w.heap.size ≠ w4.heap.size := by omega
  have ne_root_y : w4.heap.size ≠ w.heap.size + 1 := by omega
  have ne_y_root : w.heap.size + 1 ≠ w4.heap.size := by omega
  have ne_root_r : w4.heap.size ≠ w.heap.size + 2 := by omega
  have ne_r_root : w.heap.size + 2 ≠ w4.heap.size := by omega
  have ne_x_y : w.heap.size ≠ w.heap.size + 1 := by omega
  have ne_y_x : w.heap.size + 1 ≠ w.heap.size := by omega
  have ne_x_r : w.heap.size ≠ w.heap.size + 2 := by omega
  have ne_r_x : w.heap.size + 2 ≠ w.heap.size := by omega
  have ne_y_r : w.heap.size + 1 ≠ w.heap.size + 2 := by omega
  have ne_r_y : w.heap.size + 2 ≠ w.heap.size + 1 := by omega
  have heldAll : ∀ (w1 : World), Below z5.heap.size z5 w1 → w1.cell? ⟨w4.heap.size, 0, none⟩ = some (.int .i64 S) ∧ w1.cell? ⟨w4.heap.size, 1, none⟩ = some (.int .i64 N) ∧ w1.cell? ⟨w4.heap.size, 2, none⟩ = some (.int .i64 D) ∧ w1.cell? ⟨w.heap.size, 0, none⟩ = some (.int .i64 s) ∧ w1.cell? ⟨w.heap.size, 1, none⟩ = some (.int .i64 l) ∧ w1.cell? ⟨w.heap.size, 2, none⟩ = some (.int .i64 j) ∧ w1.cell? ⟨w.heap.size + 1, 0, none⟩ = some (.int .i64 s) ∧ w1.cell? ⟨w.heap.size + 1, 1, none⟩ = some (.int .i64 l2) ∧ w1.cell? ⟨w.heap.size + 1, 2, none⟩ = some (.int .i64 j2) := fun _ hB => ⟨held_cell hB z5_c0_root z5_l_root, held_cell hB z5_c1_root z5_l_root, held_cell hB z5_c2_root z5_l_root, held_cell hB z5_c0_x z5_l_x, held_cell hB z5_c1_x z5_l_x, held_cell hB z5_c2_x z5_l_x, held_cell hB z5_c0_y z5_l_y, held_cell hB z5_c1_y z5_l_y, held_cell hB z5_c2_y z5_l_y⟩
  have HA := Lib.hid heldAll
  clear heldAll
  go_region_held3 (fun w' => w'.cell? ⟨w4.heap.size, 0, none⟩ = some (.int .i64 S) ∧ w'.cell? ⟨w4.heap.size, 1, none⟩ = some (.int .i64 N) ∧ w'.cell? ⟨w4.heap.size, 2, none⟩ = some (.int .i64 D) ∧ w'.cell? ⟨w.heap.size, 0, none⟩ = some (.int .i64 s) ∧ w'.cell? ⟨w.heap.size, 1, none⟩ = some (.int .i64 l) ∧ w'.cell? ⟨w.heap.size, 2, none⟩ = some (.int .i64 j) ∧ w'.cell? ⟨w.heap.size + 1, 0, none⟩ = some (.int .i64 s) ∧ w'.cell? ⟨w.heap.size + 1, 1, none⟩ = some (.int .i64 l2) ∧ w'.cell? ⟨w.heap.size + 1, 2, none⟩ = some (.int .i64 j2)) (first | exact HA.out _ (Below.refl _ _).drew | exact HA.out _ (btr (btr (Below.refl _ _).drew hbA) hbB) | exact HA.out _ (btr (Below.refl _ _).drew hbA) | go_keep) (first | (go_at_call 24; refine (i_whole _ _).mono ?_; rintro e wA ⟨rfl, hbA⟩; obtain ⟨hcA, hfA⟩ := bcell hbA; have hzA : z5.heap.size ≤ wA.heap.size := (hbA.size); have hlA_root : w4.heap.size < wA.heap.size := (by omega); have hlA_x : w.heap.size < wA.heap.size := (by omega); have hlA_y : w.heap.size + 1 < wA.heap.size := (by omega); have hlA_r : w.heap.size + 2 < wA.heap.size := (by omega)) | (go_at_call 26; refine (i_RatMul2 _ _ _ _ _ _ _ _ HY).mono ?_; rintro e wB ⟨rfl, hbB⟩; obtain ⟨hcB, hfB⟩ := bcell hbB; have hzB : z5.heap.size ≤ wB.heap.size := (Nat.le_trans hzA hbB.size); have hlB_root : w4.heap.size < wB.heap.size := (by omega); have hlB_x : w.heap.size < wB.heap.size := (by omega); have hlB_y : w.heap.size + 1 < wB.heap.size := (by omega); have hlB_r : w.heap.size + 2 < wB.heap.size := (by omega); clear hcA hfA hcB hfB; have rB := btr (btr (Below.refl _ _).drew hbA) hbB; have rc0 := held_cell rB z5_c0_r z5_l_r; have rc1 := held_cell rB z5_c1_r z5_l_r; have rf0 := held_free rB z5_f0_r z5_l_r; have rf1 := held_free rB z5_f1_r z5_l_r; clear rB))
  go_wp2_with fail
  refine bodyPost_ret (v := rv (N2, D2, o2)) ?_ rfl ?_
  · have KR : Blk _ (w.heap.size + 2) #[.int .i64 N2, .int .i64 D2] := blk_set (blk_set (blk_later hbB (blk_later hbA Kz5_rH.out)) 0 (.int .i64 N2)) 1 (.int .i64 D2)
    obtain ⟨r0, r1, _, _⟩ := blk2 KR
    simp [results, Try.results9, go_sem, rv, r0, r1]
  · exact ⟨by rw [E.out], bl_set (bl_set (btr (btr (bl_drew z5B.out) hbA) hbB) (by (first | omega | (simp; done) | (simp; omega))) _) (by (first | omega | (simp; done) | (simp; omega))) _⟩

set_option maxRecDepth 100000 in
set_option maxHeartbeats 3000000 in
theorem s_LineStrength (s l j s2 l2 j2 : Int) (w : World) :
    Calls Try.prog 10 #[.agg #[.int .i64 s, .int .i64 l, .int .i64 j], .agg #[.int .i64 s2, .int .i64 l2, .int .i64 j2]] w (RRat w (lsI s l j s2 l2 j2)) := by
  cases h1 : smlB s l j
  · have E := Lib.hid (show lsI s l j s2 l2 j2 = (0, 0, false) by simp [lsI, h1])
    go_enter Try.func10, Try.ntmps10
    go_wp2_with fail
    refine (s_l24Small _ _ _ _).mono ?_
    rintro e w1 ⟨rfl, hb1⟩
    have Kw1_x : Blk w1 (w.heap.size) #[.int .i64 s, .int .i64 l, .int .i64 j] := blk_later hb1 (blk_alloc (blk_alloc (blk_new (by simp)) (.cells #[.int .i64 s2, .int .i64 l2, .int .i64 j2] 26)) (.cells #[.int .i64 0, .int .i64 0] 30))
    have Kw1_y : Blk w1 (w.heap.size + 1) #[.int .i64 s2, .int .i64 l2, .int .i64 j2] := blk_later hb1 (blk_alloc (blk_new (by simp)) (.cells #[.int .i64 0, .int .i64 0] 30))
    have Kw1_r : Blk w1 (w.heap.size + 2) #[.int .i64 0, .int .i64 0] := blk_later hb1 (blk_new (by simp))
    obtain ⟨w1_c0_x, w1_c1_x, w1_c2_x, w1_f0_x, w1_f1_x, w1_f2_x⟩ := blk3 Kw1_x
    have Kw1_xH := Lib.hid Kw1_x
    have w1_l_x := Kw1_x.lt
    have w1_m_x : w.heap.size < w1.heap.size + 1 := by omega
    obtain ⟨w1_c0_y, w1_c1_y, w1_c2_y, w1_f0_y, w1_f1_y, w1_f2_y⟩ := blk3 Kw1_y
    have Kw1_yH := Lib.hid Kw1_y
    have w1_l_y := Kw1_y.lt
    have w1_m_y : w.heap.size + 1 < w1.heap.size + 1 := by omega
    obtain ⟨w1_c0_r, w1_c1_r, w1_f0_r, w1_f1_r⟩ := blk2 Kw1_r
    have Kw1_rH := Lib.hid Kw1_r
    have w1_l_r := Kw1_r.lt
    have w1_m_r : w.heap.size + 2 < w1.heap.size + 1 := by omega
    have w1z := hb1.size
    try simp at w1z
    have w1B := Lib.hid hb1
    clear Kw1_x Kw1_y Kw1_r
    clear hb1
    rw [h1]
    go_wp2_with fail
    refine bodyPost_ret (v := rv (0, 0, false)) ?_ rfl ?_
    · have KR : Blk _ (w.heap.size + 2) #[.int .i64 0, .int .i64 0] := (blk_set (blk_set Kw1_rH.out 0 (.int .i64 0)) 1 (.int .i64 0))
      obtain ⟨r0, r1, _, _⟩ := blk2 KR
      simp [results, Try.results10, go_sem, rv, r0, r1]
    · exact ⟨by rw [E.out], by (repeat' (first | exact Below.refl _ _ | refine bl_out ?_ (by assumption) | exact (Hid.out (by assumption)) | refine bl_alloc ?_ _ | refine bl_drewN ?_ _ | refine bl_drew ?_ | refine bl_set ?_ ?_ _ | omega | (simp; done) | (simp; omega)))⟩
  cases h2 : smlB s2 l2 j2
  · have E := Lib.hid (show lsI s l j s2 l2 j2 = (0, 0, false) by simp [lsI, h2])
    go_enter Try.func10, Try.ntmps10
    go_wp2_with fail
    refine (s_l24Small _ _ _ _).mono ?_
    rintro e w1 ⟨rfl, hb1⟩
    have Kw1_x : Blk w1 (w.heap.size) #[.int .i64 s, .int .i64 l, .int .i64 j] := blk_later hb1 (blk_alloc (blk_alloc (blk_new (by simp)) (.cells #[.int .i64 s2, .int .i64 l2, .int .i64 j2] 26)) (.cells #[.int .i64 0, .int .i64 0] 30))
    have Kw1_y : Blk w1 (w.heap.size + 1) #[.int .i64 s2, .int .i64 l2, .int .i64 j2] := blk_later hb1 (blk_alloc (blk_new (by simp)) (.cells #[.int .i64 0, .int .i64 0] 30))
    have Kw1_r : Blk w1 (w.heap.size + 2) #[.int .i64 0, .int .i64 0] := blk_later hb1 (blk_new (by simp))
    obtain ⟨w1_c0_x, w1_c1_x, w1_c2_x, w1_f0_x, w1_f1_x, w1_f2_x⟩ := blk3 Kw1_x
    have Kw1_xH := Lib.hid Kw1_x
    have w1_l_x := Kw1_x.lt
    have w1_m_x : w.heap.size < w1.heap.size + 1 := by omega
    obtain ⟨w1_c0_y, w1_c1_y, w1_c2_y, w1_f0_y, w1_f1_y, w1_f2_y⟩ := blk3 Kw1_y
    have Kw1_yH := Lib.hid Kw1_y
    have w1_l_y := Kw1_y.lt
    have w1_m_y : w.heap.size + 1 < w1.heap.size + 1 := by omega
    obtain ⟨w1_c0_r, w1_c1_r, w1_f0_r, w1_f1_r⟩ := blk2 Kw1_r
    have Kw1_rH := Lib.hid Kw1_r
    have w1_l_r := Kw1_r.lt
    have w1_m_r : w.heap.size + 2 < w1.heap.size + 1 := by omega
    have w1z := hb1.size
    try simp at w1z
    have w1B := Lib.hid hb1
    clear Kw1_x Kw1_y Kw1_r
    clear hb1
    rw [h1]
    go_wp2_with fail
    refine (s_l24Small _ _ _ _).mono ?_
    rintro e w2 ⟨rfl, hb2⟩
    have Kw2_x : Blk w2 (w.heap.size) #[.int .i64 s, .int .i64 l, .int .i64 j] := blk_later hb2 Kw1_xH.out
    have Kw2_y : Blk w2 (w.heap.size + 1) #[.int .i64 s2, .int .i64 l2, .int .i64 j2] := blk_later hb2 Kw1_yH.out
    have Kw2_r : Blk w2 (w.heap.size + 2) #[.int .i64 0, .int .i64 0] := blk_later hb2 Kw1_rH.out
    obtain ⟨w2_c0_x, w2_c1_x, w2_c2_x, w2_f0_x, w2_f1_x, w2_f2_x⟩ := blk3 Kw2_x
    have Kw2_xH := Lib.hid Kw2_x
    have w2_l_x := Kw2_x.lt
    have w2_m_x : w.heap.size < w2.heap.size + 1 := by omega
    obtain ⟨w2_c0_y, w2_c1_y, w2_c2_y, w2_f0_y, w2_f1_y, w2_f2_y⟩ := blk3 Kw2_y
    have Kw2_yH := Lib.hid Kw2_y
    have w2_l_y := Kw2_y.lt
    have w2_m_y : w.heap.size + 1 < w2.heap.size + 1 := by omega
    obtain ⟨w2_c0_r, w2_c1_r, w2_f0_r, w2_f1_r⟩ := blk2 Kw2_r
    have Kw2_rH := Lib.hid Kw2_r
    have w2_l_r := Kw2_r.lt
    have w2_m_r : w.heap.size + 2 < w2.heap.size + 1 := by omega
    have w2z := hb2.size
    try simp at w2z
    have w2B := Lib.hid hb2
    clear Kw2_x Kw2_y Kw2_r
    clear hb2
    rw [h2]
    go_wp2_with fail
    refine bodyPost_ret (v := rv (0, 0, false)) ?_ rfl ?_
    · have KR : Blk _ (w.heap.size + 2) #[.int .i64 0, .int .i64 0] := (blk_set (blk_set Kw2_rH.out 0 (.int .i64 0)) 1 (.int .i64 0))
      obtain ⟨r0, r1, _, _⟩ := blk2 KR
      simp [results, Try.results10, go_sem, rv, r0, r1]
    · exact ⟨by rw [E.out], by (repeat' (first | exact Below.refl _ _ | refine bl_out ?_ (by assumption) | exact (Hid.out (by assumption)) | refine bl_alloc ?_ _ | refine bl_drewN ?_ _ | refine bl_drew ?_ | refine bl_set ?_ ?_ _ | omega | (simp; done) | (simp; omega)))⟩
  by_cases h3 : s = s2
  case neg =>
    have E := Lib.hid (show lsI s l j s2 l2 j2 = (0, 0, false) by simp [lsI, h3])
    have h31 : (s == s2) = false := by simp [h3]
    have h32 : (s != s2) = true := by simp [h3]
    clear h3
    go_enter Try.func10, Try.ntmps10
    go_wp2_with fail
    refine (s_l24Small _ _ _ _).mono ?_
    rintro e w1 ⟨rfl, hb1⟩
    have Kw1_x : Blk w1 (w.heap.size) #[.int .i64 s, .int .i64 l, .int .i64 j] := blk_later hb1 (blk_alloc (blk_alloc (blk_new (by simp)) (.cells #[.int .i64 s2, .int .i64 l2, .int .i64 j2] 26)) (.cells #[.int .i64 0, .int .i64 0] 30))
    have Kw1_y : Blk w1 (w.heap.size + 1) #[.int .i64 s2, .int .i64 l2, .int .i64 j2] := blk_later hb1 (blk_alloc (blk_new (by simp)) (.cells #[.int .i64 0, .int .i64 0] 30))
    have Kw1_r : Blk w1 (w.heap.size + 2) #[.int .i64 0, .int .i64 0] := blk_later hb1 (blk_new (by simp))
    obtain ⟨w1_c0_x, w1_c1_x, w1_c2_x, w1_f0_x, w1_f1_x, w1_f2_x⟩ := blk3 Kw1_x
    have Kw1_xH := Lib.hid Kw1_x
    have w1_l_x := Kw1_x.lt
    have w1_m_x : w.heap.size < w1.heap.size + 1 := by omega
    obtain ⟨w1_c0_y, w1_c1_y, w1_c2_y, w1_f0_y, w1_f1_y, w1_f2_y⟩ := blk3 Kw1_y
    have Kw1_yH := Lib.hid Kw1_y
    have w1_l_y := Kw1_y.lt
    have w1_m_y : w.heap.size + 1 < w1.heap.size + 1 := by omega
    obtain ⟨w1_c0_r, w1_c1_r, w1_f0_r, w1_f1_r⟩ := blk2 Kw1_r
    have Kw1_rH := Lib.hid Kw1_r
    have w1_l_r := Kw1_r.lt
    have w1_m_r : w.heap.size + 2 < w1.heap.size + 1 := by omega
    have w1z := hb1.size
    try simp at w1z
    have w1B := Lib.hid hb1
    clear Kw1_x Kw1_y Kw1_r
    clear hb1
    rw [h1]
    go_wp2_with fail
    refine (s_l24Small _ _ _ _).mono ?_
    rintro e w2 ⟨rfl, hb2⟩
    have Kw2_x : Blk w2 (w.heap.size) #[.int .i64 s, .int .i64 l, .int .i64 j] := blk_later hb2 Kw1_xH.out
    have Kw2_y : Blk w2 (w.heap.size + 1) #[.int .i64 s2, .int .i64 l2, .int .i64 j2] := blk_later hb2 Kw1_yH.out
    have Kw2_r : Blk w2 (w.heap.size + 2) #[.int .i64 0, .int .i64 0] := blk_later hb2 Kw1_rH.out
    obtain ⟨w2_c0_x, w2_c1_x, w2_c2_x, w2_f0_x, w2_f1_x, w2_f2_x⟩ := blk3 Kw2_x
    have Kw2_xH := Lib.hid Kw2_x
    have w2_l_x := Kw2_x.lt
    have w2_m_x : w.heap.size < w2.heap.size + 1 := by omega
    obtain ⟨w2_c0_y, w2_c1_y, w2_c2_y, w2_f0_y, w2_f1_y, w2_f2_y⟩ := blk3 Kw2_y
    have Kw2_yH := Lib.hid Kw2_y
    have w2_l_y := Kw2_y.lt
    have w2_m_y : w.heap.size + 1 < w2.heap.size + 1 := by omega
    obtain ⟨w2_c0_r, w2_c1_r, w2_f0_r, w2_f1_r⟩ := blk2 Kw2_r
    have Kw2_rH := Lib.hid Kw2_r
    have w2_l_r := Kw2_r.lt
    have w2_m_r : w.heap.size + 2 < w2.heap.size + 1 := by omega
    have w2z := hb2.size
    try simp at w2z
    have w2B := Lib.hid hb2
    clear Kw2_x Kw2_y Kw2_r
    clear hb2
    rw [h2]
    go_wp2_with fail
    refine bodyPost_ret (v := rv (0, 0, false)) ?_ rfl ?_
    · have KR : Blk _ (w.heap.size + 2) #[.int .i64 0, .int .i64 0] := (blk_set (blk_set Kw2_rH.out 0 (.int .i64 0)) 1 (.int .i64 0))
      obtain ⟨r0, r1, _, _⟩ := blk2 KR
      simp [results, Try.results10, go_sem, rv, r0, r1]
    · exact ⟨by rw [E.out], by (repeat' (first | exact Below.refl _ _ | refine bl_out ?_ (by assumption) | exact (Hid.out (by assumption)) | refine bl_alloc ?_ _ | refine bl_drewN ?_ _ | refine bl_drew ?_ | refine bl_set ?_ ?_ _ | omega | (simp; done) | (simp; omega)))⟩
  subst h3
  obtain ⟨⟨s0, s1⟩, ⟨l0, l1⟩, j0, j1⟩ := smlB_iff h1
  obtain ⟨_, ⟨m0, m1⟩, k0, k1⟩ := smlB_iff h2
  obtain ⟨p0, p1⟩ := mul_bd (A := 7) (B := 7) (a := j + 1) (b := j2 + 1) (by omega) (by omega) (by omega) (by omega)
  cases h4 : sixOk (2 * l) j s j2 (2 * l2) 2
  · have E := Lib.hid (show lsI s l j s l2 j2 = (0, 1, true) by simp [lsI, h1, h2, h4])
    go_enter Try.func10, Try.ntmps10
    go_wp2_with fail
    refine (s_l24Small _ _ _ _).mono ?_
    rintro e w1 ⟨rfl, hb1⟩
    have Kw1_x : Blk w1 (w.heap.size) #[.int .i64 s, .int .i64 l, .int .i64 j] := blk_later hb1 (blk_alloc (blk_alloc (blk_new (by simp)) (.cells #[.int .i64 s, .int .i64 l2, .int .i64 j2] 26)) (.cells #[.int .i64 0, .int .i64 0] 30))
    have Kw1_y : Blk w1 (w.heap.size + 1) #[.int .i64 s, .int .i64 l2, .int .i64 j2] := blk_later hb1 (blk_alloc (blk_new (by simp)) (.cells #[.int .i64 0, .int .i64 0] 30))
    have Kw1_r : Blk w1 (w.heap.size + 2) #[.int .i64 0, .int .i64 0] := blk_later hb1 (blk_new (by simp))
    obtain ⟨w1_c0_x, w1_c1_x, w1_c2_x, w1_f0_x, w1_f1_x, w1_f2_x⟩ := blk3 Kw1_x
    have Kw1_xH := Lib.hid Kw1_x
    have w1_l_x := Kw1_x.lt
    have w1_m_x : w.heap.size < w1.heap.size + 1 := by omega
    obtain ⟨w1_c0_y, w1_c1_y, w1_c2_y, w1_f0_y, w1_f1_y, w1_f2_y⟩ := blk3 Kw1_y
    have Kw1_yH := Lib.hid Kw1_y
    have w1_l_y := Kw1_y.lt
    have w1_m_y : w.heap.size + 1 < w1.heap.size + 1 := by omega
    obtain ⟨w1_c0_r, w1_c1_r, w1_f0_r, w1_f1_r⟩ := blk2 Kw1_r
    have Kw1_rH := Lib.hid Kw1_r
    have w1_l_r := Kw1_r.lt
    have w1_m_r : w.heap.size + 2 < w1.heap.size + 1 := by omega
    have w1z := hb1.size
    try simp at w1z
    have w1B := Lib.hid hb1
    clear Kw1_x Kw1_y Kw1_r
    clear hb1
    rw [h1]
    go_wp2_with fail
    refine (s_l24Small _ _ _ _).mono ?_
    rintro e w2 ⟨rfl, hb2⟩
    have Kw2_x : Blk w2 (w.heap.size) #[.int .i64 s, .int .i64 l, .int .i64 j] := blk_later hb2 Kw1_xH.out
    have Kw2_y : Blk w2 (w.heap.size + 1) #[.int .i64 s, .int .i64 l2, .int .i64 j2] := blk_later hb2 Kw1_yH.out
    have Kw2_r : Blk w2 (w.heap.size + 2) #[.int .i64 0, .int .i64 0] := blk_later hb2 Kw1_rH.out
    obtain ⟨w2_c0_x, w2_c1_x, w2_c2_x, w2_f0_x, w2_f1_x, w2_f2_x⟩ := blk3 Kw2_x
    have Kw2_xH := Lib.hid Kw2_x
    have w2_l_x := Kw2_x.lt
    have w2_m_x : w.heap.size < w2.heap.size + 1 := by omega
    obtain ⟨w2_c0_y, w2_c1_y, w2_c2_y, w2_f0_y, w2_f1_y, w2_f2_y⟩ := blk3 Kw2_y
    have Kw2_yH := Lib.hid Kw2_y
    have w2_l_y := Kw2_y.lt
    have w2_m_y : w.heap.size + 1 < w2.heap.size + 1 := by omega
    obtain ⟨w2_c0_r, w2_c1_r, w2_f0_r, w2_f1_r⟩ := blk2 Kw2_r
    have Kw2_rH := Lib.hid Kw2_r
    have w2_l_r := Kw2_r.lt
    have w2_m_r : w.heap.size + 2 < w2.heap.size + 1 := by omega
    have w2z := hb2.size
    try simp at w2z
    have w2B := Lib.hid hb2
    clear Kw2_x Kw2_y Kw2_r
    clear hb2
    rw [h2]
    go_wp2_with fail
    refine (s_l23Ok _ _ _ _ _ _ _).mono ?_
    rintro e w3 ⟨rfl, hb3⟩
    have Kw3_x : Blk w3 (w.heap.size) #[.int .i64 s, .int .i64 l, .int .i64 j] := blk_later hb3 Kw2_xH.out
    have Kw3_y : Blk w3 (w.heap.size + 1) #[.int .i64 s, .int .i64 l2, .int .i64 j2] := blk_later hb3 Kw2_yH.out
    have Kw3_r : Blk w3 (w.heap.size + 2) #[.int .i64 0, .int .i64 0] := blk_later hb3 Kw2_rH.out
    obtain ⟨w3_c0_x, w3_c1_x, w3_c2_x, w3_f0_x, w3_f1_x, w3_f2_x⟩ := blk3 Kw3_x
    have Kw3_xH := Lib.hid Kw3_x
    have w3_l_x := Kw3_x.lt
    have w3_m_x : w.heap.size < w3.heap.size + 1 := by omega
    obtain ⟨w3_c0_y, w3_c1_y, w3_c2_y, w3_f0_y, w3_f1_y, w3_f2_y⟩ := blk3 Kw3_y
    have Kw3_yH := Lib.hid Kw3_y
    have w3_l_y := Kw3_y.lt
    have w3_m_y : w.heap.size + 1 < w3.heap.size + 1 := by omega
    obtain ⟨w3_c0_r, w3_c1_r, w3_f0_r, w3_f1_r⟩ := blk2 Kw3_r
    have Kw3_rH := Lib.hid Kw3_r
    have w3_l_r := Kw3_r.lt
    have w3_m_r : w.heap.size + 2 < w3.heap.size + 1 := by omega
    have w3z := hb3.size
    try simp at w3z
    have w3B := Lib.hid hb3
    clear Kw3_x Kw3_y Kw3_r
    clear hb3
    rw [h4]
    go_wp2_with fail
    refine bodyPost_ret (v := rv (0, 1, true)) ?_ rfl ?_
    · have KR : Blk _ (w.heap.size + 2) #[.int .i64 0, .int .i64 1] := (blk_set (blk_set Kw3_rH.out 0 (.int .i64 0)) 1 (.int .i64 1))
      obtain ⟨r0, r1, _, _⟩ := blk2 KR
      simp [results, Try.results10, go_sem, rv, r0, r1]
    · exact ⟨by rw [E.out], by (repeat' (first | exact Below.refl _ _ | refine bl_out ?_ (by assumption) | exact (Hid.out (by assumption)) | refine bl_alloc ?_ _ | refine bl_drewN ?_ _ | refine bl_drew ?_ | refine bl_set ?_ ?_ _ | omega | (simp; done) | (simp; omega)))⟩
  have E := Lib.hid (show lsI s l j s l2 j2 = if (sjI (2 * l) j s j2 (2 * l2) 2).2.2.2 = true then ratMul (sjI (2 * l) j s j2 (2 * l2) 2).2.1 (sjI (2 * l) j s j2 (2 * l2) 2).2.2.1 ((j + 1) * (j2 + 1)) 1 else (0, 0, false) by simp [lsI, h1, h2, h4])
  go_enter Try.func10, Try.ntmps10
  go_wp2_with fail
  refine (s_l24Small _ _ _ _).mono ?_
  rintro e w1 ⟨rfl, hb1⟩
  have Kw1_x : Blk w1 (w.heap.size) #[.int .i64 s, .int .i64 l, .int .i64 j] := blk_later hb1 (blk_alloc (blk_alloc (blk_new (by simp)) (.cells #[.int .i64 s, .int .i64 l2, .int .i64 j2] 26)) (.cells #[.int .i64 0, .int .i64 0] 30))
  have Kw1_y : Blk w1 (w.heap.size + 1) #[.int .i64 s, .int .i64 l2, .int .i64 j2] := blk_later hb1 (blk_alloc (blk_new (by simp)) (.cells #[.int .i64 0, .int .i64 0] 30))
  have Kw1_r : Blk w1 (w.heap.size + 2) #[.int .i64 0, .int .i64 0] := blk_later hb1 (blk_new (by simp))
  obtain ⟨w1_c0_x, w1_c1_x, w1_c2_x, w1_f0_x, w1_f1_x, w1_f2_x⟩ := blk3 Kw1_x
  have Kw1_xH := Lib.hid Kw1_x
  have w1_l_x := Kw1_x.lt
  have w1_m_x : w.heap.size < w1.heap.size + 1 := by omega
  obtain ⟨w1_c0_y, w1_c1_y, w1_c2_y, w1_f0_y, w1_f1_y, w1_f2_y⟩ := blk3 Kw1_y
  have Kw1_yH := Lib.hid Kw1_y
  have w1_l_y := Kw1_y.lt
  have w1_m_y : w.heap.size + 1 < w1.heap.size + 1 := by omega
  obtain ⟨w1_c0_r, w1_c1_r, w1_f0_r, w1_f1_r⟩ := blk2 Kw1_r
  have Kw1_rH := Lib.hid Kw1_r
  have w1_l_r := Kw1_r.lt
  have w1_m_r : w.heap.size + 2 < w1.heap.size + 1 := by omega
  have w1z := hb1.size
  try simp at w1z
  have w1B := Lib.hid hb1
  clear Kw1_x Kw1_y Kw1_r
  clear hb1
  rw [h1]
  go_wp2_with fail
  refine (s_l24Small _ _ _ _).mono ?_
  rintro e w2 ⟨rfl, hb2⟩
  have Kw2_x : Blk w2 (w.heap.size) #[.int .i64 s, .int .i64 l, .int .i64 j] := blk_later hb2 Kw1_xH.out
  have Kw2_y : Blk w2 (w.heap.size + 1) #[.int .i64 s, .int .i64 l2, .int .i64 j2] := blk_later hb2 Kw1_yH.out
  have Kw2_r : Blk w2 (w.heap.size + 2) #[.int .i64 0, .int .i64 0] := blk_later hb2 Kw1_rH.out
  obtain ⟨w2_c0_x, w2_c1_x, w2_c2_x, w2_f0_x, w2_f1_x, w2_f2_x⟩ := blk3 Kw2_x
  have Kw2_xH := Lib.hid Kw2_x
  have w2_l_x := Kw2_x.lt
  have w2_m_x : w.heap.size < w2.heap.size + 1 := by omega
  obtain ⟨w2_c0_y, w2_c1_y, w2_c2_y, w2_f0_y, w2_f1_y, w2_f2_y⟩ := blk3 Kw2_y
  have Kw2_yH := Lib.hid Kw2_y
  have w2_l_y := Kw2_y.lt
  have w2_m_y : w.heap.size + 1 < w2.heap.size + 1 := by omega
  obtain ⟨w2_c0_r, w2_c1_r, w2_f0_r, w2_f1_r⟩ := blk2 Kw2_r
  have Kw2_rH := Lib.hid Kw2_r
  have w2_l_r := Kw2_r.lt
  have w2_m_r : w.heap.size + 2 < w2.heap.size + 1 := by omega
  have w2z := hb2.size
  try simp at w2z
  have w2B := Lib.hid hb2
  clear Kw2_x Kw2_y Kw2_r
  clear hb2
  rw [h2]
  go_wp2_with fail
  refine (s_l23Ok _ _ _ _ _ _ _).mono ?_
  rintro e w3 ⟨rfl, hb3⟩
  have Kw3_x : Blk w3 (w.heap.size) #[.int .i64 s, .int .i64 l, .int .i64 j] := blk_later hb3 Kw2_xH.out
  have Kw3_y : Blk w3 (w.heap.size + 1) #[.int .i64 s, .int .i64 l2, .int .i64 j2] := blk_later hb3 Kw2_yH.out
  have Kw3_r : Blk w3 (w.heap.size + 2) #[.int .i64 0, .int .i64 0] := blk_later hb3 Kw2_rH.out
  obtain ⟨w3_c0_x, w3_c1_x, w3_c2_x, w3_f0_x, w3_f1_x, w3_f2_x⟩ := blk3 Kw3_x
  have Kw3_xH := Lib.hid Kw3_x
  have w3_l_x := Kw3_x.lt
  have w3_m_x : w.heap.size < w3.heap.size + 1 := by omega
  obtain ⟨w3_c0_y, w3_c1_y, w3_c2_y, w3_f0_y, w3_f1_y, w3_f2_y⟩ := blk3 Kw3_y
  have Kw3_yH := Lib.hid Kw3_y
  have w3_l_y := Kw3_y.lt
  have w3_m_y : w.heap.size + 1 < w3.heap.size + 1 := by omega
  obtain ⟨w3_c0_r, w3_c1_r, w3_f0_r, w3_f1_r⟩ := blk2 Kw3_r
  have Kw3_rH := Lib.hid Kw3_r
  have w3_l_r := Kw3_r.lt
  have w3_m_r : w.heap.size + 2 < w3.heap.size + 1 := by omega
  have w3z := hb3.size
  try simp at w3z
  have w3B := Lib.hid hb3
  clear Kw3_x Kw3_y Kw3_r
  clear hb3
  rw [h4]
  go_wp2_with fail
  refine (s_SixJ _ _ _ _ _ _ _).mono ?_
  rintro e w4 ⟨rfl, hb4⟩
  have Kw4_x : Blk w4 (w.heap.size) #[.int .i64 s, .int .i64 l, .int .i64 j] := blk_later hb4 Kw3_xH.out
  have Kw4_y : Blk w4 (w.heap.size + 1) #[.int .i64 s, .int .i64 l2, .int .i64 j2] := blk_later hb4 Kw3_yH.out
  have Kw4_r : Blk w4 (w.heap.size + 2) #[.int .i64 0, .int .i64 0] := blk_later hb4 Kw3_rH.out
  obtain ⟨w4_c0_x, w4_c1_x, w4_c2_x, w4_f0_x, w4_f1_x, w4_f2_x⟩ := blk3 Kw4_x
  have Kw4_xH := Lib.hid Kw4_x
  have w4_l_x := Kw4_x.lt
  have w4_m_x : w.heap.size < w4.heap.size + 1 := by omega
  obtain ⟨w4_c0_y, w4_c1_y, w4_c2_y, w4_f0_y, w4_f1_y, w4_f2_y⟩ := blk3 Kw4_y
  have Kw4_yH := Lib.hid Kw4_y
  have w4_l_y := Kw4_y.lt
  have w4_m_y : w.heap.size + 1 < w4.heap.size + 1 := by omega
  obtain ⟨w4_c0_r, w4_c1_r, w4_f0_r, w4_f1_r⟩ := blk2 Kw4_r
  have Kw4_rH := Lib.hid Kw4_r
  have w4_l_r := Kw4_r.lt
  have w4_m_r : w.heap.size + 2 < w4.heap.size + 1 := by omega
  have w4z := hb4.size
  try simp at w4z
  have w4B := Lib.hid hb4
  clear Kw4_x Kw4_y Kw4_r
  clear hb4
  generalize hX : sjI (2 * l) j s j2 (2 * l2) 2 = XhX at *
  obtain ⟨S, N, D, o⟩ := XhX
  have HhX := Lib.hid hX
  clear hX
  simp only [rtv]
  cases o
  · simp only [Bool.false_eq_true, if_false] at E
    go_wp2_with fail
    refine bodyPost_ret (v := rv (0, 0, false)) ?_ rfl ?_
    · have KR : Blk _ (w.heap.size + 2) #[.int .i64 0, .int .i64 0] := (blk_alloc (blk_set (blk_set Kw4_rH.out 0 (.int .i64 0)) 1 (.int .i64 0)) (.cells #[.int .i64 S, .int .i64 N, .int .i64 D] 53))
      obtain ⟨r0, r1, _, _⟩ := blk2 KR
      simp [results, Try.results10, go_sem, rv, r0, r1]
    · exact ⟨by rw [E.out], by (repeat' (first | exact Below.refl _ _ | refine bl_out ?_ (by assumption) | exact (Hid.out (by assumption)) | refine bl_alloc ?_ _ | refine bl_drewN ?_ _ | refine bl_drew ?_ | refine bl_set ?_ ?_ _ | omega | (simp; done) | (simp; omega)))⟩
  simp only [if_true] at E
  obtain ⟨N2, D2, o2, hy⟩ := pair3 (ratMul N D ((j + 1) * (j2 + 1)) 1)
  rw [hy] at E
  have HY := Lib.hid hy
  clear hy
  go_wp2_with fail
  refine (s_RatMul _ _ _ _ _).mono ?_
  rintro e w5 ⟨rfl, hb5⟩
  have Kw5_x : Blk w5 (w.heap.size) #[.int .i64 s, .int .i64 l, .int .i64 j] := blk_later hb5 (blk_alloc Kw4_xH.out (.cells #[.int .i64 S, .int .i64 N, .int .i64 D] 53))
  have Kw5_y : Blk w5 (w.heap.size + 1) #[.int .i64 s, .int .i64 l2, .int .i64 j2] := blk_later hb5 (blk_alloc Kw4_yH.out (.cells #[.int .i64 S, .int .i64 N, .int .i64 D] 53))
  have Kw5_r : Blk w5 (w.heap.size + 2) #[.int .i64 0, .int .i64 0] := blk_later hb5 (blk_alloc Kw4_rH.out (.cells #[.int .i64 S, .int .i64 N, .int .i64 D] 53))
  have Kw5_root : Blk w5 (w4.heap.size) #[.int .i64 S, .int .i64 N, .int .i64 D] := blk_later hb5 (blk_new (by simp))
  obtain ⟨w5_c0_x, w5_c1_x, w5_c2_x, w5_f0_x, w5_f1_x, w5_f2_x⟩ := blk3 Kw5_x
  have Kw5_xH := Lib.hid Kw5_x
  have w5_l_x := Kw5_x.lt
  have w5_m_x : w.heap.size < w5.heap.size + 1 := by omega
  obtain ⟨w5_c0_y, w5_c1_y, w5_c2_y, w5_f0_y, w5_f1_y, w5_f2_y⟩ := blk3 Kw5_y
  have Kw5_yH := Lib.hid Kw5_y
  have w5_l_y := Kw5_y.lt
  have w5_m_y : w.heap.size + 1 < w5.heap.size + 1 := by omega
  obtain ⟨w5_c0_r, w5_c1_r, w5_f0_r, w5_f1_r⟩ := blk2 Kw5_r
  have Kw5_rH := Lib.hid Kw5_r
  have w5_l_r := Kw5_r.lt
  have w5_m_r : w.heap.size + 2 < w5.heap.size + 1 := by omega
  obtain ⟨w5_c0_root, w5_c1_root, w5_c2_root, w5_f0_root, w5_f1_root, w5_f2_root⟩ := blk3 Kw5_root
  have Kw5_rootH := Lib.hid Kw5_root
  have w5_l_root := Kw5_root.lt
  have w5_m_root : w4.heap.size < w5.heap.size + 1 := by omega
  have w5z := hb5.size
  try simp at w5z
  have w5B := Lib.hid hb5
  clear Kw5_x Kw5_y Kw5_r Kw5_root
  clear hb5
  rw [HY.out]
  simp only [rv]
  go_wp2_with fail
  refine bodyPost_ret (v := rv (N2, D2, o2)) ?_ rfl ?_
  · have KR : Blk _ (w.heap.size + 2) #[.int .i64 N2, .int .i64 D2] := (blk_set (blk_set Kw5_rH.out 0 (.int .i64 N2)) 1 (.int .i64 D2))
    obtain ⟨r0, r1, _, _⟩ := blk2 KR
    simp [results, Try.results10, go_sem, rv, r0, r1]
  · exact ⟨by rw [E.out], by (repeat' (first | exact Below.refl _ _ | refine bl_out ?_ (by assumption) | exact (Hid.out (by assumption)) | refine bl_alloc ?_ _ | refine bl_drewN ?_ _ | refine bl_drew ?_ | refine bl_set ?_ ?_ _ | omega | (simp; done) | (simp; omega)))⟩

end Go.Proofs.Ytneihommpncegaa
