/- Contracts of the draws of rationals. -/
import Derived.Test.YtjhnommmgkgjoaaE
import Derived.Test.YtjhnommmgkgjoaaQ
import Derived.Test.YtjhnommmgkgjoaaRk
namespace Go.Proofs.Ytjhnommmgkgjoaa
open Go.RowKit

/-- An integer is drawn with the reader. -/
def RRd1 (w : World) (R p c : Nat) (lo hi : Int) (e : Ending) (w' : World) : Prop := ∃ (x : Int) (q : Nat), e = .returned (.int .i64 x) ∧ (lo ≤ x ∧ x ≤ hi) ∧ q ≤ p + c ∧ Rd w' R q ∧ w.grownBy w' (some R)
/-- A rational is drawn with the reader. -/
def RRdQ (w : World) (R p c : Nat) (e : Ending) (w' : World) : Prop := ∃ (x y : Int) (q : Nat), e = .returned (.agg #[.int .i64 x, .int .i64 y]) ∧ (-2000000000 ≤ x ∧ x ≤ 2000000000) ∧ (-2000000000 ≤ y ∧ y ≤ 2000000000) ∧ q ≤ p + c ∧ Rd w' R q ∧ w.grownBy w' (some R)

theorem ratOf_bd (n d : Int) : (-1000000000 ≤ (ratOf n d).1 ∧ (ratOf n d).1 ≤ 1000000000) ∧ (0 ≤ (ratOf n d).2.1 ∧ (ratOf n d).2.1 ≤ 1000000000) := by
  unfold ratOf
  split
  · exact mkR_bd n d
  · simp

set_option maxRecDepth 100000 in
set_option maxHeartbeats 1000000 in
theorem s_l91Small (R p : Nat) (w : World) (hr : Rd w R p) (hp : p ≤ 900000) :
    Calls Try.prog 82 #[.pointer (some ⟨R, 0, none⟩)] w (RRd1 w R p 1 (-20) 20) := by
  have HR := Lib.hid hr
  have hR := hr.lt
  clear hr
  go_enter Try.func82, Try.ntmps82
  go_wp2_with fail
  refine (s_pick _ _ _ _ HR.out (by omega) (by omega)).mono ?_
  rintro e w1 ⟨x, rfl, x0, x1, xr, hg1⟩
  have x2 := x1 (by omega)
  clear x1
  have w1R := Lib.hid xr
  clear xr
  have w1z := hg1.size
  try simp at w1z
  have w1G := Lib.hid hg1
  clear hg1
  go_wp2_with fail
  go_ret
  exact ⟨_, _, rfl, by omega, by omega, w1R.out, by (repeat' (first | exact on_refl _ _ | refine on_out ?_ (by assumption) | refine on_below ?_ (by assumption) | refine on_alloc ?_ _ | refine on_drewN ?_ _ | refine on_drew ?_ | refine on_set ?_ ?_ _ | omega | (simp; done) | (simp; omega)))⟩

set_option maxRecDepth 100000 in
set_option maxHeartbeats 1000000 in
theorem s_l91Rat (R p : Nat) (w : World) (hr : Rd w R p) (hp : p ≤ 900000) :
    Calls Try.prog 64 #[.pointer (some ⟨R, 0, none⟩)] w (RRdQ w R p 10) := by
  have HR := Lib.hid hr
  have hR := hr.lt
  clear hr
  go_enter Try.func64, Try.ntmps64
  go_wp2_with fail
  refine (s_l91Small _ _ _ (rd_alloc HR.out _) (by omega)).mono ?_
  rintro e w1 ⟨n, nq, rfl, ⟨n0, n2⟩, np, nr, hg1⟩
  have w1R := Lib.hid nr
  clear nr
  have Kw1_r : Blk w1 (w.heap.size) #[.int .i64 0, .int .i64 0] := blk_only hg1 (by omega) (blk_new (by simp))
  obtain ⟨w1_c0_r, w1_c1_r, w1_f0_r, w1_f1_r⟩ := blk2 Kw1_r
  have Kw1_rH := Lib.hid Kw1_r
  have w1_l_r := Kw1_r.lt
  have w1_m_r : w.heap.size < w1.heap.size + 1 := by omega
  have w1z := hg1.size
  try simp at w1z
  have w1G := Lib.hid hg1
  clear Kw1_r
  clear hg1
  go_wp2_with fail
  refine (s_pick _ _ _ _ w1R.out (by omega) (by omega)).mono ?_
  rintro e w2 ⟨t, rfl, t0, t1, tr, hg2⟩
  have t2 := t1 (by omega)
  clear t1
  have w2R := Lib.hid tr
  clear tr
  have Kw2_r : Blk w2 (w.heap.size) #[.int .i64 0, .int .i64 0] := blk_only hg2 (by omega) Kw1_rH.out
  obtain ⟨w2_c0_r, w2_c1_r, w2_f0_r, w2_f1_r⟩ := blk2 Kw2_r
  have Kw2_rH := Lib.hid Kw2_r
  have w2_l_r := Kw2_r.lt
  have w2_m_r : w.heap.size < w2.heap.size + 1 := by omega
  have w2z := hg2.size
  try simp at w2z
  have w2G := Lib.hid hg2
  clear Kw2_r
  clear hg2
  by_cases ht : t = 0
  · subst ht
    go_wp2_with fail
    refine (s_pick _ _ _ _ (rd_alloc w2R.out _) (by omega) (by omega)).mono ?_
    rintro e w3 ⟨x, rfl, x0, x1, xr, hg3⟩
    have x2 := x1 (by omega)
    clear x1
    have w3R := Lib.hid xr
    clear xr
    have Kw3_r : Blk w3 (w.heap.size) #[.int .i64 0, .int .i64 0] := blk_only hg3 (by omega) (blk_alloc Kw2_rH.out (.cells #[.int .i64 999999999, .int .i64 1000000000, .int .i64 (-1000000000), .int .i64 500000000] 3))
    have Kw3_lit : Blk w3 (w2.heap.size) #[.int .i64 999999999, .int .i64 1000000000, .int .i64 (-1000000000), .int .i64 500000000] := blk_only hg3 (by omega) (blk_new (by simp))
    obtain ⟨w3_c0_r, w3_c1_r, w3_f0_r, w3_f1_r⟩ := blk2 Kw3_r
    have Kw3_rH := Lib.hid Kw3_r
    have w3_l_r := Kw3_r.lt
    have w3_m_r : w.heap.size < w3.heap.size + 1 := by omega
    obtain ⟨w3_c0_lit, w3_c1_lit, w3_c2_lit, w3_c3_lit, w3_f0_lit, w3_f1_lit, w3_f2_lit, w3_f3_lit⟩ := blk4 Kw3_lit
    have Kw3_litH := Lib.hid Kw3_lit
    have w3_l_lit := Kw3_lit.lt
    have w3_m_lit : w2.heap.size < w3.heap.size + 1 := by omega
    have w3z := hg3.size
    try simp at w3z
    have w3G := Lib.hid hg3
    clear Kw3_r Kw3_lit
    clear hg3
    obtain ⟨nn, nnh, nn0, nn2⟩ : ∃ v : Int, w3.cell? ⟨w2.heap.size, x.toNat, none⟩ = some (.int .i64 v) ∧ -1000000000 ≤ v ∧ v ≤ 1000000000 := by
      rcases (by omega : x = 0 ∨ x = 1 ∨ x = 2 ∨ x = 3) with h | h | h | h
      · subst h; exact ⟨_, w3_c0_lit, by omega, by omega⟩
      · subst h; exact ⟨_, w3_c1_lit, by omega, by omega⟩
      · subst h; exact ⟨_, w3_c2_lit, by omega, by omega⟩
      · subst h; exact ⟨_, w3_c3_lit, by omega, by omega⟩
    go_wp2_with fail
    refine (s_pick _ _ _ _ w3R.out (by omega) (by omega)).mono ?_
    rintro e w4 ⟨d, rfl, d0, d1, dr, hg4⟩
    have d2 := d1 (by omega)
    clear d1
    have w4R := Lib.hid dr
    clear dr
    have Kw4_r : Blk w4 (w.heap.size) #[.int .i64 0, .int .i64 0] := blk_only hg4 (by omega) Kw3_rH.out
    have Kw4_lit : Blk w4 (w2.heap.size) #[.int .i64 999999999, .int .i64 1000000000, .int .i64 (-1000000000), .int .i64 500000000] := blk_only hg4 (by omega) Kw3_litH.out
    obtain ⟨w4_c0_r, w4_c1_r, w4_f0_r, w4_f1_r⟩ := blk2 Kw4_r
    have Kw4_rH := Lib.hid Kw4_r
    have w4_l_r := Kw4_r.lt
    have w4_m_r : w.heap.size < w4.heap.size + 1 := by omega
    obtain ⟨w4_c0_lit, w4_c1_lit, w4_c2_lit, w4_c3_lit, w4_f0_lit, w4_f1_lit, w4_f2_lit, w4_f3_lit⟩ := blk4 Kw4_lit
    have Kw4_litH := Lib.hid Kw4_lit
    have w4_l_lit := Kw4_lit.lt
    have w4_m_lit : w2.heap.size < w4.heap.size + 1 := by omega
    have w4z := hg4.size
    try simp at w4z
    have w4G := Lib.hid hg4
    clear Kw4_r Kw4_lit
    clear hg4
    go_wp2_with fail
    refine (s_pick _ _ _ _ w4R.out (by omega) (by omega)).mono ?_
    rintro e w5 ⟨u, rfl, u0, u1, ur, hg5⟩
    have u2 := u1 (by omega)
    clear u1
    have w5R := Lib.hid ur
    clear ur
    have Kw5_r : Blk w5 (w.heap.size) #[.int .i64 0, .int .i64 0] := blk_only hg5 (by omega) Kw4_rH.out
    have Kw5_lit : Blk w5 (w2.heap.size) #[.int .i64 999999999, .int .i64 1000000000, .int .i64 (-1000000000), .int .i64 500000000] := blk_only hg5 (by omega) Kw4_litH.out
    obtain ⟨w5_c0_r, w5_c1_r, w5_f0_r, w5_f1_r⟩ := blk2 Kw5_r
    have Kw5_rH := Lib.hid Kw5_r
    have w5_l_r := Kw5_r.lt
    have w5_m_r : w.heap.size < w5.heap.size + 1 := by omega
    obtain ⟨w5_c0_lit, w5_c1_lit, w5_c2_lit, w5_c3_lit, w5_f0_lit, w5_f1_lit, w5_f2_lit, w5_f3_lit⟩ := blk4 Kw5_lit
    have Kw5_litH := Lib.hid Kw5_lit
    have w5_l_lit := Kw5_lit.lt
    have w5_m_lit : w2.heap.size < w5.heap.size + 1 := by omega
    have w5z := hg5.size
    try simp at w5z
    have w5G := Lib.hid hg5
    clear Kw5_r Kw5_lit
    clear hg5
    by_cases hu : u = 0
    · subst hu
      go_wp2_with fail
      refine (s_pick _ _ _ _ (rd_alloc w5R.out _) (by omega) (by omega)).mono ?_
      rintro e w6 ⟨y, rfl, y0, y1, yr, hg6⟩
      have y2 := y1 (by omega)
      clear y1
      have w6R := Lib.hid yr
      clear yr
      have Kw6_r : Blk w6 (w.heap.size) #[.int .i64 0, .int .i64 0] := blk_only hg6 (by omega) (blk_alloc Kw5_rH.out (.cells #[.int .i64 1000000000, .int .i64 999999999, .int .i64 999999937, .int .i64 65536] 3))
      have Kw6_lit : Blk w6 (w5.heap.size) #[.int .i64 1000000000, .int .i64 999999999, .int .i64 999999937, .int .i64 65536] := blk_only hg6 (by omega) (blk_new (by simp))
      obtain ⟨w6_c0_r, w6_c1_r, w6_f0_r, w6_f1_r⟩ := blk2 Kw6_r
      have Kw6_rH := Lib.hid Kw6_r
      have w6_l_r := Kw6_r.lt
      have w6_m_r : w.heap.size < w6.heap.size + 1 := by omega
      obtain ⟨w6_c0_lit, w6_c1_lit, w6_c2_lit, w6_c3_lit, w6_f0_lit, w6_f1_lit, w6_f2_lit, w6_f3_lit⟩ := blk4 Kw6_lit
      have Kw6_litH := Lib.hid Kw6_lit
      have w6_l_lit := Kw6_lit.lt
      have w6_m_lit : w5.heap.size < w6.heap.size + 1 := by omega
      have w6z := hg6.size
      try simp at w6z
      have w6G := Lib.hid hg6
      clear Kw6_r Kw6_lit
      clear hg6
      obtain ⟨dd, ddh, dd0, dd2⟩ : ∃ v : Int, w6.cell? ⟨w5.heap.size, y.toNat, none⟩ = some (.int .i64 v) ∧ -1000000000 ≤ v ∧ v ≤ 1000000000 := by
        rcases (by omega : y = 0 ∨ y = 1 ∨ y = 2 ∨ y = 3) with h | h | h | h
        · subst h; exact ⟨_, w6_c0_lit, by omega, by omega⟩
        · subst h; exact ⟨_, w6_c1_lit, by omega, by omega⟩
        · subst h; exact ⟨_, w6_c2_lit, by omega, by omega⟩
        · subst h; exact ⟨_, w6_c3_lit, by omega, by omega⟩
      go_wp2_with fail
      refine (s_RatOf _ _ _).mono ?_
      rintro e w7 ⟨rfl, hb7⟩
      have w7R := Lib.hid (rd_later w6R.out hb7)
      have Kw7_r : Blk w7 (w.heap.size) #[.int .i64 0, .int .i64 0] := blk_later hb7 Kw6_rH.out
      obtain ⟨w7_c0_r, w7_c1_r, w7_f0_r, w7_f1_r⟩ := blk2 Kw7_r
      have Kw7_rH := Lib.hid Kw7_r
      have w7_l_r := Kw7_r.lt
      have w7_m_r : w.heap.size < w7.heap.size + 1 := by omega
      have w7z := hb7.size
      try simp at w7z
      have w7B := Lib.hid hb7
      clear Kw7_r
      clear hb7
      have hbd := ratOf_bd (nn) (dd)
      generalize ratOf (nn) (dd) = X at *
      obtain ⟨N, D, o⟩ := X
      simp only [rv]
      cases o
      · go_wp2_with fail
        refine bodyPost_ret (v := .agg #[.int .i64 1, .int .i64 2]) ?_ rfl ?_
        · have KR : Blk _ (w.heap.size) #[.int .i64 1, .int .i64 2] := (blk_alloc (blk_set (blk_set Kw7_rH.out 0 (.int .i64 1)) 1 (.int .i64 2)) (.cells #[.int .i64 N, .int .i64 D] 24))
          obtain ⟨r0, r1, _, _⟩ := blk2 KR
          simp [results, Try.results64, go_sem, r0, r1]
        · exact ⟨_, _, _, rfl, by omega, by omega, by omega, (rd_alloc (rd_set (rd_set w7R.out (q := ⟨w.heap.size, 0, none⟩) (v := .int .i64 1) (by simp; omega)) (q := ⟨w.heap.size, 1, none⟩) (v := .int .i64 2) (by simp; omega)) _), by (repeat' (first | exact on_refl _ _ | refine on_out ?_ (by assumption) | refine on_below ?_ (by assumption) | refine on_alloc ?_ _ | refine on_drewN ?_ _ | refine on_drew ?_ | refine on_set ?_ ?_ _ | omega | (simp; done) | (simp; omega)))⟩
      · go_wp2_with fail
        refine bodyPost_ret (v := .agg #[.int .i64 N, .int .i64 D]) ?_ rfl ?_
        · have KR : Blk _ (w.heap.size) #[.int .i64 N, .int .i64 D] := (blk_alloc (blk_set (blk_set Kw7_rH.out 0 (.int .i64 N)) 1 (.int .i64 D)) (.cells #[.int .i64 N, .int .i64 D] 24))
          obtain ⟨r0, r1, _, _⟩ := blk2 KR
          simp [results, Try.results64, go_sem, r0, r1]
        · exact ⟨_, _, _, rfl, by omega, by omega, by omega, (rd_alloc (rd_set (rd_set w7R.out (q := ⟨w.heap.size, 0, none⟩) (v := .int .i64 N) (by simp; omega)) (q := ⟨w.heap.size, 1, none⟩) (v := .int .i64 D) (by simp; omega)) _), by (repeat' (first | exact on_refl _ _ | refine on_out ?_ (by assumption) | refine on_below ?_ (by assumption) | refine on_alloc ?_ _ | refine on_drewN ?_ _ | refine on_drew ?_ | refine on_set ?_ ?_ _ | omega | (simp; done) | (simp; omega)))⟩
    have hu1 : (u == 0) = false := by simp [hu]
    clear hu
    go_wp2_with fail
    refine (s_RatOf _ _ _).mono ?_
    rintro e w6 ⟨rfl, hb6⟩
    have w6R := Lib.hid (rd_later w5R.out hb6)
    have Kw6_r : Blk w6 (w.heap.size) #[.int .i64 0, .int .i64 0] := blk_later hb6 Kw5_rH.out
    obtain ⟨w6_c0_r, w6_c1_r, w6_f0_r, w6_f1_r⟩ := blk2 Kw6_r
    have Kw6_rH := Lib.hid Kw6_r
    have w6_l_r := Kw6_r.lt
    have w6_m_r : w.heap.size < w6.heap.size + 1 := by omega
    have w6z := hb6.size
    try simp at w6z
    have w6B := Lib.hid hb6
    clear Kw6_r
    clear hb6
    have hbd := ratOf_bd (nn) (1 + d)
    generalize ratOf (nn) (1 + d) = X at *
    obtain ⟨N, D, o⟩ := X
    simp only [rv]
    cases o
    · go_wp2_with fail
      refine bodyPost_ret (v := .agg #[.int .i64 1, .int .i64 2]) ?_ rfl ?_
      · have KR : Blk _ (w.heap.size) #[.int .i64 1, .int .i64 2] := (blk_alloc (blk_set (blk_set Kw6_rH.out 0 (.int .i64 1)) 1 (.int .i64 2)) (.cells #[.int .i64 N, .int .i64 D] 24))
        obtain ⟨r0, r1, _, _⟩ := blk2 KR
        simp [results, Try.results64, go_sem, r0, r1]
      · exact ⟨_, _, _, rfl, by omega, by omega, by omega, (rd_alloc (rd_set (rd_set w6R.out (q := ⟨w.heap.size, 0, none⟩) (v := .int .i64 1) (by simp; omega)) (q := ⟨w.heap.size, 1, none⟩) (v := .int .i64 2) (by simp; omega)) _), by (repeat' (first | exact on_refl _ _ | refine on_out ?_ (by assumption) | refine on_below ?_ (by assumption) | refine on_alloc ?_ _ | refine on_drewN ?_ _ | refine on_drew ?_ | refine on_set ?_ ?_ _ | omega | (simp; done) | (simp; omega)))⟩
    · go_wp2_with fail
      refine bodyPost_ret (v := .agg #[.int .i64 N, .int .i64 D]) ?_ rfl ?_
      · have KR : Blk _ (w.heap.size) #[.int .i64 N, .int .i64 D] := (blk_alloc (blk_set (blk_set Kw6_rH.out 0 (.int .i64 N)) 1 (.int .i64 D)) (.cells #[.int .i64 N, .int .i64 D] 24))
        obtain ⟨r0, r1, _, _⟩ := blk2 KR
        simp [results, Try.results64, go_sem, r0, r1]
      · exact ⟨_, _, _, rfl, by omega, by omega, by omega, (rd_alloc (rd_set (rd_set w6R.out (q := ⟨w.heap.size, 0, none⟩) (v := .int .i64 N) (by simp; omega)) (q := ⟨w.heap.size, 1, none⟩) (v := .int .i64 D) (by simp; omega)) _), by (repeat' (first | exact on_refl _ _ | refine on_out ?_ (by assumption) | refine on_below ?_ (by assumption) | refine on_alloc ?_ _ | refine on_drewN ?_ _ | refine on_drew ?_ | refine on_set ?_ ?_ _ | omega | (simp; done) | (simp; omega)))⟩
  have ht0 : (t == 0) = false := by simp [ht]
  by_cases ht1 : t = 1
  · subst ht1
    go_wp2_with fail
    refine (s_pick _ _ _ _ w2R.out (by omega) (by omega)).mono ?_
    rintro e w3 ⟨d, rfl, d0, d1, dr, hg3⟩
    have d2 := d1 (by omega)
    clear d1
    have w3R := Lib.hid dr
    clear dr
    have Kw3_r : Blk w3 (w.heap.size) #[.int .i64 0, .int .i64 0] := blk_only hg3 (by omega) Kw2_rH.out
    obtain ⟨w3_c0_r, w3_c1_r, w3_f0_r, w3_f1_r⟩ := blk2 Kw3_r
    have Kw3_rH := Lib.hid Kw3_r
    have w3_l_r := Kw3_r.lt
    have w3_m_r : w.heap.size < w3.heap.size + 1 := by omega
    have w3z := hg3.size
    try simp at w3z
    have w3G := Lib.hid hg3
    clear Kw3_r
    clear hg3
    go_wp2_with fail
    refine (s_pick _ _ _ _ w3R.out (by omega) (by omega)).mono ?_
    rintro e w4 ⟨u, rfl, u0, u1, ur, hg4⟩
    have u2 := u1 (by omega)
    clear u1
    have w4R := Lib.hid ur
    clear ur
    have Kw4_r : Blk w4 (w.heap.size) #[.int .i64 0, .int .i64 0] := blk_only hg4 (by omega) Kw3_rH.out
    obtain ⟨w4_c0_r, w4_c1_r, w4_f0_r, w4_f1_r⟩ := blk2 Kw4_r
    have Kw4_rH := Lib.hid Kw4_r
    have w4_l_r := Kw4_r.lt
    have w4_m_r : w.heap.size < w4.heap.size + 1 := by omega
    have w4z := hg4.size
    try simp at w4z
    have w4G := Lib.hid hg4
    clear Kw4_r
    clear hg4
    by_cases hu : u = 0
    · subst hu
      go_wp2_with fail
      refine (s_pick _ _ _ _ (rd_alloc w4R.out _) (by omega) (by omega)).mono ?_
      rintro e w5 ⟨y, rfl, y0, y1, yr, hg5⟩
      have y2 := y1 (by omega)
      clear y1
      have w5R := Lib.hid yr
      clear yr
      have Kw5_r : Blk w5 (w.heap.size) #[.int .i64 0, .int .i64 0] := blk_only hg5 (by omega) (blk_alloc Kw4_rH.out (.cells #[.int .i64 1000000000, .int .i64 999999999, .int .i64 999999937, .int .i64 65536] 3))
      have Kw5_lit : Blk w5 (w4.heap.size) #[.int .i64 1000000000, .int .i64 999999999, .int .i64 999999937, .int .i64 65536] := blk_only hg5 (by omega) (blk_new (by simp))
      obtain ⟨w5_c0_r, w5_c1_r, w5_f0_r, w5_f1_r⟩ := blk2 Kw5_r
      have Kw5_rH := Lib.hid Kw5_r
      have w5_l_r := Kw5_r.lt
      have w5_m_r : w.heap.size < w5.heap.size + 1 := by omega
      obtain ⟨w5_c0_lit, w5_c1_lit, w5_c2_lit, w5_c3_lit, w5_f0_lit, w5_f1_lit, w5_f2_lit, w5_f3_lit⟩ := blk4 Kw5_lit
      have Kw5_litH := Lib.hid Kw5_lit
      have w5_l_lit := Kw5_lit.lt
      have w5_m_lit : w4.heap.size < w5.heap.size + 1 := by omega
      have w5z := hg5.size
      try simp at w5z
      have w5G := Lib.hid hg5
      clear Kw5_r Kw5_lit
      clear hg5
      obtain ⟨dd, ddh, dd0, dd2⟩ : ∃ v : Int, w5.cell? ⟨w4.heap.size, y.toNat, none⟩ = some (.int .i64 v) ∧ -1000000000 ≤ v ∧ v ≤ 1000000000 := by
        rcases (by omega : y = 0 ∨ y = 1 ∨ y = 2 ∨ y = 3) with h | h | h | h
        · subst h; exact ⟨_, w5_c0_lit, by omega, by omega⟩
        · subst h; exact ⟨_, w5_c1_lit, by omega, by omega⟩
        · subst h; exact ⟨_, w5_c2_lit, by omega, by omega⟩
        · subst h; exact ⟨_, w5_c3_lit, by omega, by omega⟩
      go_wp2_with fail
      refine (s_RatOf _ _ _).mono ?_
      rintro e w6 ⟨rfl, hb6⟩
      have w6R := Lib.hid (rd_later w5R.out hb6)
      have Kw6_r : Blk w6 (w.heap.size) #[.int .i64 0, .int .i64 0] := blk_later hb6 Kw5_rH.out
      obtain ⟨w6_c0_r, w6_c1_r, w6_f0_r, w6_f1_r⟩ := blk2 Kw6_r
      have Kw6_rH := Lib.hid Kw6_r
      have w6_l_r := Kw6_r.lt
      have w6_m_r : w.heap.size < w6.heap.size + 1 := by omega
      have w6z := hb6.size
      try simp at w6z
      have w6B := Lib.hid hb6
      clear Kw6_r
      clear hb6
      have hbd := ratOf_bd (n * 50000000) (dd)
      generalize ratOf (n * 50000000) (dd) = X at *
      obtain ⟨N, D, o⟩ := X
      simp only [rv]
      cases o
      · go_wp2_with fail
        refine bodyPost_ret (v := .agg #[.int .i64 1, .int .i64 2]) ?_ rfl ?_
        · have KR : Blk _ (w.heap.size) #[.int .i64 1, .int .i64 2] := (blk_alloc (blk_set (blk_set Kw6_rH.out 0 (.int .i64 1)) 1 (.int .i64 2)) (.cells #[.int .i64 N, .int .i64 D] 24))
          obtain ⟨r0, r1, _, _⟩ := blk2 KR
          simp [results, Try.results64, go_sem, r0, r1]
        · exact ⟨_, _, _, rfl, by omega, by omega, by omega, (rd_alloc (rd_set (rd_set w6R.out (q := ⟨w.heap.size, 0, none⟩) (v := .int .i64 1) (by simp; omega)) (q := ⟨w.heap.size, 1, none⟩) (v := .int .i64 2) (by simp; omega)) _), by (repeat' (first | exact on_refl _ _ | refine on_out ?_ (by assumption) | refine on_below ?_ (by assumption) | refine on_alloc ?_ _ | refine on_drewN ?_ _ | refine on_drew ?_ | refine on_set ?_ ?_ _ | omega | (simp; done) | (simp; omega)))⟩
      · go_wp2_with fail
        refine bodyPost_ret (v := .agg #[.int .i64 N, .int .i64 D]) ?_ rfl ?_
        · have KR : Blk _ (w.heap.size) #[.int .i64 N, .int .i64 D] := (blk_alloc (blk_set (blk_set Kw6_rH.out 0 (.int .i64 N)) 1 (.int .i64 D)) (.cells #[.int .i64 N, .int .i64 D] 24))
          obtain ⟨r0, r1, _, _⟩ := blk2 KR
          simp [results, Try.results64, go_sem, r0, r1]
        · exact ⟨_, _, _, rfl, by omega, by omega, by omega, (rd_alloc (rd_set (rd_set w6R.out (q := ⟨w.heap.size, 0, none⟩) (v := .int .i64 N) (by simp; omega)) (q := ⟨w.heap.size, 1, none⟩) (v := .int .i64 D) (by simp; omega)) _), by (repeat' (first | exact on_refl _ _ | refine on_out ?_ (by assumption) | refine on_below ?_ (by assumption) | refine on_alloc ?_ _ | refine on_drewN ?_ _ | refine on_drew ?_ | refine on_set ?_ ?_ _ | omega | (simp; done) | (simp; omega)))⟩
    have hu1 : (u == 0) = false := by simp [hu]
    clear hu
    go_wp2_with fail
    refine (s_RatOf _ _ _).mono ?_
    rintro e w5 ⟨rfl, hb5⟩
    have w5R := Lib.hid (rd_later w4R.out hb5)
    have Kw5_r : Blk w5 (w.heap.size) #[.int .i64 0, .int .i64 0] := blk_later hb5 Kw4_rH.out
    obtain ⟨w5_c0_r, w5_c1_r, w5_f0_r, w5_f1_r⟩ := blk2 Kw5_r
    have Kw5_rH := Lib.hid Kw5_r
    have w5_l_r := Kw5_r.lt
    have w5_m_r : w.heap.size < w5.heap.size + 1 := by omega
    have w5z := hb5.size
    try simp at w5z
    have w5B := Lib.hid hb5
    clear Kw5_r
    clear hb5
    have hbd := ratOf_bd (n * 50000000) (1 + d)
    generalize ratOf (n * 50000000) (1 + d) = X at *
    obtain ⟨N, D, o⟩ := X
    simp only [rv]
    cases o
    · go_wp2_with fail
      refine bodyPost_ret (v := .agg #[.int .i64 1, .int .i64 2]) ?_ rfl ?_
      · have KR : Blk _ (w.heap.size) #[.int .i64 1, .int .i64 2] := (blk_alloc (blk_set (blk_set Kw5_rH.out 0 (.int .i64 1)) 1 (.int .i64 2)) (.cells #[.int .i64 N, .int .i64 D] 24))
        obtain ⟨r0, r1, _, _⟩ := blk2 KR
        simp [results, Try.results64, go_sem, r0, r1]
      · exact ⟨_, _, _, rfl, by omega, by omega, by omega, (rd_alloc (rd_set (rd_set w5R.out (q := ⟨w.heap.size, 0, none⟩) (v := .int .i64 1) (by simp; omega)) (q := ⟨w.heap.size, 1, none⟩) (v := .int .i64 2) (by simp; omega)) _), by (repeat' (first | exact on_refl _ _ | refine on_out ?_ (by assumption) | refine on_below ?_ (by assumption) | refine on_alloc ?_ _ | refine on_drewN ?_ _ | refine on_drew ?_ | refine on_set ?_ ?_ _ | omega | (simp; done) | (simp; omega)))⟩
    · go_wp2_with fail
      refine bodyPost_ret (v := .agg #[.int .i64 N, .int .i64 D]) ?_ rfl ?_
      · have KR : Blk _ (w.heap.size) #[.int .i64 N, .int .i64 D] := (blk_alloc (blk_set (blk_set Kw5_rH.out 0 (.int .i64 N)) 1 (.int .i64 D)) (.cells #[.int .i64 N, .int .i64 D] 24))
        obtain ⟨r0, r1, _, _⟩ := blk2 KR
        simp [results, Try.results64, go_sem, r0, r1]
      · exact ⟨_, _, _, rfl, by omega, by omega, by omega, (rd_alloc (rd_set (rd_set w5R.out (q := ⟨w.heap.size, 0, none⟩) (v := .int .i64 N) (by simp; omega)) (q := ⟨w.heap.size, 1, none⟩) (v := .int .i64 D) (by simp; omega)) _), by (repeat' (first | exact on_refl _ _ | refine on_out ?_ (by assumption) | refine on_below ?_ (by assumption) | refine on_alloc ?_ _ | refine on_drewN ?_ _ | refine on_drew ?_ | refine on_set ?_ ?_ _ | omega | (simp; done) | (simp; omega)))⟩
  have ht10 : (t == 1) = false := by simp [ht1]
  clear ht ht1
  go_wp2_with fail
  refine (s_pick _ _ _ _ w2R.out (by omega) (by omega)).mono ?_
  rintro e w3 ⟨d, rfl, d0, d1, dr, hg3⟩
  have d2 := d1 (by omega)
  clear d1
  have w3R := Lib.hid dr
  clear dr
  have Kw3_r : Blk w3 (w.heap.size) #[.int .i64 0, .int .i64 0] := blk_only hg3 (by omega) Kw2_rH.out
  obtain ⟨w3_c0_r, w3_c1_r, w3_f0_r, w3_f1_r⟩ := blk2 Kw3_r
  have Kw3_rH := Lib.hid Kw3_r
  have w3_l_r := Kw3_r.lt
  have w3_m_r : w.heap.size < w3.heap.size + 1 := by omega
  have w3z := hg3.size
  try simp at w3z
  have w3G := Lib.hid hg3
  clear Kw3_r
  clear hg3
  go_wp2_with fail
  refine (s_pick _ _ _ _ w3R.out (by omega) (by omega)).mono ?_
  rintro e w4 ⟨u, rfl, u0, u1, ur, hg4⟩
  have u2 := u1 (by omega)
  clear u1
  have w4R := Lib.hid ur
  clear ur
  have Kw4_r : Blk w4 (w.heap.size) #[.int .i64 0, .int .i64 0] := blk_only hg4 (by omega) Kw3_rH.out
  obtain ⟨w4_c0_r, w4_c1_r, w4_f0_r, w4_f1_r⟩ := blk2 Kw4_r
  have Kw4_rH := Lib.hid Kw4_r
  have w4_l_r := Kw4_r.lt
  have w4_m_r : w.heap.size < w4.heap.size + 1 := by omega
  have w4z := hg4.size
  try simp at w4z
  have w4G := Lib.hid hg4
  clear Kw4_r
  clear hg4
  by_cases hu : u = 0
  · subst hu
    go_wp2_with fail
    refine (s_pick _ _ _ _ (rd_alloc w4R.out _) (by omega) (by omega)).mono ?_
    rintro e w5 ⟨y, rfl, y0, y1, yr, hg5⟩
    have y2 := y1 (by omega)
    clear y1
    have w5R := Lib.hid yr
    clear yr
    have Kw5_r : Blk w5 (w.heap.size) #[.int .i64 0, .int .i64 0] := blk_only hg5 (by omega) (blk_alloc Kw4_rH.out (.cells #[.int .i64 1000000000, .int .i64 999999999, .int .i64 999999937, .int .i64 65536] 3))
    have Kw5_lit : Blk w5 (w4.heap.size) #[.int .i64 1000000000, .int .i64 999999999, .int .i64 999999937, .int .i64 65536] := blk_only hg5 (by omega) (blk_new (by simp))
    obtain ⟨w5_c0_r, w5_c1_r, w5_f0_r, w5_f1_r⟩ := blk2 Kw5_r
    have Kw5_rH := Lib.hid Kw5_r
    have w5_l_r := Kw5_r.lt
    have w5_m_r : w.heap.size < w5.heap.size + 1 := by omega
    obtain ⟨w5_c0_lit, w5_c1_lit, w5_c2_lit, w5_c3_lit, w5_f0_lit, w5_f1_lit, w5_f2_lit, w5_f3_lit⟩ := blk4 Kw5_lit
    have Kw5_litH := Lib.hid Kw5_lit
    have w5_l_lit := Kw5_lit.lt
    have w5_m_lit : w4.heap.size < w5.heap.size + 1 := by omega
    have w5z := hg5.size
    try simp at w5z
    have w5G := Lib.hid hg5
    clear Kw5_r Kw5_lit
    clear hg5
    obtain ⟨dd, ddh, dd0, dd2⟩ : ∃ v : Int, w5.cell? ⟨w4.heap.size, y.toNat, none⟩ = some (.int .i64 v) ∧ -1000000000 ≤ v ∧ v ≤ 1000000000 := by
      rcases (by omega : y = 0 ∨ y = 1 ∨ y = 2 ∨ y = 3) with h | h | h | h
      · subst h; exact ⟨_, w5_c0_lit, by omega, by omega⟩
      · subst h; exact ⟨_, w5_c1_lit, by omega, by omega⟩
      · subst h; exact ⟨_, w5_c2_lit, by omega, by omega⟩
      · subst h; exact ⟨_, w5_c3_lit, by omega, by omega⟩
    go_wp2_with fail
    refine (s_RatOf _ _ _).mono ?_
    rintro e w6 ⟨rfl, hb6⟩
    have w6R := Lib.hid (rd_later w5R.out hb6)
    have Kw6_r : Blk w6 (w.heap.size) #[.int .i64 0, .int .i64 0] := blk_later hb6 Kw5_rH.out
    obtain ⟨w6_c0_r, w6_c1_r, w6_f0_r, w6_f1_r⟩ := blk2 Kw6_r
    have Kw6_rH := Lib.hid Kw6_r
    have w6_l_r := Kw6_r.lt
    have w6_m_r : w.heap.size < w6.heap.size + 1 := by omega
    have w6z := hb6.size
    try simp at w6z
    have w6B := Lib.hid hb6
    clear Kw6_r
    clear hb6
    have hbd := ratOf_bd (n) (dd)
    generalize ratOf (n) (dd) = X at *
    obtain ⟨N, D, o⟩ := X
    simp only [rv]
    cases o
    · go_wp2_with fail
      refine bodyPost_ret (v := .agg #[.int .i64 1, .int .i64 2]) ?_ rfl ?_
      · have KR : Blk _ (w.heap.size) #[.int .i64 1, .int .i64 2] := (blk_alloc (blk_set (blk_set Kw6_rH.out 0 (.int .i64 1)) 1 (.int .i64 2)) (.cells #[.int .i64 N, .int .i64 D] 24))
        obtain ⟨r0, r1, _, _⟩ := blk2 KR
        simp [results, Try.results64, go_sem, r0, r1]
      · exact ⟨_, _, _, rfl, by omega, by omega, by omega, (rd_alloc (rd_set (rd_set w6R.out (q := ⟨w.heap.size, 0, none⟩) (v := .int .i64 1) (by simp; omega)) (q := ⟨w.heap.size, 1, none⟩) (v := .int .i64 2) (by simp; omega)) _), by (repeat' (first | exact on_refl _ _ | refine on_out ?_ (by assumption) | refine on_below ?_ (by assumption) | refine on_alloc ?_ _ | refine on_drewN ?_ _ | refine on_drew ?_ | refine on_set ?_ ?_ _ | omega | (simp; done) | (simp; omega)))⟩
    · go_wp2_with fail
      refine bodyPost_ret (v := .agg #[.int .i64 N, .int .i64 D]) ?_ rfl ?_
      · have KR : Blk _ (w.heap.size) #[.int .i64 N, .int .i64 D] := (blk_alloc (blk_set (blk_set Kw6_rH.out 0 (.int .i64 N)) 1 (.int .i64 D)) (.cells #[.int .i64 N, .int .i64 D] 24))
        obtain ⟨r0, r1, _, _⟩ := blk2 KR
        simp [results, Try.results64, go_sem, r0, r1]
      · exact ⟨_, _, _, rfl, by omega, by omega, by omega, (rd_alloc (rd_set (rd_set w6R.out (q := ⟨w.heap.size, 0, none⟩) (v := .int .i64 N) (by simp; omega)) (q := ⟨w.heap.size, 1, none⟩) (v := .int .i64 D) (by simp; omega)) _), by (repeat' (first | exact on_refl _ _ | refine on_out ?_ (by assumption) | refine on_below ?_ (by assumption) | refine on_alloc ?_ _ | refine on_drewN ?_ _ | refine on_drew ?_ | refine on_set ?_ ?_ _ | omega | (simp; done) | (simp; omega)))⟩
  have hu1 : (u == 0) = false := by simp [hu]
  clear hu
  go_wp2_with fail
  refine (s_RatOf _ _ _).mono ?_
  rintro e w5 ⟨rfl, hb5⟩
  have w5R := Lib.hid (rd_later w4R.out hb5)
  have Kw5_r : Blk w5 (w.heap.size) #[.int .i64 0, .int .i64 0] := blk_later hb5 Kw4_rH.out
  obtain ⟨w5_c0_r, w5_c1_r, w5_f0_r, w5_f1_r⟩ := blk2 Kw5_r
  have Kw5_rH := Lib.hid Kw5_r
  have w5_l_r := Kw5_r.lt
  have w5_m_r : w.heap.size < w5.heap.size + 1 := by omega
  have w5z := hb5.size
  try simp at w5z
  have w5B := Lib.hid hb5
  clear Kw5_r
  clear hb5
  have hbd := ratOf_bd (n) (1 + d)
  generalize ratOf (n) (1 + d) = X at *
  obtain ⟨N, D, o⟩ := X
  simp only [rv]
  cases o
  · go_wp2_with fail
    refine bodyPost_ret (v := .agg #[.int .i64 1, .int .i64 2]) ?_ rfl ?_
    · have KR : Blk _ (w.heap.size) #[.int .i64 1, .int .i64 2] := (blk_alloc (blk_set (blk_set Kw5_rH.out 0 (.int .i64 1)) 1 (.int .i64 2)) (.cells #[.int .i64 N, .int .i64 D] 24))
      obtain ⟨r0, r1, _, _⟩ := blk2 KR
      simp [results, Try.results64, go_sem, r0, r1]
    · exact ⟨_, _, _, rfl, by omega, by omega, by omega, (rd_alloc (rd_set (rd_set w5R.out (q := ⟨w.heap.size, 0, none⟩) (v := .int .i64 1) (by simp; omega)) (q := ⟨w.heap.size, 1, none⟩) (v := .int .i64 2) (by simp; omega)) _), by (repeat' (first | exact on_refl _ _ | refine on_out ?_ (by assumption) | refine on_below ?_ (by assumption) | refine on_alloc ?_ _ | refine on_drewN ?_ _ | refine on_drew ?_ | refine on_set ?_ ?_ _ | omega | (simp; done) | (simp; omega)))⟩
  · go_wp2_with fail
    refine bodyPost_ret (v := .agg #[.int .i64 N, .int .i64 D]) ?_ rfl ?_
    · have KR : Blk _ (w.heap.size) #[.int .i64 N, .int .i64 D] := (blk_alloc (blk_set (blk_set Kw5_rH.out 0 (.int .i64 N)) 1 (.int .i64 D)) (.cells #[.int .i64 N, .int .i64 D] 24))
      obtain ⟨r0, r1, _, _⟩ := blk2 KR
      simp [results, Try.results64, go_sem, r0, r1]
    · exact ⟨_, _, _, rfl, by omega, by omega, by omega, (rd_alloc (rd_set (rd_set w5R.out (q := ⟨w.heap.size, 0, none⟩) (v := .int .i64 N) (by simp; omega)) (q := ⟨w.heap.size, 1, none⟩) (v := .int .i64 D) (by simp; omega)) _), by (repeat' (first | exact on_refl _ _ | refine on_out ?_ (by assumption) | refine on_below ?_ (by assumption) | refine on_alloc ?_ _ | refine on_drewN ?_ _ | refine on_drew ?_ | refine on_set ?_ ?_ _ | omega | (simp; done) | (simp; omega)))⟩

set_option maxRecDepth 100000 in
set_option maxHeartbeats 1000000 in
theorem s_l91Wrong (R p : Nat) (w : World) (hr : Rd w R p) (hp : p ≤ 900000) :
    Calls Try.prog 32 #[.pointer (some ⟨R, 0, none⟩)] w (RRdQ w R p 20) := by
  have HR := Lib.hid hr
  have hR := hr.lt
  clear hr
  go_enter Try.func32, Try.ntmps32
  go_wp2_with fail
  refine (s_l91Rat _ _ _ (rd_alloc HR.out _) (by omega)).mono ?_
  rintro e w1 ⟨N, D, nq, rfl, ⟨N0, N2⟩, ⟨D0, D2⟩, np, nr, hg1⟩
  have w1R := Lib.hid nr
  clear nr
  have Kw1_r : Blk w1 (w.heap.size) #[.int .i64 0, .int .i64 0] := blk_only hg1 (by omega) (blk_new (by simp))
  obtain ⟨w1_c0_r, w1_c1_r, w1_f0_r, w1_f1_r⟩ := blk2 Kw1_r
  have Kw1_rH := Lib.hid Kw1_r
  have w1_l_r := Kw1_r.lt
  have w1_m_r : w.heap.size < w1.heap.size + 1 := by omega
  have w1z := hg1.size
  try simp at w1z
  have w1G := Lib.hid hg1
  clear Kw1_r
  clear hg1
  go_wp2_with fail
  refine (s_pick _ _ _ _ (rd_alloc w1R.out _) (by omega) (by omega)).mono ?_
  rintro e w2 ⟨t, rfl, t0, t1, tr, hg2⟩
  have t2 := t1 (by omega)
  clear t1
  have w2R := Lib.hid tr
  clear tr
  have Kw2_r : Blk w2 (w.heap.size) #[.int .i64 0, .int .i64 0] := blk_only hg2 (by omega) (blk_alloc Kw1_rH.out (.cells #[.int .i64 N, .int .i64 D] 24))
  have Kw2_x : Blk w2 (w1.heap.size) #[.int .i64 N, .int .i64 D] := blk_only hg2 (by omega) (blk_new (by simp))
  obtain ⟨w2_c0_r, w2_c1_r, w2_f0_r, w2_f1_r⟩ := blk2 Kw2_r
  have Kw2_rH := Lib.hid Kw2_r
  have w2_l_r := Kw2_r.lt
  have w2_m_r : w.heap.size < w2.heap.size + 1 := by omega
  obtain ⟨w2_c0_x, w2_c1_x, w2_f0_x, w2_f1_x⟩ := blk2 Kw2_x
  have Kw2_xH := Lib.hid Kw2_x
  have w2_l_x := Kw2_x.lt
  have w2_m_x : w1.heap.size < w2.heap.size + 1 := by omega
  have w2z := hg2.size
  try simp at w2z
  have w2G := Lib.hid hg2
  clear Kw2_r Kw2_x
  clear hg2
  by_cases ht0 : t = 0
  · subst ht0
    go_wp2_with fail
    refine bodyPost_ret (v := .agg #[.int .i64 2, .int .i64 4]) ?_ rfl ?_
    · have KR : Blk _ (w.heap.size) #[.int .i64 2, .int .i64 4] := (blk_set (blk_set Kw2_rH.out 0 (.int .i64 2)) 1 (.int .i64 4))
      obtain ⟨r0, r1, _, _⟩ := blk2 KR
      simp [results, Try.results32, go_sem, r0, r1]
    · exact ⟨_, _, _, rfl, by omega, by omega, by omega, (rd_set (rd_set w2R.out (q := ⟨w.heap.size, 0, none⟩) (v := .int .i64 2) (by simp; omega)) (q := ⟨w.heap.size, 1, none⟩) (v := .int .i64 4) (by simp; omega)), by (repeat' (first | exact on_refl _ _ | refine on_out ?_ (by assumption) | refine on_below ?_ (by assumption) | refine on_alloc ?_ _ | refine on_drewN ?_ _ | refine on_drew ?_ | refine on_set ?_ ?_ _ | omega | (simp; done) | (simp; omega)))⟩
  have ht0b : (t == 0) = false := by simp [ht0]
  by_cases ht1 : t = 1
  · subst ht1
    go_wp2_with fail
    refine bodyPost_ret (v := .agg #[.int .i64 1, .int .i64 0]) ?_ rfl ?_
    · have KR : Blk _ (w.heap.size) #[.int .i64 1, .int .i64 0] := (blk_set (blk_set Kw2_rH.out 0 (.int .i64 1)) 1 (.int .i64 0))
      obtain ⟨r0, r1, _, _⟩ := blk2 KR
      simp [results, Try.results32, go_sem, r0, r1]
    · exact ⟨_, _, _, rfl, by omega, by omega, by omega, (rd_set (rd_set w2R.out (q := ⟨w.heap.size, 0, none⟩) (v := .int .i64 1) (by simp; omega)) (q := ⟨w.heap.size, 1, none⟩) (v := .int .i64 0) (by simp; omega)), by (repeat' (first | exact on_refl _ _ | refine on_out ?_ (by assumption) | refine on_below ?_ (by assumption) | refine on_alloc ?_ _ | refine on_drewN ?_ _ | refine on_drew ?_ | refine on_set ?_ ?_ _ | omega | (simp; done) | (simp; omega)))⟩
  have ht1b : (t == 1) = false := by simp [ht1]
  by_cases ht2 : t = 2
  · subst ht2
    go_wp2_with fail
    refine bodyPost_ret (v := .agg #[.int .i64 N, .int .i64 (-D)]) ?_ rfl ?_
    · have KR : Blk _ (w.heap.size) #[.int .i64 N, .int .i64 (-D)] := (blk_set (blk_set (blk_other Kw2_rH.out (p := ⟨w1.heap.size, 1, none⟩) (v := .int .i64 (-D)) (by simp; omega)) 0 (.int .i64 N)) 1 (.int .i64 (-D)))
      obtain ⟨r0, r1, _, _⟩ := blk2 KR
      simp [results, Try.results32, go_sem, r0, r1]
    · exact ⟨_, _, _, rfl, by omega, by omega, by omega, (rd_set (rd_set (rd_set w2R.out (q := ⟨w1.heap.size, 1, none⟩) (v := .int .i64 (-D)) (by simp; omega)) (q := ⟨w.heap.size, 0, none⟩) (v := .int .i64 N) (by simp; omega)) (q := ⟨w.heap.size, 1, none⟩) (v := .int .i64 (-D)) (by simp; omega)), by (repeat' (first | exact on_refl _ _ | refine on_out ?_ (by assumption) | refine on_below ?_ (by assumption) | refine on_alloc ?_ _ | refine on_drewN ?_ _ | refine on_drew ?_ | refine on_set ?_ ?_ _ | omega | (simp; done) | (simp; omega)))⟩
  have ht2b : (t == 2) = false := by simp [ht2]
  by_cases ht3 : t = 3
  · subst ht3
    go_wp2_with fail
    refine bodyPost_ret (v := .agg #[.int .i64 1000000001, .int .i64 1]) ?_ rfl ?_
    · have KR : Blk _ (w.heap.size) #[.int .i64 1000000001, .int .i64 1] := (blk_set (blk_set Kw2_rH.out 0 (.int .i64 1000000001)) 1 (.int .i64 1))
      obtain ⟨r0, r1, _, _⟩ := blk2 KR
      simp [results, Try.results32, go_sem, r0, r1]
    · exact ⟨_, _, _, rfl, by omega, by omega, by omega, (rd_set (rd_set w2R.out (q := ⟨w.heap.size, 0, none⟩) (v := .int .i64 1000000001) (by simp; omega)) (q := ⟨w.heap.size, 1, none⟩) (v := .int .i64 1) (by simp; omega)), by (repeat' (first | exact on_refl _ _ | refine on_out ?_ (by assumption) | refine on_below ?_ (by assumption) | refine on_alloc ?_ _ | refine on_drewN ?_ _ | refine on_drew ?_ | refine on_set ?_ ?_ _ | omega | (simp; done) | (simp; omega)))⟩
  have ht3b : (t == 3) = false := by simp [ht3]
  clear ht0 ht1 ht2 ht3
  go_wp2_with fail
  refine bodyPost_ret (v := .agg #[.int .i64 N, .int .i64 D]) ?_ rfl ?_
  · have KR : Blk _ (w.heap.size) #[.int .i64 N, .int .i64 D] := (blk_set (blk_set Kw2_rH.out 0 (.int .i64 N)) 1 (.int .i64 D))
    obtain ⟨r0, r1, _, _⟩ := blk2 KR
    simp [results, Try.results32, go_sem, r0, r1]
  · exact ⟨_, _, _, rfl, by omega, by omega, by omega, (rd_set (rd_set w2R.out (q := ⟨w.heap.size, 0, none⟩) (v := .int .i64 N) (by simp; omega)) (q := ⟨w.heap.size, 1, none⟩) (v := .int .i64 D) (by simp; omega)), by (repeat' (first | exact on_refl _ _ | refine on_out ?_ (by assumption) | refine on_below ?_ (by assumption) | refine on_alloc ?_ _ | refine on_drewN ?_ _ | refine on_drew ?_ | refine on_set ?_ ?_ _ | omega | (simp; done) | (simp; omega)))⟩

end Go.Proofs.Ytjhnommmgkgjoaa
