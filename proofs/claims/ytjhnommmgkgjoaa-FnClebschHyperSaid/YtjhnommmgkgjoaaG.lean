/- Contracts of DrawHyperFactor and of HyperFactor, of the program and of the reference. -/
import Derived.Test.YtjhnommmgkgjoaaF
namespace Go.Proofs.Ytjhnommmgkgjoaa
open Go.RowKit

theorem ratOf_no {n d : Int} {N D : Int} (h : ratOf n d = (N, D, false)) : N = 0 ∧ D = 0 := by
  unfold ratOf mkR at h
  split at h
  · split at h
    · simp at h
    · simp at h; omega
  · simp at h; omega

/-- What HyperFactor returns. -/
def hyFac (a b f j i : Int) : Int × Int × Bool :=
  if (ratB a b && hyB f j i && decide (f ≠ 0)) = true then ratMul a b (ratOf (sq f + sq j - sq i) (2 * sq f)).1 (ratOf (sq f + sq j - sq i) (2 * sq f)).2.1 else (0, 0, false)

theorem ratMul_no (a b : Int) : ratMul a b 0 0 = (0, 0, false) := by
  have : ratB 0 0 = false := by decide
  simp [ratMul, this]

/-- A rational and three integers are drawn. -/
def RDrawQ3 (w : World) (e : Ending) (w' : World) : Prop := ∃ a b x y z : Int, e = .returned (.tuple #[.agg #[.int .i64 a, .int .i64 b], .int .i64 x, .int .i64 y, .int .i64 z]) ∧
  (-2000000000 ≤ a ∧ a ≤ 2000000000) ∧ (-2000000000 ≤ b ∧ b ≤ 2000000000) ∧ (-100 ≤ x ∧ x ≤ 100) ∧ (-100 ≤ y ∧ y ≤ 100) ∧ (-100 ≤ z ∧ z ≤ 100) ∧ Below w.heap.size w w'

set_option maxRecDepth 100000 in
set_option maxHeartbeats 1000000 in
theorem s_DrawHyperFactor (a : Option Addr) (len cap : Nat) (w : World) (h : Code w a len cap) (hl : len ≤ 9223372036854775807) (hc : cap ≤ 9223372036854775807) :
    Calls Try.prog 9 #[.slice a len cap] w (RDrawQ3 w) := by
  have H := Lib.hid h
  clear h
  go_enter Try.func9, Try.ntmps9
  have HC := Lib.hid (code_alloc H.out (.cells #[.int .i64 0, .int .i64 0] 24))
  go_wp2_with fail
  refine (s_l6Open a len cap _ HC.out hl hc).mono ?_
  rintro e w1 ⟨rfl, hr, hb1⟩
  simp only [World.size_alloc] at hr
  have w1R := Lib.hid hr
  clear hr
  have Kw1_r : Blk w1 (w.heap.size) #[.int .i64 0, .int .i64 0] := blk_later hb1 (blk_new (by simp))
  obtain ⟨w1_c0_r, w1_c1_r, w1_f0_r, w1_f1_r⟩ := blk2 Kw1_r
  have Kw1_rH := Lib.hid Kw1_r
  have w1_l_r := Kw1_r.lt
  have w1_m_r : w.heap.size < w1.heap.size + 1 := by omega
  have w1z := hb1.size
  try simp at w1z
  have w1B := Lib.hid hb1
  clear Kw1_r
  clear hb1
  have hR := w1R.out.lt
  go_wp2_with fail
  refine (s_l91Wrong _ _ _ w1R.out (by omega)).mono ?_
  rintro e w2 ⟨N, D, qq, rfl, ⟨N0, N2⟩, ⟨D0, D2⟩, qp, qr, hg2⟩
  have w2R := Lib.hid qr
  clear qr
  have Kw2_r : Blk w2 (w.heap.size) #[.int .i64 0, .int .i64 0] := blk_only hg2 (by omega) Kw1_rH.out
  obtain ⟨w2_c0_r, w2_c1_r, w2_f0_r, w2_f1_r⟩ := blk2 Kw2_r
  have Kw2_rH := Lib.hid Kw2_r
  have w2_l_r := Kw2_r.lt
  have w2_m_r : w.heap.size < w2.heap.size + 1 := by omega
  have w2z := hg2.size
  try simp at w2z
  have w2G := Lib.hid hg2
  clear Kw2_r
  clear hg2
  go_wp2_with fail
  refine (s_l92Hyper _ _ _ (rd_alloc w2R.out _) (by omega)).mono ?_
  rintro e w3 ⟨x, y, z, sq, rfl, hx, hy, hz, sp, sr, hg3⟩
  have w3R := Lib.hid sr
  clear sr
  have Kw3_r : Blk w3 (w.heap.size) #[.int .i64 0, .int .i64 0] := blk_only hg3 (by omega) (blk_alloc Kw2_rH.out (.cells #[.int .i64 N, .int .i64 D] 24))
  have Kw3_g : Blk w3 (w2.heap.size) #[.int .i64 N, .int .i64 D] := blk_only hg3 (by omega) (blk_new (by simp))
  obtain ⟨w3_c0_r, w3_c1_r, w3_f0_r, w3_f1_r⟩ := blk2 Kw3_r
  have Kw3_rH := Lib.hid Kw3_r
  have w3_l_r := Kw3_r.lt
  have w3_m_r : w.heap.size < w3.heap.size + 1 := by omega
  obtain ⟨w3_c0_g, w3_c1_g, w3_f0_g, w3_f1_g⟩ := blk2 Kw3_g
  have Kw3_gH := Lib.hid Kw3_g
  have w3_l_g := Kw3_g.lt
  have w3_m_g : w2.heap.size < w3.heap.size + 1 := by omega
  have w3z := hg3.size
  try simp at w3z
  have w3G := Lib.hid hg3
  clear Kw3_r Kw3_g
  clear hg3
  go_wp2_with fail
  refine bodyPost_ret (v := .tuple #[.agg #[.int .i64 N, .int .i64 D], .int .i64 x, .int .i64 y, .int .i64 z]) ?_ rfl ?_
  · have KR : Blk _ (w.heap.size) #[.int .i64 N, .int .i64 D] := (blk_set (blk_set Kw3_rH.out 0 (.int .i64 N)) 1 (.int .i64 D))
    obtain ⟨r0, r1, _, _⟩ := blk2 KR
    simp [results, Try.results9, go_sem, r0, r1]
  · exact ⟨_, _, _, _, _, rfl, ⟨N0, N2⟩, ⟨D0, D2⟩, hx, hy, hz, by (repeat' (first | exact Below.refl _ _ | refine bl_out ?_ (by assumption) | refine bl_only ?_ (by assumption) ?_ | refine bl_alloc ?_ _ | refine bl_drewN ?_ _ | refine bl_drew ?_ | refine bl_set ?_ ?_ _ | omega | (simp; done) | (simp; omega)))⟩

set_option maxRecDepth 100000 in
set_option maxHeartbeats 1000000 in
theorem i_HyperFactor (a b f j i : Int) (w : World) :
    Calls Try.prog 10 #[.agg #[.int .i64 a, .int .i64 b], .int .i64 f, .int .i64 j, .int .i64 i] w (RRat w (hyFac a b f j i)) := by
  cases h1 : ratB a b
  · have E := Lib.hid (show hyFac a b f j i = (0, 0, false) by simp [hyFac, h1])
    go_enter Try.func10, Try.ntmps10
    go_wp2_with fail
    refine (i_RatValid _ _ _).mono ?_
    rintro e w1 ⟨rfl, hb1⟩
    have Kw1_g : Blk w1 (w.heap.size) #[.int .i64 a, .int .i64 b] := blk_later hb1 (blk_alloc (blk_alloc (blk_new (by simp)) (.cells #[.int .i64 0, .int .i64 0] 24)) (.cells #[.int .i64 f, .int .i64 j, .int .i64 i] 57))
    have Kw1_r : Blk w1 (w.heap.size + 1) #[.int .i64 0, .int .i64 0] := blk_later hb1 (blk_alloc (blk_new (by simp)) (.cells #[.int .i64 f, .int .i64 j, .int .i64 i] 57))
    have Kw1_h : Blk w1 (w.heap.size + 2) #[.int .i64 f, .int .i64 j, .int .i64 i] := blk_later hb1 (blk_new (by simp))
    obtain ⟨w1_c0_g, w1_c1_g, w1_f0_g, w1_f1_g⟩ := blk2 Kw1_g
    have Kw1_gH := Lib.hid Kw1_g
    have w1_l_g := Kw1_g.lt
    have w1_m_g : w.heap.size < w1.heap.size + 1 := by omega
    obtain ⟨w1_c0_r, w1_c1_r, w1_f0_r, w1_f1_r⟩ := blk2 Kw1_r
    have Kw1_rH := Lib.hid Kw1_r
    have w1_l_r := Kw1_r.lt
    have w1_m_r : w.heap.size + 1 < w1.heap.size + 1 := by omega
    obtain ⟨w1_c0_h, w1_c1_h, w1_c2_h, w1_f0_h, w1_f1_h, w1_f2_h⟩ := blk3 Kw1_h
    have Kw1_hH := Lib.hid Kw1_h
    have w1_l_h := Kw1_h.lt
    have w1_m_h : w.heap.size + 2 < w1.heap.size + 1 := by omega
    have w1z := hb1.size
    try simp at w1z
    have w1B := Lib.hid hb1
    clear Kw1_g Kw1_r Kw1_h
    clear hb1
    go_wp2_with fail
    refine bodyPost_ret (v := rv (0, 0, false)) ?_ rfl ?_
    · have KR : Blk _ (w.heap.size + 1) #[.int .i64 0, .int .i64 0] := (blk_set (blk_set Kw1_rH.out 0 (.int .i64 0)) 1 (.int .i64 0))
      obtain ⟨r0, r1, _, _⟩ := blk2 KR
      simp [results, Try.results10, go_sem, rv, r0, r1]
    · exact ⟨by rw [E.out], by (repeat' (first | exact Below.refl _ _ | refine bl_out ?_ (by assumption) | refine bl_alloc ?_ _ | refine bl_drewN ?_ _ | refine bl_drew ?_ | refine bl_set ?_ ?_ _ | omega | (simp; done) | (simp; omega)))⟩
  cases h2 : hyB f j i
  · have E := Lib.hid (show hyFac a b f j i = (0, 0, false) by simp [hyFac, h2])
    go_enter Try.func10, Try.ntmps10
    go_wp2_with fail
    refine (i_RatValid _ _ _).mono ?_
    rintro e w1 ⟨rfl, hb1⟩
    have Kw1_g : Blk w1 (w.heap.size) #[.int .i64 a, .int .i64 b] := blk_later hb1 (blk_alloc (blk_alloc (blk_new (by simp)) (.cells #[.int .i64 0, .int .i64 0] 24)) (.cells #[.int .i64 f, .int .i64 j, .int .i64 i] 57))
    have Kw1_r : Blk w1 (w.heap.size + 1) #[.int .i64 0, .int .i64 0] := blk_later hb1 (blk_alloc (blk_new (by simp)) (.cells #[.int .i64 f, .int .i64 j, .int .i64 i] 57))
    have Kw1_h : Blk w1 (w.heap.size + 2) #[.int .i64 f, .int .i64 j, .int .i64 i] := blk_later hb1 (blk_new (by simp))
    obtain ⟨w1_c0_g, w1_c1_g, w1_f0_g, w1_f1_g⟩ := blk2 Kw1_g
    have Kw1_gH := Lib.hid Kw1_g
    have w1_l_g := Kw1_g.lt
    have w1_m_g : w.heap.size < w1.heap.size + 1 := by omega
    obtain ⟨w1_c0_r, w1_c1_r, w1_f0_r, w1_f1_r⟩ := blk2 Kw1_r
    have Kw1_rH := Lib.hid Kw1_r
    have w1_l_r := Kw1_r.lt
    have w1_m_r : w.heap.size + 1 < w1.heap.size + 1 := by omega
    obtain ⟨w1_c0_h, w1_c1_h, w1_c2_h, w1_f0_h, w1_f1_h, w1_f2_h⟩ := blk3 Kw1_h
    have Kw1_hH := Lib.hid Kw1_h
    have w1_l_h := Kw1_h.lt
    have w1_m_h : w.heap.size + 2 < w1.heap.size + 1 := by omega
    have w1z := hb1.size
    try simp at w1z
    have w1B := Lib.hid hb1
    clear Kw1_g Kw1_r Kw1_h
    clear hb1
    go_wp2_with fail
    refine (i_hyperfine_valid _ _ _ _).mono ?_
    rintro e w2 ⟨rfl, hb2⟩
    have Kw2_g : Blk w2 (w.heap.size) #[.int .i64 a, .int .i64 b] := blk_later hb2 Kw1_gH.out
    have Kw2_r : Blk w2 (w.heap.size + 1) #[.int .i64 0, .int .i64 0] := blk_later hb2 Kw1_rH.out
    have Kw2_h : Blk w2 (w.heap.size + 2) #[.int .i64 f, .int .i64 j, .int .i64 i] := blk_later hb2 Kw1_hH.out
    obtain ⟨w2_c0_g, w2_c1_g, w2_f0_g, w2_f1_g⟩ := blk2 Kw2_g
    have Kw2_gH := Lib.hid Kw2_g
    have w2_l_g := Kw2_g.lt
    have w2_m_g : w.heap.size < w2.heap.size + 1 := by omega
    obtain ⟨w2_c0_r, w2_c1_r, w2_f0_r, w2_f1_r⟩ := blk2 Kw2_r
    have Kw2_rH := Lib.hid Kw2_r
    have w2_l_r := Kw2_r.lt
    have w2_m_r : w.heap.size + 1 < w2.heap.size + 1 := by omega
    obtain ⟨w2_c0_h, w2_c1_h, w2_c2_h, w2_f0_h, w2_f1_h, w2_f2_h⟩ := blk3 Kw2_h
    have Kw2_hH := Lib.hid Kw2_h
    have w2_l_h := Kw2_h.lt
    have w2_m_h : w.heap.size + 2 < w2.heap.size + 1 := by omega
    have w2z := hb2.size
    try simp at w2z
    have w2B := Lib.hid hb2
    clear Kw2_g Kw2_r Kw2_h
    clear hb2
    go_wp2_with fail
    refine bodyPost_ret (v := rv (0, 0, false)) ?_ rfl ?_
    · have KR : Blk _ (w.heap.size + 1) #[.int .i64 0, .int .i64 0] := (blk_set (blk_set Kw2_rH.out 0 (.int .i64 0)) 1 (.int .i64 0))
      obtain ⟨r0, r1, _, _⟩ := blk2 KR
      simp [results, Try.results10, go_sem, rv, r0, r1]
    · exact ⟨by rw [E.out], by (repeat' (first | exact Below.refl _ _ | refine bl_out ?_ (by assumption) | refine bl_alloc ?_ _ | refine bl_drewN ?_ _ | refine bl_drew ?_ | refine bl_set ?_ ?_ _ | omega | (simp; done) | (simp; omega)))⟩
  by_cases h3 : f = 0
  · subst h3
    have E := Lib.hid (show hyFac a b 0 j i = (0, 0, false) by simp [hyFac])
    go_enter Try.func10, Try.ntmps10
    go_wp2_with fail
    refine (i_RatValid _ _ _).mono ?_
    rintro e w1 ⟨rfl, hb1⟩
    have Kw1_g : Blk w1 (w.heap.size) #[.int .i64 a, .int .i64 b] := blk_later hb1 (blk_alloc (blk_alloc (blk_new (by simp)) (.cells #[.int .i64 0, .int .i64 0] 24)) (.cells #[.int .i64 0, .int .i64 j, .int .i64 i] 57))
    have Kw1_r : Blk w1 (w.heap.size + 1) #[.int .i64 0, .int .i64 0] := blk_later hb1 (blk_alloc (blk_new (by simp)) (.cells #[.int .i64 0, .int .i64 j, .int .i64 i] 57))
    have Kw1_h : Blk w1 (w.heap.size + 2) #[.int .i64 0, .int .i64 j, .int .i64 i] := blk_later hb1 (blk_new (by simp))
    obtain ⟨w1_c0_g, w1_c1_g, w1_f0_g, w1_f1_g⟩ := blk2 Kw1_g
    have Kw1_gH := Lib.hid Kw1_g
    have w1_l_g := Kw1_g.lt
    have w1_m_g : w.heap.size < w1.heap.size + 1 := by omega
    obtain ⟨w1_c0_r, w1_c1_r, w1_f0_r, w1_f1_r⟩ := blk2 Kw1_r
    have Kw1_rH := Lib.hid Kw1_r
    have w1_l_r := Kw1_r.lt
    have w1_m_r : w.heap.size + 1 < w1.heap.size + 1 := by omega
    obtain ⟨w1_c0_h, w1_c1_h, w1_c2_h, w1_f0_h, w1_f1_h, w1_f2_h⟩ := blk3 Kw1_h
    have Kw1_hH := Lib.hid Kw1_h
    have w1_l_h := Kw1_h.lt
    have w1_m_h : w.heap.size + 2 < w1.heap.size + 1 := by omega
    have w1z := hb1.size
    try simp at w1z
    have w1B := Lib.hid hb1
    clear Kw1_g Kw1_r Kw1_h
    clear hb1
    go_wp2_with fail
    refine (i_hyperfine_valid _ _ _ _).mono ?_
    rintro e w2 ⟨rfl, hb2⟩
    have Kw2_g : Blk w2 (w.heap.size) #[.int .i64 a, .int .i64 b] := blk_later hb2 Kw1_gH.out
    have Kw2_r : Blk w2 (w.heap.size + 1) #[.int .i64 0, .int .i64 0] := blk_later hb2 Kw1_rH.out
    have Kw2_h : Blk w2 (w.heap.size + 2) #[.int .i64 0, .int .i64 j, .int .i64 i] := blk_later hb2 Kw1_hH.out
    obtain ⟨w2_c0_g, w2_c1_g, w2_f0_g, w2_f1_g⟩ := blk2 Kw2_g
    have Kw2_gH := Lib.hid Kw2_g
    have w2_l_g := Kw2_g.lt
    have w2_m_g : w.heap.size < w2.heap.size + 1 := by omega
    obtain ⟨w2_c0_r, w2_c1_r, w2_f0_r, w2_f1_r⟩ := blk2 Kw2_r
    have Kw2_rH := Lib.hid Kw2_r
    have w2_l_r := Kw2_r.lt
    have w2_m_r : w.heap.size + 1 < w2.heap.size + 1 := by omega
    obtain ⟨w2_c0_h, w2_c1_h, w2_c2_h, w2_f0_h, w2_f1_h, w2_f2_h⟩ := blk3 Kw2_h
    have Kw2_hH := Lib.hid Kw2_h
    have w2_l_h := Kw2_h.lt
    have w2_m_h : w.heap.size + 2 < w2.heap.size + 1 := by omega
    have w2z := hb2.size
    try simp at w2z
    have w2B := Lib.hid hb2
    clear Kw2_g Kw2_r Kw2_h
    clear hb2
    go_wp2_with fail
    refine bodyPost_ret (v := rv (0, 0, false)) ?_ rfl ?_
    · have KR : Blk _ (w.heap.size + 1) #[.int .i64 0, .int .i64 0] := (blk_set (blk_set Kw2_rH.out 0 (.int .i64 0)) 1 (.int .i64 0))
      obtain ⟨r0, r1, _, _⟩ := blk2 KR
      simp [results, Try.results10, go_sem, rv, r0, r1]
    · exact ⟨by rw [E.out], by (repeat' (first | exact Below.refl _ _ | refine bl_out ?_ (by assumption) | refine bl_alloc ?_ _ | refine bl_drewN ?_ _ | refine bl_drew ?_ | refine bl_set ?_ ?_ _ | omega | (simp; done) | (simp; omega)))⟩
  have h3b : (f == 0) = false := by simp [h3]
  have E := Lib.hid (show hyFac a b f j i = ratMul a b (ratOf (sq f + sq j - sq i) (2 * sq f)).1 (ratOf (sq f + sq j - sq i) (2 * sq f)).2.1 by simp [hyFac, h1, h2, h3])
  have hh := hyB_iff.1 h2
  clear h3
  obtain ⟨f1, f2⟩ := sq_bd (j := f) (b := 24) (by omega) (by omega)
  obtain ⟨j1, j2⟩ := sq_bd (j := j) (b := 24) (by omega) (by omega)
  obtain ⟨i1, i2⟩ := sq_bd (j := i) (b := 24) (by omega) (by omega)
  have g1 : 0 ≤ 2 * f * (f + 2) := by rw [Int.mul_assoc]; omega
  have g2 : 2 * f * (f + 2) ≤ 2000 := by rw [Int.mul_assoc]; omega
  have G := Lib.hid (show ratOf (sq f + sq j - sq i) (2 * sq f) = ratOf (f * (f + 2) + j * (j + 2) - i * (i + 2)) (2 * f * (f + 2)) by unfold sq; rw [Int.mul_assoc])
  go_enter Try.func10, Try.ntmps10
  go_wp2_with fail
  refine (i_RatValid _ _ _).mono ?_
  rintro e w1 ⟨rfl, hb1⟩
  have Kw1_g : Blk w1 (w.heap.size) #[.int .i64 a, .int .i64 b] := blk_later hb1 (blk_alloc (blk_alloc (blk_new (by simp)) (.cells #[.int .i64 0, .int .i64 0] 24)) (.cells #[.int .i64 f, .int .i64 j, .int .i64 i] 57))
  have Kw1_r : Blk w1 (w.heap.size + 1) #[.int .i64 0, .int .i64 0] := blk_later hb1 (blk_alloc (blk_new (by simp)) (.cells #[.int .i64 f, .int .i64 j, .int .i64 i] 57))
  have Kw1_h : Blk w1 (w.heap.size + 2) #[.int .i64 f, .int .i64 j, .int .i64 i] := blk_later hb1 (blk_new (by simp))
  obtain ⟨w1_c0_g, w1_c1_g, w1_f0_g, w1_f1_g⟩ := blk2 Kw1_g
  have Kw1_gH := Lib.hid Kw1_g
  have w1_l_g := Kw1_g.lt
  have w1_m_g : w.heap.size < w1.heap.size + 1 := by omega
  obtain ⟨w1_c0_r, w1_c1_r, w1_f0_r, w1_f1_r⟩ := blk2 Kw1_r
  have Kw1_rH := Lib.hid Kw1_r
  have w1_l_r := Kw1_r.lt
  have w1_m_r : w.heap.size + 1 < w1.heap.size + 1 := by omega
  obtain ⟨w1_c0_h, w1_c1_h, w1_c2_h, w1_f0_h, w1_f1_h, w1_f2_h⟩ := blk3 Kw1_h
  have Kw1_hH := Lib.hid Kw1_h
  have w1_l_h := Kw1_h.lt
  have w1_m_h : w.heap.size + 2 < w1.heap.size + 1 := by omega
  have w1z := hb1.size
  try simp at w1z
  have w1B := Lib.hid hb1
  clear Kw1_g Kw1_r Kw1_h
  clear hb1
  go_wp2_with fail
  refine (i_hyperfine_valid _ _ _ _).mono ?_
  rintro e w2 ⟨rfl, hb2⟩
  have Kw2_g : Blk w2 (w.heap.size) #[.int .i64 a, .int .i64 b] := blk_later hb2 Kw1_gH.out
  have Kw2_r : Blk w2 (w.heap.size + 1) #[.int .i64 0, .int .i64 0] := blk_later hb2 Kw1_rH.out
  have Kw2_h : Blk w2 (w.heap.size + 2) #[.int .i64 f, .int .i64 j, .int .i64 i] := blk_later hb2 Kw1_hH.out
  obtain ⟨w2_c0_g, w2_c1_g, w2_f0_g, w2_f1_g⟩ := blk2 Kw2_g
  have Kw2_gH := Lib.hid Kw2_g
  have w2_l_g := Kw2_g.lt
  have w2_m_g : w.heap.size < w2.heap.size + 1 := by omega
  obtain ⟨w2_c0_r, w2_c1_r, w2_f0_r, w2_f1_r⟩ := blk2 Kw2_r
  have Kw2_rH := Lib.hid Kw2_r
  have w2_l_r := Kw2_r.lt
  have w2_m_r : w.heap.size + 1 < w2.heap.size + 1 := by omega
  obtain ⟨w2_c0_h, w2_c1_h, w2_c2_h, w2_f0_h, w2_f1_h, w2_f2_h⟩ := blk3 Kw2_h
  have Kw2_hH := Lib.hid Kw2_h
  have w2_l_h := Kw2_h.lt
  have w2_m_h : w.heap.size + 2 < w2.heap.size + 1 := by omega
  have w2z := hb2.size
  try simp at w2z
  have w2B := Lib.hid hb2
  clear Kw2_g Kw2_r Kw2_h
  clear hb2
  go_wp2_with fail
  refine (i_RatOf _ _ _).mono ?_
  rintro e w3 ⟨rfl, hb3⟩
  have Kw3_g : Blk w3 (w.heap.size) #[.int .i64 a, .int .i64 b] := blk_later hb3 Kw2_gH.out
  have Kw3_r : Blk w3 (w.heap.size + 1) #[.int .i64 0, .int .i64 0] := blk_later hb3 Kw2_rH.out
  obtain ⟨w3_c0_g, w3_c1_g, w3_f0_g, w3_f1_g⟩ := blk2 Kw3_g
  have Kw3_gH := Lib.hid Kw3_g
  have w3_l_g := Kw3_g.lt
  have w3_m_g : w.heap.size < w3.heap.size + 1 := by omega
  obtain ⟨w3_c0_r, w3_c1_r, w3_f0_r, w3_f1_r⟩ := blk2 Kw3_r
  have Kw3_rH := Lib.hid Kw3_r
  have w3_l_r := Kw3_r.lt
  have w3_m_r : w.heap.size + 1 < w3.heap.size + 1 := by omega
  have w3z := hb3.size
  try simp at w3z
  have w3B := Lib.hid hb3
  clear Kw3_g Kw3_r
  clear hb3
  rw [G.out] at E
  generalize hX : ratOf (f * (f + 2) + j * (j + 2) - i * (i + 2)) (2 * f * (f + 2)) = X at *
  obtain ⟨N, D, o⟩ := X
  have HX := Lib.hid hX
  clear hX
  simp only [rv]
  cases o
  · obtain ⟨rfl, rfl⟩ := ratOf_no HX.out
    go_wp2_with fail
    refine bodyPost_ret (v := rv (0, 0, false)) ?_ rfl ?_
    · have KR : Blk _ (w.heap.size + 1) #[.int .i64 0, .int .i64 0] := (blk_alloc (blk_set (blk_set Kw3_rH.out 0 (.int .i64 0)) 1 (.int .i64 0)) (.cells #[.int .i64 0, .int .i64 0] 24))
      obtain ⟨r0, r1, _, _⟩ := blk2 KR
      simp [results, Try.results10, go_sem, rv, r0, r1]
    · exact ⟨by rw [E.out]; simp only [ratMul_no], by (repeat' (first | exact Below.refl _ _ | refine bl_out ?_ (by assumption) | refine bl_alloc ?_ _ | refine bl_drewN ?_ _ | refine bl_drew ?_ | refine bl_set ?_ ?_ _ | omega | (simp; done) | (simp; omega)))⟩
  go_wp2_with fail
  refine (i_RatMul _ _ _ _ _).mono ?_
  rintro e w4 ⟨rfl, hb4⟩
  have Kw4_r : Blk w4 (w.heap.size + 1) #[.int .i64 0, .int .i64 0] := blk_later hb4 (blk_alloc Kw3_rH.out (.cells #[.int .i64 N, .int .i64 D] 24))
  have Kw4_p : Blk w4 (w3.heap.size) #[.int .i64 N, .int .i64 D] := blk_later hb4 (blk_new (by simp))
  obtain ⟨w4_c0_r, w4_c1_r, w4_f0_r, w4_f1_r⟩ := blk2 Kw4_r
  have Kw4_rH := Lib.hid Kw4_r
  have w4_l_r := Kw4_r.lt
  have w4_m_r : w.heap.size + 1 < w4.heap.size + 1 := by omega
  obtain ⟨w4_c0_p, w4_c1_p, w4_f0_p, w4_f1_p⟩ := blk2 Kw4_p
  have Kw4_pH := Lib.hid Kw4_p
  have w4_l_p := Kw4_p.lt
  have w4_m_p : w3.heap.size < w4.heap.size + 1 := by omega
  have w4z := hb4.size
  try simp at w4z
  have w4B := Lib.hid hb4
  clear Kw4_r Kw4_p
  clear hb4
  generalize ratMul a b N D = X at *
  obtain ⟨N2, D2, o2⟩ := X
  simp only [rv]
  go_wp2_with fail
  refine bodyPost_ret (v := rv (N2, D2, o2)) ?_ rfl ?_
  · have KR : Blk _ (w.heap.size + 1) #[.int .i64 N2, .int .i64 D2] := (blk_set (blk_set Kw4_rH.out 0 (.int .i64 N2)) 1 (.int .i64 D2))
    obtain ⟨r0, r1, _, _⟩ := blk2 KR
    simp [results, Try.results10, go_sem, rv, r0, r1]
  · exact ⟨by rw [E.out], by (repeat' (first | exact Below.refl _ _ | refine bl_out ?_ (by assumption) | refine bl_alloc ?_ _ | refine bl_drewN ?_ _ | refine bl_drew ?_ | refine bl_set ?_ ?_ _ | omega | (simp; done) | (simp; omega)))⟩

set_option maxRecDepth 100000 in
set_option maxHeartbeats 1000000 in
theorem s_HyperFactor (a b f j i : Int) (w : World) :
    Calls Try.prog 11 #[.agg #[.int .i64 a, .int .i64 b], .int .i64 f, .int .i64 j, .int .i64 i] w (RRat w (hyFac a b f j i)) := by
  cases h1 : ratB a b
  · have E := Lib.hid (show hyFac a b f j i = (0, 0, false) by simp [hyFac, h1])
    go_enter Try.func11, Try.ntmps11
    go_wp2_with fail
    refine (s_RatValid _ _ _).mono ?_
    rintro e w1 ⟨rfl, hb1⟩
    have Kw1_g : Blk w1 (w.heap.size) #[.int .i64 a, .int .i64 b] := blk_later hb1 (blk_alloc (blk_new (by simp)) (.cells #[.int .i64 0, .int .i64 0] 24))
    have Kw1_r : Blk w1 (w.heap.size + 1) #[.int .i64 0, .int .i64 0] := blk_later hb1 (blk_new (by simp))
    obtain ⟨w1_c0_g, w1_c1_g, w1_f0_g, w1_f1_g⟩ := blk2 Kw1_g
    have Kw1_gH := Lib.hid Kw1_g
    have w1_l_g := Kw1_g.lt
    have w1_m_g : w.heap.size < w1.heap.size + 1 := by omega
    obtain ⟨w1_c0_r, w1_c1_r, w1_f0_r, w1_f1_r⟩ := blk2 Kw1_r
    have Kw1_rH := Lib.hid Kw1_r
    have w1_l_r := Kw1_r.lt
    have w1_m_r : w.heap.size + 1 < w1.heap.size + 1 := by omega
    have w1z := hb1.size
    try simp at w1z
    have w1B := Lib.hid hb1
    clear Kw1_g Kw1_r
    clear hb1
    go_wp2_with fail
    refine bodyPost_ret (v := rv (0, 0, false)) ?_ rfl ?_
    · have KR : Blk _ (w.heap.size + 1) #[.int .i64 0, .int .i64 0] := (blk_set (blk_set Kw1_rH.out 0 (.int .i64 0)) 1 (.int .i64 0))
      obtain ⟨r0, r1, _, _⟩ := blk2 KR
      simp [results, Try.results11, go_sem, rv, r0, r1]
    · exact ⟨by rw [E.out], by (repeat' (first | exact Below.refl _ _ | refine bl_out ?_ (by assumption) | refine bl_alloc ?_ _ | refine bl_drewN ?_ _ | refine bl_drew ?_ | refine bl_set ?_ ?_ _ | omega | (simp; done) | (simp; omega)))⟩
  cases h2 : hyB f j i
  · have E := Lib.hid (show hyFac a b f j i = (0, 0, false) by simp [hyFac, h2])
    go_enter Try.func11, Try.ntmps11
    go_wp2_with fail
    refine (s_RatValid _ _ _).mono ?_
    rintro e w1 ⟨rfl, hb1⟩
    have Kw1_g : Blk w1 (w.heap.size) #[.int .i64 a, .int .i64 b] := blk_later hb1 (blk_alloc (blk_new (by simp)) (.cells #[.int .i64 0, .int .i64 0] 24))
    have Kw1_r : Blk w1 (w.heap.size + 1) #[.int .i64 0, .int .i64 0] := blk_later hb1 (blk_new (by simp))
    obtain ⟨w1_c0_g, w1_c1_g, w1_f0_g, w1_f1_g⟩ := blk2 Kw1_g
    have Kw1_gH := Lib.hid Kw1_g
    have w1_l_g := Kw1_g.lt
    have w1_m_g : w.heap.size < w1.heap.size + 1 := by omega
    obtain ⟨w1_c0_r, w1_c1_r, w1_f0_r, w1_f1_r⟩ := blk2 Kw1_r
    have Kw1_rH := Lib.hid Kw1_r
    have w1_l_r := Kw1_r.lt
    have w1_m_r : w.heap.size + 1 < w1.heap.size + 1 := by omega
    have w1z := hb1.size
    try simp at w1z
    have w1B := Lib.hid hb1
    clear Kw1_g Kw1_r
    clear hb1
    go_wp2_with fail
    refine (s_l17Ok _ _ _ _).mono ?_
    rintro e w' ⟨rfl, rfl⟩
    go_wp2_with fail
    refine bodyPost_ret (v := rv (0, 0, false)) ?_ rfl ?_
    · have KR : Blk _ (w.heap.size + 1) #[.int .i64 0, .int .i64 0] := (blk_set (blk_set Kw1_rH.out 0 (.int .i64 0)) 1 (.int .i64 0))
      obtain ⟨r0, r1, _, _⟩ := blk2 KR
      simp [results, Try.results11, go_sem, rv, r0, r1]
    · exact ⟨by rw [E.out], by (repeat' (first | exact Below.refl _ _ | refine bl_out ?_ (by assumption) | refine bl_alloc ?_ _ | refine bl_drewN ?_ _ | refine bl_drew ?_ | refine bl_set ?_ ?_ _ | omega | (simp; done) | (simp; omega)))⟩
  by_cases h3 : f = 0
  · subst h3
    have E := Lib.hid (show hyFac a b 0 j i = (0, 0, false) by simp [hyFac])
    go_enter Try.func11, Try.ntmps11
    go_wp2_with fail
    refine (s_RatValid _ _ _).mono ?_
    rintro e w1 ⟨rfl, hb1⟩
    have Kw1_g : Blk w1 (w.heap.size) #[.int .i64 a, .int .i64 b] := blk_later hb1 (blk_alloc (blk_new (by simp)) (.cells #[.int .i64 0, .int .i64 0] 24))
    have Kw1_r : Blk w1 (w.heap.size + 1) #[.int .i64 0, .int .i64 0] := blk_later hb1 (blk_new (by simp))
    obtain ⟨w1_c0_g, w1_c1_g, w1_f0_g, w1_f1_g⟩ := blk2 Kw1_g
    have Kw1_gH := Lib.hid Kw1_g
    have w1_l_g := Kw1_g.lt
    have w1_m_g : w.heap.size < w1.heap.size + 1 := by omega
    obtain ⟨w1_c0_r, w1_c1_r, w1_f0_r, w1_f1_r⟩ := blk2 Kw1_r
    have Kw1_rH := Lib.hid Kw1_r
    have w1_l_r := Kw1_r.lt
    have w1_m_r : w.heap.size + 1 < w1.heap.size + 1 := by omega
    have w1z := hb1.size
    try simp at w1z
    have w1B := Lib.hid hb1
    clear Kw1_g Kw1_r
    clear hb1
    go_wp2_with fail
    refine (s_l17Ok _ _ _ _).mono ?_
    rintro e w' ⟨rfl, rfl⟩
    go_wp2_with fail
    refine bodyPost_ret (v := rv (0, 0, false)) ?_ rfl ?_
    · have KR : Blk _ (w.heap.size + 1) #[.int .i64 0, .int .i64 0] := (blk_set (blk_set Kw1_rH.out 0 (.int .i64 0)) 1 (.int .i64 0))
      obtain ⟨r0, r1, _, _⟩ := blk2 KR
      simp [results, Try.results11, go_sem, rv, r0, r1]
    · exact ⟨by rw [E.out], by (repeat' (first | exact Below.refl _ _ | refine bl_out ?_ (by assumption) | refine bl_alloc ?_ _ | refine bl_drewN ?_ _ | refine bl_drew ?_ | refine bl_set ?_ ?_ _ | omega | (simp; done) | (simp; omega)))⟩
  have h3b : (f == 0) = false := by simp [h3]
  have E := Lib.hid (show hyFac a b f j i = ratMul a b (ratOf (sq f + sq j - sq i) (2 * sq f)).1 (ratOf (sq f + sq j - sq i) (2 * sq f)).2.1 by simp [hyFac, h1, h2, h3])
  have hh := hyB_iff.1 h2
  clear h3
  obtain ⟨f1, f2⟩ : 0 ≤ sq f ∧ sq f ≤ 24 * (24 + 2) := sq_bd (by omega) (by omega)
  obtain ⟨j1, j2⟩ : 0 ≤ sq j ∧ sq j ≤ 24 * (24 + 2) := sq_bd (by omega) (by omega)
  obtain ⟨i1, i2⟩ : 0 ≤ sq i ∧ sq i ≤ 24 * (24 + 2) := sq_bd (by omega) (by omega)
  go_enter Try.func11, Try.ntmps11
  go_wp2_with fail
  refine (s_RatValid _ _ _).mono ?_
  rintro e w1 ⟨rfl, hb1⟩
  have Kw1_g : Blk w1 (w.heap.size) #[.int .i64 a, .int .i64 b] := blk_later hb1 (blk_alloc (blk_new (by simp)) (.cells #[.int .i64 0, .int .i64 0] 24))
  have Kw1_r : Blk w1 (w.heap.size + 1) #[.int .i64 0, .int .i64 0] := blk_later hb1 (blk_new (by simp))
  obtain ⟨w1_c0_g, w1_c1_g, w1_f0_g, w1_f1_g⟩ := blk2 Kw1_g
  have Kw1_gH := Lib.hid Kw1_g
  have w1_l_g := Kw1_g.lt
  have w1_m_g : w.heap.size < w1.heap.size + 1 := by omega
  obtain ⟨w1_c0_r, w1_c1_r, w1_f0_r, w1_f1_r⟩ := blk2 Kw1_r
  have Kw1_rH := Lib.hid Kw1_r
  have w1_l_r := Kw1_r.lt
  have w1_m_r : w.heap.size + 1 < w1.heap.size + 1 := by omega
  have w1z := hb1.size
  try simp at w1z
  have w1B := Lib.hid hb1
  clear Kw1_g Kw1_r
  clear hb1
  go_wp2_with fail
  refine (s_l17Ok _ _ _ _).mono ?_
  rintro e w' ⟨rfl, rfl⟩
  go_wp2_with (go_at_call 39; refine (s_l15Square _ _ (by omega) (by omega)).mono ?_; rintro e w' ⟨rfl, rfl⟩)
  refine (s_RatOf _ _ _).mono ?_
  rintro e w2 ⟨rfl, hb2⟩
  have Kw2_g : Blk w2 (w.heap.size) #[.int .i64 a, .int .i64 b] := blk_later hb2 Kw1_gH.out
  have Kw2_r : Blk w2 (w.heap.size + 1) #[.int .i64 0, .int .i64 0] := blk_later hb2 Kw1_rH.out
  obtain ⟨w2_c0_g, w2_c1_g, w2_f0_g, w2_f1_g⟩ := blk2 Kw2_g
  have Kw2_gH := Lib.hid Kw2_g
  have w2_l_g := Kw2_g.lt
  have w2_m_g : w.heap.size < w2.heap.size + 1 := by omega
  obtain ⟨w2_c0_r, w2_c1_r, w2_f0_r, w2_f1_r⟩ := blk2 Kw2_r
  have Kw2_rH := Lib.hid Kw2_r
  have w2_l_r := Kw2_r.lt
  have w2_m_r : w.heap.size + 1 < w2.heap.size + 1 := by omega
  have w2z := hb2.size
  try simp at w2z
  have w2B := Lib.hid hb2
  clear Kw2_g Kw2_r
  clear hb2
  generalize hX : ratOf (sq f + sq j - sq i) (2 * sq f) = X at *
  obtain ⟨N, D, o⟩ := X
  have HX := Lib.hid hX
  clear hX
  simp only [rv]
  go_wp2_with fail
  refine (s_RatMul _ _ _ _ _).mono ?_
  rintro e w3 ⟨rfl, hb3⟩
  have Kw3_r : Blk w3 (w.heap.size + 1) #[.int .i64 0, .int .i64 0] := blk_later hb3 (blk_alloc Kw2_rH.out (.cells #[.int .i64 N, .int .i64 D] 24))
  have Kw3_p : Blk w3 (w2.heap.size) #[.int .i64 N, .int .i64 D] := blk_later hb3 (blk_new (by simp))
  obtain ⟨w3_c0_r, w3_c1_r, w3_f0_r, w3_f1_r⟩ := blk2 Kw3_r
  have Kw3_rH := Lib.hid Kw3_r
  have w3_l_r := Kw3_r.lt
  have w3_m_r : w.heap.size + 1 < w3.heap.size + 1 := by omega
  obtain ⟨w3_c0_p, w3_c1_p, w3_f0_p, w3_f1_p⟩ := blk2 Kw3_p
  have Kw3_pH := Lib.hid Kw3_p
  have w3_l_p := Kw3_p.lt
  have w3_m_p : w2.heap.size < w3.heap.size + 1 := by omega
  have w3z := hb3.size
  try simp at w3z
  have w3B := Lib.hid hb3
  clear Kw3_r Kw3_p
  clear hb3
  generalize ratMul a b N D = X at *
  obtain ⟨N2, D2, o2⟩ := X
  simp only [rv]
  go_wp2_with fail
  refine bodyPost_ret (v := rv (N2, D2, o2)) ?_ rfl ?_
  · have KR : Blk _ (w.heap.size + 1) #[.int .i64 N2, .int .i64 D2] := (blk_set (blk_set Kw3_rH.out 0 (.int .i64 N2)) 1 (.int .i64 D2))
    obtain ⟨r0, r1, _, _⟩ := blk2 KR
    simp [results, Try.results11, go_sem, rv, r0, r1]
  · exact ⟨by rw [E.out], by (repeat' (first | exact Below.refl _ _ | refine bl_out ?_ (by assumption) | refine bl_alloc ?_ _ | refine bl_drewN ?_ _ | refine bl_drew ?_ | refine bl_set ?_ ?_ _ | omega | (simp; done) | (simp; omega)))⟩

end Go.Proofs.Ytjhnommmgkgjoaa
