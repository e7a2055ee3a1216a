/- The walks of the laws on Clebsch: squares that are moved, and what holds of each coefficient. -/
import Derived.Test.YtnjcbohledafgaaCl
import Derived.Test.YtnjcbohledafgaaDr
import Derived.Test.YtnjcbohledafgaaPm2
import Derived.Test.YtnjcbohledafgaaLv
namespace Go.Proofs.Ytnjcbohledafgaa
open Go.RowKit
set_option linter.unusedVariables false

set_option maxRecDepth 100000 in
set_option maxHeartbeats 1000000 in
theorem l_FnClebschMoved (s : Option Addr) (len cap : Nat) (w : World) (h : Code w s len cap) (hl : len ≤ 9223372036854775807) (hc : cap ≤ 9223372036854775807) :
    Calls Try.prog 12 #[.slice s len cap] w (RTrueK w) := by
  have H := Lib.hid h
  clear h
  by_cases hbig : 1048576 < len
  · go_enter Try.func12, Try.ntmps12
    go_wp2_with fail
    go_ret
    exact ⟨rfl, Below.refl _ _⟩
  go_enter Try.func12, Try.ntmps12
  go_wp2_with fail
  refine (s_DrawClebsch s len cap w H.out hl hc).mono ?_
  rintro e w1 ⟨a, b, c, m, n, rfl, ⟨a0, a1⟩, ⟨b0, b1⟩, ⟨c0, c1⟩, ⟨m0, m1⟩, ⟨n0, n1⟩, hb1⟩
  have w1z := hb1.size
  try simp at w1z
  have w1B := Lib.hid hb1
  clear hb1
  go_wp2_with fail
  refine (i_Clebsch _ _ _ _ _ _).mono ?_
  rintro e w2 ⟨rfl, hb2⟩
  have w2z := hb2.size
  try simp at w2z
  have w2B := Lib.hid hb2
  clear hb2
  generalize hX : clebI a b c m n = XhX at *
  obtain ⟨S, N, D, o⟩ := XhX
  have HhX := Lib.hid hX
  clear hX
  simp only [rtv]
  go_wp2_with fail
  refine (s_Clebsch _ _ _ _ _ _).mono ?_
  rintro e w3 ⟨rfl, hb3⟩
  have Kw3_out : Blk w3 (w2.heap.size) #[.int .i64 S, .int .i64 N, .int .i64 D] := blk_later hb3 (blk_new (by simp))
  obtain ⟨w3_c0_out, w3_c1_out, w3_c2_out, w3_f0_out, w3_f1_out, w3_f2_out⟩ := blk3 Kw3_out
  have Kw3_outH := Lib.hid Kw3_out
  have w3_l_out := Kw3_out.lt
  have w3_m_out : w2.heap.size < w3.heap.size + 1 := by omega
  have w3z := hb3.size
  try simp at w3z
  have w3B := Lib.hid hb3
  clear Kw3_out
  clear hb3
  rw [HhX.out]
  simp only [rtv]
  cases o
  · go_wp2_with fail
    go_ret
    exact ⟨rfl, by (repeat' (first | exact Below.refl _ _ | refine bl_out ?_ (by assumption) | exact (Hid.out (by assumption)) | refine bl_alloc ?_ _ | refine bl_drewN ?_ _ | refine bl_drew ?_ | refine bl_set ?_ ?_ _ | omega | (simp; done) | (simp; omega)))⟩
  have OK := Lib.hid (clebI_ok HhX.out)
  have ht := tdB_iff.1 (cpOk_iff.1 OK.out).1
  have hm := hasB_iff.1 (cpOk_iff.1 OK.out).2.1
  have hn := hasB_iff.1 (cpOk_iff.1 OK.out).2.2
  cases hh : hasB c (m + n)
  · obtain rfl : S = 0 := by have := HhX.out; simp [clebI, OK.out, hh] at this; omega
    go_wp2_with (go_at_call 20; refine (i_SpinHas _ _ _).mono ?_; rintro e w' ⟨rfl, rfl⟩)
    go_ret
    exact ⟨rfl, by (repeat' (first | exact Below.refl _ _ | refine bl_out ?_ (by assumption) | exact (Hid.out (by assumption)) | refine bl_alloc ?_ _ | refine bl_drewN ?_ _ | refine bl_drew ?_ | refine bl_set ?_ ?_ _ | omega | (simp; done) | (simp; omega)))⟩
  go_wp2_with (go_at_call 20; refine (i_SpinHas _ _ _).mono ?_; rintro e w' ⟨rfl, rfl⟩)
  refine (i_Clebsch _ _ _ _ _ _).mono ?_
  rintro e w4 ⟨rfl, hb4⟩
  have Kw4_out : Blk w4 (w2.heap.size) #[.int .i64 S, .int .i64 N, .int .i64 D] := blk_later hb4 (blk_alloc Kw3_outH.out (.cells #[.int .i64 S, .int .i64 N, .int .i64 D] 39))
  have Kw4_want : Blk w4 (w3.heap.size) #[.int .i64 S, .int .i64 N, .int .i64 D] := blk_later hb4 (blk_new (by simp))
  obtain ⟨w4_c0_out, w4_c1_out, w4_c2_out, w4_f0_out, w4_f1_out, w4_f2_out⟩ := blk3 Kw4_out
  have Kw4_outH := Lib.hid Kw4_out
  have w4_l_out := Kw4_out.lt
  have w4_m_out : w2.heap.size < w4.heap.size + 1 := by omega
  obtain ⟨w4_c0_want, w4_c1_want, w4_c2_want, w4_f0_want, w4_f1_want, w4_f2_want⟩ := blk3 Kw4_want
  have Kw4_wantH := Lib.hid Kw4_want
  have w4_l_want := Kw4_want.lt
  have w4_m_want : w3.heap.size < w4.heap.size + 1 := by omega
  have w4z := hb4.size
  try simp at w4z
  have w4B := Lib.hid hb4
  clear Kw4_out Kw4_want
  clear hb4
  generalize hY : clebI a c b m (-m - n) = XhY at *
  obtain ⟨S1, N1, D1, o1⟩ := XhY
  have HhY := Lib.hid hY
  clear hY
  simp only [rtv]
  have P := all5_of okMoved_all OK.out
  simp only [okMoved, HhX.out, HhY.out, hh] at P
  obtain ⟨N2, D2, o2, hy⟩ := pair3 (ratMul N D (b + 1) 1)
  obtain ⟨N3, D3, o3, hz⟩ := pair3 (ratMul N1 D1 (c + 1) 1)
  simp only [hy, hz] at P
  obtain ⟨⟨⟨⟨rfl, rfl⟩, rfl⟩, rfl⟩, rfl⟩ : (((o1 = true ∧ o2 = true) ∧ o3 = true) ∧ N2 = N3) ∧ D2 = D3 := by simpa using P
  have HY := Lib.hid hy
  have HZ := Lib.hid hz
  have wrb : IntKind.i64.wrap (b + 1) = b + 1 := IntWalk.i64_in _ (by omega)
  have wrc : IntKind.i64.wrap (c + 1) = c + 1 := IntWalk.i64_in _ (by omega)
  clear P hy hz
  go_upto_region 11 with fail
  have Kz5_out : Blk (w4.alloc (.cells #[.int .i64 S1, .int .i64 N1, .int .i64 D1] 39)) (w2.heap.size) #[.int .i64 S, .int .i64 N, .int .i64 D] := (blk_alloc Kw4_outH.out (.cells #[.int .i64 S1, .int .i64 N1, .int .i64 D1] 39))
  have Kz5_want : Blk (w4.alloc (.cells #[.int .i64 S1, .int .i64 N1, .int .i64 D1] 39)) (w3.heap.size) #[.int .i64 S, .int .i64 N, .int .i64 D] := (blk_alloc Kw4_wantH.out (.cells #[.int .i64 S1, .int .i64 N1, .int .i64 D1] 39))
  have Kz5_x : Blk (w4.alloc (.cells #[.int .i64 S1, .int .i64 N1, .int .i64 D1] 39)) (w4.heap.size) #[.int .i64 S1, .int .i64 N1, .int .i64 D1] := (blk_new (by simp))
  have Bz5 : Below w.heap.size w (w4.alloc (.cells #[.int .i64 S1, .int .i64 N1, .int .i64 D1] 39)) := by (repeat' (first | exact Below.refl _ _ | refine bl_out ?_ (by assumption) | exact (Hid.out (by assumption)) | refine bl_alloc ?_ _ | refine bl_drewN ?_ _ | refine bl_drew ?_ | refine bl_set ?_ ?_ _ | omega | (simp; done) | (simp; omega)))
  have Sz5 : (w4.alloc (.cells #[.int .i64 S1, .int .i64 N1, .int .i64 D1] 39)).heap.size = w4.heap.size + 1 := by simp
  generalize (w4.alloc (.cells #[.int .i64 S1, .int .i64 N1, .int .i64 D1] 39)) = z5 at *
  have Sz5a := Nat.le_of_eq Sz5
  have Sz5b := Nat.le_of_eq Sz5.symm
  clear Sz5
  obtain ⟨z5_c0_out, z5_c1_out, z5_c2_out, z5_f0_out, z5_f1_out, z5_f2_out⟩ := blk3 Kz5_out
  have Kz5_outH := Lib.hid Kz5_out
  have z5_l_out := Kz5_out.lt
  obtain ⟨z5_c0_want, z5_c1_want, z5_c2_want, z5_f0_want, z5_f1_want, z5_f2_want⟩ := blk3 Kz5_want
  have Kz5_wantH := Lib.hid Kz5_want
  have z5_l_want := Kz5_want.lt
  obtain ⟨z5_c0_x, z5_c1_x, z5_c2_x, z5_f0_x, z5_f1_x, z5_f2_x⟩ := blk3 Kz5_x
  have Kz5_xH := Lib.hid Kz5_x
  have z5_l_x := Kz5_x.lt
  have z5B := Lib.hid Bz5
  clear Bz5
  clear Kz5_out Kz5_want Kz5_x
  go_cut [14, 15] (CutBlk z5 #[.int .i64 N2, .int .i64 D2] true)
  case first =>
    go_region_held3 (fun w' => Below z5.heap.size z5 w' ∧ w'.cell? ⟨w2.heap.size, 0, none⟩ = some (.int .i64 S) ∧ w'.cell? ⟨w2.heap.size, 1, none⟩ = some (.int .i64 N) ∧ w'.cell? ⟨w2.heap.size, 2, none⟩ = some (.int .i64 D)) ((refine and_keep ?_ (fun hB => ⟨held_cell hB z5_c0_out z5_l_out, held_cell hB z5_c1_out z5_l_out, held_cell hB z5_c2_out z5_l_out⟩); (repeat' (first | with_reducible exact Below.refl _ _ | with_reducible refine bl_alloc ?_ _ | with_reducible refine bl_set ?_ ?_ _ | exact (Below.refl _ _).drew | with_reducible refine bl_drew ?_ | with_reducible refine btr ?_ hbB | with_reducible refine btr ?_ hbA | omega | (simp; done) | (simp; omega))))) (first | (go_at_call 21; refine (l_whole _ _).mono ?_; rintro e wA ⟨rfl, hbA⟩; obtain ⟨hcA, hfA⟩ := bcell hbA; have hzA : z5.heap.size ≤ wA.heap.size := (by first | exact hbA.size | exact Nat.le_trans hzA hbA.size | (have h0 := hbA.size; simp at h0; omega)); (try (have hyA : z5.heap.size < wA.heap.size := by (have h0 := hbA.size; simp at h0; omega)))) | (go_at_call 29; refine (i_RatMul2 _ _ _ _ _ _ _ _ HY).mono ?_; rintro e wB ⟨rfl, hbB⟩; obtain ⟨hcB, hfB⟩ := bcell hbB; have hzB : z5.heap.size ≤ wB.heap.size := (by first | exact hbB.size | exact Nat.le_trans hzA hbB.size | (have h0 := hbB.size; simp at h0; omega)); (try (have hyB : z5.heap.size < wB.heap.size := by (have h0 := hbB.size; simp at h0; omega)))))
    all_goals
      go_wp2_with fail
      go_meet
      exact ⟨_, rfl, rfl, by (first | omega | (simp; omega)), by (repeat' (first | exact blk_new (by simp) | with_reducible refine blk_store2 (x := .int .i64 0) (y := .int .i64 0) ?_ | with_reducible refine blk_store3 (x := .int .i64 0) (y := .int .i64 0) (z := .int .i64 0) ?_ | with_reducible refine blk_drew ?_ | with_reducible refine blk_later hbB ?_ | with_reducible refine blk_later hbA ?_)), by (repeat' (first | with_reducible exact Below.refl _ _ | with_reducible refine bl_alloc ?_ _ | with_reducible refine bl_set ?_ ?_ _ | exact (Below.refl _ _).drew | with_reducible refine bl_drew ?_ | with_reducible refine btr ?_ hbB | with_reducible refine btr ?_ hbA | omega | (simp; done) | (simp; omega)))⟩
  case rest =>
    obtain ⟨g6, rfl, rfl, g6z, Kg6, hb6⟩ := hcut
    obtain ⟨w6, rfl⟩ : ∃ x, x = wc := ⟨_, rfl⟩
    have Kw6_x : Blk w6 (w4.heap.size) #[.int .i64 S1, .int .i64 N1, .int .i64 D1] := blk_later hb6 Kz5_xH.out
    obtain ⟨w6_c0_x, w6_c1_x, w6_c2_x, w6_f0_x, w6_f1_x, w6_f2_x⟩ := blk3 Kw6_x
    have Kw6_xH := Lib.hid Kw6_x
    have w6_l_x := Kw6_x.lt
    have w6_m_x : w4.heap.size < w6.heap.size + 1 := by omega
    have w6z := hb6.size
    try simp at w6z
    have w6B := Lib.hid hb6
    clear Kw6_x
    clear hb6
    obtain ⟨w6_c0_y, w6_c1_y, w6_f0_y, w6_f1_y⟩ := blk2 Kg6
    have Kg6H := Lib.hid Kg6
    have w6_l_y := Kg6.lt
    clear Kg6
    go_upto_region 12 with fail
    have Kz7_x : Blk w6 (w4.heap.size) #[.int .i64 S1, .int .i64 N1, .int .i64 D1] := Kw6_xH.out
    have Kz7_y : Blk w6 (g6) #[.int .i64 N2, .int .i64 D2] := Kg6H.out
    have Bz7 : Below w.heap.size w w6 := by (repeat' (first | exact Below.refl _ _ | refine bl_out ?_ (by assumption) | exact (Hid.out (by assumption)) | refine bl_alloc ?_ _ | refine bl_drewN ?_ _ | refine bl_drew ?_ | refine bl_set ?_ ?_ _ | omega | (simp; done) | (simp; omega)))
    generalize w6 = z7 at *
    obtain ⟨z7_c0_x, z7_c1_x, z7_c2_x, z7_f0_x, z7_f1_x, z7_f2_x⟩ := blk3 Kz7_x
    have Kz7_xH := Lib.hid Kz7_x
    have z7_l_x := Kz7_x.lt
    obtain ⟨z7_c0_y, z7_c1_y, z7_f0_y, z7_f1_y⟩ := blk2 Kz7_y
    have Kz7_yH := Lib.hid Kz7_y
    have z7_l_y := Kz7_y.lt
    have z7B := Lib.hid Bz7
    clear Bz7
    clear Kz7_x Kz7_y
    go_cut [16, 17] (CutBlk z7 #[.int .i64 N2, .int .i64 D2] true)
    case first =>
      go_region_held3 (fun w' => Below z7.heap.size z7 w' ∧ w'.cell? ⟨w4.heap.size, 0, none⟩ = some (.int .i64 S1) ∧ w'.cell? ⟨w4.heap.size, 1, none⟩ = some (.int .i64 N1) ∧ w'.cell? ⟨w4.heap.size, 2, none⟩ = some (.int .i64 D1)) ((refine and_keep ?_ (fun hB => ⟨held_cell hB z7_c0_x z7_l_x, held_cell hB z7_c1_x z7_l_x, held_cell hB z7_c2_x z7_l_x⟩); (repeat' (first | with_reducible exact Below.refl _ _ | with_reducible refine bl_alloc ?_ _ | with_reducible refine bl_set ?_ ?_ _ | exact (Below.refl _ _).drew | with_reducible refine bl_drew ?_ | with_reducible refine btr ?_ hbB | with_reducible refine btr ?_ hbA | omega | (simp; done) | (simp; omega))))) (first | (go_at_call 21; refine (l_whole _ _).mono ?_; rintro e wA ⟨rfl, hbA⟩; obtain ⟨hcA, hfA⟩ := bcell hbA; have hzA : z7.heap.size ≤ wA.heap.size := (by first | exact hbA.size | exact Nat.le_trans hzA hbA.size | (have h0 := hbA.size; simp at h0; omega)); (try (have hyA : z7.heap.size < wA.heap.size := by (have h0 := hbA.size; simp at h0; omega)))) | (go_at_call 29; refine (i_RatMul2 _ _ _ _ _ _ _ _ HZ).mono ?_; rintro e wB ⟨rfl, hbB⟩; obtain ⟨hcB, hfB⟩ := bcell hbB; have hzB : z7.heap.size ≤ wB.heap.size := (by first | exact hbB.size | exact Nat.le_trans hzA hbB.size | (have h0 := hbB.size; simp at h0; omega)); (try (have hyB : z7.heap.size < wB.heap.size := by (have h0 := hbB.size; simp at h0; omega)))))
      all_goals
        go_wp2_with fail
        go_meet
        exact ⟨_, rfl, rfl, by (first | omega | (simp; omega)), by (repeat' (first | exact blk_new (by simp) | with_reducible refine blk_store2 (x := .int .i64 0) (y := .int .i64 0) ?_ | with_reducible refine blk_store3 (x := .int .i64 0) (y := .int .i64 0) (z := .int .i64 0) ?_ | with_reducible refine blk_drew ?_ | with_reducible refine blk_later hbB ?_ | with_reducible refine blk_later hbA ?_)), by (repeat' (first | with_reducible exact Below.refl _ _ | with_reducible refine bl_alloc ?_ _ | with_reducible refine bl_set ?_ ?_ _ | exact (Below.refl _ _).drew | with_reducible refine bl_drew ?_ | with_reducible refine btr ?_ hbB | with_reducible refine btr ?_ hbA | omega | (simp; done) | (simp; omega)))⟩
    case rest =>
      obtain ⟨g8, rfl, rfl, g8z, Kg8, hb8⟩ := hcut
      obtain ⟨w8, rfl⟩ : ∃ x, x = wc := ⟨_, rfl⟩
      have Kw8_y : Blk w8 (g6) #[.int .i64 N2, .int .i64 D2] := blk_later hb8 Kz7_yH.out
      obtain ⟨w8_c0_y, w8_c1_y, w8_f0_y, w8_f1_y⟩ := blk2 Kw8_y
      have Kw8_yH := Lib.hid Kw8_y
      have w8_l_y := Kw8_y.lt
      have w8_m_y : g6 < w8.heap.size + 1 := by omega
      have w8z := hb8.size
      try simp at w8z
      have w8B := Lib.hid hb8
      clear Kw8_y
      clear hb8
      obtain ⟨w8_c0_z, w8_c1_z, w8_f0_z, w8_f1_z⟩ := blk2 Kg8
      have Kg8H := Lib.hid Kg8
      have w8_l_z := Kg8.lt
      clear Kg8
      go_wp2_with fail
      go_ret
      exact ⟨rfl, by (repeat' (first | exact Below.refl _ _ | refine bl_out ?_ (by assumption) | exact (Hid.out (by assumption)) | refine bl_alloc ?_ _ | refine bl_drewN ?_ _ | refine bl_drew ?_ | refine bl_set ?_ ?_ _ | omega | (simp; done) | (simp; omega)))⟩

end Go.Proofs.Ytnjcbohledafgaa
