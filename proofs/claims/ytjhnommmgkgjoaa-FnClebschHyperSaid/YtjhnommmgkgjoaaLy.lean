/- The walk of the law that the hyperfine factor is a mean over couplings. -/
import Derived.Test.YtjhnommmgkgjoaaPhy
import Derived.Test.YtjhnommmgkgjoaaCl
import Derived.Test.YtjhnommmgkgjoaaLv
namespace Go.Proofs.Ytjhnommmgkgjoaa
open Go.RowKit
set_option linter.unusedVariables false

theorem y_HyperFactor2 (a b f j i N D : Int) (o : Bool) (w : World) (h : Hid (hyFac a b f j i = (N, D, o))) :
    Calls Try.prog 10 #[.agg #[.int .i64 a, .int .i64 b], .int .i64 f, .int .i64 j, .int .i64 i] w fun e w' => e = .returned (.tuple #[.agg #[.int .i64 N, .int .i64 D], .bool o]) ∧ Below w.heap.size w w' :=
  (i_HyperFactor a b f j i w).mono fun e w' ⟨he, hb⟩ => ⟨by rw [he, h.out]; rfl, hb⟩

set_option maxRecDepth 100000 in
set_option maxHeartbeats 6000000 in
theorem l_FnClebschHyper (s : Option Addr) (len cap : Nat) (w : World) (h : Code w s len cap) (hl : len ≤ 9223372036854775807) (hc : cap ≤ 9223372036854775807) :
    Calls Try.prog 3 #[.slice s len cap] w (RTrueK w) := by
  have H := Lib.hid h
  clear h
  by_cases hbig : 1048576 < len
  · go_enter Try.func3, Try.ntmps3
    go_wp2_with fail
    go_ret
    exact ⟨rfl, Below.refl _ _⟩
  go_enter Try.func3, Try.ntmps3
  go_wp2_with fail
  refine (s_DrawHyperFactor s len cap w H.out hl hc).mono ?_
  rintro e w1 ⟨p, q, f, j, i, rfl, hp, hq, hf, hj, hi, hb1⟩
  have w1z := hb1.size
  try simp at w1z
  have w1B := Lib.hid hb1
  clear hb1
  go_wp2_with fail
  refine (i_HyperFactor _ _ _ _ _ _).mono ?_
  rintro e w2 ⟨rfl, hb2⟩
  have Kw2_g : Blk w2 (w1.heap.size) #[.int .i64 p, .int .i64 q] := blk_later hb2 (blk_new (by simp))
  obtain ⟨w2_c0_g, w2_c1_g, w2_f0_g, w2_f1_g⟩ := blk2 Kw2_g
  have Kw2_gH := Lib.hid Kw2_g
  have w2_l_g := Kw2_g.lt
  have w2_m_g : w1.heap.size < w2.heap.size + 1 := by omega
  have w2z := hb2.size
  try simp at w2z
  have w2B := Lib.hid hb2
  clear Kw2_g
  clear hb2
  generalize hX : hyFac p q f j i = X at *
  obtain ⟨N, D, o⟩ := X
  have HX := Lib.hid hX
  clear hX
  simp only [rv]
  go_wp2_with fail
  refine (s_HyperFactor _ _ _ _ _ _).mono ?_
  rintro e w3 ⟨rfl, hb3⟩
  have Kw3_g : Blk w3 (w1.heap.size) #[.int .i64 p, .int .i64 q] := blk_later hb3 (blk_alloc Kw2_gH.out (.cells #[.int .i64 N, .int .i64 D] 24))
  have Kw3_out : Blk w3 (w2.heap.size) #[.int .i64 N, .int .i64 D] := blk_later hb3 (blk_new (by simp))
  obtain ⟨w3_c0_g, w3_c1_g, w3_f0_g, w3_f1_g⟩ := blk2 Kw3_g
  have Kw3_gH := Lib.hid Kw3_g
  have w3_l_g := Kw3_g.lt
  have w3_m_g : w1.heap.size < w3.heap.size + 1 := by omega
  obtain ⟨w3_c0_out, w3_c1_out, w3_f0_out, w3_f1_out⟩ := blk2 Kw3_out
  have Kw3_outH := Lib.hid Kw3_out
  have w3_l_out := Kw3_out.lt
  have w3_m_out : w2.heap.size < w3.heap.size + 1 := by omega
  have w3z := hb3.size
  try simp at w3z
  have w3B := Lib.hid hb3
  clear Kw3_g Kw3_out
  clear hb3
  rw [HX.out]
  simp only [rv]
  cases o
  · go_wp2_with fail
    go_ret
    exact ⟨rfl, by (repeat' (first | exact Below.refl _ _ | refine bl_out ?_ (by assumption) | exact (Hid.out (by assumption)) | refine bl_alloc ?_ _ | refine bl_drewN ?_ _ | refine bl_drew ?_ | refine bl_set ?_ ?_ _ | omega | (simp; done) | (simp; omega)))⟩
  have OK := hyFac_ok HX.out
  have V := Lib.hid (ratMul_ok OK.2.2.2)
  have F0 := Lib.hid OK.2.2.1
  have HY0 := Lib.hid OK.2.1
  have hh := hyB_iff.1 OK.2.1
  have hj2 := hh.1
  have hi2 := hh.2.1
  have hf2 := hh.2.2
  clear OK hh hf hj hi hp hq
  by_cases h6f : 6 < f
  · skip
    go_wp2_with fail
    refine (i_RatValid _ _ _).mono ?_
    rintro e w4 ⟨rfl, hb4⟩
    have Kw4_out : Blk w4 (w2.heap.size) #[.int .i64 N, .int .i64 D] := blk_later hb4 (blk_alloc Kw3_outH.out (.cells #[.int .i64 N, .int .i64 D] 24))
    obtain ⟨w4_c0_out, w4_c1_out, w4_f0_out, w4_f1_out⟩ := blk2 Kw4_out
    have Kw4_outH := Lib.hid Kw4_out
    have w4_l_out := Kw4_out.lt
    have w4_m_out : w2.heap.size < w4.heap.size + 1 := by omega
    have w4z := hb4.size
    try simp at w4z
    have w4B := Lib.hid hb4
    clear Kw4_out
    clear hb4
    rw [V.out]
    go_wp2_with fail
    go_ret
    exact ⟨rfl, by (repeat' (first | exact Below.refl _ _ | refine bl_out ?_ (by assumption) | exact (Hid.out (by assumption)) | refine bl_alloc ?_ _ | refine bl_drewN ?_ _ | refine bl_drew ?_ | refine bl_set ?_ ?_ _ | omega | (simp; done) | (simp; omega)))⟩
  by_cases h6j : 6 < j
  · skip
    go_wp2_with fail
    refine (i_RatValid _ _ _).mono ?_
    rintro e w4 ⟨rfl, hb4⟩
    have Kw4_out : Blk w4 (w2.heap.size) #[.int .i64 N, .int .i64 D] := blk_later hb4 (blk_alloc Kw3_outH.out (.cells #[.int .i64 N, .int .i64 D] 24))
    obtain ⟨w4_c0_out, w4_c1_out, w4_f0_out, w4_f1_out⟩ := blk2 Kw4_out
    have Kw4_outH := Lib.hid Kw4_out
    have w4_l_out := Kw4_out.lt
    have w4_m_out : w2.heap.size < w4.heap.size + 1 := by omega
    have w4z := hb4.size
    try simp at w4z
    have w4B := Lib.hid hb4
    clear Kw4_out
    clear hb4
    rw [V.out]
    go_wp2_with fail
    go_ret
    exact ⟨rfl, by (repeat' (first | exact Below.refl _ _ | refine bl_out ?_ (by assumption) | exact (Hid.out (by assumption)) | refine bl_alloc ?_ _ | refine bl_drewN ?_ _ | refine bl_drew ?_ | refine bl_set ?_ ?_ _ | omega | (simp; done) | (simp; omega)))⟩
  by_cases h6i : 6 < i
  · skip
    go_wp2_with fail
    refine (i_RatValid _ _ _).mono ?_
    rintro e w4 ⟨rfl, hb4⟩
    have Kw4_out : Blk w4 (w2.heap.size) #[.int .i64 N, .int .i64 D] := blk_later hb4 (blk_alloc Kw3_outH.out (.cells #[.int .i64 N, .int .i64 D] 24))
    obtain ⟨w4_c0_out, w4_c1_out, w4_f0_out, w4_f1_out⟩ := blk2 Kw4_out
    have Kw4_outH := Lib.hid Kw4_out
    have w4_l_out := Kw4_out.lt
    have w4_m_out : w2.heap.size < w4.heap.size + 1 := by omega
    have w4z := hb4.size
    try simp at w4z
    have w4B := Lib.hid hb4
    clear Kw4_out
    clear hb4
    rw [V.out]
    go_wp2_with fail
    go_ret
    exact ⟨rfl, by (repeat' (first | exact Below.refl _ _ | refine bl_out ?_ (by assumption) | exact (Hid.out (by assumption)) | refine bl_alloc ?_ _ | refine bl_drewN ?_ _ | refine bl_drew ?_ | refine bl_set ?_ ?_ _ | omega | (simp; done) | (simp; omega)))⟩
  have PP := okHy_of HY0.out F0.out (by omega) (by omega) (by omega)
  have HP := Lib.hid PP
  have hf3 : 0 ≤ f ∧ f ≤ 6 := by omega
  have hj3 : 0 ≤ j ∧ j ≤ 6 := by omega
  have hi3 : 0 ≤ i ∧ i ≤ 6 := by omega
  clear PP hf2 hj2 hi2 h6f h6j h6i
  obtain ⟨A, hA⟩ := Int.eq_ofNat_of_zero_le (show 0 ≤ j by omega)
  have hA0 : (A : Int) ≤ j := by omega
  have hA1 : j ≤ (A : Int) := by omega
  clear hA
  go_wp2_with fail
  refine (l_whole _ _).mono ?_
  rintro e w4 ⟨rfl, hb4⟩
  have w4z := hb4.size
  try simp at w4z
  have w4B := Lib.hid hb4
  clear hb4
  go_wp2_with fail
  have Kz5_sum : Blk (w4.alloc (.cells #[.int .i64 0, .int .i64 1] 24)) (w4.heap.size) #[.int .i64 0, .int .i64 1] := (blk_new (by simp))
  have Bz5 : Below w.heap.size w (w4.alloc (.cells #[.int .i64 0, .int .i64 1] 24)) := by (repeat' (first | exact Below.refl _ _ | refine bl_out ?_ (by assumption) | exact (Hid.out (by assumption)) | refine bl_alloc ?_ _ | refine bl_drewN ?_ _ | refine bl_drew ?_ | refine bl_set ?_ ?_ _ | omega | (simp; done) | (simp; omega)))
  have Sz5 : (w4.alloc (.cells #[.int .i64 0, .int .i64 1] 24)).heap.size = w4.heap.size + 1 := by simp
  generalize (w4.alloc (.cells #[.int .i64 0, .int .i64 1] 24)) = z5 at *
  have Sz5a := Nat.le_of_eq Sz5
  have Sz5b := Nat.le_of_eq Sz5.symm
  clear Sz5
  obtain ⟨z5_c0_sum, z5_c1_sum, z5_f0_sum, z5_f1_sum⟩ := blk2 Kz5_sum
  have Kz5_sumH := Lib.hid Kz5_sum
  have z5_l_sum := Kz5_sum.lt
  have z5B := Lib.hid Bz5
  clear Bz5
  clear Kz5_sum
  go_loopw [12, 13, 14, 15, 16, 17, 18] (fun o p _ _ _ _ _ wr => ∃ (t : Nat) (N D : Int) (q : Bool), t ≤ A + 1 ∧ p = .int .i64 (-j + 2 * (t : Int)) ∧ o = .bool q ∧ chSt j i f t = (N, D, q) ∧ Blk wr (w4.heap.size) #[.int .i64 N, .int .i64 D] ∧ Below w.heap.size w wr) (fun _ p _ _ _ _ _ _ => (100 - intOf p).toNat)
  case atStart => exact ⟨0, 0, 1, true, by omega, by simp, rfl, rfl, Kz5_sumH.out, z5B.out⟩
  case round =>
    obtain ⟨t, N2, D2, q, ht, rfl, rfl, hst, KS, hnx⟩ := hrel
    have HST := Lib.hid hst
    have HN := Lib.hid hnx
    have hsz := hnx.size
    obtain ⟨ks0, ks1, ks2, ks3⟩ := blk2 KS
    have KSH := Lib.hid KS
    have ksl := KS.lt
    clear hst hnx KS
    by_cases hlt : t ≤ A
    · cases hq : hasB i (f - (-j + 2 * (t : Int)))
      · have E := Lib.hid (chSt_no (j := j) hq)
        go_wp2_with (go_at_call 14; refine (i_SpinHas _ _ _).mono ?_; rintro e w' ⟨rfl, rfl⟩)
        go_roundw
        case rel => exact ⟨t + 1, N2, D2, q, by omega, by go_num, rfl, by rw [E.out]; exact HST.out, KSH.out, HN.out⟩
        case measure => simp [intOf]; omega
      · have hq2 := (hasB_iff.1 hq).2.1
        go_wp2_with (go_at_call 14; refine (i_SpinHas _ _ _).mono ?_; rintro e w' ⟨rfl, rfl⟩)
        refine (i_Clebsch _ _ _ _ _ _).mono ?_
        rintro e w21 ⟨rfl, hb21⟩
        have Kw21_sum : Blk w21 (w4.heap.size) #[.int .i64 N2, .int .i64 D2] := blk_later hb21 KSH.out
        obtain ⟨w21_c0_sum, w21_c1_sum, w21_f0_sum, w21_f1_sum⟩ := blk2 Kw21_sum
        have Kw21_sumH := Lib.hid Kw21_sum
        have w21_l_sum := Kw21_sum.lt
        have w21_m_sum : w4.heap.size < w21.heap.size + 1 := by omega
        have w21z := hb21.size
        try simp at w21z
        have w21B := Lib.hid hb21
        clear Kw21_sum
        clear hb21
        generalize hY : clebI j i f (-j + 2 * (t : Int)) (f - (-j + 2 * (t : Int))) = Y at *
        obtain ⟨S1, N1, D1, o1⟩ := Y
        obtain ⟨N4, D4, o4, hz⟩ := pair3 (ratMul N1 D1 (-j + 2 * (t : Int)) 1)
        have E := Lib.hid (chSt_yes hq HST.out hY hz)
        have HZ4 := Lib.hid hz
        clear hY hz
        simp only [rtv]
        go_upto_region 18 with fail
        have Kz22_sum : Blk (w21.alloc (.cells #[.int .i64 S1, .int .i64 N1, .int .i64 D1] 33)) (w4.heap.size) #[.int .i64 N2, .int .i64 D2] := (blk_alloc Kw21_sumH.out (.cells #[.int .i64 S1, .int .i64 N1, .int .i64 D1] 33))
        have Kz22_x : Blk (w21.alloc (.cells #[.int .i64 S1, .int .i64 N1, .int .i64 D1] 33)) (w21.heap.size) #[.int .i64 S1, .int .i64 N1, .int .i64 D1] := (blk_new (by simp))
        have Bz22 : Below w.heap.size w (w21.alloc (.cells #[.int .i64 S1, .int .i64 N1, .int .i64 D1] 33)) := by (repeat' (first | exact Below.refl _ _ | refine bl_out ?_ (by assumption) | exact (Hid.out (by assumption)) | refine bl_alloc ?_ _ | refine bl_drewN ?_ _ | refine bl_drew ?_ | refine bl_set ?_ ?_ _ | omega | (simp; done) | (simp; omega)))
        have Sz22 : (w21.alloc (.cells #[.int .i64 S1, .int .i64 N1, .int .i64 D1] 33)).heap.size = w21.heap.size + 1 := by simp
        generalize (w21.alloc (.cells #[.int .i64 S1, .int .i64 N1, .int .i64 D1] 33)) = z22 at *
        have Sz22a := Nat.le_of_eq Sz22
        have Sz22b := Nat.le_of_eq Sz22.symm
        clear Sz22
        obtain ⟨z22_c0_sum, z22_c1_sum, z22_f0_sum, z22_f1_sum⟩ := blk2 Kz22_sum
        have Kz22_sumH := Lib.hid Kz22_sum
        have z22_l_sum := Kz22_sum.lt
        obtain ⟨z22_c0_x, z22_c1_x, z22_c2_x, z22_f0_x, z22_f1_x, z22_f2_x⟩ := blk3 Kz22_x
        have Kz22_xH := Lib.hid Kz22_x
        have z22_l_x := Kz22_x.lt
        have z22B := Lib.hid Bz22
        clear Bz22
        clear Kz22_sum Kz22_x
        go_cut [17, 18] (CutBlk z22 #[.int .i64 N4, .int .i64 D4] o4)
        case first =>
          go_region_held3 (fun w' => Below z22.heap.size z22 w' ∧ w'.cell? ⟨w21.heap.size, 0, none⟩ = some (.int .i64 S1) ∧ w'.cell? ⟨w21.heap.size, 1, none⟩ = some (.int .i64 N1) ∧ w'.cell? ⟨w21.heap.size, 2, none⟩ = some (.int .i64 D1)) ((refine and_keep ?_ (fun hB => ⟨held_cell hB z22_c0_x z22_l_x, held_cell hB z22_c1_x z22_l_x, held_cell hB z22_c2_x z22_l_x⟩); (repeat' (first | with_reducible exact Below.refl _ _ | with_reducible refine bl_alloc ?_ _ | with_reducible refine bl_set ?_ ?_ _ | exact (Below.refl _ _).drew | with_reducible refine bl_drew ?_ | with_reducible refine btr ?_ hbB | with_reducible refine btr ?_ hbA | omega | (simp; done) | (simp; omega))))) (first | (go_at_call 13; refine (l_whole _ _).mono ?_; rintro e wA ⟨rfl, hbA⟩; obtain ⟨hcA, hfA⟩ := bcell hbA; have hzA : z22.heap.size ≤ wA.heap.size := (by first | exact hbA.size | exact Nat.le_trans hzA hbA.size | (have h0 := hbA.size; (try simp at h0); omega)); (try (have hyA : z22.heap.size < wA.heap.size := by (have h0 := hbA.size; (try simp at h0); omega)))) | (go_at_call 16; refine (i_RatMul2 _ _ _ _ _ _ _ _ HZ4).mono ?_; rintro e wB ⟨rfl, hbB⟩; obtain ⟨hcB, hfB⟩ := bcell hbB; have hzB : z22.heap.size ≤ wB.heap.size := (by first | exact hbB.size | exact Nat.le_trans hzA hbB.size | (have h0 := hbB.size; (try simp at h0); omega)); (try (have hyB : z22.heap.size < wB.heap.size := by (have h0 := hbB.size; (try simp at h0); omega)))))
          all_goals
            go_wp2_with fail
            go_meet
            exact ⟨_, rfl, rfl, by (first | omega | (simp; omega)), by (repeat' (first | exact blk_new (by simp) | with_reducible refine blk_store2 (x := .int .i64 0) (y := .int .i64 0) ?_ | with_reducible refine blk_store3 (x := .int .i64 0) (y := .int .i64 0) (z := .int .i64 0) ?_ | with_reducible refine blk_drew ?_ | with_reducible refine blk_later hbB ?_ | with_reducible refine blk_later hbA ?_)), by (repeat' (first | with_reducible exact Below.refl _ _ | with_reducible refine bl_alloc ?_ _ | with_reducible refine bl_set ?_ ?_ _ | exact (Below.refl _ _).drew | with_reducible refine bl_drew ?_ | with_reducible refine btr ?_ hbB | with_reducible refine btr ?_ hbA | omega | (simp; done) | (simp; omega)))⟩
        case rest =>
          obtain ⟨g23, rfl, rfl, g23z, Kg23, hb23⟩ := hcut
          obtain ⟨w23, rfl⟩ : ∃ x, x = wc := ⟨_, rfl⟩
          have Kw23_sum : Blk w23 (w4.heap.size) #[.int .i64 N2, .int .i64 D2] := blk_later hb23 Kz22_sumH.out
          obtain ⟨w23_c0_sum, w23_c1_sum, w23_f0_sum, w23_f1_sum⟩ := blk2 Kw23_sum
          have Kw23_sumH := Lib.hid Kw23_sum
          have w23_l_sum := Kw23_sum.lt
          have w23_m_sum : w4.heap.size < w23.heap.size + 1 := by omega
          have w23z := hb23.size
          try simp at w23z
          have w23B := Lib.hid hb23
          clear Kw23_sum
          clear hb23
          obtain ⟨w23_c0_z, w23_c1_z, w23_f0_z, w23_f1_z⟩ := blk2 Kg23
          have Kg23H := Lib.hid Kg23
          have w23_l_z := Kg23.lt
          clear Kg23
          cases hc_q : q
          · subst hc_q
            go_wp2_with fail
            refine (l_addTo _ _ _ _ _ _).mono ?_
            rintro e w24 ⟨rfl, hb24⟩
            have Kw24_sum : Blk w24 (w4.heap.size) #[.int .i64 N2, .int .i64 D2] := blk_later hb24 Kw23_sumH.out
            have Kw24_z : Blk w24 (g23) #[.int .i64 N4, .int .i64 D4] := blk_later hb24 Kg23H.out
            obtain ⟨w24_c0_sum, w24_c1_sum, w24_f0_sum, w24_f1_sum⟩ := blk2 Kw24_sum
            have Kw24_sumH := Lib.hid Kw24_sum
            have w24_l_sum := Kw24_sum.lt
            have w24_m_sum : w4.heap.size < w24.heap.size + 1 := by omega
            obtain ⟨w24_c0_z, w24_c1_z, w24_f0_z, w24_f1_z⟩ := blk2 Kw24_z
            have Kw24_zH := Lib.hid Kw24_z
            have w24_l_z := Kw24_z.lt
            have w24_m_z : g23 < w24.heap.size + 1 := by omega
            have w24z := hb24.size
            try simp at w24z
            have w24B := Lib.hid hb24
            clear Kw24_sum Kw24_z
            clear hb24
            generalize hZ : ratAdd N2 D2 N4 D4 = Z at *
            obtain ⟨N3, D3, o3⟩ := Z
            have HZ := Lib.hid hZ
            clear hZ
            go_wp2_with fail
            go_roundw
            case rel => exact ⟨t + 1, N3, D3, _, by omega, by go_num, rfl, by rw [E.out]; simp, (blk_set (blk_set Kw24_sumH.out 0 (.int .i64 N3)) 1 (.int .i64 D3)), by (repeat' (first | exact Below.refl _ _ | refine bl_out ?_ (by assumption) | exact (Hid.out (by assumption)) | refine bl_alloc ?_ _ | refine bl_drewN ?_ _ | refine bl_drew ?_ | refine bl_set ?_ ?_ _ | omega | (simp; done) | (simp; omega)))⟩
            case measure => simp [intOf]; omega
          · subst hc_q
            cases hc_o1 : o1
            · subst hc_o1
              go_wp2_with fail
              refine (l_addTo _ _ _ _ _ _).mono ?_
              rintro e w24 ⟨rfl, hb24⟩
              have Kw24_sum : Blk w24 (w4.heap.size) #[.int .i64 N2, .int .i64 D2] := blk_later hb24 Kw23_sumH.out
              have Kw24_z : Blk w24 (g23) #[.int .i64 N4, .int .i64 D4] := blk_later hb24 Kg23H.out
              obtain ⟨w24_c0_sum, w24_c1_sum, w24_f0_sum, w24_f1_sum⟩ := blk2 Kw24_sum
              have Kw24_sumH := Lib.hid Kw24_sum
              have w24_l_sum := Kw24_sum.lt
              have w24_m_sum : w4.heap.size < w24.heap.size + 1 := by omega
              obtain ⟨w24_c0_z, w24_c1_z, w24_f0_z, w24_f1_z⟩ := blk2 Kw24_z
              have Kw24_zH := Lib.hid Kw24_z
              have w24_l_z := Kw24_z.lt
              have w24_m_z : g23 < w24.heap.size + 1 := by omega
              have w24z := hb24.size
              try simp at w24z
              have w24B := Lib.hid hb24
              clear Kw24_sum Kw24_z
              clear hb24
              generalize hZ : ratAdd N2 D2 N4 D4 = Z at *
              obtain ⟨N3, D3, o3⟩ := Z
              have HZ := Lib.hid hZ
              clear hZ
              go_wp2_with fail
              go_roundw
              case rel => exact ⟨t + 1, N3, D3, _, by omega, by go_num, rfl, by rw [E.out]; simp, (blk_set (blk_set Kw24_sumH.out 0 (.int .i64 N3)) 1 (.int .i64 D3)), by (repeat' (first | exact Below.refl _ _ | refine bl_out ?_ (by assumption) | exact (Hid.out (by assumption)) | refine bl_alloc ?_ _ | refine bl_drewN ?_ _ | refine bl_drew ?_ | refine bl_set ?_ ?_ _ | omega | (simp; done) | (simp; omega)))⟩
              case measure => simp [intOf]; omega
            · subst hc_o1
              go_wp2_with fail
              refine (l_addTo _ _ _ _ _ _).mono ?_
              rintro e w24 ⟨rfl, hb24⟩
              have Kw24_sum : Blk w24 (w4.heap.size) #[.int .i64 N2, .int .i64 D2] := blk_later hb24 Kw23_sumH.out
              have Kw24_z : Blk w24 (g23) #[.int .i64 N4, .int .i64 D4] := blk_later hb24 Kg23H.out
              obtain ⟨w24_c0_sum, w24_c1_sum, w24_f0_sum, w24_f1_sum⟩ := blk2 Kw24_sum
              have Kw24_sumH := Lib.hid Kw24_sum
              have w24_l_sum := Kw24_sum.lt
              have w24_m_sum : w4.heap.size < w24.heap.size + 1 := by omega
              obtain ⟨w24_c0_z, w24_c1_z, w24_f0_z, w24_f1_z⟩ := blk2 Kw24_z
              have Kw24_zH := Lib.hid Kw24_z
              have w24_l_z := Kw24_z.lt
              have w24_m_z : g23 < w24.heap.size + 1 := by omega
              have w24z := hb24.size
              try simp at w24z
              have w24B := Lib.hid hb24
              clear Kw24_sum Kw24_z
              clear hb24
              generalize hZ : ratAdd N2 D2 N4 D4 = Z at *
              obtain ⟨N3, D3, o3⟩ := Z
              have HZ := Lib.hid hZ
              clear hZ
              go_wp2_with fail
              go_roundw
              case rel => exact ⟨t + 1, N3, D3, _, by omega, by go_num, rfl, by rw [E.out]; simp, (blk_set (blk_set Kw24_sumH.out 0 (.int .i64 N3)) 1 (.int .i64 D3)), by (repeat' (first | exact Below.refl _ _ | refine bl_out ?_ (by assumption) | exact (Hid.out (by assumption)) | refine bl_alloc ?_ _ | refine bl_drewN ?_ _ | refine bl_drew ?_ | refine bl_set ?_ ?_ _ | omega | (simp; done) | (simp; omega)))⟩
              case measure => simp [intOf]; omega
    · obtain rfl : t = A + 1 := by omega
      obtain ⟨N5, D5, hx5, hy5, rfl⟩ : ∃ N5 D5, hyFac 1 1 f j i = (N5, D5, true) ∧ ratMul N5 D5 f 1 = (N2, D2, true) ∧ q = true := by
        have h0 := HP.out
        rw [show (j + 1).toNat = A + 1 by omega, HST.out] at h0
        exact h0
      have HX5 := Lib.hid hx5
      have HY5 := Lib.hid hy5
      clear hx5 hy5
      go_wp2_with fail
      refine (l_whole _ _).mono ?_
      rintro e w61 ⟨rfl, hb61⟩
      have Kw61_sum : Blk w61 (w4.heap.size) #[.int .i64 N2, .int .i64 D2] := blk_later hb61 KSH.out
      obtain ⟨w61_c0_sum, w61_c1_sum, w61_f0_sum, w61_f1_sum⟩ := blk2 Kw61_sum
      have Kw61_sumH := Lib.hid Kw61_sum
      have w61_l_sum := Kw61_sum.lt
      have w61_m_sum : w4.heap.size < w61.heap.size + 1 := by omega
      have w61z := hb61.size
      try simp at w61z
      have w61B := Lib.hid hb61
      clear Kw61_sum
      clear hb61
      go_wp2_with fail
      refine (y_HyperFactor2 _ _ _ _ _ _ _ _ _ HX5).mono ?_
      rintro e w62 ⟨rfl, hb62⟩
      have Kw62_sum : Blk w62 (w4.heap.size) #[.int .i64 N2, .int .i64 D2] := blk_later hb62 Kw61_sumH.out
      obtain ⟨w62_c0_sum, w62_c1_sum, w62_f0_sum, w62_f1_sum⟩ := blk2 Kw62_sum
      have Kw62_sumH := Lib.hid Kw62_sum
      have w62_l_sum := Kw62_sum.lt
      have w62_m_sum : w4.heap.size < w62.heap.size + 1 := by omega
      have w62z := hb62.size
      try simp at w62z
      have w62B := Lib.hid hb62
      clear Kw62_sum
      clear hb62
      go_upto_region 21 with fail
      have Kz63_sum : Blk (w62.alloc (.cells #[.int .i64 N5, .int .i64 D5] 24)) (w4.heap.size) #[.int .i64 N2, .int .i64 D2] := (blk_alloc Kw62_sumH.out (.cells #[.int .i64 N5, .int .i64 D5] 24))
      have Kz63_x : Blk (w62.alloc (.cells #[.int .i64 N5, .int .i64 D5] 24)) (w62.heap.size) #[.int .i64 N5, .int .i64 D5] := (blk_new (by simp))
      have Bz63 : Below w.heap.size w (w62.alloc (.cells #[.int .i64 N5, .int .i64 D5] 24)) := by (repeat' (first | exact Below.refl _ _ | refine bl_out ?_ (by assumption) | exact (Hid.out (by assumption)) | refine bl_alloc ?_ _ | refine bl_drewN ?_ _ | refine bl_drew ?_ | refine bl_set ?_ ?_ _ | omega | (simp; done) | (simp; omega)))
      have Sz63 : (w62.alloc (.cells #[.int .i64 N5, .int .i64 D5] 24)).heap.size = w62.heap.size + 1 := by simp
      generalize (w62.alloc (.cells #[.int .i64 N5, .int .i64 D5] 24)) = z63 at *
      have Sz63a := Nat.le_of_eq Sz63
      have Sz63b := Nat.le_of_eq Sz63.symm
      clear Sz63
      obtain ⟨z63_c0_sum, z63_c1_sum, z63_f0_sum, z63_f1_sum⟩ := blk2 Kz63_sum
      have Kz63_sumH := Lib.hid Kz63_sum
      have z63_l_sum := Kz63_sum.lt
      obtain ⟨z63_c0_x, z63_c1_x, z63_f0_x, z63_f1_x⟩ := blk2 Kz63_x
      have Kz63_xH := Lib.hid Kz63_x
      have z63_l_x := Kz63_x.lt
      have z63B := Lib.hid Bz63
      clear Bz63
      clear Kz63_sum Kz63_x
      go_cut [21, 22] (CutBlk z63 #[.int .i64 N2, .int .i64 D2] true)
      case first =>
        go_region_held3 (fun w' => Below z63.heap.size z63 w' ∧ w'.cell? ⟨w4.heap.size, 0, none⟩ = some (.int .i64 N2) ∧ w'.cell? ⟨w4.heap.size, 1, none⟩ = some (.int .i64 D2) ∧ w'.cell? ⟨w62.heap.size, 0, none⟩ = some (.int .i64 N5) ∧ w'.cell? ⟨w62.heap.size, 1, none⟩ = some (.int .i64 D5)) ((refine and_keep ?_ (fun hB => ⟨held_cell hB z63_c0_sum z63_l_sum, held_cell hB z63_c1_sum z63_l_sum, held_cell hB z63_c0_x z63_l_x, held_cell hB z63_c1_x z63_l_x⟩); (repeat' (first | with_reducible exact Below.refl _ _ | with_reducible refine bl_alloc ?_ _ | with_reducible refine bl_set ?_ ?_ _ | exact (Below.refl _ _).drew | with_reducible refine bl_drew ?_ | with_reducible refine btr ?_ hbB | with_reducible refine btr ?_ hbA | omega | (simp; done) | (simp; omega))))) (first | (go_at_call 13; refine (l_whole _ _).mono ?_; rintro e wA ⟨rfl, hbA⟩; obtain ⟨hcA, hfA⟩ := bcell hbA; have hzA : z63.heap.size ≤ wA.heap.size := (by first | exact hbA.size | exact Nat.le_trans hzA hbA.size | (have h0 := hbA.size; (try simp at h0); omega)); (try (have hyA : z63.heap.size < wA.heap.size := by (have h0 := hbA.size; (try simp at h0); omega)))) | (go_at_call 16; refine (i_RatMul2 _ _ _ _ _ _ _ _ HY5).mono ?_; rintro e wB ⟨rfl, hbB⟩; obtain ⟨hcB, hfB⟩ := bcell hbB; have hzB : z63.heap.size ≤ wB.heap.size := (by first | exact hbB.size | exact Nat.le_trans hzA hbB.size | (have h0 := hbB.size; (try simp at h0); omega)); (try (have hyB : z63.heap.size < wB.heap.size := by (have h0 := hbB.size; (try simp at h0); omega)))))
        all_goals
          go_wp2_with fail
          go_meet
          exact ⟨_, rfl, rfl, by (first | omega | (simp; omega)), by (repeat' (first | exact blk_new (by simp) | with_reducible refine blk_store2 (x := .int .i64 0) (y := .int .i64 0) ?_ | with_reducible refine blk_store3 (x := .int .i64 0) (y := .int .i64 0) (z := .int .i64 0) ?_ | with_reducible refine blk_drew ?_ | with_reducible refine blk_later hbB ?_ | with_reducible refine blk_later hbA ?_)), by (repeat' (first | with_reducible exact Below.refl _ _ | with_reducible refine bl_alloc ?_ _ | with_reducible refine bl_set ?_ ?_ _ | exact (Below.refl _ _).drew | with_reducible refine bl_drew ?_ | with_reducible refine btr ?_ hbB | with_reducible refine btr ?_ hbA | omega | (simp; done) | (simp; omega)))⟩
      case rest =>
        obtain ⟨g64, rfl, rfl, g64z, Kg64, hb64⟩ := hcut
        obtain ⟨w64, rfl⟩ : ∃ x, x = wc := ⟨_, rfl⟩
        have Kw64_sum : Blk w64 (w4.heap.size) #[.int .i64 N2, .int .i64 D2] := blk_later hb64 Kz63_sumH.out
        obtain ⟨w64_c0_sum, w64_c1_sum, w64_f0_sum, w64_f1_sum⟩ := blk2 Kw64_sum
        have Kw64_sumH := Lib.hid Kw64_sum
        have w64_l_sum := Kw64_sum.lt
        have w64_m_sum : w4.heap.size < w64.heap.size + 1 := by omega
        have w64z := hb64.size
        try simp at w64z
        have w64B := Lib.hid hb64
        clear Kw64_sum
        clear hb64
        obtain ⟨w64_c0_y, w64_c1_y, w64_f0_y, w64_f1_y⟩ := blk2 Kg64
        have Kg64H := Lib.hid Kg64
        have w64_l_y := Kg64.lt
        clear Kg64
        go_wp2_with fail
        go_ret
        exact ⟨rfl, by (repeat' (first | exact Below.refl _ _ | refine bl_out ?_ (by assumption) | exact (Hid.out (by assumption)) | refine bl_alloc ?_ _ | refine bl_drewN ?_ _ | refine bl_drew ?_ | refine bl_set ?_ ?_ _ | omega | (simp; done) | (simp; omega)))⟩

end Go.Proofs.Ytjhnommmgkgjoaa
