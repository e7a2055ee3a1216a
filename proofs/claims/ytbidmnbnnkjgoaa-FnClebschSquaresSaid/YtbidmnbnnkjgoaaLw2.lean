/- The walks of the laws that squares over couplings add up. -/
import Derived.Test.YtbidmnbnnkjgoaaCl
import Derived.Test.YtbidmnbnnkjgoaaB
import Derived.Test.YtbidmnbnnkjgoaaDr
import Derived.Test.YtbidmnbnnkjgoaaPw
import Derived.Test.YtbidmnbnnkjgoaaLv
namespace Go.Proofs.Ytbidmnbnnkjgoaa
open Go.RowKit
set_option linter.unusedVariables false

set_option maxRecDepth 100000 in
set_option maxHeartbeats 4000000 in
theorem l_FnClebschSquares (s : Option Addr) (len cap : Nat) (w : World) (h : Code w s len cap) (hl : len ≤ 9223372036854775807) (hc : cap ≤ 9223372036854775807) :
    Calls Try.prog 4 #[.slice s len cap] w (RTrueK w) := by
  have H := Lib.hid h
  clear h
  by_cases hbig : 1048576 < len
  · go_enter Try.func4, Try.ntmps4
    go_wp2_with fail
    go_ret
    exact ⟨rfl, Below.refl _ _⟩
  go_enter Try.func4, Try.ntmps4
  go_wp2_with fail
  refine (s_DrawClebsch s len cap w H.out hl hc).mono ?_
  rintro e w1 ⟨a, b, c, m, n, rfl, ⟨a0, a1⟩, ⟨b0, b1⟩, ⟨c0, c1⟩, ⟨m0, m1⟩, ⟨n0, n1⟩, hb1⟩
  have w1z := hb1.size
  try simp at w1z
  have w1B := Lib.hid hb1
  clear hb1
  go_wp2_with fail
  refine (i_Clebsch _ _ _ _ _ _).mono ?_
  rintro e w2 ⟨rfl, hb2⟩
  have w2z := hb2.size
  try simp at w2z
  have w2B := Lib.hid hb2
  clear hb2
  generalize hX : clebI a b c m n = XhX at *
  obtain ⟨S, N, D, o⟩ := XhX
  have HhX := Lib.hid hX
  clear hX
  simp only [rtv]
  go_wp2_with fail
  refine (s_Clebsch _ _ _ _ _ _).mono ?_
  rintro e w3 ⟨rfl, hb3⟩
  have Kw3_out : Blk w3 (w2.heap.size) #[.int .i64 S, .int .i64 N, .int .i64 D] := blk_later hb3 (blk_new (by simp))
  obtain ⟨w3_c0_out, w3_c1_out, w3_c2_out, w3_f0_out, w3_f1_out, w3_f2_out⟩ := blk3 Kw3_out
  have Kw3_outH := Lib.hid Kw3_out
  have w3_l_out := Kw3_out.lt
  have w3_m_out : w2.heap.size < w3.heap.size + 1 := by omega
  have w3z := hb3.size
  try simp at w3z
  have w3B := Lib.hid hb3
  clear Kw3_out
  clear hb3
  rw [HhX.out]
  simp only [rtv]
  cases o
  · go_wp2_with fail
    go_ret
    exact ⟨rfl, by (repeat' (first | exact Below.refl _ _ | refine bl_out ?_ (by assumption) | exact (Hid.out (by assumption)) | refine bl_alloc ?_ _ | refine bl_drewN ?_ _ | refine bl_drew ?_ | refine bl_set ?_ ?_ _ | omega | (simp; done) | (simp; omega)))⟩
  have OK := Lib.hid (clebI_ok HhX.out)
  have ht := tdB_iff.1 (cpOk_iff.1 OK.out).1
  have hm := hasB_iff.1 (cpOk_iff.1 OK.out).2.1
  have hn := hasB_iff.1 (cpOk_iff.1 OK.out).2.2
  by_cases h6 : 6 < a + b
  · obtain ⟨⟨v1, v2⟩, v3, v4, v5⟩ := rootOk_iff (show rootOk S N D = true by have := all5_of okValid_all OK.out; simp only [okValid, HhX.out] at this; exact this)
    have V3 := Lib.hid v3
    have V5 := Lib.hid v5
    clear v3 v5
    go_wp2_with fail
    refine (i_RootValid _ _ _ _ v1 v2 V3.out v4 V5.out).mono ?_
    rintro e w4 ⟨rfl, hb4⟩
    have Kw4_out : Blk w4 (w2.heap.size) #[.int .i64 S, .int .i64 N, .int .i64 D] := blk_later hb4 (blk_alloc Kw3_outH.out (.cells #[.int .i64 S, .int .i64 N, .int .i64 D] 28))
    obtain ⟨w4_c0_out, w4_c1_out, w4_c2_out, w4_f0_out, w4_f1_out, w4_f2_out⟩ := blk3 Kw4_out
    have Kw4_outH := Lib.hid Kw4_out
    have w4_l_out := Kw4_out.lt
    have w4_m_out : w2.heap.size < w4.heap.size + 1 := by omega
    have w4z := hb4.size
    try simp at w4z
    have w4B := Lib.hid hb4
    clear Kw4_out
    clear hb4
    go_wp2_with fail
    go_ret
    exact ⟨rfl, by (repeat' (first | exact Below.refl _ _ | refine bl_out ?_ (by assumption) | exact (Hid.out (by assumption)) | refine bl_alloc ?_ _ | refine bl_drewN ?_ _ | refine bl_drew ?_ | refine bl_set ?_ ?_ _ | omega | (simp; done) | (simp; omega)))⟩
  have P := all5_of okSquares_all OK.out
  simp only [okSquares] at P
  have HP := Lib.hid (show sqSt a b m n (coupledL a b) (coupledL a b).length = (a * (a + 2) + b * (b + 2) + 2 * m * n, 1, true) by simpa [h6] using P)
  clear P
  obtain ⟨l1, l2⟩ := coupled_len (a := a) (b := b) (by omega) (by omega)
  have PB : Hid (∀ j, j < (coupledL a b).length → 0 ≤ (coupledL a b).getD j 0 ∧ (coupledL a b).getD j 0 ≤ 12) := Lib.hid (fun j hj => coupled_bd (by omega) (by omega) hj)
  have ta := ht.1
  have tb := ht.2.1
  have hm2 := hm.2.1
  have hn2 := hn.2.1
  clear ht hm hn
  go_wp2_with fail
  refine (i_SpinCoupled _ _ _).mono ?_
  rintro e w4 ⟨v, rfl, hv, hb4⟩
  have w4z := hb4.size
  try simp at w4z
  have w4B := Lib.hid hb4
  clear hb4
  obtain ⟨v1, cp, rfl, m1, hcell⟩ := hv.opened
  rcases hcell with hcell | ⟨g, rfl, hg1, hg2, hcell⟩
  · rw [hcell] at l1; simp at l1
  have C := Lib.hid hcell
  clear hcell hv m1
  generalize hL : coupledL a b = L at *
  clear hL
  generalize hN : L.length = NL at *
  have HN := Lib.hid hN
  clear hN
  go_wp2_with fail
  refine (l_whole _ _).mono ?_
  rintro e w5 ⟨rfl, hb5⟩
  have w5z := hb5.size
  try simp at w5z
  have w5B := Lib.hid hb5
  clear hb5
  have gs : g < w5.heap.size := Nat.lt_of_lt_of_le hg2 w5z
  have CS : Hid (∀ j, j < NL → w5.cell? ⟨g, j, none⟩ = some (.int .i64 (L.getD j 0))) := Lib.hid (fun j hj => by rw [w5B.out.cell (p := ⟨g, j, none⟩) hg2]; exact C.out j hj)
  clear C
  have BS : Hid (Below w.heap.size w w5) := Lib.hid (by (repeat' (first | exact Below.refl _ _ | refine bl_out ?_ (by assumption) | exact (Hid.out (by assumption)) | refine bl_alloc ?_ _ | refine bl_drewN ?_ _ | refine bl_drew ?_ | refine bl_set ?_ ?_ _ | omega | (simp; done) | (simp; omega))))
  go_wp2_with fail
  go_loopw [9, 14, 15, 16, 17, 18] (fun o i _ _ _ _ wr => ∃ (j : Nat) (N D : Int) (q : Bool), j ≤ NL ∧ i = .int .i64 j ∧ o = .bool q ∧ sqSt a b m n L j = (N, D, q) ∧ Blk wr (w5.heap.size) #[.int .i64 N, .int .i64 D] ∧ Below w5.heap.size w5 wr) (fun _ i _ _ _ _ _ => NL - (intOf i).toNat)
  case atStart => exact ⟨0, 0, 1, true, by omega, rfl, rfl, rfl, (blk_new (by simp)), (Below.refl _ _).alloc (Nat.le_refl _) _⟩
  case round =>
    obtain ⟨j, N2, D2, q, hj, rfl, rfl, hst, KS, hnx⟩ := hrel
    have HST := Lib.hid hst
    have HNX := Lib.hid hnx
    have hsz := hnx.size
    obtain ⟨ks0, ks1, ks2, ks3⟩ := blk2 KS
    have KSH := Lib.hid KS
    have ksl := KS.lt
    clear hst KS
    by_cases hlt : j < NL
    · have cc := CS.out j hlt
      rw [← hnx.cell (p := ⟨g, j, none⟩) gs] at cc
      have gl : g < wr.heap.size := Nat.lt_of_lt_of_le gs hsz
      obtain ⟨d0, d1⟩ := PB.out j hlt
      clear hnx
      generalize hd : L.getD j 0 = d at *
      have HD := Lib.hid hd
      clear hd
      go_wp2_with fail
      refine (i_Clebsch _ _ _ _ _ _).mono ?_
      rintro e w21 ⟨rfl, hb21⟩
      have Kw21_sum : Blk w21 (w5.heap.size) #[.int .i64 N2, .int .i64 D2] := blk_later hb21 KSH.out
      obtain ⟨w21_c0_sum, w21_c1_sum, w21_f0_sum, w21_f1_sum⟩ := blk2 Kw21_sum
      have Kw21_sumH := Lib.hid Kw21_sum
      have w21_l_sum := Kw21_sum.lt
      have w21_m_sum : w5.heap.size < w21.heap.size + 1 := by omega
      have w21z := hb21.size
      try simp at w21z
      have w21B := Lib.hid hb21
      clear Kw21_sum
      clear hb21
      generalize hY : clebI a b d m n = Y at *
      obtain ⟨S1, N1, D1, o1⟩ := Y
      obtain ⟨N4, D4, o4, hz⟩ := pair3 (ratMul N1 D1 (d * (d + 2)) 1)
      have E := Lib.hid (sqSt_next HST.out (show clebI a b (L.getD j 0) m n = (S1, N1, D1, o1) by rw [HD.out]; exact hY) (show ratMul N1 D1 (L.getD j 0 * (L.getD j 0 + 2)) 1 = (N4, D4, o4) by rw [HD.out]; exact hz))
      have HZ4 := Lib.hid hz
      clear hY hz
      simp only [rtv]
      obtain ⟨e1, e2⟩ := mul_bd (A := 12) (B := 14) (a := d) (b := d + 2) (by omega) (by omega) (by omega) (by omega)
      have wr1 : IntKind.i64.wrap (d + 2) = d + 2 := IntWalk.i64_in _ (by omega)
      have wr2 : IntKind.i64.wrap (d * (d + 2)) = d * (d + 2) := IntWalk.i64_in _ (by omega)
      have gl21 : g < w21.heap.size := Nat.lt_of_lt_of_le gl w21z
      have cc21 : w21.cell? ⟨g, j, none⟩ = some (.int .i64 d) := by rw [w21B.out.cell (p := ⟨g, j, none⟩) gl]; exact cc
      go_upto_region 17 with fail
      have xl0 : g < (w21.alloc (.cells #[.int .i64 S1, .int .i64 N1, .int .i64 D1] 28)).heap.size := by simp; omega
      have xc0 : (w21.alloc (.cells #[.int .i64 S1, .int .i64 N1, .int .i64 D1] 28)).cell? ⟨g, j, none⟩ = some (.int .i64 d) := by rw [World.cell?_alloc_past _ _ _ gl21]; exact cc21
      have Kz22_sum : Blk (w21.alloc (.cells #[.int .i64 S1, .int .i64 N1, .int .i64 D1] 28)) (w5.heap.size) #[.int .i64 N2, .int .i64 D2] := (blk_alloc Kw21_sumH.out (.cells #[.int .i64 S1, .int .i64 N1, .int .i64 D1] 28))
      have Kz22_x : Blk (w21.alloc (.cells #[.int .i64 S1, .int .i64 N1, .int .i64 D1] 28)) (w21.heap.size) #[.int .i64 S1, .int .i64 N1, .int .i64 D1] := (blk_new (by simp))
      have Bz22 : Below w.heap.size w (w21.alloc (.cells #[.int .i64 S1, .int .i64 N1, .int .i64 D1] 28)) := by (repeat' (first | exact Below.refl _ _ | refine bl_out ?_ (by assumption) | exact (Hid.out (by assumption)) | refine bl_alloc ?_ _ | refine bl_drewN ?_ _ | refine bl_drew ?_ | refine bl_set ?_ ?_ _ | omega | (simp; done) | (simp; omega)))
      have z22B_w5 : Hid (Below w5.heap.size w5 (w21.alloc (.cells #[.int .i64 S1, .int .i64 N1, .int .i64 D1] 28))) := Lib.hid (bl_alloc (btr HNX.out w21B.out) _)
      have Sz22 : (w21.alloc (.cells #[.int .i64 S1, .int .i64 N1, .int .i64 D1] 28)).heap.size = w21.heap.size + 1 := by simp
      generalize (w21.alloc (.cells #[.int .i64 S1, .int .i64 N1, .int .i64 D1] 28)) = z22 at *
      have Sz22a := Nat.le_of_eq Sz22
      have Sz22b := Nat.le_of_eq Sz22.symm
      clear Sz22
      obtain ⟨z22_c0_sum, z22_c1_sum, z22_f0_sum, z22_f1_sum⟩ := blk2 Kz22_sum
      have Kz22_sumH := Lib.hid Kz22_sum
      have z22_l_sum := Kz22_sum.lt
      obtain ⟨z22_c0_x, z22_c1_x, z22_c2_x, z22_f0_x, z22_f1_x, z22_f2_x⟩ := blk3 Kz22_x
      have Kz22_xH := Lib.hid Kz22_x
      have z22_l_x := Kz22_x.lt
      have z22B := Lib.hid Bz22
      clear Bz22
      clear Kz22_sum Kz22_x
      go_cut [17, 18] (CutBlk z22 #[.int .i64 N4, .int .i64 D4] o4)
      case first =>
        go_region_held3 (fun w' => Below z22.heap.size z22 w' ∧ w'.cell? ⟨w21.heap.size, 0, none⟩ = some (.int .i64 S1) ∧ w'.cell? ⟨w21.heap.size, 1, none⟩ = some (.int .i64 N1) ∧ w'.cell? ⟨w21.heap.size, 2, none⟩ = some (.int .i64 D1) ∧ w'.cell? ⟨g, j, none⟩ = some (.int .i64 d)) ((refine and_keep ?_ (fun hB => ⟨held_cell hB z22_c0_x z22_l_x, held_cell hB z22_c1_x z22_l_x, held_cell hB z22_c2_x z22_l_x, held_cell hB xc0 xl0⟩); (repeat' (first | with_reducible exact Below.refl _ _ | with_reducible refine bl_alloc ?_ _ | with_reducible refine bl_set ?_ ?_ _ | exact (Below.refl _ _).drew | with_reducible refine bl_drew ?_ | with_reducible refine btr ?_ hbB | with_reducible refine btr ?_ hbA | omega | (simp; done) | (simp; omega))))) (first | (go_at_call 20; refine (l_whole _ _).mono ?_; rintro e wA ⟨rfl, hbA⟩; obtain ⟨hcA, hfA⟩ := bcell hbA; have hzA : z22.heap.size ≤ wA.heap.size := (by first | exact hbA.size | exact Nat.le_trans hzA hbA.size | (have h0 := hbA.size; simp at h0; omega)); (try (have hyA : z22.heap.size < wA.heap.size := by (have h0 := hbA.size; simp at h0; omega)))) | (go_at_call 22; refine (i_RatMul2 _ _ _ _ _ _ _ _ HZ4).mono ?_; rintro e wB ⟨rfl, hbB⟩; obtain ⟨hcB, hfB⟩ := bcell hbB; have hzB : z22.heap.size ≤ wB.heap.size := (by first | exact hbB.size | exact Nat.le_trans hzA hbB.size | (have h0 := hbB.size; simp at h0; omega)); (try (have hyB : z22.heap.size < wB.heap.size := by (have h0 := hbB.size; simp at h0; omega)))))
        all_goals
          go_wp2_with fail
          go_meet
          exact ⟨_, rfl, rfl, by (first | omega | (simp; omega)), by (repeat' (first | exact blk_new (by simp) | with_reducible refine blk_store2 (x := .int .i64 0) (y := .int .i64 0) ?_ | with_reducible refine blk_store3 (x := .int .i64 0) (y := .int .i64 0) (z := .int .i64 0) ?_ | with_reducible refine blk_drew ?_ | with_reducible refine blk_later hbB ?_ | with_reducible refine blk_later hbA ?_)), by (repeat' (first | with_reducible exact Below.refl _ _ | with_reducible refine bl_alloc ?_ _ | with_reducible refine bl_set ?_ ?_ _ | exact (Below.refl _ _).drew | with_reducible refine bl_drew ?_ | with_reducible refine btr ?_ hbB | with_reducible refine btr ?_ hbA | omega | (simp; done) | (simp; omega)))⟩
      case rest =>
        obtain ⟨g23, rfl, rfl, g23z, Kg23, hb23⟩ := hcut
        obtain ⟨w23, rfl⟩ : ∃ x, x = wc := ⟨_, rfl⟩
        have Kw23_sum : Blk w23 (w5.heap.size) #[.int .i64 N2, .int .i64 D2] := blk_later hb23 Kz22_sumH.out
        obtain ⟨w23_c0_sum, w23_c1_sum, w23_f0_sum, w23_f1_sum⟩ := blk2 Kw23_sum
        have Kw23_sumH := Lib.hid Kw23_sum
        have w23_l_sum := Kw23_sum.lt
        have w23_m_sum : w5.heap.size < w23.heap.size + 1 := by omega
        have w23z := hb23.size
        try simp at w23z
        have w23B := Lib.hid hb23
        clear Kw23_sum
        clear hb23
        obtain ⟨w23_c0_y, w23_c1_y, w23_f0_y, w23_f1_y⟩ := blk2 Kg23
        have Kg23H := Lib.hid Kg23
        have w23_l_y := Kg23.lt
        clear Kg23
        clear wr1 wr2
        cases hqq : q
        · subst hqq
          go_wp2_with fail
          refine (l_addTo _ _ _ _ _ _).mono ?_
          rintro e w24 ⟨rfl, hb24⟩
          have Kw24_sum : Blk w24 (w5.heap.size) #[.int .i64 N2, .int .i64 D2] := blk_later hb24 Kw23_sumH.out
          have Kw24_y : Blk w24 (g23) #[.int .i64 N4, .int .i64 D4] := blk_later hb24 Kg23H.out
          obtain ⟨w24_c0_sum, w24_c1_sum, w24_f0_sum, w24_f1_sum⟩ := blk2 Kw24_sum
          have Kw24_sumH := Lib.hid Kw24_sum
          have w24_l_sum := Kw24_sum.lt
          have w24_m_sum : w5.heap.size < w24.heap.size + 1 := by omega
          obtain ⟨w24_c0_y, w24_c1_y, w24_f0_y, w24_f1_y⟩ := blk2 Kw24_y
          have Kw24_yH := Lib.hid Kw24_y
          have w24_l_y := Kw24_y.lt
          have w24_m_y : g23 < w24.heap.size + 1 := by omega
          have w24z := hb24.size
          try simp at w24z
          have w24B := Lib.hid hb24
          clear Kw24_sum Kw24_y
          clear hb24
          generalize hZ : ratAdd N2 D2 N4 D4 = Z at *
          obtain ⟨N3, D3, o3⟩ := Z
          have HZ := Lib.hid hZ
          clear hZ
          go_wp2_with fail
          have BW : Below w5.heap.size w5 w24 := btr (btr z22B_w5.out w23B.out) w24B.out
          have hszw := BW.size
          go_roundw
          case rel => exact ⟨j + 1, N3, D3, _, by omega, by go_num, rfl, by rw [E.out]; simp, (blk_set (blk_set Kw24_sumH.out 0 (.int .i64 N3)) 1 (.int .i64 D3)), (BW.setCell (by (first | omega | (simp; done) | (simp; omega))) _).setCell (by (first | omega | (simp; done) | (simp; omega))) _⟩
          case measure => simp [intOf]; omega
        · subst hqq
          cases hoo : o1
          · subst hoo
            go_wp2_with fail
            refine (l_addTo _ _ _ _ _ _).mono ?_
            rintro e w24 ⟨rfl, hb24⟩
            have Kw24_sum : Blk w24 (w5.heap.size) #[.int .i64 N2, .int .i64 D2] := blk_later hb24 Kw23_sumH.out
            have Kw24_y : Blk w24 (g23) #[.int .i64 N4, .int .i64 D4] := blk_later hb24 Kg23H.out
            obtain ⟨w24_c0_sum, w24_c1_sum, w24_f0_sum, w24_f1_sum⟩ := blk2 Kw24_sum
            have Kw24_sumH := Lib.hid Kw24_sum
            have w24_l_sum := Kw24_sum.lt
            have w24_m_sum : w5.heap.size < w24.heap.size + 1 := by omega
            obtain ⟨w24_c0_y, w24_c1_y, w24_f0_y, w24_f1_y⟩ := blk2 Kw24_y
            have Kw24_yH := Lib.hid Kw24_y
            have w24_l_y := Kw24_y.lt
            have w24_m_y : g23 < w24.heap.size + 1 := by omega
            have w24z := hb24.size
            try simp at w24z
            have w24B := Lib.hid hb24
            clear Kw24_sum Kw24_y
            clear hb24
            generalize hZ : ratAdd N2 D2 N4 D4 = Z at *
            obtain ⟨N3, D3, o3⟩ := Z
            have HZ := Lib.hid hZ
            clear hZ
            go_wp2_with fail
            have BW : Below w5.heap.size w5 w24 := btr (btr z22B_w5.out w23B.out) w24B.out
            have hszw := BW.size
            go_roundw
            case rel => exact ⟨j + 1, N3, D3, _, by omega, by go_num, rfl, by rw [E.out]; simp, (blk_set (blk_set Kw24_sumH.out 0 (.int .i64 N3)) 1 (.int .i64 D3)), (BW.setCell (by (first | omega | (simp; done) | (simp; omega))) _).setCell (by (first | omega | (simp; done) | (simp; omega))) _⟩
            case measure => simp [intOf]; omega
          · subst hoo
            go_wp2_with fail
            refine (l_addTo _ _ _ _ _ _).mono ?_
            rintro e w24 ⟨rfl, hb24⟩
            have Kw24_sum : Blk w24 (w5.heap.size) #[.int .i64 N2, .int .i64 D2] := blk_later hb24 Kw23_sumH.out
            have Kw24_y : Blk w24 (g23) #[.int .i64 N4, .int .i64 D4] := blk_later hb24 Kg23H.out
            obtain ⟨w24_c0_sum, w24_c1_sum, w24_f0_sum, w24_f1_sum⟩ := blk2 Kw24_sum
            have Kw24_sumH := Lib.hid Kw24_sum
            have w24_l_sum := Kw24_sum.lt
            have w24_m_sum : w5.heap.size < w24.heap.size + 1 := by omega
            obtain ⟨w24_c0_y, w24_c1_y, w24_f0_y, w24_f1_y⟩ := blk2 Kw24_y
            have Kw24_yH := Lib.hid Kw24_y
            have w24_l_y := Kw24_y.lt
            have w24_m_y : g23 < w24.heap.size + 1 := by omega
            have w24z := hb24.size
            try simp at w24z
            have w24B := Lib.hid hb24
            clear Kw24_sum Kw24_y
            clear hb24
            generalize hZ : ratAdd N2 D2 N4 D4 = Z at *
            obtain ⟨N3, D3, o3⟩ := Z
            have HZ := Lib.hid hZ
            clear hZ
            go_wp2_with fail
            have BW : Below w5.heap.size w5 w24 := btr (btr z22B_w5.out w23B.out) w24B.out
            have hszw := BW.size
            go_roundw
            case rel => exact ⟨j + 1, N3, D3, _, by omega, by go_num, rfl, by rw [E.out]; simp, (blk_set (blk_set Kw24_sumH.out 0 (.int .i64 N3)) 1 (.int .i64 D3)), (BW.setCell (by (first | omega | (simp; done) | (simp; omega))) _).setCell (by (first | omega | (simp; done) | (simp; omega))) _⟩
            case measure => simp [intOf]; omega
    · obtain rfl : j = NL := by omega
      have HP2 := HP.out
      rw [HST.out] at HP2
      injection HP2 with e1 e2
      injection e2 with e2 e3
      subst e1 e2 e3
      have BN : Hid (Below w.heap.size w wr) := Lib.hid (btr BS.out HNX.out)
      obtain ⟨e1, e2⟩ := mul_bd (A := 6) (B := 8) (a := a) (b := a + 2) (by omega) (by omega) (by omega) (by omega)
      obtain ⟨e3, e4⟩ := mul_bd (A := 6) (B := 8) (a := b) (b := b + 2) (by omega) (by omega) (by omega) (by omega)
      obtain ⟨e5, e6⟩ := mul_bd (A := 12) (B := 6) (a := 2 * m) (b := n) (by omega) (by omega) (by omega) (by omega)
      have wr1 : IntKind.i64.wrap (a + 2) = a + 2 := IntWalk.i64_in _ (by omega)
      have wr2 : IntKind.i64.wrap (a * (a + 2)) = a * (a + 2) := IntWalk.i64_in _ (by omega)
      have wr3 : IntKind.i64.wrap (b + 2) = b + 2 := IntWalk.i64_in _ (by omega)
      have wr4 : IntKind.i64.wrap (b * (b + 2)) = b * (b + 2) := IntWalk.i64_in _ (by omega)
      have wr5 : IntKind.i64.wrap (a * (a + 2) + b * (b + 2)) = a * (a + 2) + b * (b + 2) := IntWalk.i64_in _ (by omega)
      have wr6 : IntKind.i64.wrap (2 * m) = 2 * m := IntWalk.i64_in _ (by omega)
      have wr7 : IntKind.i64.wrap (2 * m * n) = 2 * m * n := IntWalk.i64_in _ (by omega)
      have wr8 : IntKind.i64.wrap (a * (a + 2) + b * (b + 2) + 2 * m * n) = a * (a + 2) + b * (b + 2) + 2 * m * n := IntWalk.i64_in _ (by omega)
      go_wp2_with fail
      have Kz61_sum : Blk wr (w5.heap.size) #[.int .i64 (a * (a + 2) + b * (b + 2) + 2 * m * n), .int .i64 1] := KSH.out
      have Bz61 : Below w.heap.size w wr := by (repeat' (first | exact Below.refl _ _ | refine bl_out ?_ (by assumption) | exact (Hid.out (by assumption)) | refine bl_alloc ?_ _ | refine bl_drewN ?_ _ | refine bl_drew ?_ | refine bl_set ?_ ?_ _ | omega | (simp; done) | (simp; omega)))
      generalize wr = z61 at *
      obtain ⟨z61_c0_sum, z61_c1_sum, z61_f0_sum, z61_f1_sum⟩ := blk2 Kz61_sum
      have Kz61_sumH := Lib.hid Kz61_sum
      have z61_l_sum := Kz61_sum.lt
      have z61B := Lib.hid Bz61
      clear Bz61
      clear Kz61_sum
      go_region_held3 (fun w' => Below z61.heap.size z61 w' ∧ w'.cell? ⟨w5.heap.size, 0, none⟩ = some (.int .i64 (a * (a + 2) + b * (b + 2) + 2 * m * n)) ∧ w'.cell? ⟨w5.heap.size, 1, none⟩ = some (.int .i64 1)) ((refine and_keep ?_ (fun hB => ⟨held_cell hB z61_c0_sum z61_l_sum, held_cell hB z61_c1_sum z61_l_sum⟩); (repeat' (first | exact (Below.refl _ _).drew | exact Below.refl _ _ | exact And.left (by assumption) | refine bl_alloc ?_ _ | refine bl_drew ?_ | refine bl_set ?_ ?_ _ | refine btr ?_ (by assumption) | omega | (simp; done) | (simp; omega))))) (first | (go_at_call 20; refine (l_whole _ _).mono ?_; rintro e w' ⟨rfl, hb'⟩))
      go_wp2_with fail
      go_ret
      exact ⟨rfl, btr z61B.out (by (repeat' (first | exact (Below.refl _ _).drew | exact Below.refl _ _ | exact And.left (by assumption) | refine bl_alloc ?_ _ | refine bl_drew ?_ | refine bl_set ?_ ?_ _ | refine btr ?_ (by assumption) | omega | (simp; done) | (simp; omega))))⟩

end Go.Proofs.Ytbidmnbnnkjgoaa
