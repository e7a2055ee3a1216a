/- The walks of the laws on 6j symbols. -/
import Derived.Test.YtgkkicmkflhbpaaSz
import Derived.Test.YtgkkicmkflhbpaaDx
import Derived.Test.YtgkkicmkflhbpaaP9
import Derived.Test.YtgkkicmkflhbpaaLv
namespace Go.Proofs.Ytgkkicmkflhbpaa
open Go.RowKit
set_option linter.unusedVariables false

set_option maxRecDepth 100000 in
set_option maxHeartbeats 6000000 in
theorem l_FnSixOrthogonal (s : Option Addr) (len cap : Nat) (w : World) (h : Code w s len cap) (hl : len ≤ 9223372036854775807) (hc : cap ≤ 9223372036854775807) :
    Calls Try.prog 11 #[.slice s len cap] w (RTrueK w) := by
  have H := Lib.hid h
  clear h
  by_cases hbig : 1048576 < len
  · go_enter Try.func11, Try.ntmps11
    go_wp2_with fail
    go_ret
    exact ⟨rfl, Below.refl _ _⟩
  go_enter Try.func11, Try.ntmps11
  go_wp2_with fail
  refine (s_DrawSixJ s len cap w H.out hl hc).mono ?_
  rintro e w1 ⟨a, b, c, d, e, f, rfl, ⟨a0, a1⟩, ⟨b0, b1⟩, ⟨c0, c1⟩, ⟨d0, d1⟩, ⟨e0, e1⟩, ⟨f0, f1⟩, hb1⟩
  have w1z := hb1.size
  try simp at w1z
  have w1B := Lib.hid hb1
  clear hb1
  go_wp2_with fail
  refine (i_SixJ _ _ _ _ _ _ _).mono ?_
  rintro e w2 ⟨rfl, hb2⟩
  have w2z := hb2.size
  try simp at w2z
  have w2B := Lib.hid hb2
  clear hb2
  generalize hX : sjI a b c d e f = XhX at *
  obtain ⟨S, N, D, o⟩ := XhX
  have HhX := Lib.hid hX
  clear hX
  simp only [rtv]
  go_wp2_with fail
  refine (s_SixJ _ _ _ _ _ _ _).mono ?_
  rintro e w3 ⟨rfl, hb3⟩
  have Kw3_out : Blk w3 (w2.heap.size) #[.int .i64 S, .int .i64 N, .int .i64 D] := blk_later hb3 (blk_new (by simp))
  obtain ⟨w3_c0_out, w3_c1_out, w3_c2_out, w3_f0_out, w3_f1_out, w3_f2_out⟩ := blk3 Kw3_out
  have Kw3_outH := Lib.hid Kw3_out
  have w3_l_out := Kw3_out.lt
  have w3_m_out : w2.heap.size < w3.heap.size + 1 := by omega
  have w3z := hb3.size
  try simp at w3z
  have w3B := Lib.hid hb3
  clear Kw3_out
  clear hb3
  rw [HhX.out]
  simp only [rtv]
  cases o
  · go_wp2_with fail
    go_ret
    exact ⟨rfl, by (repeat' (first | exact Below.refl _ _ | refine bl_out ?_ (by assumption) | exact (Hid.out (by assumption)) | refine bl_alloc ?_ _ | refine bl_drewN ?_ _ | refine bl_drew ?_ | refine bl_set ?_ ?_ _ | omega | (simp; done) | (simp; omega)))⟩
  have OK := Lib.hid (sjI_ok HhX.out)
  have t1 := tdB_iff.1 (sixOk_iff.1 OK.out).1
  have t2 := tdB_iff.1 (sixOk_iff.1 OK.out).2.1
  have t3 := tdB_iff.1 (sixOk_iff.1 OK.out).2.2.1
  have t4 := tdB_iff.1 (sixOk_iff.1 OK.out).2.2.2
  have ta := t1.1
  have tb := t1.2.1
  have td := t4.1
  have te := t4.2.1
  have tf := t2.2.2.1
  clear t1 t2 t3 t4
  by_cases h6 : 6 < a + b ∧ 6 < d + e
  · obtain ⟨h61, h62⟩ := h6
    obtain ⟨⟨v1, v2⟩, v3, v4, v5⟩ := rootOk_iff (show rootOk S N D = true by have := allS_of okVal6_all OK.out; simp only [okVal6, HhX.out] at this; exact this)
    have V3 := Lib.hid v3
    have V5 := Lib.hid v5
    clear v3 v5
    go_wp2_with fail
    refine (i_RootValid _ _ _ _ v1 v2 V3.out v4 V5.out).mono ?_
    rintro e w4 ⟨rfl, hb4⟩
    have Kw4_out : Blk w4 (w2.heap.size) #[.int .i64 S, .int .i64 N, .int .i64 D] := blk_later hb4 (blk_alloc Kw3_outH.out (.cells #[.int .i64 S, .int .i64 N, .int .i64 D] 31))
    obtain ⟨w4_c0_out, w4_c1_out, w4_c2_out, w4_f0_out, w4_f1_out, w4_f2_out⟩ := blk3 Kw4_out
    have Kw4_outH := Lib.hid Kw4_out
    have w4_l_out := Kw4_out.lt
    have w4_m_out : w2.heap.size < w4.heap.size + 1 := by omega
    have w4z := hb4.size
    try simp at w4z
    have w4B := Lib.hid hb4
    clear Kw4_out
    clear hb4
    go_wp2_with fail
    go_ret
    exact ⟨rfl, by (repeat' (first | exact Below.refl _ _ | refine bl_out ?_ (by assumption) | exact (Hid.out (by assumption)) | refine bl_alloc ?_ _ | refine bl_drewN ?_ _ | refine bl_drew ?_ | refine bl_set ?_ ?_ _ | omega | (simp; done) | (simp; omega)))⟩
  have P := allS_of okOr6_all OK.out
  have HP := Lib.hid (show soSt a b d e f 7 = (1, 1, true) by
    simp only [okOr6, Bool.or_eq_true, Bool.and_eq_true, decide_eq_true_eq] at P
    rcases P with P | P
    · exact absurd P h6
    · exact P)
  clear P
  rcases (by omega : a + b ≤ 6 ∨ (6 < a + b ∧ d + e ≤ 6)) with h7 | h7
  all_goals
    clear h6
    go_wp2_with fail
    refine (l_whole _ _).mono ?_
    rintro e w4 ⟨rfl, hb4⟩
    have w4z := hb4.size
    try simp at w4z
    have w4B := Lib.hid hb4
    clear hb4
    have BS : Hid (Below w.heap.size w w4) := Lib.hid (by (repeat' (first | exact Below.refl _ _ | refine bl_out ?_ (by assumption) | exact (Hid.out (by assumption)) | refine bl_alloc ?_ _ | refine bl_drewN ?_ _ | refine bl_drew ?_ | refine bl_set ?_ ?_ _ | omega | (simp; done) | (simp; omega))))
    go_wp2_with fail
    go_loopw [10, 14, 15, 16, 17, 18] (fun o i _ _ _ _ wr => ∃ (j : Nat) (N D : Int) (q : Bool), j ≤ 7 ∧ i = .int .i64 j ∧ o = .bool q ∧ soSt a b d e f j = (N, D, q) ∧ Blk wr (w4.heap.size) #[.int .i64 N, .int .i64 D] ∧ Below w4.heap.size w4 wr) (fun _ i _ _ _ _ _ => 7 - (intOf i).toNat)
    case atStart => exact ⟨0, 0, 1, true, by omega, rfl, rfl, rfl, (blk_new (by simp)), (Below.refl _ _).alloc (Nat.le_refl _) _⟩
    case round =>
      obtain ⟨j, N2, D2, q, hj, rfl, rfl, hst, KS, hnx⟩ := hrel
      have HST := Lib.hid hst
      have HNX := Lib.hid hnx
      have hsz := hnx.size
      obtain ⟨ks0, ks1, ks2, ks3⟩ := blk2 KS
      have KSH := Lib.hid KS
      have ksl := KS.lt
      clear hst KS hnx
      by_cases hlt : j ≤ 6
      · cases hT : (triB a b (j : Int) && triB d e (j : Int))
        · have E := Lib.hid (soSt_no (f := f) hT)
          cases hT1 : triB a b (j : Int)
          · go_wp2_with (go_at_call 22; refine (i_SpinTriangle _ _ _ _).mono ?_; rintro r w' ⟨rfl, rfl⟩)
            go_roundw
            case rel => exact ⟨j + 1, N2, D2, q, by omega, by go_num, rfl, by rw [E.out]; exact HST.out, KSH.out, HNX.out⟩
            case measure => simp [intOf]; omega
          · have hT2 : triB d e (j : Int) = false := by simpa [hT1] using hT
            go_wp2_with (go_at_call 22; refine (i_SpinTriangle _ _ _ _).mono ?_; rintro r w' ⟨rfl, rfl⟩)
            go_roundw
            case rel => exact ⟨j + 1, N2, D2, q, by omega, by go_num, rfl, by rw [E.out]; exact HST.out, KSH.out, HNX.out⟩
            case measure => simp [intOf]; omega
        obtain ⟨hT1, hT2⟩ : triB a b (j : Int) = true ∧ triB d e (j : Int) = true := by simpa using hT
        go_wp2_with (go_at_call 22; refine (i_SpinTriangle _ _ _ _).mono ?_; rintro r w' ⟨rfl, rfl⟩)
        refine (i_SixJ _ _ _ _ _ _ _).mono ?_
        rintro e w21 ⟨rfl, hb21⟩
        have Kw21_sum : Blk w21 (w4.heap.size) #[.int .i64 N2, .int .i64 D2] := blk_later hb21 KSH.out
        obtain ⟨w21_c0_sum, w21_c1_sum, w21_f0_sum, w21_f1_sum⟩ := blk2 Kw21_sum
        have Kw21_sumH := Lib.hid Kw21_sum
        have w21_l_sum := Kw21_sum.lt
        have w21_m_sum : w4.heap.size < w21.heap.size + 1 := by omega
        have w21z := hb21.size
        try simp at w21z
        have w21B := Lib.hid hb21
        clear Kw21_sum
        clear hb21
        generalize hY : sjI a b (j : Int) d e f = Y at *
        obtain ⟨S1, N1, D1, o1⟩ := Y
        obtain ⟨N4, D4, o4, hz⟩ := pair3 (ratMul N1 D1 (((j : Int) + 1) * (f + 1)) 1)
        have E := Lib.hid (soSt_yes hT HST.out hY hz)
        have HZ4 := Lib.hid hz
        clear hY hz
        simp only [rtv]
        obtain ⟨e1, e2⟩ := mul_bd (A := 7) (B := 7) (a := (j : Int) + 1) (b := f + 1) (by omega) (by omega) (by omega) (by omega)
        have wr1 : IntKind.i64.wrap ((j : Int) + 1) = (j : Int) + 1 := IntWalk.i64_in _ (by omega)
        have wr2 : IntKind.i64.wrap (f + 1) = f + 1 := IntWalk.i64_in _ (by omega)
        have wr3 : IntKind.i64.wrap (((j : Int) + 1) * (f + 1)) = ((j : Int) + 1) * (f + 1) := IntWalk.i64_in _ (by omega)
        go_upto_region 17 with fail
        have Kz22_sum : Blk (w21.alloc (.cells #[.int .i64 S1, .int .i64 N1, .int .i64 D1] 31)) (w4.heap.size) #[.int .i64 N2, .int .i64 D2] := (blk_alloc Kw21_sumH.out (.cells #[.int .i64 S1, .int .i64 N1, .int .i64 D1] 31))
        have Kz22_x : Blk (w21.alloc (.cells #[.int .i64 S1, .int .i64 N1, .int .i64 D1] 31)) (w21.heap.size) #[.int .i64 S1, .int .i64 N1, .int .i64 D1] := (blk_new (by simp))
        have Bz22 : Below w.heap.size w (w21.alloc (.cells #[.int .i64 S1, .int .i64 N1, .int .i64 D1] 31)) := by (repeat' (first | exact Below.refl _ _ | refine bl_out ?_ (by assumption) | exact (Hid.out (by assumption)) | refine bl_alloc ?_ _ | refine bl_drewN ?_ _ | refine bl_drew ?_ | refine bl_set ?_ ?_ _ | omega | (simp; done) | (simp; omega)))
        have z22B_w4 : Hid (Below w4.heap.size w4 (w21.alloc (.cells #[.int .i64 S1, .int .i64 N1, .int .i64 D1] 31))) := Lib.hid (bl_alloc (btr HNX.out w21B.out) _)
        have Sz22 : (w21.alloc (.cells #[.int .i64 S1, .int .i64 N1, .int .i64 D1] 31)).heap.size = w21.heap.size + 1 := by simp
        generalize (w21.alloc (.cells #[.int .i64 S1, .int .i64 N1, .int .i64 D1] 31)) = z22 at *
        have Sz22a := Nat.le_of_eq Sz22
        have Sz22b := Nat.le_of_eq Sz22.symm
        clear Sz22
        obtain ⟨z22_c0_sum, z22_c1_sum, z22_f0_sum, z22_f1_sum⟩ := blk2 Kz22_sum
        have Kz22_sumH := Lib.hid Kz22_sum
        have z22_l_sum := Kz22_sum.lt
        obtain ⟨z22_c0_x, z22_c1_x, z22_c2_x, z22_f0_x, z22_f1_x, z22_f2_x⟩ := blk3 Kz22_x
        have Kz22_xH := Lib.hid Kz22_x
        have z22_l_x := Kz22_x.lt
        have z22B := Lib.hid Bz22
        clear Bz22
        clear Kz22_sum Kz22_x
        go_cut [17, 18] (CutBlk z22 #[.int .i64 N4, .int .i64 D4] o4)
        case first =>
          go_region_held3 (fun w' => Below z22.heap.size z22 w' ∧ w'.cell? ⟨w21.heap.size, 0, none⟩ = some (.int .i64 S1) ∧ w'.cell? ⟨w21.heap.size, 1, none⟩ = some (.int .i64 N1) ∧ w'.cell? ⟨w21.heap.size, 2, none⟩ = some (.int .i64 D1)) ((refine and_keep ?_ (fun hB => ⟨held_cell hB z22_c0_x z22_l_x, held_cell hB z22_c1_x z22_l_x, held_cell hB z22_c2_x z22_l_x⟩); (repeat' (first | with_reducible exact Below.refl _ _ | with_reducible refine bl_alloc ?_ _ | with_reducible refine bl_set ?_ ?_ _ | exact (Below.refl _ _).drew | with_reducible refine bl_drew ?_ | with_reducible refine btr ?_ hbB | with_reducible refine btr ?_ hbA | omega | (simp; done) | (simp; omega))))) (first | (go_at_call 25; refine (l_whole _ _).mono ?_; rintro e wA ⟨rfl, hbA⟩; obtain ⟨hcA, hfA⟩ := bcell hbA; have hzA : z22.heap.size ≤ wA.heap.size := (by first | exact hbA.size | exact Nat.le_trans hzA hbA.size | (have h0 := hbA.size; simp at h0; omega)); (try (have hyA : z22.heap.size < wA.heap.size := by (have h0 := hbA.size; simp at h0; omega)))) | (go_at_call 24; refine (i_RatMul2 _ _ _ _ _ _ _ _ HZ4).mono ?_; rintro e wB ⟨rfl, hbB⟩; obtain ⟨hcB, hfB⟩ := bcell hbB; have hzB : z22.heap.size ≤ wB.heap.size := (by first | exact hbB.size | exact Nat.le_trans hzA hbB.size | (have h0 := hbB.size; simp at h0; omega)); (try (have hyB : z22.heap.size < wB.heap.size := by (have h0 := hbB.size; simp at h0; omega)))))
          all_goals
            go_wp2_with fail
            go_meet
            exact ⟨_, rfl, rfl, by (first | omega | (simp; omega)), by (repeat' (first | exact blk_new (by simp) | with_reducible refine blk_store2 (x := .int .i64 0) (y := .int .i64 0) ?_ | with_reducible refine blk_store3 (x := .int .i64 0) (y := .int .i64 0) (z := .int .i64 0) ?_ | with_reducible refine blk_drew ?_ | with_reducible refine blk_later hbB ?_ | with_reducible refine blk_later hbA ?_)), by (repeat' (first | with_reducible exact Below.refl _ _ | with_reducible refine bl_alloc ?_ _ | with_reducible refine bl_set ?_ ?_ _ | exact (Below.refl _ _).drew | with_reducible refine bl_drew ?_ | with_reducible refine btr ?_ hbB | with_reducible refine btr ?_ hbA | omega | (simp; done) | (simp; omega)))⟩
        case rest =>
          obtain ⟨g23, rfl, rfl, g23z, Kg23, hb23⟩ := hcut
          obtain ⟨w23, rfl⟩ : ∃ x, x = wc := ⟨_, rfl⟩
          have Kw23_sum : Blk w23 (w4.heap.size) #[.int .i64 N2, .int .i64 D2] := blk_later hb23 Kz22_sumH.out
          obtain ⟨w23_c0_sum, w23_c1_sum, w23_f0_sum, w23_f1_sum⟩ := blk2 Kw23_sum
          have Kw23_sumH := Lib.hid Kw23_sum
          have w23_l_sum := Kw23_sum.lt
          have w23_m_sum : w4.heap.size < w23.heap.size + 1 := by omega
          have w23z := hb23.size
          try simp at w23z
          have w23B := Lib.hid hb23
          clear Kw23_sum
          clear hb23
          obtain ⟨w23_c0_y, w23_c1_y, w23_f0_y, w23_f1_y⟩ := blk2 Kg23
          have Kg23H := Lib.hid Kg23
          have w23_l_y := Kg23.lt
          clear Kg23
          clear wr1 wr2 wr3
          cases hqq : q
          · subst hqq
            go_wp2_with fail
            refine (l_addTo _ _ _ _ _ _).mono ?_
            rintro e w24 ⟨rfl, hb24⟩
            have Kw24_sum : Blk w24 (w4.heap.size) #[.int .i64 N2, .int .i64 D2] := blk_later hb24 Kw23_sumH.out
            have Kw24_y : Blk w24 (g23) #[.int .i64 N4, .int .i64 D4] := blk_later hb24 Kg23H.out
            obtain ⟨w24_c0_sum, w24_c1_sum, w24_f0_sum, w24_f1_sum⟩ := blk2 Kw24_sum
            have Kw24_sumH := Lib.hid Kw24_sum
            have w24_l_sum := Kw24_sum.lt
            have w24_m_sum : w4.heap.size < w24.heap.size + 1 := by omega
            obtain ⟨w24_c0_y, w24_c1_y, w24_f0_y, w24_f1_y⟩ := blk2 Kw24_y
            have Kw24_yH := Lib.hid Kw24_y
            have w24_l_y := Kw24_y.lt
            have w24_m_y : g23 < w24.heap.size + 1 := by omega
            have w24z := hb24.size
            try simp at w24z
            have w24B := Lib.hid hb24
            clear Kw24_sum Kw24_y
            clear hb24
            generalize hZ : ratAdd N2 D2 N4 D4 = Z at *
            obtain ⟨N3, D3, o3⟩ := Z
            have HZ := Lib.hid hZ
            clear hZ
            go_wp2_with fail
            have BW : Below w4.heap.size w4 w24 := btr (btr z22B_w4.out w23B.out) w24B.out
            have hszw := BW.size
            go_roundw
            case rel => exact ⟨j + 1, N3, D3, _, by omega, by go_num, rfl, by rw [E.out]; simp, (blk_set (blk_set Kw24_sumH.out 0 (.int .i64 N3)) 1 (.int .i64 D3)), (BW.setCell (by (first | omega | (simp; done) | (simp; omega))) _).setCell (by (first | omega | (simp; done) | (simp; omega))) _⟩
            case measure => simp [intOf]; omega
          · subst hqq
            cases hoo : o1
            · subst hoo
              go_wp2_with fail
              refine (l_addTo _ _ _ _ _ _).mono ?_
              rintro e w24 ⟨rfl, hb24⟩
              have Kw24_sum : Blk w24 (w4.heap.size) #[.int .i64 N2, .int .i64 D2] := blk_later hb24 Kw23_sumH.out
              have Kw24_y : Blk w24 (g23) #[.int .i64 N4, .int .i64 D4] := blk_later hb24 Kg23H.out
              obtain ⟨w24_c0_sum, w24_c1_sum, w24_f0_sum, w24_f1_sum⟩ := blk2 Kw24_sum
              have Kw24_sumH := Lib.hid Kw24_sum
              have w24_l_sum := Kw24_sum.lt
              have w24_m_sum : w4.heap.size < w24.heap.size + 1 := by omega
              obtain ⟨w24_c0_y, w24_c1_y, w24_f0_y, w24_f1_y⟩ := blk2 Kw24_y
              have Kw24_yH := Lib.hid Kw24_y
              have w24_l_y := Kw24_y.lt
              have w24_m_y : g23 < w24.heap.size + 1 := by omega
              have w24z := hb24.size
              try simp at w24z
              have w24B := Lib.hid hb24
              clear Kw24_sum Kw24_y
              clear hb24
              generalize hZ : ratAdd N2 D2 N4 D4 = Z at *
              obtain ⟨N3, D3, o3⟩ := Z
              have HZ := Lib.hid hZ
              clear hZ
              go_wp2_with fail
              have BW : Below w4.heap.size w4 w24 := btr (btr z22B_w4.out w23B.out) w24B.out
              have hszw := BW.size
              go_roundw
              case rel => exact ⟨j + 1, N3, D3, _, by omega, by go_num, rfl, by rw [E.out]; simp, (blk_set (blk_set Kw24_sumH.out 0 (.int .i64 N3)) 1 (.int .i64 D3)), (BW.setCell (by (first | omega | (simp; done) | (simp; omega))) _).setCell (by (first | omega | (simp; done) | (simp; omega))) _⟩
              case measure => simp [intOf]; omega
            · subst hoo
              go_wp2_with fail
              refine (l_addTo _ _ _ _ _ _).mono ?_
              rintro e w24 ⟨rfl, hb24⟩
              have Kw24_sum : Blk w24 (w4.heap.size) #[.int .i64 N2, .int .i64 D2] := blk_later hb24 Kw23_sumH.out
              have Kw24_y : Blk w24 (g23) #[.int .i64 N4, .int .i64 D4] := blk_later hb24 Kg23H.out
              obtain ⟨w24_c0_sum, w24_c1_sum, w24_f0_sum, w24_f1_sum⟩ := blk2 Kw24_sum
              have Kw24_sumH := Lib.hid Kw24_sum
              have w24_l_sum := Kw24_sum.lt
              have w24_m_sum : w4.heap.size < w24.heap.size + 1 := by omega
              obtain ⟨w24_c0_y, w24_c1_y, w24_f0_y, w24_f1_y⟩ := blk2 Kw24_y
              have Kw24_yH := Lib.hid Kw24_y
              have w24_l_y := Kw24_y.lt
              have w24_m_y : g23 < w24.heap.size + 1 := by omega
              have w24z := hb24.size
              try simp at w24z
              have w24B := Lib.hid hb24
              clear Kw24_sum Kw24_y
              clear hb24
              generalize hZ : ratAdd N2 D2 N4 D4 = Z at *
              obtain ⟨N3, D3, o3⟩ := Z
              have HZ := Lib.hid hZ
              clear hZ
              go_wp2_with fail
              have BW : Below w4.heap.size w4 w24 := btr (btr z22B_w4.out w23B.out) w24B.out
              have hszw := BW.size
              go_roundw
              case rel => exact ⟨j + 1, N3, D3, _, by omega, by go_num, rfl, by rw [E.out]; simp, (blk_set (blk_set Kw24_sumH.out 0 (.int .i64 N3)) 1 (.int .i64 D3)), (BW.setCell (by (first | omega | (simp; done) | (simp; omega))) _).setCell (by (first | omega | (simp; done) | (simp; omega))) _⟩
              case measure => simp [intOf]; omega
      · obtain rfl : j = 7 := by omega
        have HP2 := HP.out
        rw [HST.out] at HP2
        injection HP2 with e1 e2
        injection e2 with e2 e3
        subst e1 e2 e3
        have BN : Hid (Below w.heap.size w wr) := Lib.hid (btr BS.out HNX.out)
        go_wp2_with fail
        have Kz61_sum : Blk wr (w4.heap.size) #[.int .i64 1, .int .i64 1] := KSH.out
        have Bz61 : Below w.heap.size w wr := by (repeat' (first | exact Below.refl _ _ | refine bl_out ?_ (by assumption) | exact (Hid.out (by assumption)) | refine bl_alloc ?_ _ | refine bl_drewN ?_ _ | refine bl_drew ?_ | refine bl_set ?_ ?_ _ | omega | (simp; done) | (simp; omega)))
        generalize wr = z61 at *
        obtain ⟨z61_c0_sum, z61_c1_sum, z61_f0_sum, z61_f1_sum⟩ := blk2 Kz61_sum
        have Kz61_sumH := Lib.hid Kz61_sum
        have z61_l_sum := Kz61_sum.lt
        have z61B := Lib.hid Bz61
        clear Bz61
        clear Kz61_sum
        go_region_held3 (fun w' => Below z61.heap.size z61 w' ∧ w'.cell? ⟨w4.heap.size, 0, none⟩ = some (.int .i64 1) ∧ w'.cell? ⟨w4.heap.size, 1, none⟩ = some (.int .i64 1)) ((refine and_keep ?_ (fun hB => ⟨held_cell hB z61_c0_sum z61_l_sum, held_cell hB z61_c1_sum z61_l_sum⟩); (repeat' (first | exact (Below.refl _ _).drew | exact Below.refl _ _ | exact And.left (by assumption) | refine bl_alloc ?_ _ | refine bl_drew ?_ | refine bl_set ?_ ?_ _ | refine btr ?_ (by assumption) | omega | (simp; done) | (simp; omega))))) (first | (go_at_call 25; refine (l_whole _ _).mono ?_; rintro e w' ⟨rfl, hb'⟩))
        go_wp2_with fail
        go_ret
        exact ⟨rfl, btr z61B.out (by (repeat' (first | exact (Below.refl _ _).drew | exact Below.refl _ _ | exact And.left (by assumption) | refine bl_alloc ?_ _ | refine bl_drew ?_ | refine bl_set ?_ ?_ _ | refine btr ?_ (by assumption) | omega | (simp; done) | (simp; omega))))⟩

end Go.Proofs.Ytgkkicmkflhbpaa
