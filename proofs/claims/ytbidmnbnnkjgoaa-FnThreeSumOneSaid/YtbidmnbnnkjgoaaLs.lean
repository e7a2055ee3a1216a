/- The walks of the laws on ThreeJ. -/
import Derived.Test.YtbidmnbnnkjgoaaTh
import Derived.Test.YtbidmnbnnkjgoaaPt2
import Derived.Test.YtbidmnbnnkjgoaaDr
import Derived.Test.YtbidmnbnnkjgoaaLv
namespace Go.Proofs.Ytbidmnbnnkjgoaa
open Go.RowKit
set_option linter.unusedVariables false

set_option maxRecDepth 100000 in
set_option maxHeartbeats 4000000 in
theorem l_FnThreeSumOne (s : Option Addr) (len cap : Nat) (w : World) (h : Code w s len cap) (hl : len ≤ 9223372036854775807) (hc : cap ≤ 9223372036854775807) :
    Calls Try.prog 12 #[.slice s len cap] w (RTrueK w) := by
  have H := Lib.hid h
  clear h
  by_cases hbig : 1048576 < len
  · go_enter Try.func12, Try.ntmps12
    go_wp2_with fail
    go_ret
    exact ⟨rfl, Below.refl _ _⟩
  go_enter Try.func12, Try.ntmps12
  go_wp2_with fail
  refine (s_DrawThreeJ s len cap w H.out hl hc).mono ?_
  rintro e w1 ⟨a, b, c, m, n, k, rfl, ⟨a0, a1⟩, ⟨b0, b1⟩, ⟨c0, c1⟩, ⟨m0, m1⟩, ⟨n0, n1⟩, ⟨k0, k1⟩, hb1⟩
  have w1z := hb1.size
  try simp at w1z
  have w1B := Lib.hid hb1
  clear hb1
  go_wp2_with fail
  refine (i_ThreeJ _ _ _ _ _ _ _).mono ?_
  rintro e w2 ⟨rfl, hb2⟩
  have w2z := hb2.size
  try simp at w2z
  have w2B := Lib.hid hb2
  clear hb2
  generalize hX : thI a b c m n k = XhX at *
  obtain ⟨S, N, D, o⟩ := XhX
  have HhX := Lib.hid hX
  clear hX
  simp only [rtv]
  go_wp2_with fail
  refine (s_ThreeJ _ _ _ _ _ _ _).mono ?_
  rintro e w3 ⟨rfl, hb3⟩
  have Kw3_out : Blk w3 (w2.heap.size) #[.int .i64 S, .int .i64 N, .int .i64 D] := blk_later hb3 (blk_new (by simp))
  obtain ⟨w3_c0_out, w3_c1_out, w3_c2_out, w3_f0_out, w3_f1_out, w3_f2_out⟩ := blk3 Kw3_out
  have Kw3_outH := Lib.hid Kw3_out
  have w3_l_out := Kw3_out.lt
  have w3_m_out : w2.heap.size < w3.heap.size + 1 := by omega
  have w3z := hb3.size
  try simp at w3z
  have w3B := Lib.hid hb3
  clear Kw3_out
  clear hb3
  rw [HhX.out]
  simp only [rtv]
  cases o
  · go_wp2_with fail
    go_ret
    exact ⟨rfl, by (repeat' (first | exact Below.refl _ _ | refine bl_out ?_ (by assumption) | exact (Hid.out (by assumption)) | refine bl_alloc ?_ _ | refine bl_drewN ?_ _ | refine bl_drew ?_ | refine bl_set ?_ ?_ _ | omega | (simp; done) | (simp; omega)))⟩
  have OK := Lib.hid (thI_ok HhX.out)
  have ht := tdB_iff.1 (cpOk_iff.1 (thOk_iff.1 OK.out).1).1
  have hm := hasB_iff.1 (cpOk_iff.1 (thOk_iff.1 OK.out).1).2.1
  have hn := hasB_iff.1 (cpOk_iff.1 (thOk_iff.1 OK.out).1).2.2
  have hk := hasB_iff.1 (thOk_iff.1 OK.out).2
  have P := okOne_of (cpOk_iff.1 (thOk_iff.1 OK.out).1).1 (thOk_iff.1 OK.out).2
  have HP := Lib.hid P
  clear P
  have ta := ht.1
  have tb := ht.2.1
  have tc := ht.2.2.1
  have hk2 := hk.2.1
  clear ht hm hn hk
  obtain ⟨A, hA⟩ := Int.eq_ofNat_of_zero_le (show 0 ≤ a by omega)
  have hA0 : (A : Int) ≤ a := by omega
  have hA1 : a ≤ (A : Int) := by omega
  clear hA
  go_wp2_with fail
  refine (l_whole _ _).mono ?_
  rintro e w4 ⟨rfl, hb4⟩
  have w4z := hb4.size
  try simp at w4z
  have w4B := Lib.hid hb4
  clear hb4
  go_wp2_with fail
  have Kz5_sum : Blk (w4.alloc (.cells #[.int .i64 0, .int .i64 1] 26)) (w4.heap.size) #[.int .i64 0, .int .i64 1] := (blk_new (by simp))
  have Bz5 : Below w.heap.size w (w4.alloc (.cells #[.int .i64 0, .int .i64 1] 26)) := by (repeat' (first | exact Below.refl _ _ | refine bl_out ?_ (by assumption) | exact (Hid.out (by assumption)) | refine bl_alloc ?_ _ | refine bl_drewN ?_ _ | refine bl_drew ?_ | refine bl_set ?_ ?_ _ | omega | (simp; done) | (simp; omega)))
  have Sz5 : (w4.alloc (.cells #[.int .i64 0, .int .i64 1] 26)).heap.size = w4.heap.size + 1 := by simp
  generalize (w4.alloc (.cells #[.int .i64 0, .int .i64 1] 26)) = z5 at *
  have Sz5a := Nat.le_of_eq Sz5
  have Sz5b := Nat.le_of_eq Sz5.symm
  clear Sz5
  obtain ⟨z5_c0_sum, z5_c1_sum, z5_f0_sum, z5_f1_sum⟩ := blk2 Kz5_sum
  have Kz5_sumH := Lib.hid Kz5_sum
  have z5_l_sum := Kz5_sum.lt
  have z5B := Lib.hid Bz5
  clear Bz5
  clear Kz5_sum
  go_loopw [10, 14, 15, 16, 17] (fun o p _ _ _ wr => ∃ (j : Nat) (N D : Int) (q : Bool), j ≤ A + 1 ∧ p = .int .i64 (-a + 2 * (j : Int)) ∧ o = .bool q ∧ thSt a b c k j = (N, D, q) ∧ Blk wr (w4.heap.size) #[.int .i64 N, .int .i64 D] ∧ Below w.heap.size w wr) (fun _ p _ _ _ _ => (100 - intOf p).toNat)
  case atStart => exact ⟨0, 0, 1, true, by omega, by simp, rfl, rfl, Kz5_sumH.out, z5B.out⟩
  case round =>
    obtain ⟨j, N2, D2, q, hj, rfl, rfl, hst, KS, hnx⟩ := hrel
    have HST := Lib.hid hst
    have HN := Lib.hid hnx
    have hsz := hnx.size
    obtain ⟨ks0, ks1, ks2, ks3⟩ := blk2 KS
    have KSH := Lib.hid KS
    have ksl := KS.lt
    clear hst hnx KS
    by_cases hlt : j ≤ A
    · cases hq : hasB b (-k - (-a + 2 * (j : Int)))
      · have E := Lib.hid (thSt_no (c := c) hq)
        go_wp2_with (go_at_call 30; refine (i_SpinHas _ _ _).mono ?_; rintro e w' ⟨rfl, rfl⟩)
        go_roundw
        case rel => exact ⟨j + 1, N2, D2, q, by omega, by go_num, rfl, by rw [E.out]; exact HST.out, KSH.out, HN.out⟩
        case measure => simp [intOf]; omega
      · have hq2 := (hasB_iff.1 hq).2.1
        go_wp2_with (go_at_call 30; refine (i_SpinHas _ _ _).mono ?_; rintro e w' ⟨rfl, rfl⟩)
        refine (i_ThreeJ _ _ _ _ _ _ _).mono ?_
        rintro e w21 ⟨rfl, hb21⟩
        have Kw21_sum : Blk w21 (w4.heap.size) #[.int .i64 N2, .int .i64 D2] := blk_later hb21 KSH.out
        obtain ⟨w21_c0_sum, w21_c1_sum, w21_f0_sum, w21_f1_sum⟩ := blk2 Kw21_sum
        have Kw21_sumH := Lib.hid Kw21_sum
        have w21_l_sum := Kw21_sum.lt
        have w21_m_sum : w4.heap.size < w21.heap.size + 1 := by omega
        have w21z := hb21.size
        try simp at w21z
        have w21B := Lib.hid hb21
        clear Kw21_sum
        clear hb21
        generalize hY : thI a b c (-a + 2 * (j : Int)) (-k - (-a + 2 * (j : Int))) k = Y at *
        obtain ⟨S1, N1, D1, o1⟩ := Y
        have E := Lib.hid (thSt_yes hq HST.out hY)
        clear hY
        simp only [rtv]
        cases hqq : q
        · subst hqq
          go_wp2_with fail
          refine (l_addTo _ _ _ _ _ _).mono ?_
          rintro e w22 ⟨rfl, hb22⟩
          have Kw22_sum : Blk w22 (w4.heap.size) #[.int .i64 N2, .int .i64 D2] := blk_later hb22 (blk_alloc Kw21_sumH.out (.cells #[.int .i64 S1, .int .i64 N1, .int .i64 D1] 28))
          have Kw22_x : Blk w22 (w21.heap.size) #[.int .i64 S1, .int .i64 N1, .int .i64 D1] := blk_later hb22 (blk_new (by simp))
          obtain ⟨w22_c0_sum, w22_c1_sum, w22_f0_sum, w22_f1_sum⟩ := blk2 Kw22_sum
          have Kw22_sumH := Lib.hid Kw22_sum
          have w22_l_sum := Kw22_sum.lt
          have w22_m_sum : w4.heap.size < w22.heap.size + 1 := by omega
          obtain ⟨w22_c0_x, w22_c1_x, w22_c2_x, w22_f0_x, w22_f1_x, w22_f2_x⟩ := blk3 Kw22_x
          have Kw22_xH := Lib.hid Kw22_x
          have w22_l_x := Kw22_x.lt
          have w22_m_x : w21.heap.size < w22.heap.size + 1 := by omega
          have w22z := hb22.size
          try simp at w22z
          have w22B := Lib.hid hb22
          clear Kw22_sum Kw22_x
          clear hb22
          generalize hZ : ratAdd N2 D2 N1 D1 = Z at *
          obtain ⟨N3, D3, o3⟩ := Z
          have HZ := Lib.hid hZ
          clear hZ
          go_wp2_with fail
          go_roundw
          case rel => exact ⟨j + 1, N3, D3, _, by omega, by go_num, rfl, by rw [E.out]; simp, (blk_set (blk_set Kw22_sumH.out 0 (.int .i64 N3)) 1 (.int .i64 D3)), by (repeat' (first | exact Below.refl _ _ | refine bl_out ?_ (by assumption) | exact (Hid.out (by assumption)) | refine bl_alloc ?_ _ | refine bl_drewN ?_ _ | refine bl_drew ?_ | refine bl_set ?_ ?_ _ | omega | (simp; done) | (simp; omega)))⟩
          case measure => simp [intOf]; omega
        · subst hqq
          go_wp2_with fail
          refine (l_addTo _ _ _ _ _ _).mono ?_
          rintro e w22 ⟨rfl, hb22⟩
          have Kw22_sum : Blk w22 (w4.heap.size) #[.int .i64 N2, .int .i64 D2] := blk_later hb22 (blk_alloc Kw21_sumH.out (.cells #[.int .i64 S1, .int .i64 N1, .int .i64 D1] 28))
          have Kw22_x : Blk w22 (w21.heap.size) #[.int .i64 S1, .int .i64 N1, .int .i64 D1] := blk_later hb22 (blk_new (by simp))
          obtain ⟨w22_c0_sum, w22_c1_sum, w22_f0_sum, w22_f1_sum⟩ := blk2 Kw22_sum
          have Kw22_sumH := Lib.hid Kw22_sum
          have w22_l_sum := Kw22_sum.lt
          have w22_m_sum : w4.heap.size < w22.heap.size + 1 := by omega
          obtain ⟨w22_c0_x, w22_c1_x, w22_c2_x, w22_f0_x, w22_f1_x, w22_f2_x⟩ := blk3 Kw22_x
          have Kw22_xH := Lib.hid Kw22_x
          have w22_l_x := Kw22_x.lt
          have w22_m_x : w21.heap.size < w22.heap.size + 1 := by omega
          have w22z := hb22.size
          try simp at w22z
          have w22B := Lib.hid hb22
          clear Kw22_sum Kw22_x
          clear hb22
          generalize hZ : ratAdd N2 D2 N1 D1 = Z at *
          obtain ⟨N3, D3, o3⟩ := Z
          have HZ := Lib.hid hZ
          clear hZ
          go_wp2_with fail
          go_roundw
          case rel => exact ⟨j + 1, N3, D3, _, by omega, by go_num, rfl, by rw [E.out]; simp, (blk_set (blk_set Kw22_sumH.out 0 (.int .i64 N3)) 1 (.int .i64 D3)), by (repeat' (first | exact Below.refl _ _ | refine bl_out ?_ (by assumption) | exact (Hid.out (by assumption)) | refine bl_alloc ?_ _ | refine bl_drewN ?_ _ | refine bl_drew ?_ | refine bl_set ?_ ?_ _ | omega | (simp; done) | (simp; omega)))⟩
          case measure => simp [intOf]; omega
    · obtain rfl : j = A + 1 := by omega
      have HP2 := HP.out
      rw [show (a + 1).toNat = A + 1 by omega, HST.out] at HP2
      obtain ⟨rfl, hy⟩ : q = true ∧ ratMul N2 D2 (c + 1) 1 = (1, 1, true) := HP2
      have HY := Lib.hid hy
      have wrc : IntKind.i64.wrap (c + 1) = c + 1 := IntWalk.i64_in _ (by omega)
      clear hy
      go_upto_region 17 with fail
      have Kz41_sum : Blk wr (w4.heap.size) #[.int .i64 N2, .int .i64 D2] := KSH.out
      have Bz41 : Below w.heap.size w wr := by (repeat' (first | exact Below.refl _ _ | refine bl_out ?_ (by assumption) | exact (Hid.out (by assumption)) | refine bl_alloc ?_ _ | refine bl_drewN ?_ _ | refine bl_drew ?_ | refine bl_set ?_ ?_ _ | omega | (simp; done) | (simp; omega)))
      generalize wr = z41 at *
      obtain ⟨z41_c0_sum, z41_c1_sum, z41_f0_sum, z41_f1_sum⟩ := blk2 Kz41_sum
      have Kz41_sumH := Lib.hid Kz41_sum
      have z41_l_sum := Kz41_sum.lt
      have z41B := Lib.hid Bz41
      clear Bz41
      clear Kz41_sum
      go_cut [18, 19] (CutBlk z41 #[.int .i64 1, .int .i64 1] true)
      case first =>
        go_region_held3 (fun w' => Below z41.heap.size z41 w' ∧ w'.cell? ⟨w4.heap.size, 0, none⟩ = some (.int .i64 N2) ∧ w'.cell? ⟨w4.heap.size, 1, none⟩ = some (.int .i64 D2)) ((refine and_keep ?_ (fun hB => ⟨held_cell hB z41_c0_sum z41_l_sum, held_cell hB z41_c1_sum z41_l_sum⟩); (repeat' (first | with_reducible exact Below.refl _ _ | with_reducible refine bl_alloc ?_ _ | with_reducible refine bl_set ?_ ?_ _ | exact (Below.refl _ _).drew | with_reducible refine bl_drew ?_ | with_reducible refine btr ?_ hbB | with_reducible refine btr ?_ hbA | omega | (simp; done) | (simp; omega))))) (first | (go_at_call 20; refine (l_whole _ _).mono ?_; rintro e wA ⟨rfl, hbA⟩; obtain ⟨hcA, hfA⟩ := bcell hbA; have hzA : z41.heap.size ≤ wA.heap.size := (by first | exact hbA.size | exact Nat.le_trans hzA hbA.size | (have h0 := hbA.size; simp at h0; omega)); (try (have hyA : z41.heap.size < wA.heap.size := by (have h0 := hbA.size; simp at h0; omega)))) | (go_at_call 22; refine (i_RatMul2 _ _ _ _ _ _ _ _ HY).mono ?_; rintro e wB ⟨rfl, hbB⟩; obtain ⟨hcB, hfB⟩ := bcell hbB; have hzB : z41.heap.size ≤ wB.heap.size := (by first | exact hbB.size | exact Nat.le_trans hzA hbB.size | (have h0 := hbB.size; simp at h0; omega)); (try (have hyB : z41.heap.size < wB.heap.size := by (have h0 := hbB.size; simp at h0; omega)))))
        all_goals
          go_wp2_with fail
          go_meet
          exact ⟨_, rfl, rfl, by (first | omega | (simp; omega)), by (repeat' (first | exact blk_new (by simp) | with_reducible refine blk_store2 (x := .int .i64 0) (y := .int .i64 0) ?_ | with_reducible refine blk_store3 (x := .int .i64 0) (y := .int .i64 0) (z := .int .i64 0) ?_ | with_reducible refine blk_drew ?_ | with_reducible refine blk_later hbB ?_ | with_reducible refine blk_later hbA ?_)), by (repeat' (first | with_reducible exact Below.refl _ _ | with_reducible refine bl_alloc ?_ _ | with_reducible refine bl_set ?_ ?_ _ | exact (Below.refl _ _).drew | with_reducible refine bl_drew ?_ | with_reducible refine btr ?_ hbB | with_reducible refine btr ?_ hbA | omega | (simp; done) | (simp; omega)))⟩
      case rest =>
        obtain ⟨g42, rfl, rfl, g42z, Kg42, hb42⟩ := hcut
        obtain ⟨w42, rfl⟩ : ∃ x, x = wc := ⟨_, rfl⟩
        have w42z := hb42.size
        try simp at w42z
        have w42B := Lib.hid hb42
        clear hb42
        obtain ⟨w42_c0_y, w42_c1_y, w42_f0_y, w42_f1_y⟩ := blk2 Kg42
        have Kg42H := Lib.hid Kg42
        have w42_l_y := Kg42.lt
        clear Kg42
        go_wp2_with fail
        have Kz43_y : Blk w42 (g42) #[.int .i64 1, .int .i64 1] := Kg42H.out
        have Bz43 : Below w.heap.size w w42 := by (repeat' (first | exact Below.refl _ _ | refine bl_out ?_ (by assumption) | exact (Hid.out (by assumption)) | refine bl_alloc ?_ _ | refine bl_drewN ?_ _ | refine bl_drew ?_ | refine bl_set ?_ ?_ _ | omega | (simp; done) | (simp; omega)))
        generalize w42 = z43 at *
        obtain ⟨z43_c0_y, z43_c1_y, z43_f0_y, z43_f1_y⟩ := blk2 Kz43_y
        have Kz43_yH := Lib.hid Kz43_y
        have z43_l_y := Kz43_y.lt
        have z43B := Lib.hid Bz43
        clear Bz43
        clear Kz43_y
        go_region_held3 (fun w' => Below z43.heap.size z43 w' ∧ w'.cell? ⟨g42, 0, none⟩ = some (.int .i64 1) ∧ w'.cell? ⟨g42, 1, none⟩ = some (.int .i64 1)) ((refine and_keep ?_ (fun hB => ⟨held_cell hB z43_c0_y z43_l_y, held_cell hB z43_c1_y z43_l_y⟩); (repeat' (first | exact (Below.refl _ _).drew | exact Below.refl _ _ | exact And.left (by assumption) | refine bl_alloc ?_ _ | refine bl_drew ?_ | refine bl_set ?_ ?_ _ | refine btr ?_ (by assumption) | omega | (simp; done) | (simp; omega))))) (first | (go_at_call 20; refine (l_whole _ _).mono ?_; rintro e w' ⟨rfl, hb'⟩))
        go_wp2_with fail
        go_ret
        exact ⟨rfl, btr z43B.out (by (repeat' (first | exact (Below.refl _ _).drew | exact Below.refl _ _ | exact And.left (by assumption) | refine bl_alloc ?_ _ | refine bl_drew ?_ | refine bl_set ?_ ?_ _ | refine btr ?_ (by assumption) | omega | (simp; done) | (simp; omega))))⟩

end Go.Proofs.Ytbidmnbnnkjgoaa
