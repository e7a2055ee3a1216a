/- The walk of the law that squares over projections add up to 1. -/
import Derived.Test.YtnjcbohledafgaaCl
import Derived.Test.YtnjcbohledafgaaDr
import Derived.Test.YtnjcbohledafgaaPm2
import Derived.Test.YtnjcbohledafgaaLv
namespace Go.Proofs.Ytnjcbohledafgaa
open Go.RowKit
set_option linter.unusedVariables false

set_option maxRecDepth 100000 in
set_option maxHeartbeats 2000000 in
theorem l_FnClebschSum (s : Option Addr) (len cap : Nat) (w : World) (h : Code w s len cap) (hl : len ≤ 9223372036854775807) (hc : cap ≤ 9223372036854775807) :
    Calls Try.prog 14 #[.slice s len cap] w (RTrueK w) := by
  have H := Lib.hid h
  clear h
  by_cases hbig : 1048576 < len
  · go_enter Try.func14, Try.ntmps14
    go_wp2_with fail
    go_ret
    exact ⟨rfl, Below.refl _ _⟩
  go_enter Try.func14, Try.ntmps14
  go_wp2_with fail
  refine (s_DrawClebsch s len cap w H.out hl hc).mono ?_
  rintro e w1 ⟨a, b, c, m, n, rfl, ⟨a0, a1⟩, ⟨b0, b1⟩, ⟨c0, c1⟩, ⟨m0, m1⟩, ⟨n0, n1⟩, hb1⟩
  have w1z := hb1.size
  try simp at w1z
  have w1B := Lib.hid hb1
  clear hb1
  go_wp2_with fail
  refine (i_Clebsch _ _ _ _ _ _).mono ?_
  rintro e w2 ⟨rfl, hb2⟩
  have w2z := hb2.size
  try simp at w2z
  have w2B := Lib.hid hb2
  clear hb2
  generalize hX : clebI a b c m n = XhX at *
  obtain ⟨S, N, D, o⟩ := XhX
  have HhX := Lib.hid hX
  clear hX
  simp only [rtv]
  go_wp2_with fail
  refine (s_Clebsch _ _ _ _ _ _).mono ?_
  rintro e w3 ⟨rfl, hb3⟩
  have Kw3_out : Blk w3 (w2.heap.size) #[.int .i64 S, .int .i64 N, .int .i64 D] := blk_later hb3 (blk_new (by simp))
  obtain ⟨w3_c0_out, w3_c1_out, w3_c2_out, w3_f0_out, w3_f1_out, w3_f2_out⟩ := blk3 Kw3_out
  have Kw3_outH := Lib.hid Kw3_out
  have w3_l_out := Kw3_out.lt
  have w3_m_out : w2.heap.size < w3.heap.size + 1 := by omega
  have w3z := hb3.size
  try simp at w3z
  have w3B := Lib.hid hb3
  clear Kw3_out
  clear hb3
  rw [HhX.out]
  simp only [rtv]
  cases o
  · go_wp2_with fail
    go_ret
    exact ⟨rfl, by (repeat' (first | exact Below.refl _ _ | refine bl_out ?_ (by assumption) | exact (Hid.out (by assumption)) | refine bl_alloc ?_ _ | refine bl_drewN ?_ _ | refine bl_drew ?_ | refine bl_set ?_ ?_ _ | omega | (simp; done) | (simp; omega)))⟩
  have OK := Lib.hid (clebI_ok HhX.out)
  have ht := tdB_iff.1 (cpOk_iff.1 OK.out).1
  have hm := hasB_iff.1 (cpOk_iff.1 OK.out).2.1
  have hn := hasB_iff.1 (cpOk_iff.1 OK.out).2.2
  cases hh : hasB c (m + n)
  · obtain rfl : S = 0 := by have := HhX.out; simp [clebI, OK.out, hh] at this; omega
    go_wp2_with (go_at_call 20; refine (i_SpinHas _ _ _).mono ?_; rintro e w' ⟨rfl, rfl⟩)
    go_ret
    exact ⟨rfl, by (repeat' (first | exact Below.refl _ _ | refine bl_out ?_ (by assumption) | exact (Hid.out (by assumption)) | refine bl_alloc ?_ _ | refine bl_drewN ?_ _ | refine bl_drew ?_ | refine bl_set ?_ ?_ _ | omega | (simp; done) | (simp; omega)))⟩
  have P := all5_of okSumC_all OK.out
  simp only [okSumC, hh] at P
  have HP := Lib.hid (show clSt a b c (m + n) (a + 1).toNat = (1, 1, true) by simpa using P)
  clear P
  obtain ⟨A, hA⟩ := Int.eq_ofNat_of_zero_le (show 0 ≤ a by omega)
  have hA0 : (A : Int) ≤ a := by omega
  have hA1 : a ≤ (A : Int) := by omega
  have HA := Lib.hid hA
  clear hA
  go_wp2_with (go_at_call 20; refine (i_SpinHas _ _ _).mono ?_; rintro e w' ⟨rfl, rfl⟩)
  refine (l_whole _ _).mono ?_
  rintro e w4 ⟨rfl, hb4⟩
  have w4z := hb4.size
  try simp at w4z
  have w4B := Lib.hid hb4
  clear hb4
  go_wp2_with fail
  have Kz5_sum : Blk (w4.alloc (.cells #[.int .i64 0, .int .i64 1] 33)) (w4.heap.size) #[.int .i64 0, .int .i64 1] := (blk_new (by simp))
  have Bz5 : Below w.heap.size w (w4.alloc (.cells #[.int .i64 0, .int .i64 1] 33)) := by (repeat' (first | exact Below.refl _ _ | refine bl_out ?_ (by assumption) | exact (Hid.out (by assumption)) | refine bl_alloc ?_ _ | refine bl_drewN ?_ _ | refine bl_drew ?_ | refine bl_set ?_ ?_ _ | omega | (simp; done) | (simp; omega)))
  have Sz5 : (w4.alloc (.cells #[.int .i64 0, .int .i64 1] 33)).heap.size = w4.heap.size + 1 := by simp
  generalize (w4.alloc (.cells #[.int .i64 0, .int .i64 1] 33)) = z5 at *
  have Sz5a := Nat.le_of_eq Sz5
  have Sz5b := Nat.le_of_eq Sz5.symm
  clear Sz5
  obtain ⟨z5_c0_sum, z5_c1_sum, z5_f0_sum, z5_f1_sum⟩ := blk2 Kz5_sum
  have Kz5_sumH := Lib.hid Kz5_sum
  have z5_l_sum := Kz5_sum.lt
  have z5B := Lib.hid Bz5
  clear Bz5
  clear Kz5_sum
  go_loopw [9, 13, 14, 15, 16] (fun o p _ _ _ wr => ∃ (k : Nat) (N D : Int) (q : Bool), k ≤ A + 1 ∧ p = .int .i64 (-a + 2 * (k : Int)) ∧ o = .bool q ∧ clSt a b c (m + n) k = (N, D, q) ∧ Blk wr (w4.heap.size) #[.int .i64 N, .int .i64 D] ∧ Below w.heap.size w wr) (fun _ p _ _ _ _ => (100 - intOf p).toNat)
  case atStart => exact ⟨0, 0, 1, true, by omega, by simp, rfl, rfl, Kz5_sumH.out, z5B.out⟩
  case round =>
    obtain ⟨k, N2, D2, q, hk, rfl, rfl, hst, KS, hnx⟩ := hrel
    have HST := Lib.hid hst
    have HN := Lib.hid hnx
    have hsz := hnx.size
    obtain ⟨ks0, ks1, ks2, ks3⟩ := blk2 KS
    have KSH := Lib.hid KS
    have ksl := KS.lt
    clear hst hnx KS
    by_cases hlt : k ≤ A
    · cases hq : hasB b (m + n - (-a + 2 * (k : Int)))
      · have E := Lib.hid (clSt_no (a := a) (c := c) hq)
        go_wp2_with (go_at_call 20; refine (i_SpinHas _ _ _).mono ?_; rintro e w' ⟨rfl, rfl⟩)
        go_roundw
        case rel => exact ⟨k + 1, N2, D2, q, by omega, by go_num, rfl, by rw [E.out]; exact HST.out, KSH.out, HN.out⟩
        case measure => simp [intOf]; omega
      · have hq2 := hasB_iff.1 hq
        go_wp2_with (go_at_call 20; refine (i_SpinHas _ _ _).mono ?_; rintro e w' ⟨rfl, rfl⟩)
        refine (i_Clebsch _ _ _ _ _ _).mono ?_
        rintro e w21 ⟨rfl, hb21⟩
        have Kw21_sum : Blk w21 (w4.heap.size) #[.int .i64 N2, .int .i64 D2] := blk_later hb21 KSH.out
        obtain ⟨w21_c0_sum, w21_c1_sum, w21_f0_sum, w21_f1_sum⟩ := blk2 Kw21_sum
        have Kw21_sumH := Lib.hid Kw21_sum
        have w21_l_sum := Kw21_sum.lt
        have w21_m_sum : w4.heap.size < w21.heap.size + 1 := by omega
        have w21z := hb21.size
        try simp at w21z
        have w21B := Lib.hid hb21
        clear Kw21_sum
        clear hb21
        generalize hY : clebI a b c (-a + 2 * (k : Int)) (m + n - (-a + 2 * (k : Int))) = Y at *
        obtain ⟨S1, N1, D1, o1⟩ := Y
        have E := Lib.hid (clSt_yes hq HST.out hY)
        clear hY
        simp only [rtv]
        have EQ : (q && o1) = (q && o1) := rfl
        clear EQ
        cases hqq : q
        · subst hqq
          go_wp2_with fail
          refine (l_addTo _ _ _ _ _ _).mono ?_
          rintro e w22 ⟨rfl, hb22⟩
          have Kw22_sum : Blk w22 (w4.heap.size) #[.int .i64 N2, .int .i64 D2] := blk_later hb22 (blk_alloc Kw21_sumH.out (.cells #[.int .i64 S1, .int .i64 N1, .int .i64 D1] 39))
          have Kw22_x : Blk w22 (w21.heap.size) #[.int .i64 S1, .int .i64 N1, .int .i64 D1] := blk_later hb22 (blk_new (by simp))
          obtain ⟨w22_c0_sum, w22_c1_sum, w22_f0_sum, w22_f1_sum⟩ := blk2 Kw22_sum
          have Kw22_sumH := Lib.hid Kw22_sum
          have w22_l_sum := Kw22_sum.lt
          have w22_m_sum : w4.heap.size < w22.heap.size + 1 := by omega
          obtain ⟨w22_c0_x, w22_c1_x, w22_c2_x, w22_f0_x, w22_f1_x, w22_f2_x⟩ := blk3 Kw22_x
          have Kw22_xH := Lib.hid Kw22_x
          have w22_l_x := Kw22_x.lt
          have w22_m_x : w21.heap.size < w22.heap.size + 1 := by omega
          have w22z := hb22.size
          try simp at w22z
          have w22B := Lib.hid hb22
          clear Kw22_sum Kw22_x
          clear hb22
          generalize hZ : ratAdd N2 D2 N1 D1 = Z at *
          obtain ⟨N3, D3, o3⟩ := Z
          have HZ := Lib.hid hZ
          clear hZ
          go_wp2_with fail
          go_roundw
          case rel => exact ⟨k + 1, N3, D3, _, by omega, by go_num, rfl, by rw [E.out]; simp, (blk_set (blk_set Kw22_sumH.out 0 (.int .i64 N3)) 1 (.int .i64 D3)), by (repeat' (first | exact Below.refl _ _ | refine bl_out ?_ (by assumption) | exact (Hid.out (by assumption)) | refine bl_alloc ?_ _ | refine bl_drewN ?_ _ | refine bl_drew ?_ | refine bl_set ?_ ?_ _ | omega | (simp; done) | (simp; omega)))⟩
          case measure => simp [intOf]; omega
        · subst hqq
          go_wp2_with fail
          refine (l_addTo _ _ _ _ _ _).mono ?_
          rintro e w22 ⟨rfl, hb22⟩
          have Kw22_sum : Blk w22 (w4.heap.size) #[.int .i64 N2, .int .i64 D2] := blk_later hb22 (blk_alloc Kw21_sumH.out (.cells #[.int .i64 S1, .int .i64 N1, .int .i64 D1] 39))
          have Kw22_x : Blk w22 (w21.heap.size) #[.int .i64 S1, .int .i64 N1, .int .i64 D1] := blk_later hb22 (blk_new (by simp))
          obtain ⟨w22_c0_sum, w22_c1_sum, w22_f0_sum, w22_f1_sum⟩ := blk2 Kw22_sum
          have Kw22_sumH := Lib.hid Kw22_sum
          have w22_l_sum := Kw22_sum.lt
          have w22_m_sum : w4.heap.size < w22.heap.size + 1 := by omega
          obtain ⟨w22_c0_x, w22_c1_x, w22_c2_x, w22_f0_x, w22_f1_x, w22_f2_x⟩ := blk3 Kw22_x
          have Kw22_xH := Lib.hid Kw22_x
          have w22_l_x := Kw22_x.lt
          have w22_m_x : w21.heap.size < w22.heap.size + 1 := by omega
          have w22z := hb22.size
          try simp at w22z
          have w22B := Lib.hid hb22
          clear Kw22_sum Kw22_x
          clear hb22
          generalize hZ : ratAdd N2 D2 N1 D1 = Z at *
          obtain ⟨N3, D3, o3⟩ := Z
          have HZ := Lib.hid hZ
          clear hZ
          go_wp2_with fail
          go_roundw
          case rel => exact ⟨k + 1, N3, D3, _, by omega, by go_num, rfl, by rw [E.out]; simp, (blk_set (blk_set Kw22_sumH.out 0 (.int .i64 N3)) 1 (.int .i64 D3)), by (repeat' (first | exact Below.refl _ _ | refine bl_out ?_ (by assumption) | exact (Hid.out (by assumption)) | refine bl_alloc ?_ _ | refine bl_drewN ?_ _ | refine bl_drew ?_ | refine bl_set ?_ ?_ _ | omega | (simp; done) | (simp; omega)))⟩
          case measure => simp [intOf]; omega
    · obtain rfl : k = A + 1 := by omega
      have E1 : clSt a b c (m + n) (A + 1) = (1, 1, true) := by have := HP.out; rw [show (a + 1).toNat = A + 1 by omega] at this; exact this
      have E2 := HST.out.symm.trans E1
      injection E2 with e1 e2
      injection e2 with e2 e3
      subst e1 e2 e3
      go_wp2_with fail
      have Kz41_sum : Blk wr (w4.heap.size) #[.int .i64 1, .int .i64 1] := KSH.out
      have Bz41 : Below w.heap.size w wr := by (repeat' (first | exact Below.refl _ _ | refine bl_out ?_ (by assumption) | exact (Hid.out (by assumption)) | refine bl_alloc ?_ _ | refine bl_drewN ?_ _ | refine bl_drew ?_ | refine bl_set ?_ ?_ _ | omega | (simp; done) | (simp; omega)))
      generalize wr = z41 at *
      obtain ⟨z41_c0_sum, z41_c1_sum, z41_f0_sum, z41_f1_sum⟩ := blk2 Kz41_sum
      have Kz41_sumH := Lib.hid Kz41_sum
      have z41_l_sum := Kz41_sum.lt
      have z41B := Lib.hid Bz41
      clear Bz41
      clear Kz41_sum
      go_region_held3 (fun w' => Below z41.heap.size z41 w' ∧ w'.cell? ⟨w4.heap.size, 0, none⟩ = some (.int .i64 1) ∧ w'.cell? ⟨w4.heap.size, 1, none⟩ = some (.int .i64 1)) ((refine and_keep ?_ (fun hB => ⟨held_cell hB z41_c0_sum z41_l_sum, held_cell hB z41_c1_sum z41_l_sum⟩); (repeat' (first | exact (Below.refl _ _).drew | exact Below.refl _ _ | exact And.left (by assumption) | refine bl_alloc ?_ _ | refine bl_drew ?_ | refine bl_set ?_ ?_ _ | refine btr ?_ (by assumption) | omega | (simp; done) | (simp; omega))))) (first | (go_at_call 21; refine (l_whole _ _).mono ?_; rintro e w' ⟨rfl, hb'⟩))
      go_wp2_with fail
      go_ret
      exact ⟨rfl, btr z41B.out (by (repeat' (first | exact (Below.refl _ _).drew | exact Below.refl _ _ | exact And.left (by assumption) | refine bl_alloc ?_ _ | refine bl_drew ?_ | refine bl_set ?_ ?_ _ | refine btr ?_ (by assumption) | omega | (simp; done) | (simp; omega))))⟩

end Go.Proofs.Ytnjcbohledafgaa
