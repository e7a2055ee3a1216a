/- The walk of the law that the splitting factor is a mean over couplings. -/
import Derived.Test.YtneihommpncegaaDoorFc
import Derived.Deep.QuietTactic
import Derived.BigQuiet
namespace Go.Proofs.YtneihommpncegaaDoor
open Go.RowKit
set_option linter.unusedVariables false

set_option maxRecDepth 100000 in
set_option maxHeartbeats 6000000 in
theorem l_FnClebschFactor (a : Option Addr) (len cap : Nat) (a2 : Option Addr) (len2 cap2 : Nat) (w : World) (h : Code w a len cap) (hl : len ≤ 9223372036854775807) (hc : cap ≤ 9223372036854775807) (h2 : Code w a2 len2 cap2) (hl2 : len2 ≤ 9223372036854775807) (hc2 : cap2 ≤ 9223372036854775807) (he : ErrIn w) :
    Calls Tryd.prog 3 #[.slice a len cap, .slice a2 len2 cap2] w (RTrueK w) := by
  have H := Lib.hid h
  have HE := Lib.hid he
  clear h he h2
  by_cases hbig : 1048576 < len
  · go_enter Tryd.func3, Tryd.ntmps3
    go_wp2_with fail
    go_ret
    exact ⟨rfl, Below.refl _ _⟩
  by_cases hbig2 : 1048576 < len2
  · go_enter Tryd.func3, Tryd.ntmps3
    go_wp2_with fail
    go_ret
    exact ⟨rfl, Below.refl _ _⟩
  go_enter Tryd.func3, Tryd.ntmps3
  go_wp2_with fail
  refine (s_DrawFactorOf a len cap w H.out hl hc).mono ?_
  rintro e w1 ⟨s, l, j, rfl, ⟨⟨s0, s1⟩, ⟨l0, l1⟩, ⟨j0, j1⟩⟩, hb1⟩
  have w1z := hb1.size
  try simp at w1z
  have w1B := Lib.hid hb1
  clear hb1
  have HE1 := Lib.hid (ErrIn.below HE.out w1B.out)
  obtain ⟨N, D, o, hX⟩ := pair3 (facI2 s l j)
  have HX := Lib.hid hX
  clear hX
  go_wp2_with fail
  refine (i_FactorOf _ _ _ _ _ _ _ (ErrIn.alloc HE1.out _) HX).mono ?_
  rintro e w2 ⟨rfl, hb2⟩
  have Kw2_x : Blk w2 (w1.heap.size) #[.int .i64 s, .int .i64 l, .int .i64 j] := blk_later hb2 (blk_new (by simp))
  obtain ⟨w2_c0_x, w2_c1_x, w2_c2_x, w2_f0_x, w2_f1_x, w2_f2_x⟩ := blk3 Kw2_x
  have Kw2_xH := Lib.hid Kw2_x
  have w2_l_x := Kw2_x.lt
  have w2_m_x : w1.heap.size < w2.heap.size + 1 := by omega
  have w2z := hb2.size
  try simp at w2z
  have w2B := Lib.hid hb2
  clear Kw2_x
  clear hb2
  go_wp2_with fail
  refine (s_FactorOf _ _ _ _ _ _ _ HX).mono ?_
  rintro e w3 ⟨rfl, hb3⟩
  have Kw3_x : Blk w3 (w1.heap.size) #[.int .i64 s, .int .i64 l, .int .i64 j] := blk_later hb3 (blk_alloc Kw2_xH.out (.cells #[.int .i64 N, .int .i64 D] 29))
  have Kw3_out : Blk w3 (w2.heap.size) #[.int .i64 N, .int .i64 D] := blk_later hb3 (blk_new (by simp))
  obtain ⟨w3_c0_x, w3_c1_x, w3_c2_x, w3_f0_x, w3_f1_x, w3_f2_x⟩ := blk3 Kw3_x
  have Kw3_xH := Lib.hid Kw3_x
  have w3_l_x := Kw3_x.lt
  have w3_m_x : w1.heap.size < w3.heap.size + 1 := by omega
  obtain ⟨w3_c0_out, w3_c1_out, w3_f0_out, w3_f1_out⟩ := blk2 Kw3_out
  have Kw3_outH := Lib.hid Kw3_out
  have w3_l_out := Kw3_out.lt
  have w3_m_out : w2.heap.size < w3.heap.size + 1 := by omega
  have w3z := hb3.size
  try simp at w3z
  have w3B := Lib.hid hb3
  clear Kw3_x Kw3_out
  clear hb3
  cases o
  · go_wp2_with fail
    go_ret
    exact ⟨rfl, by (repeat' (first | exact Below.refl _ _ | refine bl_out ?_ (by assumption) | exact (Hid.out (by assumption)) | refine bl_alloc ?_ _ | refine bl_drewN ?_ _ | refine bl_drew ?_ | refine bl_set ?_ ?_ _ | omega | (simp; done) | (simp; omega)))⟩
  obtain ⟨hv, hj, hr⟩ := fac_yes HX.out
  have V := Lib.hid hr
  obtain ⟨⟨s2, s3⟩, ⟨l2, l3⟩, j2, j3⟩ := lv_bd2 hv
  clear hv hr s0 s1 l0 l1 j0 j1 HE HE1
  by_cases h6l : 6 < 2 * l
  · skip
    go_wp2_with fail
    refine (i_RatValid _ _ _).mono ?_
    rintro e w4 ⟨rfl, hb4⟩
    have Kw4_x : Blk w4 (w1.heap.size) #[.int .i64 s, .int .i64 l, .int .i64 j] := blk_later hb4 (blk_alloc Kw3_xH.out (.cells #[.int .i64 N, .int .i64 D] 29))
    have Kw4_out : Blk w4 (w2.heap.size) #[.int .i64 N, .int .i64 D] := blk_later hb4 (blk_alloc Kw3_outH.out (.cells #[.int .i64 N, .int .i64 D] 29))
    obtain ⟨w4_c0_x, w4_c1_x, w4_c2_x, w4_f0_x, w4_f1_x, w4_f2_x⟩ := blk3 Kw4_x
    have Kw4_xH := Lib.hid Kw4_x
    have w4_l_x := Kw4_x.lt
    have w4_m_x : w1.heap.size < w4.heap.size + 1 := by omega
    obtain ⟨w4_c0_out, w4_c1_out, w4_f0_out, w4_f1_out⟩ := blk2 Kw4_out
    have Kw4_outH := Lib.hid Kw4_out
    have w4_l_out := Kw4_out.lt
    have w4_m_out : w2.heap.size < w4.heap.size + 1 := by omega
    have w4z := hb4.size
    try simp at w4z
    have w4B := Lib.hid hb4
    clear Kw4_x Kw4_out
    clear hb4
    rw [V.out]
    go_wp2_with fail
    go_ret
    exact ⟨rfl, by (repeat' (first | exact Below.refl _ _ | refine bl_out ?_ (by assumption) | exact (Hid.out (by assumption)) | refine bl_alloc ?_ _ | refine bl_drewN ?_ _ | refine bl_drew ?_ | refine bl_set ?_ ?_ _ | omega | (simp; done) | (simp; omega)))⟩
  by_cases h6s : 6 < s
  · skip
    go_wp2_with fail
    refine (i_RatValid _ _ _).mono ?_
    rintro e w4 ⟨rfl, hb4⟩
    have Kw4_x : Blk w4 (w1.heap.size) #[.int .i64 s, .int .i64 l, .int .i64 j] := blk_later hb4 (blk_alloc Kw3_xH.out (.cells #[.int .i64 N, .int .i64 D] 29))
    have Kw4_out : Blk w4 (w2.heap.size) #[.int .i64 N, .int .i64 D] := blk_later hb4 (blk_alloc Kw3_outH.out (.cells #[.int .i64 N, .int .i64 D] 29))
    obtain ⟨w4_c0_x, w4_c1_x, w4_c2_x, w4_f0_x, w4_f1_x, w4_f2_x⟩ := blk3 Kw4_x
    have Kw4_xH := Lib.hid Kw4_x
    have w4_l_x := Kw4_x.lt
    have w4_m_x : w1.heap.size < w4.heap.size + 1 := by omega
    obtain ⟨w4_c0_out, w4_c1_out, w4_f0_out, w4_f1_out⟩ := blk2 Kw4_out
    have Kw4_outH := Lib.hid Kw4_out
    have w4_l_out := Kw4_out.lt
    have w4_m_out : w2.heap.size < w4.heap.size + 1 := by omega
    have w4z := hb4.size
    try simp at w4z
    have w4B := Lib.hid hb4
    clear Kw4_x Kw4_out
    clear hb4
    rw [V.out]
    go_wp2_with fail
    go_ret
    exact ⟨rfl, by (repeat' (first | exact Below.refl _ _ | refine bl_out ?_ (by assumption) | exact (Hid.out (by assumption)) | refine bl_alloc ?_ _ | refine bl_drewN ?_ _ | refine bl_drew ?_ | refine bl_set ?_ ?_ _ | omega | (simp; done) | (simp; omega)))⟩
  by_cases h6j : 6 < j
  · skip
    go_wp2_with fail
    refine (i_RatValid _ _ _).mono ?_
    rintro e w4 ⟨rfl, hb4⟩
    have Kw4_x : Blk w4 (w1.heap.size) #[.int .i64 s, .int .i64 l, .int .i64 j] := blk_later hb4 (blk_alloc Kw3_xH.out (.cells #[.int .i64 N, .int .i64 D] 29))
    have Kw4_out : Blk w4 (w2.heap.size) #[.int .i64 N, .int .i64 D] := blk_later hb4 (blk_alloc Kw3_outH.out (.cells #[.int .i64 N, .int .i64 D] 29))
    obtain ⟨w4_c0_x, w4_c1_x, w4_c2_x, w4_f0_x, w4_f1_x, w4_f2_x⟩ := blk3 Kw4_x
    have Kw4_xH := Lib.hid Kw4_x
    have w4_l_x := Kw4_x.lt
    have w4_m_x : w1.heap.size < w4.heap.size + 1 := by omega
    obtain ⟨w4_c0_out, w4_c1_out, w4_f0_out, w4_f1_out⟩ := blk2 Kw4_out
    have Kw4_outH := Lib.hid Kw4_out
    have w4_l_out := Kw4_out.lt
    have w4_m_out : w2.heap.size < w4.heap.size + 1 := by omega
    have w4z := hb4.size
    try simp at w4z
    have w4B := Lib.hid hb4
    clear Kw4_x Kw4_out
    clear hb4
    rw [V.out]
    go_wp2_with fail
    go_ret
    exact ⟨rfl, by (repeat' (first | exact Below.refl _ _ | refine bl_out ?_ (by assumption) | exact (Hid.out (by assumption)) | refine bl_alloc ?_ _ | refine bl_drewN ?_ _ | refine bl_drew ?_ | refine bl_set ?_ ?_ _ | omega | (simp; done) | (simp; omega)))⟩
  obtain ⟨t, ht, t0, t1⟩ : ∃ t : Int, (len2 : Int) % (j + 1) = t ∧ 0 ≤ t ∧ t ≤ j := ⟨_, rfl, Int.emod_nonneg _ (by omega), by have := Int.emod_lt_of_pos (len2 : Int) (show 0 < j + 1 by omega); omega⟩
  obtain ⟨m, hm⟩ : ∃ m : Int, 2 * t - j = m := ⟨_, rfl⟩
  obtain ⟨e, he⟩ : ∃ e : Int, 2 * l = e := ⟨_, rfl⟩
  have HP : Hid (ratMul N D m 1 = ((fcSt e s j m (e + 1).toNat).1, (fcSt e s j m (e + 1).toNat).2.1, true) ∧ (fcSt e s j m (e + 1).toNat).2.2 = true) := Lib.hid (by rw [← he, ← hm]; exact okFc_of HX.out (by omega) (by omega) (by omega) ⟨t0, t1⟩)
  have hm0 : -6 ≤ m := by omega
  have hm1 : m ≤ 6 := by omega
  have he0 : 0 ≤ e := by omega
  have he1 : e ≤ 6 := by omega
  have hj6 : j ≤ 6 := by omega
  have hs6 : s ≤ 6 := by omega
  clear h6l h6s h6j
  have jz : (j + 1 == 0) = false := by simp; omega
  have wr1 : IntKind.i64.wrap (j + 1) = j + 1 := IntWalk.i64_in _ (by omega)
  have em : (len2 : Int).tmod (j + 1) = t := by rw [Int.tmod_eq_emod_of_nonneg (by omega)]; exact ht
  have wr2 : IntKind.i64.wrap t = t := IntWalk.i64_in _ (by omega)
  have wr3 : IntKind.i64.wrap (2 * t) = 2 * t := IntWalk.i64_in _ (by omega)
  have wr4 : IntKind.i64.wrap (2 * t - j) = m := by rw [IntWalk.i64_in _ (by omega)]; exact hm
  have jp : (0 : Int) < j + 1 := by omega
  go_wp2_with fail
  go_quiet (fail)
  rename_i nq
  clear ht em jz wr1 wr2 wr3 wr4 jp
  have Kz4_x : Blk ((w3.alloc (.cells #[.int .i64 N, .int .i64 D] 29)).drewN nq) (w1.heap.size) #[.int .i64 s, .int .i64 l, .int .i64 j] := (blk_drewN (blk_alloc Kw3_xH.out (.cells #[.int .i64 N, .int .i64 D] 29)) _)
  have Kz4_out : Blk ((w3.alloc (.cells #[.int .i64 N, .int .i64 D] 29)).drewN nq) (w2.heap.size) #[.int .i64 N, .int .i64 D] := (blk_drewN (blk_alloc Kw3_outH.out (.cells #[.int .i64 N, .int .i64 D] 29)) _)
  have Bz4 : Below w.heap.size w ((w3.alloc (.cells #[.int .i64 N, .int .i64 D] 29)).drewN nq) := by (repeat' (first | exact Below.refl _ _ | refine bl_out ?_ (by assumption) | exact (Hid.out (by assumption)) | refine bl_alloc ?_ _ | refine bl_drewN ?_ _ | refine bl_drew ?_ | refine bl_set ?_ ?_ _ | omega | (simp; done) | (simp; omega)))
  have Sz4 : ((w3.alloc (.cells #[.int .i64 N, .int .i64 D] 29)).drewN nq).heap.size = w3.heap.size + 1 := by simp
  generalize ((w3.alloc (.cells #[.int .i64 N, .int .i64 D] 29)).drewN nq) = z4 at *
  have Sz4a := Nat.le_of_eq Sz4
  have Sz4b := Nat.le_of_eq Sz4.symm
  clear Sz4
  obtain ⟨z4_c0_x, z4_c1_x, z4_c2_x, z4_f0_x, z4_f1_x, z4_f2_x⟩ := blk3 Kz4_x
  have Kz4_xH := Lib.hid Kz4_x
  have z4_l_x := Kz4_x.lt
  obtain ⟨z4_c0_out, z4_c1_out, z4_f0_out, z4_f1_out⟩ := blk2 Kz4_out
  have Kz4_outH := Lib.hid Kz4_out
  have z4_l_out := Kz4_out.lt
  have z4B := Lib.hid Bz4
  clear Bz4
  clear Kz4_x Kz4_out
  clear hm
  go_wp2_with fail
  refine (l_whole _ _).mono ?_
  rintro e w5 ⟨rfl, hb5⟩
  have Kw5_x : Blk w5 (w1.heap.size) #[.int .i64 s, .int .i64 l, .int .i64 j] := blk_later hb5 Kz4_xH.out
  have Kw5_out : Blk w5 (w2.heap.size) #[.int .i64 N, .int .i64 D] := blk_later hb5 Kz4_outH.out
  obtain ⟨w5_c0_x, w5_c1_x, w5_c2_x, w5_f0_x, w5_f1_x, w5_f2_x⟩ := blk3 Kw5_x
  have Kw5_xH := Lib.hid Kw5_x
  have w5_l_x := Kw5_x.lt
  have w5_m_x : w1.heap.size < w5.heap.size + 1 := by omega
  obtain ⟨w5_c0_out, w5_c1_out, w5_f0_out, w5_f1_out⟩ := blk2 Kw5_out
  have Kw5_outH := Lib.hid Kw5_out
  have w5_l_out := Kw5_out.lt
  have w5_m_out : w2.heap.size < w5.heap.size + 1 := by omega
  have w5z := hb5.size
  try simp at w5z
  have w5B := Lib.hid hb5
  clear Kw5_x Kw5_out
  clear hb5
  have hen : 0 - e = -e := by omega
  obtain ⟨A, hA⟩ := Int.eq_ofNat_of_zero_le he0
  have hA0 : (A : Int) ≤ e := by omega
  have hA1 : e ≤ (A : Int) := by omega
  clear hA
  go_wp2_with fail
  have Kz6_x : Blk (w5.alloc (.cells #[.int .i64 0, .int .i64 1] 29)) (w1.heap.size) #[.int .i64 s, .int .i64 l, .int .i64 j] := (blk_alloc Kw5_xH.out (.cells #[.int .i64 0, .int .i64 1] 29))
  have Kz6_out : Blk (w5.alloc (.cells #[.int .i64 0, .int .i64 1] 29)) (w2.heap.size) #[.int .i64 N, .int .i64 D] := (blk_alloc Kw5_outH.out (.cells #[.int .i64 0, .int .i64 1] 29))
  have Kz6_sum : Blk (w5.alloc (.cells #[.int .i64 0, .int .i64 1] 29)) (w5.heap.size) #[.int .i64 0, .int .i64 1] := (blk_new (by simp))
  have Bz6 : Below w.heap.size w (w5.alloc (.cells #[.int .i64 0, .int .i64 1] 29)) := by (repeat' (first | exact Below.refl _ _ | refine bl_out ?_ (by assumption) | exact (Hid.out (by assumption)) | refine bl_alloc ?_ _ | refine bl_drewN ?_ _ | refine bl_drew ?_ | refine bl_set ?_ ?_ _ | omega | (simp; done) | (simp; omega)))
  have Sz6 : (w5.alloc (.cells #[.int .i64 0, .int .i64 1] 29)).heap.size = w5.heap.size + 1 := by simp
  generalize (w5.alloc (.cells #[.int .i64 0, .int .i64 1] 29)) = z6 at *
  have Sz6a := Nat.le_of_eq Sz6
  have Sz6b := Nat.le_of_eq Sz6.symm
  clear Sz6
  obtain ⟨z6_c0_x, z6_c1_x, z6_c2_x, z6_f0_x, z6_f1_x, z6_f2_x⟩ := blk3 Kz6_x
  have Kz6_xH := Lib.hid Kz6_x
  have z6_l_x := Kz6_x.lt
  obtain ⟨z6_c0_out, z6_c1_out, z6_f0_out, z6_f1_out⟩ := blk2 Kz6_out
  have Kz6_outH := Lib.hid Kz6_out
  have z6_l_out := Kz6_out.lt
  obtain ⟨z6_c0_sum, z6_c1_sum, z6_f0_sum, z6_f1_sum⟩ := blk2 Kz6_sum
  have Kz6_sumH := Lib.hid Kz6_sum
  have z6_l_sum := Kz6_sum.lt
  have z6B := Lib.hid Bz6
  clear Bz6
  clear Kz6_x Kz6_out Kz6_sum
  go_loopw [14, 15, 16, 17, 18, 19, 20] (fun o p _ _ _ _ _ wr => ∃ (k : Nat) (N2 D2 : Int) (q : Bool), k ≤ A + 1 ∧ p = .int .i64 (-e + 2 * (k : Int)) ∧ o = .bool q ∧ fcSt e s j m k = (N2, D2, q) ∧ Blk wr (w5.heap.size) #[.int .i64 N2, .int .i64 D2] ∧ Blk wr (w1.heap.size) #[.int .i64 s, .int .i64 l, .int .i64 j] ∧ Blk wr (w2.heap.size) #[.int .i64 N, .int .i64 D] ∧ Below w.heap.size w wr) (fun _ p _ _ _ _ _ _ => (100 - intOf p).toNat)
  case atStart => exact ⟨0, 0, 1, true, by omega, by simp, rfl, rfl, Kz6_sumH.out, Kz6_xH.out, Kz6_outH.out, z6B.out⟩
  case round =>
    obtain ⟨k, N2, D2, q, hk, rfl, rfl, hst, KS, KX, KO, hnx⟩ := hrel
    have HST := Lib.hid hst
    have HN := Lib.hid hnx
    have hsz := hnx.size
    obtain ⟨ks0, ks1, ks2, ks3⟩ := blk2 KS
    obtain ⟨kx0, kx1, kx2, kx3, kx4, kx5⟩ := blk3 KX
    obtain ⟨ko0, ko1, ko2, ko3⟩ := blk2 KO
    have KSH := Lib.hid KS
    have KXH := Lib.hid KX
    have KOH := Lib.hid KO
    have ksl := KS.lt
    have kxl := KX.lt
    have kol := KO.lt
    clear hst hnx KS KX KO
    by_cases hlt : k ≤ A
    · cases hq : hasB s (m - (-e + 2 * (k : Int)))
      · have E := Lib.hid (fcSt_no (l := e) (j := j) hq)
        go_wp2_with (go_at_call 9; refine (i_SpinHas _ _ _).mono ?_; rintro e w' ⟨rfl, rfl⟩)
        go_roundw
        case rel => exact ⟨k + 1, N2, D2, q, by omega, by go_num, rfl, by rw [E.out]; exact HST.out, KSH.out, KXH.out, KOH.out, HN.out⟩
        case measure => simp [intOf]; omega
      · have hq2 := (hasB_iff.1 hq).2.1
        go_wp2_with (go_at_call 9; refine (i_SpinHas _ _ _).mono ?_; rintro e w' ⟨rfl, rfl⟩)
        refine (i_Clebsch _ _ _ _ _ _).mono ?_
        rintro e w21 ⟨rfl, hb21⟩
        have Kw21_x : Blk w21 (w1.heap.size) #[.int .i64 s, .int .i64 l, .int .i64 j] := blk_later hb21 KXH.out
        have Kw21_out : Blk w21 (w2.heap.size) #[.int .i64 N, .int .i64 D] := blk_later hb21 KOH.out
        have Kw21_sum : Blk w21 (w5.heap.size) #[.int .i64 N2, .int .i64 D2] := blk_later hb21 KSH.out
        obtain ⟨w21_c0_x, w21_c1_x, w21_c2_x, w21_f0_x, w21_f1_x, w21_f2_x⟩ := blk3 Kw21_x
        have Kw21_xH := Lib.hid Kw21_x
        have w21_l_x := Kw21_x.lt
        have w21_m_x : w1.heap.size < w21.heap.size + 1 := by omega
        obtain ⟨w21_c0_out, w21_c1_out, w21_f0_out, w21_f1_out⟩ := blk2 Kw21_out
        have Kw21_outH := Lib.hid Kw21_out
        have w21_l_out := Kw21_out.lt
        have w21_m_out : w2.heap.size < w21.heap.size + 1 := by omega
        obtain ⟨w21_c0_sum, w21_c1_sum, w21_f0_sum, w21_f1_sum⟩ := blk2 Kw21_sum
        have Kw21_sumH := Lib.hid Kw21_sum
        have w21_l_sum := Kw21_sum.lt
        have w21_m_sum : w5.heap.size < w21.heap.size + 1 := by omega
        have w21z := hb21.size
        try simp at w21z
        have w21B := Lib.hid hb21
        clear Kw21_x Kw21_out Kw21_sum
        clear hb21
        generalize hY : clebI e s j (-e + 2 * (k : Int)) (m - (-e + 2 * (k : Int))) = Y at *
        obtain ⟨S1, N1, D1, o1⟩ := Y
        obtain ⟨N4, D4, o4, hz⟩ := pair3 (ratMul N1 D1 (-e + 2 * (k : Int) + 2 * (m - (-e + 2 * (k : Int)))) 1)
        have E := Lib.hid (fcSt_yes hq HST.out hY hz)
        have HZ4 := Lib.hid hz
        clear hY hz
        simp only [rtv]
        have wq : IntKind.i64.wrap (2 * (m - (-e + 2 * (k : Int)))) = 2 * (m - (-e + 2 * (k : Int))) := IntWalk.i64_in _ (by omega)
        have wp : IntKind.i64.wrap (-e + 2 * (k : Int) + 2 * (m - (-e + 2 * (k : Int)))) = -e + 2 * (k : Int) + 2 * (m - (-e + 2 * (k : Int))) := IntWalk.i64_in _ (by omega)
        go_upto_region 21 with fail
        have Kz22_x : Blk (w21.alloc (.cells #[.int .i64 S1, .int .i64 N1, .int .i64 D1] 36)) (w1.heap.size) #[.int .i64 s, .int .i64 l, .int .i64 j] := (blk_alloc Kw21_xH.out (.cells #[.int .i64 S1, .int .i64 N1, .int .i64 D1] 36))
        have Kz22_out : Blk (w21.alloc (.cells #[.int .i64 S1, .int .i64 N1, .int .i64 D1] 36)) (w2.heap.size) #[.int .i64 N, .int .i64 D] := (blk_alloc Kw21_outH.out (.cells #[.int .i64 S1, .int .i64 N1, .int .i64 D1] 36))
        have Kz22_sum : Blk (w21.alloc (.cells #[.int .i64 S1, .int .i64 N1, .int .i64 D1] 36)) (w5.heap.size) #[.int .i64 N2, .int .i64 D2] := (blk_alloc Kw21_sumH.out (.cells #[.int .i64 S1, .int .i64 N1, .int .i64 D1] 36))
        have Kz22_y : Blk (w21.alloc (.cells #[.int .i64 S1, .int .i64 N1, .int .i64 D1] 36)) (w21.heap.size) #[.int .i64 S1, .int .i64 N1, .int .i64 D1] := (blk_new (by simp))
        have Bz22 : Below w.heap.size w (w21.alloc (.cells #[.int .i64 S1, .int .i64 N1, .int .i64 D1] 36)) := by (repeat' (first | exact Below.refl _ _ | refine bl_out ?_ (by assumption) | exact (Hid.out (by assumption)) | refine bl_alloc ?_ _ | refine bl_drewN ?_ _ | refine bl_drew ?_ | refine bl_set ?_ ?_ _ | omega | (simp; done) | (simp; omega)))
        have Sz22 : (w21.alloc (.cells #[.int .i64 S1, .int .i64 N1, .int .i64 D1] 36)).heap.size = w21.heap.size + 1 := by simp
        generalize (w21.alloc (.cells #[.int .i64 S1, .int .i64 N1, .int .i64 D1] 36)) = z22 at *
        have Sz22a := Nat.le_of_eq Sz22
        have Sz22b := Nat.le_of_eq Sz22.symm
        clear Sz22
        obtain ⟨z22_c0_x, z22_c1_x, z22_c2_x, z22_f0_x, z22_f1_x, z22_f2_x⟩ := blk3 Kz22_x
        have Kz22_xH := Lib.hid Kz22_x
        have z22_l_x := Kz22_x.lt
        obtain ⟨z22_c0_out, z22_c1_out, z22_f0_out, z22_f1_out⟩ := blk2 Kz22_out
        have Kz22_outH := Lib.hid Kz22_out
        have z22_l_out := Kz22_out.lt
        obtain ⟨z22_c0_sum, z22_c1_sum, z22_f0_sum, z22_f1_sum⟩ := blk2 Kz22_sum
        have Kz22_sumH := Lib.hid Kz22_sum
        have z22_l_sum := Kz22_sum.lt
        obtain ⟨z22_c0_y, z22_c1_y, z22_c2_y, z22_f0_y, z22_f1_y, z22_f2_y⟩ := blk3 Kz22_y
        have Kz22_yH := Lib.hid Kz22_y
        have z22_l_y := Kz22_y.lt
        have z22B := Lib.hid Bz22
        clear Bz22
        clear Kz22_x Kz22_out Kz22_sum Kz22_y
        go_cut [19, 20] (CutBlk z22 #[.int .i64 N4, .int .i64 D4] o4)
        case first =>
          go_region_held3 (fun w' => Below z22.heap.size z22 w' ∧ w'.cell? ⟨w21.heap.size, 0, none⟩ = some (.int .i64 S1) ∧ w'.cell? ⟨w21.heap.size, 1, none⟩ = some (.int .i64 N1) ∧ w'.cell? ⟨w21.heap.size, 2, none⟩ = some (.int .i64 D1)) ((refine and_keep ?_ (fun hB => ⟨held_cell hB z22_c0_y z22_l_y, held_cell hB z22_c1_y z22_l_y, held_cell hB z22_c2_y z22_l_y⟩); (repeat' (first | with_reducible exact Below.refl _ _ | with_reducible refine bl_alloc ?_ _ | with_reducible refine bl_set ?_ ?_ _ | exact (Below.refl _ _).drew | with_reducible refine bl_drew ?_ | with_reducible refine btr ?_ hbB | with_reducible refine btr ?_ hbA | omega | (simp; done) | (simp; omega))))) (first | (go_at_call 8; refine (l_whole _ _).mono ?_; rintro e wA ⟨rfl, hbA⟩; obtain ⟨hcA, hfA⟩ := bcell hbA; have hzA : z22.heap.size ≤ wA.heap.size := (by first | exact hbA.size | exact Nat.le_trans hzA hbA.size | (have h0 := hbA.size; (try simp at h0); omega)); (try (have hyA : z22.heap.size < wA.heap.size := by (have h0 := hbA.size; (try simp at h0); omega)))) | (go_at_call 11; refine (i_RatMul2 _ _ _ _ _ _ _ _ HZ4).mono ?_; rintro e wB ⟨rfl, hbB⟩; obtain ⟨hcB, hfB⟩ := bcell hbB; have hzB : z22.heap.size ≤ wB.heap.size := (by first | exact hbB.size | exact Nat.le_trans hzA hbB.size | (have h0 := hbB.size; (try simp at h0); omega)); (try (have hyB : z22.heap.size < wB.heap.size := by (have h0 := hbB.size; (try simp at h0); omega)))))
          all_goals
            go_wp2_with fail
            go_meet
            exact ⟨_, rfl, rfl, by (first | omega | (simp; omega)), by (repeat' (first | exact blk_new (by simp) | with_reducible refine blk_store2 (x := .int .i64 0) (y := .int .i64 0) ?_ | with_reducible refine blk_store3 (x := .int .i64 0) (y := .int .i64 0) (z := .int .i64 0) ?_ | with_reducible refine blk_drew ?_ | with_reducible refine blk_later hbB ?_ | with_reducible refine blk_later hbA ?_)), by (repeat' (first | with_reducible exact Below.refl _ _ | with_reducible refine bl_alloc ?_ _ | with_reducible refine bl_set ?_ ?_ _ | exact (Below.refl _ _).drew | with_reducible refine bl_drew ?_ | with_reducible refine btr ?_ hbB | with_reducible refine btr ?_ hbA | omega | (simp; done) | (simp; omega)))⟩
        case rest =>
          obtain ⟨g23, rfl, rfl, g23z, Kg23, hb23⟩ := hcut
          obtain ⟨w23, rfl⟩ : ∃ x, x = wc := ⟨_, rfl⟩
          have Kw23_x : Blk w23 (w1.heap.size) #[.int .i64 s, .int .i64 l, .int .i64 j] := blk_later hb23 Kz22_xH.out
          have Kw23_out : Blk w23 (w2.heap.size) #[.int .i64 N, .int .i64 D] := blk_later hb23 Kz22_outH.out
          have Kw23_sum : Blk w23 (w5.heap.size) #[.int .i64 N2, .int .i64 D2] := blk_later hb23 Kz22_sumH.out
          obtain ⟨w23_c0_x, w23_c1_x, w23_c2_x, w23_f0_x, w23_f1_x, w23_f2_x⟩ := blk3 Kw23_x
          have Kw23_xH := Lib.hid Kw23_x
          have w23_l_x := Kw23_x.lt
          have w23_m_x : w1.heap.size < w23.heap.size + 1 := by omega
          obtain ⟨w23_c0_out, w23_c1_out, w23_f0_out, w23_f1_out⟩ := blk2 Kw23_out
          have Kw23_outH := Lib.hid Kw23_out
          have w23_l_out := Kw23_out.lt
          have w23_m_out : w2.heap.size < w23.heap.size + 1 := by omega
          obtain ⟨w23_c0_sum, w23_c1_sum, w23_f0_sum, w23_f1_sum⟩ := blk2 Kw23_sum
          have Kw23_sumH := Lib.hid Kw23_sum
          have w23_l_sum := Kw23_sum.lt
          have w23_m_sum : w5.heap.size < w23.heap.size + 1 := by omega
          have w23z := hb23.size
          try simp at w23z
          have w23B := Lib.hid hb23
          clear Kw23_x Kw23_out Kw23_sum
          clear hb23
          obtain ⟨w23_c0_z, w23_c1_z, w23_f0_z, w23_f1_z⟩ := blk2 Kg23
          have Kg23H := Lib.hid Kg23
          have w23_l_z := Kg23.lt
          clear Kg23
          clear wq wp
          cases hc_q : q
          · subst hc_q
            go_wp2_with fail
            refine (l_addTo _ _ _ _ _ _).mono ?_
            rintro e w24 ⟨rfl, hb24⟩
            have Kw24_x : Blk w24 (w1.heap.size) #[.int .i64 s, .int .i64 l, .int .i64 j] := blk_later hb24 Kw23_xH.out
            have Kw24_out : Blk w24 (w2.heap.size) #[.int .i64 N, .int .i64 D] := blk_later hb24 Kw23_outH.out
            have Kw24_sum : Blk w24 (w5.heap.size) #[.int .i64 N2, .int .i64 D2] := blk_later hb24 Kw23_sumH.out
            obtain ⟨w24_c0_x, w24_c1_x, w24_c2_x, w24_f0_x, w24_f1_x, w24_f2_x⟩ := blk3 Kw24_x
            have Kw24_xH := Lib.hid Kw24_x
            have w24_l_x := Kw24_x.lt
            have w24_m_x : w1.heap.size < w24.heap.size + 1 := by omega
            obtain ⟨w24_c0_out, w24_c1_out, w24_f0_out, w24_f1_out⟩ := blk2 Kw24_out
            have Kw24_outH := Lib.hid Kw24_out
            have w24_l_out := Kw24_out.lt
            have w24_m_out : w2.heap.size < w24.heap.size + 1 := by omega
            obtain ⟨w24_c0_sum, w24_c1_sum, w24_f0_sum, w24_f1_sum⟩ := blk2 Kw24_sum
            have Kw24_sumH := Lib.hid Kw24_sum
            have w24_l_sum := Kw24_sum.lt
            have w24_m_sum : w5.heap.size < w24.heap.size + 1 := by omega
            have w24z := hb24.size
            try simp at w24z
            have w24B := Lib.hid hb24
            clear Kw24_x Kw24_out Kw24_sum
            clear hb24
            generalize hZ : ratAdd N2 D2 N4 D4 = Z at *
            obtain ⟨N3, D3, o3⟩ := Z
            have HZ := Lib.hid hZ
            clear hZ
            go_wp2_with fail
            go_roundw
            case rel => exact ⟨k + 1, N3, D3, _, by omega, by go_num, rfl, by rw [E.out]; simp, (blk_set (blk_set Kw24_sumH.out 0 (.int .i64 N3)) 1 (.int .i64 D3)), (blk_other (blk_other Kw24_xH.out (p := ⟨w5.heap.size, 0, none⟩) (v := .int .i64 N3) (by (first | omega | (simp; done) | (simp; omega)))) (p := ⟨w5.heap.size, 1, none⟩) (v := .int .i64 D3) (by (first | omega | (simp; done) | (simp; omega)))), (blk_other (blk_other Kw24_outH.out (p := ⟨w5.heap.size, 0, none⟩) (v := .int .i64 N3) (by (first | omega | (simp; done) | (simp; omega)))) (p := ⟨w5.heap.size, 1, none⟩) (v := .int .i64 D3) (by (first | omega | (simp; done) | (simp; omega)))), by (repeat' (first | exact Below.refl _ _ | refine bl_out ?_ (by assumption) | exact (Hid.out (by assumption)) | refine bl_alloc ?_ _ | refine bl_drewN ?_ _ | refine bl_drew ?_ | refine bl_set ?_ ?_ _ | omega | (simp; done) | (simp; omega)))⟩
            case measure => simp [intOf]; omega
          · subst hc_q
            cases hc_o1 : o1
            · subst hc_o1
              go_wp2_with fail
              refine (l_addTo _ _ _ _ _ _).mono ?_
              rintro e w24 ⟨rfl, hb24⟩
              have Kw24_x : Blk w24 (w1.heap.size) #[.int .i64 s, .int .i64 l, .int .i64 j] := blk_later hb24 Kw23_xH.out
              have Kw24_out : Blk w24 (w2.heap.size) #[.int .i64 N, .int .i64 D] := blk_later hb24 Kw23_outH.out
              have Kw24_sum : Blk w24 (w5.heap.size) #[.int .i64 N2, .int .i64 D2] := blk_later hb24 Kw23_sumH.out
              obtain ⟨w24_c0_x, w24_c1_x, w24_c2_x, w24_f0_x, w24_f1_x, w24_f2_x⟩ := blk3 Kw24_x
              have Kw24_xH := Lib.hid Kw24_x
              have w24_l_x := Kw24_x.lt
              have w24_m_x : w1.heap.size < w24.heap.size + 1 := by omega
              obtain ⟨w24_c0_out, w24_c1_out, w24_f0_out, w24_f1_out⟩ := blk2 Kw24_out
              have Kw24_outH := Lib.hid Kw24_out
              have w24_l_out := Kw24_out.lt
              have w24_m_out : w2.heap.size < w24.heap.size + 1 := by omega
              obtain ⟨w24_c0_sum, w24_c1_sum, w24_f0_sum, w24_f1_sum⟩ := blk2 Kw24_sum
              have Kw24_sumH := Lib.hid Kw24_sum
              have w24_l_sum := Kw24_sum.lt
              have w24_m_sum : w5.heap.size < w24.heap.size + 1 := by omega
              have w24z := hb24.size
              try simp at w24z
              have w24B := Lib.hid hb24
              clear Kw24_x Kw24_out Kw24_sum
              clear hb24
              generalize hZ : ratAdd N2 D2 N4 D4 = Z at *
              obtain ⟨N3, D3, o3⟩ := Z
              have HZ := Lib.hid hZ
              clear hZ
              go_wp2_with fail
              go_roundw
              case rel => exact ⟨k + 1, N3, D3, _, by omega, by go_num, rfl, by rw [E.out]; simp, (blk_set (blk_set Kw24_sumH.out 0 (.int .i64 N3)) 1 (.int .i64 D3)), (blk_other (blk_other Kw24_xH.out (p := ⟨w5.heap.size, 0, none⟩) (v := .int .i64 N3) (by (first | omega | (simp; done) | (simp; omega)))) (p := ⟨w5.heap.size, 1, none⟩) (v := .int .i64 D3) (by (first | omega | (simp; done) | (simp; omega)))), (blk_other (blk_other Kw24_outH.out (p := ⟨w5.heap.size, 0, none⟩) (v := .int .i64 N3) (by (first | omega | (simp; done) | (simp; omega)))) (p := ⟨w5.heap.size, 1, none⟩) (v := .int .i64 D3) (by (first | omega | (simp; done) | (simp; omega)))), by (repeat' (first | exact Below.refl _ _ | refine bl_out ?_ (by assumption) | exact (Hid.out (by assumption)) | refine bl_alloc ?_ _ | refine bl_drewN ?_ _ | refine bl_drew ?_ | refine bl_set ?_ ?_ _ | omega | (simp; done) | (simp; omega)))⟩
              case measure => simp [intOf]; omega
            · subst hc_o1
              go_wp2_with fail
              refine (l_addTo _ _ _ _ _ _).mono ?_
              rintro e w24 ⟨rfl, hb24⟩
              have Kw24_x : Blk w24 (w1.heap.size) #[.int .i64 s, .int .i64 l, .int .i64 j] := blk_later hb24 Kw23_xH.out
              have Kw24_out : Blk w24 (w2.heap.size) #[.int .i64 N, .int .i64 D] := blk_later hb24 Kw23_outH.out
              have Kw24_sum : Blk w24 (w5.heap.size) #[.int .i64 N2, .int .i64 D2] := blk_later hb24 Kw23_sumH.out
              obtain ⟨w24_c0_x, w24_c1_x, w24_c2_x, w24_f0_x, w24_f1_x, w24_f2_x⟩ := blk3 Kw24_x
              have Kw24_xH := Lib.hid Kw24_x
              have w24_l_x := Kw24_x.lt
              have w24_m_x : w1.heap.size < w24.heap.size + 1 := by omega
              obtain ⟨w24_c0_out, w24_c1_out, w24_f0_out, w24_f1_out⟩ := blk2 Kw24_out
              have Kw24_outH := Lib.hid Kw24_out
              have w24_l_out := Kw24_out.lt
              have w24_m_out : w2.heap.size < w24.heap.size + 1 := by omega
              obtain ⟨w24_c0_sum, w24_c1_sum, w24_f0_sum, w24_f1_sum⟩ := blk2 Kw24_sum
              have Kw24_sumH := Lib.hid Kw24_sum
              have w24_l_sum := Kw24_sum.lt
              have w24_m_sum : w5.heap.size < w24.heap.size + 1 := by omega
              have w24z := hb24.size
              try simp at w24z
              have w24B := Lib.hid hb24
              clear Kw24_x Kw24_out Kw24_sum
              clear hb24
              generalize hZ : ratAdd N2 D2 N4 D4 = Z at *
              obtain ⟨N3, D3, o3⟩ := Z
              have HZ := Lib.hid hZ
              clear hZ
              go_wp2_with fail
              go_roundw
              case rel => exact ⟨k + 1, N3, D3, _, by omega, by go_num, rfl, by rw [E.out]; simp, (blk_set (blk_set Kw24_sumH.out 0 (.int .i64 N3)) 1 (.int .i64 D3)), (blk_other (blk_other Kw24_xH.out (p := ⟨w5.heap.size, 0, none⟩) (v := .int .i64 N3) (by (first | omega | (simp; done) | (simp; omega)))) (p := ⟨w5.heap.size, 1, none⟩) (v := .int .i64 D3) (by (first | omega | (simp; done) | (simp; omega)))), (blk_other (blk_other Kw24_outH.out (p := ⟨w5.heap.size, 0, none⟩) (v := .int .i64 N3) (by (first | omega | (simp; done) | (simp; omega)))) (p := ⟨w5.heap.size, 1, none⟩) (v := .int .i64 D3) (by (first | omega | (simp; done) | (simp; omega)))), by (repeat' (first | exact Below.refl _ _ | refine bl_out ?_ (by assumption) | exact (Hid.out (by assumption)) | refine bl_alloc ?_ _ | refine bl_drewN ?_ _ | refine bl_drew ?_ | refine bl_set ?_ ?_ _ | omega | (simp; done) | (simp; omega)))⟩
              case measure => simp [intOf]; omega
    · obtain rfl : k = A + 1 := by omega
      obtain ⟨hy5, rfl⟩ : ratMul N D m 1 = (N2, D2, true) ∧ q = true := by
        have h0 := HP.out
        rw [show (e + 1).toNat = A + 1 by omega, HST.out] at h0
        exact h0
      have HY5 := Lib.hid hy5
      clear hy5
      go_upto_region 23 with fail
      have Kz61_out : Blk wr (w2.heap.size) #[.int .i64 N, .int .i64 D] := KOH.out
      have Kz61_sum : Blk wr (w5.heap.size) #[.int .i64 N2, .int .i64 D2] := KSH.out
      have Bz61 : Below w.heap.size w wr := by (repeat' (first | exact Below.refl _ _ | refine bl_out ?_ (by assumption) | exact (Hid.out (by assumption)) | refine bl_alloc ?_ _ | refine bl_drewN ?_ _ | refine bl_drew ?_ | refine bl_set ?_ ?_ _ | omega | (simp; done) | (simp; omega)))
      generalize wr = z61 at *
      obtain ⟨z61_c0_out, z61_c1_out, z61_f0_out, z61_f1_out⟩ := blk2 Kz61_out
      have Kz61_outH := Lib.hid Kz61_out
      have z61_l_out := Kz61_out.lt
      obtain ⟨z61_c0_sum, z61_c1_sum, z61_f0_sum, z61_f1_sum⟩ := blk2 Kz61_sum
      have Kz61_sumH := Lib.hid Kz61_sum
      have z61_l_sum := Kz61_sum.lt
      have z61B := Lib.hid Bz61
      clear Bz61
      clear Kz61_out Kz61_sum
      go_cut [21, 22] (CutBlk z61 #[.int .i64 N2, .int .i64 D2] true)
      case first =>
        go_region_held3 (fun w' => Below z61.heap.size z61 w' ∧ w'.cell? ⟨w2.heap.size, 0, none⟩ = some (.int .i64 N) ∧ w'.cell? ⟨w2.heap.size, 1, none⟩ = some (.int .i64 D) ∧ w'.cell? ⟨w5.heap.size, 0, none⟩ = some (.int .i64 N2) ∧ w'.cell? ⟨w5.heap.size, 1, none⟩ = some (.int .i64 D2)) ((refine and_keep ?_ (fun hB => ⟨held_cell hB z61_c0_out z61_l_out, held_cell hB z61_c1_out z61_l_out, held_cell hB z61_c0_sum z61_l_sum, held_cell hB z61_c1_sum z61_l_sum⟩); (repeat' (first | with_reducible exact Below.refl _ _ | with_reducible refine bl_alloc ?_ _ | with_reducible refine bl_set ?_ ?_ _ | exact (Below.refl _ _).drew | with_reducible refine bl_drew ?_ | with_reducible refine btr ?_ hbB | with_reducible refine btr ?_ hbA | omega | (simp; done) | (simp; omega))))) (first | (go_at_call 8; refine (l_whole _ _).mono ?_; rintro e wA ⟨rfl, hbA⟩; obtain ⟨hcA, hfA⟩ := bcell hbA; have hzA : z61.heap.size ≤ wA.heap.size := (by first | exact hbA.size | exact Nat.le_trans hzA hbA.size | (have h0 := hbA.size; (try simp at h0); omega)); (try (have hyA : z61.heap.size < wA.heap.size := by (have h0 := hbA.size; (try simp at h0); omega)))) | (go_at_call 11; refine (i_RatMul2 _ _ _ _ _ _ _ _ HY5).mono ?_; rintro e wB ⟨rfl, hbB⟩; obtain ⟨hcB, hfB⟩ := bcell hbB; have hzB : z61.heap.size ≤ wB.heap.size := (by first | exact hbB.size | exact Nat.le_trans hzA hbB.size | (have h0 := hbB.size; (try simp at h0); omega)); (try (have hyB : z61.heap.size < wB.heap.size := by (have h0 := hbB.size; (try simp at h0); omega)))))
        all_goals
          go_wp2_with fail
          go_meet
          exact ⟨_, rfl, rfl, by (first | omega | (simp; omega)), by (repeat' (first | exact blk_new (by simp) | with_reducible refine blk_store2 (x := .int .i64 0) (y := .int .i64 0) ?_ | with_reducible refine blk_store3 (x := .int .i64 0) (y := .int .i64 0) (z := .int .i64 0) ?_ | with_reducible refine blk_drew ?_ | with_reducible refine blk_later hbB ?_ | with_reducible refine blk_later hbA ?_)), by (repeat' (first | with_reducible exact Below.refl _ _ | with_reducible refine bl_alloc ?_ _ | with_reducible refine bl_set ?_ ?_ _ | exact (Below.refl _ _).drew | with_reducible refine bl_drew ?_ | with_reducible refine btr ?_ hbB | with_reducible refine btr ?_ hbA | omega | (simp; done) | (simp; omega)))⟩
      case rest =>
        obtain ⟨g62, rfl, rfl, g62z, Kg62, hb62⟩ := hcut
        obtain ⟨w62, rfl⟩ : ∃ x, x = wc := ⟨_, rfl⟩
        have Kw62_sum : Blk w62 (w5.heap.size) #[.int .i64 N2, .int .i64 D2] := blk_later hb62 Kz61_sumH.out
        obtain ⟨w62_c0_sum, w62_c1_sum, w62_f0_sum, w62_f1_sum⟩ := blk2 Kw62_sum
        have Kw62_sumH := Lib.hid Kw62_sum
        have w62_l_sum := Kw62_sum.lt
        have w62_m_sum : w5.heap.size < w62.heap.size + 1 := by omega
        have w62z := hb62.size
        try simp at w62z
        have w62B := Lib.hid hb62
        clear Kw62_sum
        clear hb62
        obtain ⟨w62_c0_y2, w62_c1_y2, w62_f0_y2, w62_f1_y2⟩ := blk2 Kg62
        have Kg62H := Lib.hid Kg62
        have w62_l_y2 := Kg62.lt
        clear Kg62
        go_wp2_with fail
        go_ret
        exact ⟨rfl, by (repeat' (first | exact Below.refl _ _ | refine bl_out ?_ (by assumption) | exact (Hid.out (by assumption)) | refine bl_alloc ?_ _ | refine bl_drewN ?_ _ | refine bl_drew ?_ | refine bl_set ?_ ?_ _ | omega | (simp; done) | (simp; omega)))⟩

end Go.Proofs.YtneihommpncegaaDoor
