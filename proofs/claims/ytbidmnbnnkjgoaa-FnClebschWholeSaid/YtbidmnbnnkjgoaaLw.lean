/- The walks of the laws that squares over couplings add up. -/
import Derived.Test.YtbidmnbnnkjgoaaCl
import Derived.Test.YtbidmnbnnkjgoaaB
import Derived.Test.YtbidmnbnnkjgoaaDr
import Derived.Test.YtbidmnbnnkjgoaaPw
import Derived.Test.YtbidmnbnnkjgoaaLv
namespace Go.Proofs.Ytbidmnbnnkjgoaa
open Go.RowKit
set_option linter.unusedVariables false

set_option maxRecDepth 100000 in
set_option maxHeartbeats 4000000 in
theorem l_FnClebschWhole (s : Option Addr) (len cap : Nat) (w : World) (h : Code w s len cap) (hl : len ≤ 9223372036854775807) (hc : cap ≤ 9223372036854775807) :
    Calls Try.prog 3 #[.slice s len cap] w (RTrueK w) := by
  have H := Lib.hid h
  clear h
  by_cases hbig : 1048576 < len
  · go_enter Try.func3, Try.ntmps3
    go_wp2_with fail
    go_ret
    exact ⟨rfl, Below.refl _ _⟩
  go_enter Try.func3, Try.ntmps3
  go_wp2_with fail
  refine (s_DrawClebsch s len cap w H.out hl hc).mono ?_
  rintro e w1 ⟨a, b, c, m, n, rfl, ⟨a0, a1⟩, ⟨b0, b1⟩, ⟨c0, c1⟩, ⟨m0, m1⟩, ⟨n0, n1⟩, hb1⟩
  have w1z := hb1.size
  try simp at w1z
  have w1B := Lib.hid hb1
  clear hb1
  go_wp2_with fail
  refine (i_Clebsch _ _ _ _ _ _).mono ?_
  rintro e w2 ⟨rfl, hb2⟩
  have w2z := hb2.size
  try simp at w2z
  have w2B := Lib.hid hb2
  clear hb2
  generalize hX : clebI a b c m n = XhX at *
  obtain ⟨S, N, D, o⟩ := XhX
  have HhX := Lib.hid hX
  clear hX
  simp only [rtv]
  go_wp2_with fail
  refine (s_Clebsch _ _ _ _ _ _).mono ?_
  rintro e w3 ⟨rfl, hb3⟩
  have Kw3_out : Blk w3 (w2.heap.size) #[.int .i64 S, .int .i64 N, .int .i64 D] := blk_later hb3 (blk_new (by simp))
  obtain ⟨w3_c0_out, w3_c1_out, w3_c2_out, w3_f0_out, w3_f1_out, w3_f2_out⟩ := blk3 Kw3_out
  have Kw3_outH := Lib.hid Kw3_out
  have w3_l_out := Kw3_out.lt
  have w3_m_out : w2.heap.size < w3.heap.size + 1 := by omega
  have w3z := hb3.size
  try simp at w3z
  have w3B := Lib.hid hb3
  clear Kw3_out
  clear hb3
  rw [HhX.out]
  simp only [rtv]
  cases o
  · go_wp2_with fail
    go_ret
    exact ⟨rfl, by (repeat' (first | exact Below.refl _ _ | refine bl_out ?_ (by assumption) | exact (Hid.out (by assumption)) | refine bl_alloc ?_ _ | refine bl_drewN ?_ _ | refine bl_drew ?_ | refine bl_set ?_ ?_ _ | omega | (simp; done) | (simp; omega)))⟩
  have OK := Lib.hid (clebI_ok HhX.out)
  have ht := tdB_iff.1 (cpOk_iff.1 OK.out).1
  have hm := hasB_iff.1 (cpOk_iff.1 OK.out).2.1
  have hn := hasB_iff.1 (cpOk_iff.1 OK.out).2.2
  by_cases h6 : 6 < a + b
  · obtain ⟨⟨v1, v2⟩, v3, v4, v5⟩ := rootOk_iff (show rootOk S N D = true by have := all5_of okValid_all OK.out; simp only [okValid, HhX.out] at this; exact this)
    have V3 := Lib.hid v3
    have V5 := Lib.hid v5
    clear v3 v5
    go_wp2_with fail
    refine (i_RootValid _ _ _ _ v1 v2 V3.out v4 V5.out).mono ?_
    rintro e w4 ⟨rfl, hb4⟩
    have Kw4_out : Blk w4 (w2.heap.size) #[.int .i64 S, .int .i64 N, .int .i64 D] := blk_later hb4 (blk_alloc Kw3_outH.out (.cells #[.int .i64 S, .int .i64 N, .int .i64 D] 28))
    obtain ⟨w4_c0_out, w4_c1_out, w4_c2_out, w4_f0_out, w4_f1_out, w4_f2_out⟩ := blk3 Kw4_out
    have Kw4_outH := Lib.hid Kw4_out
    have w4_l_out := Kw4_out.lt
    have w4_m_out : w2.heap.size < w4.heap.size + 1 := by omega
    have w4z := hb4.size
    try simp at w4z
    have w4B := Lib.hid hb4
    clear Kw4_out
    clear hb4
    go_wp2_with fail
    go_ret
    exact ⟨rfl, by (repeat' (first | exact Below.refl _ _ | refine bl_out ?_ (by assumption) | exact (Hid.out (by assumption)) | refine bl_alloc ?_ _ | refine bl_drewN ?_ _ | refine bl_drew ?_ | refine bl_set ?_ ?_ _ | omega | (simp; done) | (simp; omega)))⟩
  have P := all5_of okWhole_all OK.out
  simp only [okWhole] at P
  have HP := Lib.hid (show whSt a b m n (coupledL a b) (coupledL a b).length = (1, 1, true) by simpa [h6] using P)
  clear P
  obtain ⟨l1, l2⟩ := coupled_len (a := a) (b := b) (by omega) (by omega)
  have PB : Hid (∀ j, j < (coupledL a b).length → 0 ≤ (coupledL a b).getD j 0 ∧ (coupledL a b).getD j 0 ≤ 12) := Lib.hid (fun j hj => coupled_bd (by omega) (by omega) hj)
  go_wp2_with fail
  refine (i_SpinCoupled _ _ _).mono ?_
  rintro e w4 ⟨v, rfl, hv, hb4⟩
  have w4z := hb4.size
  try simp at w4z
  have w4B := Lib.hid hb4
  clear hb4
  obtain ⟨v1, cp, rfl, m1, hcell⟩ := hv.opened
  rcases hcell with hcell | ⟨g, rfl, hg1, hg2, hcell⟩
  · rw [hcell] at l1; simp at l1
  have C := Lib.hid hcell
  clear hcell hv m1
  generalize hL : coupledL a b = L at *
  clear hL
  generalize hN : L.length = NL at *
  have HN := Lib.hid hN
  clear hN
  go_wp2_with fail
  refine (l_whole _ _).mono ?_
  rintro e w5 ⟨rfl, hb5⟩
  have w5z := hb5.size
  try simp at w5z
  have w5B := Lib.hid hb5
  clear hb5
  have gs : g < w5.heap.size := Nat.lt_of_lt_of_le hg2 w5z
  have CS : Hid (∀ j, j < NL → w5.cell? ⟨g, j, none⟩ = some (.int .i64 (L.getD j 0))) := Lib.hid (fun j hj => by rw [w5B.out.cell (p := ⟨g, j, none⟩) hg2]; exact C.out j hj)
  clear C
  have BS : Hid (Below w.heap.size w w5) := Lib.hid (by (repeat' (first | exact Below.refl _ _ | refine bl_out ?_ (by assumption) | exact (Hid.out (by assumption)) | refine bl_alloc ?_ _ | refine bl_drewN ?_ _ | refine bl_drew ?_ | refine bl_set ?_ ?_ _ | omega | (simp; done) | (simp; omega))))
  go_wp2_with fail
  go_loopw [9, 14, 15, 16] (fun o i _ _ wr => ∃ (j : Nat) (N D : Int) (q : Bool), j ≤ NL ∧ i = .int .i64 j ∧ o = .bool q ∧ whSt a b m n L j = (N, D, q) ∧ Blk wr (w5.heap.size) #[.int .i64 N, .int .i64 D] ∧ Below w5.heap.size w5 wr) (fun _ i _ _ _ => NL - (intOf i).toNat)
  case atStart => exact ⟨0, 0, 1, true, by omega, rfl, rfl, rfl, (blk_new (by simp)), (Below.refl _ _).alloc (Nat.le_refl _) _⟩
  case round =>
    obtain ⟨j, N2, D2, q, hj, rfl, rfl, hst, KS, hnx⟩ := hrel
    have HST := Lib.hid hst
    have HNX := Lib.hid hnx
    have hsz := hnx.size
    obtain ⟨ks0, ks1, ks2, ks3⟩ := blk2 KS
    have KSH := Lib.hid KS
    have ksl := KS.lt
    clear hst KS
    by_cases hlt : j < NL
    · have cc := CS.out j hlt
      rw [← hnx.cell (p := ⟨g, j, none⟩) gs] at cc
      have gl : g < wr.heap.size := Nat.lt_of_lt_of_le gs hsz
      obtain ⟨d0, d1⟩ := PB.out j hlt
      clear hnx
      generalize hd : L.getD j 0 = d at *
      have HD := Lib.hid hd
      clear hd
      go_wp2_with fail
      refine (i_Clebsch _ _ _ _ _ _).mono ?_
      rintro e w21 ⟨rfl, hb21⟩
      have Kw21_sum : Blk w21 (w5.heap.size) #[.int .i64 N2, .int .i64 D2] := blk_later hb21 KSH.out
      obtain ⟨w21_c0_sum, w21_c1_sum, w21_f0_sum, w21_f1_sum⟩ := blk2 Kw21_sum
      have Kw21_sumH := Lib.hid Kw21_sum
      have w21_l_sum := Kw21_sum.lt
      have w21_m_sum : w5.heap.size < w21.heap.size + 1 := by omega
      have w21z := hb21.size
      try simp at w21z
      have w21B := Lib.hid hb21
      clear Kw21_sum
      clear hb21
      generalize hY : clebI a b d m n = Y at *
      obtain ⟨S1, N1, D1, o1⟩ := Y
      have E := Lib.hid (whSt_next HST.out (show clebI a b (L.getD j 0) m n = (S1, N1, D1, o1) by rw [HD.out]; exact hY))
      clear hY
      simp only [rtv]
      cases hqq : q
      · subst hqq
        go_wp2_with fail
        refine (l_addTo _ _ _ _ _ _).mono ?_
        rintro e w22 ⟨rfl, hb22⟩
        have Kw22_sum : Blk w22 (w5.heap.size) #[.int .i64 N2, .int .i64 D2] := blk_later hb22 (blk_alloc Kw21_sumH.out (.cells #[.int .i64 S1, .int .i64 N1, .int .i64 D1] 28))
        have Kw22_x : Blk w22 (w21.heap.size) #[.int .i64 S1, .int .i64 N1, .int .i64 D1] := blk_later hb22 (blk_new (by simp))
        obtain ⟨w22_c0_sum, w22_c1_sum, w22_f0_sum, w22_f1_sum⟩ := blk2 Kw22_sum
        have Kw22_sumH := Lib.hid Kw22_sum
        have w22_l_sum := Kw22_sum.lt
        have w22_m_sum : w5.heap.size < w22.heap.size + 1 := by omega
        obtain ⟨w22_c0_x, w22_c1_x, w22_c2_x, w22_f0_x, w22_f1_x, w22_f2_x⟩ := blk3 Kw22_x
        have Kw22_xH := Lib.hid Kw22_x
        have w22_l_x := Kw22_x.lt
        have w22_m_x : w21.heap.size < w22.heap.size + 1 := by omega
        have w22z := hb22.size
        try simp at w22z
        have w22B := Lib.hid hb22
        clear Kw22_sum Kw22_x
        clear hb22
        generalize hZ : ratAdd N2 D2 N1 D1 = Z at *
        obtain ⟨N3, D3, o3⟩ := Z
        have HZ := Lib.hid hZ
        clear hZ
        go_wp2_with fail
        have BW : Below w5.heap.size w5 w22 := btr (bl_alloc (btr HNX.out w21B.out) _) w22B.out
        have hszw := BW.size
        go_roundw
        case rel => exact ⟨j + 1, N3, D3, _, by omega, by go_num, rfl, by rw [E.out]; simp, (blk_set (blk_set Kw22_sumH.out 0 (.int .i64 N3)) 1 (.int .i64 D3)), (BW.setCell (by (first | omega | (simp; done) | (simp; omega))) _).setCell (by (first | omega | (simp; done) | (simp; omega))) _⟩
        case measure => simp [intOf]; omega
      · subst hqq
        go_wp2_with fail
        refine (l_addTo _ _ _ _ _ _).mono ?_
        rintro e w22 ⟨rfl, hb22⟩
        have Kw22_sum : Blk w22 (w5.heap.size) #[.int .i64 N2, .int .i64 D2] := blk_later hb22 (blk_alloc Kw21_sumH.out (.cells #[.int .i64 S1, .int .i64 N1, .int .i64 D1] 28))
        have Kw22_x : Blk w22 (w21.heap.size) #[.int .i64 S1, .int .i64 N1, .int .i64 D1] := blk_later hb22 (blk_new (by simp))
        obtain ⟨w22_c0_sum, w22_c1_sum, w22_f0_sum, w22_f1_sum⟩ := blk2 Kw22_sum
        have Kw22_sumH := Lib.hid Kw22_sum
        have w22_l_sum := Kw22_sum.lt
        have w22_m_sum : w5.heap.size < w22.heap.size + 1 := by omega
        obtain ⟨w22_c0_x, w22_c1_x, w22_c2_x, w22_f0_x, w22_f1_x, w22_f2_x⟩ := blk3 Kw22_x
        have Kw22_xH := Lib.hid Kw22_x
        have w22_l_x := Kw22_x.lt
        have w22_m_x : w21.heap.size < w22.heap.size + 1 := by omega
        have w22z := hb22.size
        try simp at w22z
        have w22B := Lib.hid hb22
        clear Kw22_sum Kw22_x
        clear hb22
        generalize hZ : ratAdd N2 D2 N1 D1 = Z at *
        obtain ⟨N3, D3, o3⟩ := Z
        have HZ := Lib.hid hZ
        clear hZ
        go_wp2_with fail
        have BW : Below w5.heap.size w5 w22 := btr (bl_alloc (btr HNX.out w21B.out) _) w22B.out
        have hszw := BW.size
        go_roundw
        case rel => exact ⟨j + 1, N3, D3, _, by omega, by go_num, rfl, by rw [E.out]; simp, (blk_set (blk_set Kw22_sumH.out 0 (.int .i64 N3)) 1 (.int .i64 D3)), (BW.setCell (by (first | omega | (simp; done) | (simp; omega))) _).setCell (by (first | omega | (simp; done) | (simp; omega))) _⟩
        case measure => simp [intOf]; omega
    · obtain rfl : j = NL := by omega
      have HP2 := HP.out
      rw [HST.out] at HP2
      injection HP2 with e1 e2
      injection e2 with e2 e3
      subst e1 e2 e3
      have BN : Hid (Below w.heap.size w wr) := Lib.hid (btr BS.out HNX.out)
      go_wp2_with fail
      have Kz61_sum : Blk wr (w5.heap.size) #[.int .i64 1, .int .i64 1] := KSH.out
      have Bz61 : Below w.heap.size w wr := by (repeat' (first | exact Below.refl _ _ | refine bl_out ?_ (by assumption) | exact (Hid.out (by assumption)) | refine bl_alloc ?_ _ | refine bl_drewN ?_ _ | refine bl_drew ?_ | refine bl_set ?_ ?_ _ | omega | (simp; done) | (simp; omega)))
      generalize wr = z61 at *
      obtain ⟨z61_c0_sum, z61_c1_sum, z61_f0_sum, z61_f1_sum⟩ := blk2 Kz61_sum
      have Kz61_sumH := Lib.hid Kz61_sum
      have z61_l_sum := Kz61_sum.lt
      have z61B := Lib.hid Bz61
      clear Bz61
      clear Kz61_sum
      go_region_held3 (fun w' => Below z61.heap.size z61 w' ∧ w'.cell? ⟨w5.heap.size, 0, none⟩ = some (.int .i64 1) ∧ w'.cell? ⟨w5.heap.size, 1, none⟩ = some (.int .i64 1)) ((refine and_keep ?_ (fun hB => ⟨held_cell hB z61_c0_sum z61_l_sum, held_cell hB z61_c1_sum z61_l_sum⟩); (repeat' (first | exact (Below.refl _ _).drew | exact Below.refl _ _ | exact And.left (by assumption) | refine bl_alloc ?_ _ | refine bl_drew ?_ | refine bl_set ?_ ?_ _ | refine btr ?_ (by assumption) | omega | (simp; done) | (simp; omega))))) (first | (go_at_call 20; refine (l_whole _ _).mono ?_; rintro e w' ⟨rfl, hb'⟩))
      go_wp2_with fail
      go_ret
      exact ⟨rfl, btr z61B.out (by (repeat' (first | exact (Below.refl _ _).drew | exact Below.refl _ _ | exact And.left (by assumption) | refine bl_alloc ?_ _ | refine bl_drew ?_ | refine bl_set ?_ ?_ _ | refine btr ?_ (by assumption) | omega | (simp; done) | (simp; omega))))⟩

end Go.Proofs.Ytbidmnbnnkjgoaa
