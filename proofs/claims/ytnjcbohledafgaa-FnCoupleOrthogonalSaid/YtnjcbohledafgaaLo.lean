/- The walk of the law that different sums are orthogonal. -/
import Derived.Test.YtnjcbohledafgaaK3
import Derived.Test.YtnjcbohledafgaaB
import Derived.Test.YtnjcbohledafgaaDr
import Derived.Test.YtnjcbohledafgaaPo
import Derived.Test.YtnjcbohledafgaaLv
namespace Go.Proofs.Ytnjcbohledafgaa
open Go.RowKit
set_option linter.unusedVariables false

set_option maxRecDepth 100000 in
set_option maxHeartbeats 4000000 in
theorem l_FnCoupleOrthogonal (s : Option Addr) (len cap : Nat) (w : World) (h : Code w s len cap) (hl : len ≤ 9223372036854775807) (hc : cap ≤ 9223372036854775807) :
    Calls Try.prog 7 #[.slice s len cap] w (RTrueK w) := by
  have H := Lib.hid h
  clear h
  by_cases hbig : 1048576 < len
  · go_enter Try.func7, Try.ntmps7
    go_wp2_with fail
    go_ret
    exact ⟨rfl, Below.refl _ _⟩
  go_enter Try.func7, Try.ntmps7
  go_wp2_with fail
  refine (s_DrawCoupleSum s len cap w H.out hl hc).mono ?_
  rintro e w1 ⟨a, b, c, m, n, rfl, ⟨a0, a1⟩, ⟨b0, b1⟩, ⟨c0, c1⟩, ⟨m0, m1⟩, ⟨n0, n1⟩, hb1⟩
  have B1 := Lib.hid hb1
  clear hb1
  go_wp2_with fail
  refine (i_CoupleSum _ _ _ _ _ _).mono ?_
  rintro e w2 ⟨rfl, hb2⟩
  have B2 := Lib.hid hb2
  clear hb2
  go_wp2_with fail
  refine (s_CoupleSum _ _ _ _ _ _).mono ?_
  rintro e w3 ⟨rfl, rfl⟩
  have B := Lib.hid (btr B1.out B2.out)
  clear B1 B2
  by_cases hz : coupleI a b c m n = 0
  · have hz' : (coupleI a b c m n == 0) = true := by simp [hz]
    clear hz
    go_wp2_with fail
    go_ret
    exact ⟨rfl, B.out⟩
  have hz' : (coupleI a b c m n == 0) = false := by simp [hz]
  obtain ⟨hok, hhas⟩ := couple_ne hz
  have hk := cpOk_iff.1 hok
  have ht := tdB_iff.1 hk.1
  have hm := hasB_iff.1 hk.2.1
  have hn := hasB_iff.1 hk.2.2
  have hcm := hasB_iff.1 hhas
  have OK := Lib.hid hok
  have HAS := Lib.hid hhas
  clear hz hok hhas hk
  go_wp2_with fail
  refine (i_SpinCoupled _ _ _).mono ?_
  rintro e w3 ⟨v, rfl, hv, hb3⟩
  have B3 := Lib.hid (btr B.out hb3)
  obtain ⟨l1, l2⟩ := coupled_len (a := a) (b := b) (by omega) (by omega)
  obtain ⟨v1, cp, rfl, m1, hcell⟩ := hv.opened
  rcases hcell with hcell | ⟨g, rfl, _, hg2, hcell⟩
  · rw [hcell] at l1; simp at l1
  have C := Lib.hid hcell
  clear hcell hv hb3 m1
  have HT := Lib.hid (cpOk_iff.1 OK.out).1
  have PB : Hid (∀ j, j < (coupledL a b).length → 0 ≤ (coupledL a b).getD j 0 ∧ (coupledL a b).getD j 0 ≤ 12) := Lib.hid (fun j hj => coupled_bd (by omega) (by omega) hj)
  have PO : Hid (∀ j, j < (coupledL a b).length → (coupledL a b).getD j 0 ≠ c → (coupledL a b).getD j 0 ≤ 6 → hasB ((coupledL a b).getD j 0) (m + n) = true → orSt a b c ((coupledL a b).getD j 0) (m + n) (a + 1).toNat = (0, 1, true)) := Lib.hid (fun j hj h1 h2 h3 => okOrth_of HT.out HAS.out hj h1 h2 h3)
  generalize hL : coupledL a b = L at *
  clear hL
  generalize hN : L.length = NL at *
  have HN := Lib.hid hN
  clear hN
  obtain ⟨A, hA⟩ := Int.eq_ofNat_of_zero_le (show 0 ≤ a by omega)
  have hA0 : (A : Int) ≤ a := by omega
  have hA1 : a ≤ (A : Int) := by omega
  clear hA
  go_wp2_with fail
  go_loopw [11, 12, 13, 14, 15, 16, 17, 18] (fun i _ _ _ _ _ _ _ wr => ∃ j : Nat, j ≤ NL ∧ i = .int .i64 j ∧ Below w3.heap.size w3 wr) (fun i _ _ _ _ _ _ _ _ => NL - (intOf i).toNat)
  case atStart => exact ⟨0, Nat.zero_le _, rfl, Below.refl _ _⟩
  case round =>
    obtain ⟨j, hj, rfl, hnx⟩ := hrel
    obtain ⟨wo, rfl⟩ : ∃ wo : World, wo = wr := ⟨_, rfl⟩
    have HN1 := Lib.hid hnx
    have hsz := hnx.size
    by_cases hlt : j < NL
    · have cc := C.out j hlt
      rw [← hnx.cell (p := ⟨g, j, none⟩) hg2] at cc
      obtain ⟨d0, d1⟩ := PB.out j hlt
      have P1 := Lib.hid (PO.out j hlt)
      clear hnx
      generalize L.getD j 0 = d at *
      by_cases h1 : d = c
      · subst h1
        go_wp2_with (go_at_call 20; refine (i_SpinHas _ _ _).mono ?_; rintro e w' ⟨rfl, rfl⟩)
        go_roundw
        case rel => exact ⟨j + 1, by omega, by go_num, HN1.out⟩
        case measure => simp [intOf]; omega
      have h1b : (d == c) = false := by simp [h1]
      by_cases h2 : 6 < d
      · clear h1
        go_wp2_with (go_at_call 20; refine (i_SpinHas _ _ _).mono ?_; rintro e w' ⟨rfl, rfl⟩)
        go_roundw
        case rel => exact ⟨j + 1, by omega, by go_num, HN1.out⟩
        case measure => simp [intOf]; omega
      cases h3 : hasB d (m + n)
      · clear h1
        go_wp2_with (go_at_call 20; refine (i_SpinHas _ _ _).mono ?_; rintro e w' ⟨rfl, rfl⟩)
        go_roundw
        case rel => exact ⟨j + 1, by omega, by go_num, HN1.out⟩
        case measure => simp [intOf]; omega
      have P2 := Lib.hid (P1.out h1 (by omega) h3)
      clear h1
      go_wp2_with (go_at_call 20; refine (i_SpinHas _ _ _).mono ?_; rintro e w' ⟨rfl, rfl⟩)
      refine (l_whole _ _).mono ?_
      rintro e w31 ⟨rfl, hb31⟩
      have w31z := hb31.size
      try simp at w31z
      have w31B := Lib.hid hb31
      clear hb31
      go_wp2_with fail
      have BB : Below w3.heap.size w3 w31 := btr HN1.out w31B.out
      have hsz3 := BB.size
      have HBB := Lib.hid BB
      clear BB
      go_loopw [14, 15, 16, 17, 18] (fun o p _ _ _ wr => ∃ (k : Nat) (N D : Int) (q : Bool), k ≤ A + 1 ∧ p = .int .i64 (-a + 2 * (k : Int)) ∧ o = .bool q ∧ orSt a b c d (m + n) k = (N, D, q) ∧ Blk wr (w31.heap.size) #[.int .i64 N, .int .i64 D] ∧ Below w3.heap.size w3 wr) (fun _ p _ _ _ _ => (100 - intOf p).toNat)
      case atStart => exact ⟨0, 0, 1, true, by omega, by simp, rfl, rfl, (blk_new (by simp)), HBB.out.alloc hsz3 _⟩
      case round =>
        obtain ⟨k, N2, D2, q, hk, rfl, rfl, hst, KS, hnx⟩ := hrel
        have HST := Lib.hid hst
        have HN2 := Lib.hid hnx
        have hsz2 := hnx.size
        obtain ⟨ks0, ks1, ks2, ks3⟩ := blk2 KS
        have KSH := Lib.hid KS
        have ksl := KS.lt
        clear hst hnx KS
        by_cases hlt2 : k ≤ A
        · cases hq : hasB b (m + n - (-a + 2 * (k : Int)))
          · have E := Lib.hid (orSt_no (a := a) (c := c) (d := d) hq)
            go_wp2_with (go_at_call 20; refine (i_SpinHas _ _ _).mono ?_; rintro e w' ⟨rfl, rfl⟩)
            go_roundw
            case rel => exact ⟨k + 1, N2, D2, q, by omega, by go_num, rfl, by rw [E.out]; exact HST.out, KSH.out, HN2.out⟩
            case measure => simp [intOf]; omega
          · have hq2 := hasB_iff.1 hq
            obtain ⟨x1, x2⟩ := coupleI_bd a b c (-a + 2 * (k : Int)) (m + n - (-a + 2 * (k : Int)))
            obtain ⟨x3, x4⟩ := coupleI_bd a b d (-a + 2 * (k : Int)) (m + n - (-a + 2 * (k : Int)))
            obtain ⟨x5, x6⟩ := mul_bd (A := 2000000) (B := 2000000) x1 x2 x3 x4
            obtain ⟨y1, y2⟩ := chooseI_bd (n := a) (k := (a - (-a + 2 * (k : Int))) / 2) 6 (by omega) (by omega) (by omega)
            obtain ⟨y3, y4⟩ := chooseI_bd (n := b) (k := (b - (m + n - (-a + 2 * (k : Int)))) / 2) 6 (by omega) (by omega) (by omega)
            obtain ⟨y5, y6⟩ := mul_bd (A := 64) (B := 64) (a := chooseI a ((a - (-a + 2 * (k : Int))) / 2)) (b := chooseI b ((b - (m + n - (-a + 2 * (k : Int)))) / 2)) (by omega) (by omega) (by omega) (by omega)
            go_wp2_with (go_at_call 20; refine (i_SpinHas _ _ _).mono ?_; rintro e w' ⟨rfl, rfl⟩)
            refine (i_CoupleSum _ _ _ _ _ _).mono ?_
            rintro e w51 ⟨rfl, hb51⟩
            have Kw51_sum : Blk w51 (w31.heap.size) #[.int .i64 N2, .int .i64 D2] := blk_later hb51 KSH.out
            obtain ⟨w51_c0_sum, w51_c1_sum, w51_f0_sum, w51_f1_sum⟩ := blk2 Kw51_sum
            have Kw51_sumH := Lib.hid Kw51_sum
            have w51_l_sum := Kw51_sum.lt
            have w51_m_sum : w31.heap.size < w51.heap.size + 1 := by omega
            have w51z := hb51.size
            try simp at w51z
            have w51B := Lib.hid hb51
            clear Kw51_sum
            clear hb51
            go_wp2_with fail
            refine (i_CoupleSum _ _ _ _ _ _).mono ?_
            rintro e w52 ⟨rfl, hb52⟩
            have Kw52_sum : Blk w52 (w31.heap.size) #[.int .i64 N2, .int .i64 D2] := blk_later hb52 Kw51_sumH.out
            obtain ⟨w52_c0_sum, w52_c1_sum, w52_f0_sum, w52_f1_sum⟩ := blk2 Kw52_sum
            have Kw52_sumH := Lib.hid Kw52_sum
            have w52_l_sum := Kw52_sum.lt
            have w52_m_sum : w31.heap.size < w52.heap.size + 1 := by omega
            have w52z := hb52.size
            try simp at w52z
            have w52B := Lib.hid hb52
            clear Kw52_sum
            clear hb52
            go_wp2_with fail
            refine (i_Choose _ _ _).mono ?_
            rintro e w53 ⟨rfl, hb53⟩
            have Kw53_sum : Blk w53 (w31.heap.size) #[.int .i64 N2, .int .i64 D2] := blk_later hb53 Kw52_sumH.out
            obtain ⟨w53_c0_sum, w53_c1_sum, w53_f0_sum, w53_f1_sum⟩ := blk2 Kw53_sum
            have Kw53_sumH := Lib.hid Kw53_sum
            have w53_l_sum := Kw53_sum.lt
            have w53_m_sum : w31.heap.size < w53.heap.size + 1 := by omega
            have w53z := hb53.size
            try simp at w53z
            have w53B := Lib.hid hb53
            clear Kw53_sum
            clear hb53
            go_wp2_with fail
            refine (i_Choose _ _ _).mono ?_
            rintro e w54 ⟨rfl, hb54⟩
            have Kw54_sum : Blk w54 (w31.heap.size) #[.int .i64 N2, .int .i64 D2] := blk_later hb54 Kw53_sumH.out
            obtain ⟨w54_c0_sum, w54_c1_sum, w54_f0_sum, w54_f1_sum⟩ := blk2 Kw54_sum
            have Kw54_sumH := Lib.hid Kw54_sum
            have w54_l_sum := Kw54_sum.lt
            have w54_m_sum : w31.heap.size < w54.heap.size + 1 := by omega
            have w54z := hb54.size
            try simp at w54z
            have w54B := Lib.hid hb54
            clear Kw54_sum
            clear hb54
            go_wp2_with fail
            refine (i_RatOf _ _ _).mono ?_
            rintro e w55 ⟨rfl, hb55⟩
            have Kw55_sum : Blk w55 (w31.heap.size) #[.int .i64 N2, .int .i64 D2] := blk_later hb55 Kw54_sumH.out
            obtain ⟨w55_c0_sum, w55_c1_sum, w55_f0_sum, w55_f1_sum⟩ := blk2 Kw55_sum
            have Kw55_sumH := Lib.hid Kw55_sum
            have w55_l_sum := Kw55_sum.lt
            have w55_m_sum : w31.heap.size < w55.heap.size + 1 := by omega
            have w55z := hb55.size
            try simp at w55z
            have w55B := Lib.hid hb55
            clear Kw55_sum
            clear hb55
            generalize hY : ratOf (coupleI a b c (-a + 2 * (k : Int)) (m + n - (-a + 2 * (k : Int))) * coupleI a b d (-a + 2 * (k : Int)) (m + n - (-a + 2 * (k : Int)))) (chooseI a ((a - (-a + 2 * (k : Int))) / 2) * chooseI b ((b - (m + n - (-a + 2 * (k : Int)))) / 2)) = Y at *
            obtain ⟨N1, D1, o1⟩ := Y
            have E := Lib.hid (orSt_yes hq HST.out (show orX a b c d (-a + 2 * (k : Int)) (m + n - (-a + 2 * (k : Int))) = (N1, D1, o1) from hY))
            clear hY
            simp only [rv]
            cases hqq : q
            · subst hqq
              go_wp2_with fail
              refine (l_addTo _ _ _ _ _ _).mono ?_
              rintro e w56 ⟨rfl, hb56⟩
              have Kw56_sum : Blk w56 (w31.heap.size) #[.int .i64 N2, .int .i64 D2] := blk_later hb56 (blk_alloc Kw55_sumH.out (.cells #[.int .i64 N1, .int .i64 D1] 33))
              have Kw56_x : Blk w56 (w55.heap.size) #[.int .i64 N1, .int .i64 D1] := blk_later hb56 (blk_new (by simp))
              obtain ⟨w56_c0_sum, w56_c1_sum, w56_f0_sum, w56_f1_sum⟩ := blk2 Kw56_sum
              have Kw56_sumH := Lib.hid Kw56_sum
              have w56_l_sum := Kw56_sum.lt
              have w56_m_sum : w31.heap.size < w56.heap.size + 1 := by omega
              obtain ⟨w56_c0_x, w56_c1_x, w56_f0_x, w56_f1_x⟩ := blk2 Kw56_x
              have Kw56_xH := Lib.hid Kw56_x
              have w56_l_x := Kw56_x.lt
              have w56_m_x : w55.heap.size < w56.heap.size + 1 := by omega
              have w56z := hb56.size
              try simp at w56z
              have w56B := Lib.hid hb56
              clear Kw56_sum Kw56_x
              clear hb56
              generalize hZ : ratAdd N2 D2 N1 D1 = Z at *
              obtain ⟨N3, D3, o3⟩ := Z
              have HZ := Lib.hid hZ
              clear hZ
              go_wp2_with fail
              have BW : Below w3.heap.size w3 w56 := btr (bl_alloc (btr (btr (btr (btr (btr HN2.out w51B.out) w52B.out) w53B.out) w54B.out) w55B.out) _) w56B.out
              have hszw := BW.size
              go_roundw
              case rel => exact ⟨k + 1, N3, D3, _, by omega, by go_num, rfl, by rw [E.out]; simp, (blk_set (blk_set Kw56_sumH.out 0 (.int .i64 N3)) 1 (.int .i64 D3)), (BW.setCell (by simp; omega) _).setCell (by simp; omega) _⟩
              case measure => simp [intOf]; omega
            · subst hqq
              go_wp2_with fail
              refine (l_addTo _ _ _ _ _ _).mono ?_
              rintro e w56 ⟨rfl, hb56⟩
              have Kw56_sum : Blk w56 (w31.heap.size) #[.int .i64 N2, .int .i64 D2] := blk_later hb56 (blk_alloc Kw55_sumH.out (.cells #[.int .i64 N1, .int .i64 D1] 33))
              have Kw56_x : Blk w56 (w55.heap.size) #[.int .i64 N1, .int .i64 D1] := blk_later hb56 (blk_new (by simp))
              obtain ⟨w56_c0_sum, w56_c1_sum, w56_f0_sum, w56_f1_sum⟩ := blk2 Kw56_sum
              have Kw56_sumH := Lib.hid Kw56_sum
              have w56_l_sum := Kw56_sum.lt
              have w56_m_sum : w31.heap.size < w56.heap.size + 1 := by omega
              obtain ⟨w56_c0_x, w56_c1_x, w56_f0_x, w56_f1_x⟩ := blk2 Kw56_x
              have Kw56_xH := Lib.hid Kw56_x
              have w56_l_x := Kw56_x.lt
              have w56_m_x : w55.heap.size < w56.heap.size + 1 := by omega
              have w56z := hb56.size
              try simp at w56z
              have w56B := Lib.hid hb56
              clear Kw56_sum Kw56_x
              clear hb56
              generalize hZ : ratAdd N2 D2 N1 D1 = Z at *
              obtain ⟨N3, D3, o3⟩ := Z
              have HZ := Lib.hid hZ
              clear hZ
              go_wp2_with fail
              have BW : Below w3.heap.size w3 w56 := btr (bl_alloc (btr (btr (btr (btr (btr HN2.out w51B.out) w52B.out) w53B.out) w54B.out) w55B.out) _) w56B.out
              have hszw := BW.size
              go_roundw
              case rel => exact ⟨k + 1, N3, D3, _, by omega, by go_num, rfl, by rw [E.out]; simp, (blk_set (blk_set Kw56_sumH.out 0 (.int .i64 N3)) 1 (.int .i64 D3)), (BW.setCell (by simp; omega) _).setCell (by simp; omega) _⟩
              case measure => simp [intOf]; omega
        · obtain rfl : k = A + 1 := by omega
          have E1 : orSt a b c d (m + n) (A + 1) = (0, 1, true) := by have := P2.out; rw [show (a + 1).toNat = A + 1 by omega] at this; exact this
          have E2 := HST.out.symm.trans E1
          injection E2 with e1 e2
          injection e2 with e2 e3
          subst e1 e2 e3
          go_wp2_with fail
          have S0 : Below wr.heap.size wr wr := Below.refl _ _
          clear S0
          go_region_held3 (fun w' => Below wr.heap.size wr w' ∧ w'.cell? ⟨w31.heap.size, 0, none⟩ = some (.int .i64 0) ∧ w'.cell? ⟨w31.heap.size, 1, none⟩ = some (.int .i64 1)) ((refine and_keep ?_ (fun hB => ⟨held_cell hB ks0 ksl, held_cell hB ks1 ksl⟩); (repeat' (first | exact (Below.refl _ _).drew | exact Below.refl _ _ | exact And.left (by assumption) | refine bl_alloc ?_ _ | refine bl_drew ?_ | refine bl_set ?_ ?_ _ | refine btr ?_ (by assumption) | omega | (simp; done) | (simp; omega))))) (first | (go_at_call 21; refine (l_whole _ _).mono ?_; rintro e w' ⟨rfl, hb'⟩))
          go_wp2_with fail
          go_roundw
          case rel => exact ⟨j + 1, by omega, by go_num, btr HN2.out (by (repeat' (first | exact (Below.refl _ _).drew | exact Below.refl _ _ | exact And.left (by assumption) | refine bl_alloc ?_ _ | refine bl_drew ?_ | refine bl_set ?_ ?_ _ | refine btr ?_ (by assumption) | omega | (simp; done) | (simp; omega))))⟩
          case measure => simp [intOf]; omega
    · clear hnx
      go_wp2_with fail
      go_ret
      exact ⟨rfl, btr B3.out HN1.out⟩

end Go.Proofs.Ytnjcbohledafgaa
