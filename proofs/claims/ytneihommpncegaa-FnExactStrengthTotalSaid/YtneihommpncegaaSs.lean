/- Contract of the program's SixSum. -/
import Derived.Test.YtneihommpncegaaSx
import Derived.Deep.DeepCutAuto
namespace Go.Proofs.Ytneihommpncegaa
open Go.RowKit
set_option linter.unusedVariables false

theorem sxS_bd {a b c d e f : Int} (h : sixOk a b c d e f = true) : ∀ k : Nat, (k : Int) ≤ max 0 (sxHi a b c d e f + 1 - sxLo a b c d e f) → -(6227020800 * (k : Int)) ≤ sxS a b c d e f k ∧ sxS a b c d e f k ≤ 6227020800 * (k : Int) := by
  have t1 := tdB_iff.1 (sixOk_iff.1 h).1
  have t2 := tdB_iff.1 (sixOk_iff.1 h).2.1
  have t3 := tdB_iff.1 (sixOk_iff.1 h).2.2.1
  have t4 := tdB_iff.1 (sixOk_iff.1 h).2.2.2
  intro k
  induction k with
  | zero => intro _; simp [sxS]
  | succ k ih =>
    intro hk
    have ih := ih (by omega)
    have hhi : sxHi a b c d e f ≤ 12 := by unfold sxHi; omega
    have hlo0 : 0 ≤ sxLo a b c d e f := by unfold sxLo; omega
    show -(6227020800 * ((k + 1 : Nat) : Int)) ≤ sxS a b c d e f k + sgT (sxLo a b c d e f + (k : Int)) (sxT a b c d e f (sxLo a b c d e f + (k : Int))) ∧ sxS a b c d e f k + sgT (sxLo a b c d e f + (k : Int)) (sxT a b c d e f (sxLo a b c d e f + (k : Int))) ≤ 6227020800 * ((k + 1 : Nat) : Int)
    have hb : 0 ≤ sxT a b c d e f (sxLo a b c d e f + (k : Int)) ∧ sxT a b c d e f (sxLo a b c d e f + (k : Int)) ≤ 6227020800 := dwK_bd a b c d e f (sxLo a b c d e f + (k : Int)) (by omega) (by omega) (by omega) (by omega) 3
    generalize sxT a b c d e f (sxLo a b c d e f + (k : Int)) = x at *
    generalize sxS a b c d e f k = y at *
    unfold sgT
    split <;> omega

set_option maxRecDepth 100000 in
set_option maxHeartbeats 3000000 in
theorem i_six_sum (a b c d e f : Int) (w : World) (h : sixOk a b c d e f = true) :
    Calls Try.prog 47 #[.agg #[.int .i64 a, .int .i64 b, .int .i64 c, .int .i64 d, .int .i64 e, .int .i64 f]] w fun r w' => r = .returned (.int .i64 (sixI a b c d e f)) ∧ Below w.heap.size w w' := by
  have ix0 := ixT0 a b c d e f
  have ix1 := ixT1 a b c d e f
  have ix2 := ixT2 a b c d e f
  have ix3 := ixT3 a b c d e f
  have t1 := tdB_iff.1 (sixOk_iff.1 h).1
  have t2 := tdB_iff.1 (sixOk_iff.1 h).2.1
  have t3 := tdB_iff.1 (sixOk_iff.1 h).2.2.1
  have t4 := tdB_iff.1 (sixOk_iff.1 h).2.2.2
  have OK := Lib.hid h
  clear h
  go_enter Try.func47, Try.ntmps47
  go_wp2_with fail
  refine (i_triads _ _ _ _ _ _ _).mono ?_
  rintro e w1 ⟨rfl, hb1⟩
  have Kw1_x : Blk w1 (w.heap.size) #[.int .i64 a, .int .i64 b, .int .i64 c, .int .i64 d, .int .i64 e, .int .i64 f] := blk_later hb1 (blk_new (by simp))
  obtain ⟨w1_c0_x, w1_c1_x, w1_c2_x, w1_c3_x, w1_c4_x, w1_c5_x, w1_f0_x, w1_f1_x, w1_f2_x, w1_f3_x, w1_f4_x, w1_f5_x⟩ := blk6 Kw1_x
  have Kw1_xH := Lib.hid Kw1_x
  have w1_l_x := Kw1_x.lt
  have w1_m_x : w.heap.size < w1.heap.size + 1 := by omega
  have w1z := hb1.size
  try simp at w1z
  have w1B := Lib.hid hb1
  clear Kw1_x
  clear hb1
  go_wp2_with fail
  have BB : Hid (Below w.heap.size w w1) := Lib.hid (by (repeat' (first | exact Below.refl _ _ | refine bl_out ?_ (by assumption) | exact (Hid.out (by assumption)) | refine bl_alloc ?_ _ | refine bl_drewN ?_ _ | refine bl_drew ?_ | refine bl_set ?_ ?_ _ | omega | (simp; done) | (simp; omega))))
  go_loopw [3, 5, 16] (fun lo _ i wr => ∃ k : Nat, k ≤ 4 ∧ i = .int .i64 k ∧ lo = .int .i64 (loK a b c d e f k) ∧ Below w1.heap.size w1 wr) (fun _ _ i _ => 4 - (intOf i).toNat)
  case atStart => exact ⟨0, by omega, rfl, rfl, Below.refl _ _⟩
  case round =>
    obtain ⟨k, hk, rfl, rfl, hnx⟩ := hrel
    have HN := Lib.hid hnx
    rcases (by omega : k = 0 ∨ k = 1 ∨ k = 2 ∨ k = 3 ∨ k = 4) with rfl | rfl | rfl | rfl | rfl
    · clear hnx
      go_wp2_with fail
      all_goals go_roundw
      all_goals first
        | exact ⟨1, by omega, rfl, by simp only [loK]; congr 1; omega, by (repeat' (first | exact (Hid.out (by assumption)) | refine bl_alloc ?_ _))⟩
        | (simp [intOf]; done)
    · clear hnx
      go_wp2_with fail
      all_goals go_roundw
      all_goals first
        | exact ⟨2, by omega, rfl, by simp only [loK]; congr 1; omega, by (repeat' (first | exact (Hid.out (by assumption)) | refine bl_alloc ?_ _))⟩
        | (simp [intOf]; done)
    · clear hnx
      go_wp2_with fail
      all_goals go_roundw
      all_goals first
        | exact ⟨3, by omega, rfl, by simp only [loK]; congr 1; omega, by (repeat' (first | exact (Hid.out (by assumption)) | refine bl_alloc ?_ _))⟩
        | (simp [intOf]; done)
    · clear hnx
      go_wp2_with fail
      all_goals go_roundw
      all_goals first
        | exact ⟨4, by omega, rfl, by simp only [loK]; congr 1; omega, by (repeat' (first | exact (Hid.out (by assumption)) | refine bl_alloc ?_ _))⟩
        | (simp [intOf]; done)
    · have Kx : Blk wr w.heap.size #[.int .i64 a, .int .i64 b, .int .i64 c, .int .i64 d, .int .i64 e, .int .i64 f] := blk_later hnx Kw1_xH.out
      have LO := Lib.hid (show loK a b c d e f 4 = sxLo a b c d e f from rfl)
      have HNw := Lib.hid (btr BB.out hnx)
      clear hnx
      have hlo0 : 0 ≤ sxLo a b c d e f := by unfold sxLo; omega
      have hlo1 : sxLo a b c d e f ≤ 9 := by unfold sxLo; omega
      rw [LO.out]
      obtain ⟨xc0, xc1, xc2, xc3, xc4, xc5, xf0, xf1, xf2, xf3, xf4, xf5⟩ := blk6 Kx
      have KxH := Lib.hid Kx
      have xl := Kx.lt
      clear Kx
      go_wp2_with fail
      have SXn := Lib.hid (show sixI a b c d e f = sxS a b c d e f (sxHi a b c d e f + 1 - sxLo a b c d e f).toNat by simp [sixI, OK.out])
      have KP : Blk (wr.alloc (.cells #[.int .i64 ((a + b + d + e) / 2), .int .i64 ((b + c + e + f) / 2), .int .i64 ((a + c + d + f) / 2)] 83)) wr.heap.size #[.int .i64 ((a + b + d + e) / 2), .int .i64 ((b + c + e + f) / 2), .int .i64 ((a + c + d + f) / 2)] := blk_new (by simp)
      have KX2 : Blk (wr.alloc (.cells #[.int .i64 ((a + b + d + e) / 2), .int .i64 ((b + c + e + f) / 2), .int .i64 ((a + c + d + f) / 2)] 83)) w.heap.size #[.int .i64 a, .int .i64 b, .int .i64 c, .int .i64 d, .int .i64 e, .int .i64 f] := blk_alloc KxH.out _
      have BZ : Below w.heap.size w (wr.alloc (.cells #[.int .i64 ((a + b + d + e) / 2), .int .i64 ((b + c + e + f) / 2), .int .i64 ((a + c + d + f) / 2)] 83)) := bl_alloc HNw.out _
      have hP : wr.heap.size < (wr.alloc (.cells #[.int .i64 ((a + b + d + e) / 2), .int .i64 ((b + c + e + f) / 2), .int .i64 ((a + c + d + f) / 2)] 83)).heap.size := by simp
      generalize wr.alloc (.cells #[.int .i64 ((a + b + d + e) / 2), .int .i64 ((b + c + e + f) / 2), .int .i64 ((a + c + d + f) / 2)] 83) = z at *
      generalize wr.heap.size = gp at *
      have HKP := Lib.hid KP
      have HKX := Lib.hid KX2
      have HBZ := Lib.hid BZ
      clear KP KX2 BZ HNw KxH xc0 xc1 xc2 xc3 xc4 xc5 xf0 xf1 xf2 xf3 xf4 xf5
      go_loopw [7, 8, 9, 11, 13, 85, 104] (fun tot t _ _ _ _ _ wr => ∃ k : Nat, (k : Int) ≤ max 0 (sxHi a b c d e f + 1 - sxLo a b c d e f) ∧ t = .int .i64 (sxLo a b c d e f + (k : Int)) ∧ tot = .int .i64 (sxS a b c d e f k) ∧ Below z.heap.size z wr) (fun _ t _ _ _ _ _ _ => (100 - intOf t).toNat)
      case atStart => exact ⟨0, by omega, by simp, rfl, Below.refl _ _⟩
      case round =>
        obtain ⟨k, hk, rfl, rfl, hnx⟩ := hrel
        have KP := blk_later hnx HKP.out
        have KX := blk_later hnx HKX.out
        obtain ⟨pc0, pc1, pc2, _, _, _⟩ := blk3 KP
        obtain ⟨xc0, xc1, xc2, xc3, xc4, xc5, _, _, _, _, _, _⟩ := blk6 KX
        have HKP1 := Lib.hid KP
        have HKX1 := Lib.hid KX
        have HN := Lib.hid hnx
        clear hnx KP KX
        have hhi : sxHi a b c d e f ≤ 12 := by unfold sxHi; omega
        have sb := sxS_bd OK.out k hk
        generalize hS : sxS a b c d e f k = S at *
        have HS := Lib.hid hS
        clear hS
        by_cases hlt : sxLo a b c d e f + (k : Int) ≤ sxHi a b c d e f
        · obtain ⟨T, hT⟩ : ∃ T : Int, T = sxLo a b c d e f + (k : Int) := ⟨_, rfl⟩
          have HT := Lib.hid hT
          have ht0 : 0 ≤ T := by omega
          have ht12 : T ≤ 12 := by omega
          have g1 : T ≤ (a + b + d + e) / 2 := by rw [hT]; unfold sxHi at hlt; omega
          have g2 : T ≤ (b + c + e + f) / 2 := by rw [hT]; unfold sxHi at hlt; omega
          have g3 : T ≤ (a + c + d + f) / 2 := by rw [hT]; unfold sxHi at hlt; omega
          have s1 : (a + b + c) / 2 ≤ T := by rw [hT]; unfold sxLo; omega
          have s2 : (a + e + f) / 2 ≤ T := by rw [hT]; unfold sxLo; omega
          have s3 : (d + b + f) / 2 ≤ T := by rw [hT]; unfold sxLo; omega
          have s4 : (d + e + c) / 2 ≤ T := by rw [hT]; unfold sxLo; omega
          have DV := Lib.hid (dvK_bd a b c d e f T (by omega) (by omega))
          have DW := Lib.hid (dwK_bd a b c d e f T (by omega) (by omega) (by omega) (by omega))
          have HK1 := Lib.hid (show ((k + 1 : Nat) : Int) ≤ max 0 (sxHi a b c d e f + 1 - sxLo a b c d e f) by omega)
          rw [← hT]
          clear hlt hT
          go_upto_region 10 with fail
          go_cut [77] (fun tb wx => tb = .bool true ∧ wx = wr)
          case first =>
            go_wp2_with fail
            all_goals go_meet
            all_goals exact ⟨by (first | (simp; done) | (simp; omega)), rfl⟩
          case rest =>
            obtain ⟨rfl, rfl⟩ := hcut
            go_wp2_with (go_at_call 64; refine (i_factorial _ _ (by omega)).mono ?_; rintro e w' ⟨rfl, rfl⟩)
            refine (i_triads _ _ _ _ _ _ _).mono ?_
            rintro r w2 ⟨rfl, hb2⟩
            have B2 := Lib.hid (btr HN.out hb2)
            have KP := blk_later hb2 HKP1.out
            obtain ⟨qc0, qc1, qc2, _, _, _⟩ := blk3 KP
            have HKP2 := Lib.hid KP
            clear hb2 KP pc0 pc1 pc2 xc0 xc1 xc2 xc3 xc4 xc5
            go_wp2_with fail
            obtain ⟨wo, rfl⟩ : ∃ wo : World, wo = wr := ⟨_, rfl⟩
            go_loopw [9, 11, 85] (fun tm _ i wr => ∃ k : Nat, k ≤ 4 ∧ i = .int .i64 k ∧ tm = .int .i64 (dvK a b c d e f T k) ∧ Below w2.heap.size w2 wr) (fun _ _ i _ => 4 - (intOf i).toNat)
            case atStart => exact ⟨0, by omega, rfl, rfl, Below.refl _ _⟩
            case round =>
              obtain ⟨q, hq, rfl, rfl, hnx⟩ := hrel
              have HN3 := Lib.hid hnx
              rcases (by omega : q = 0 ∨ q = 1 ∨ q = 2 ∨ q = 3 ∨ q = 4) with rfl | rfl | rfl | rfl | rfl
              · clear hnx
                obtain ⟨d0, d1⟩ := DV.out 0
                obtain ⟨f0, f1⟩ := facI_bd13 (n := T - (a + b + c) / 2) (by omega)
                have ED := Lib.hid (show dvK a b c d e f T 1 = dvK a b c d e f T 0 / facI (T - (a + b + c) / 2) from rfl)
                generalize dvK a b c d e f T 0 = V at *
                go_wp2_with (go_at_call 64; refine (i_factorial _ _ (by omega)).mono ?_; rintro e w' ⟨rfl, rfl⟩)
                go_roundw
                case rel => exact ⟨1, by omega, rfl, by rw [ED.out], bl_alloc HN3.out _⟩
                case measure => simp [intOf]
              · clear hnx
                obtain ⟨d0, d1⟩ := DV.out 1
                obtain ⟨f0, f1⟩ := facI_bd13 (n := T - (a + e + f) / 2) (by omega)
                have ED := Lib.hid (show dvK a b c d e f T 2 = dvK a b c d e f T 1 / facI (T - (a + e + f) / 2) from rfl)
                generalize dvK a b c d e f T 1 = V at *
                go_wp2_with (go_at_call 64; refine (i_factorial _ _ (by omega)).mono ?_; rintro e w' ⟨rfl, rfl⟩)
                go_roundw
                case rel => exact ⟨2, by omega, rfl, by rw [ED.out], bl_alloc HN3.out _⟩
                case measure => simp [intOf]
              · clear hnx
                obtain ⟨d0, d1⟩ := DV.out 2
                obtain ⟨f0, f1⟩ := facI_bd13 (n := T - (d + b + f) / 2) (by omega)
                have ED := Lib.hid (show dvK a b c d e f T 3 = dvK a b c d e f T 2 / facI (T - (d + b + f) / 2) from rfl)
                generalize dvK a b c d e f T 2 = V at *
                go_wp2_with (go_at_call 64; refine (i_factorial _ _ (by omega)).mono ?_; rintro e w' ⟨rfl, rfl⟩)
                go_roundw
                case rel => exact ⟨3, by omega, rfl, by rw [ED.out], bl_alloc HN3.out _⟩
                case measure => simp [intOf]
              · clear hnx
                obtain ⟨d0, d1⟩ := DV.out 3
                obtain ⟨f0, f1⟩ := facI_bd13 (n := T - (d + e + c) / 2) (by omega)
                have ED := Lib.hid (show dvK a b c d e f T 4 = dvK a b c d e f T 3 / facI (T - (d + e + c) / 2) from rfl)
                generalize dvK a b c d e f T 3 = V at *
                go_wp2_with (go_at_call 64; refine (i_factorial _ _ (by omega)).mono ?_; rintro e w' ⟨rfl, rfl⟩)
                go_roundw
                case rel => exact ⟨4, by omega, rfl, by rw [ED.out], bl_alloc HN3.out _⟩
                case measure => simp [intOf]
              · have KP3 := blk_later hnx HKP2.out
                obtain ⟨rc0, rc1, rc2, _, _, _⟩ := blk3 KP3
                have B3 := Lib.hid (btr B2.out hnx)
                clear hnx KP3 qc0 qc1 qc2
                have EW0 := Lib.hid (show dvK a b c d e f T 4 = dwK a b c d e f T 0 from rfl)
                rw [EW0.out]
                have ip0 := ixP0 ((a + b + d + e) / 2) ((b + c + e + f) / 2) ((a + c + d + f) / 2)
                have ip1 := ixP1 ((a + b + d + e) / 2) ((b + c + e + f) / 2) ((a + c + d + f) / 2)
                have ip2 := ixP2 ((a + b + d + e) / 2) ((b + c + e + f) / 2) ((a + c + d + f) / 2)
                go_wp2_with fail
                obtain ⟨wo2, rfl⟩ : ∃ wo : World, wo = wr := ⟨_, rfl⟩
                go_loopw [9, 13, 104] (fun tm _ i wr => ∃ k : Nat, k ≤ 3 ∧ i = .int .i64 k ∧ tm = .int .i64 (dwK a b c d e f T k) ∧ Below wo2.heap.size wo2 wr) (fun _ _ i _ => 3 - (intOf i).toNat)
                case atStart => exact ⟨0, by omega, rfl, rfl, Below.refl _ _⟩
                case round =>
                  obtain ⟨q, hq, rfl, rfl, hn4⟩ := hrel
                  have HN4 := Lib.hid hn4
                  clear hn4
                  rcases (by omega : q = 0 ∨ q = 1 ∨ q = 2 ∨ q = 3) with rfl | rfl | rfl | rfl
                  · obtain ⟨d0, d1⟩ := DW.out 0
                    obtain ⟨f0, f1⟩ := facI_bd13 (n := (a + b + d + e) / 2 - T) (by omega)
                    have ED := Lib.hid (show dwK a b c d e f T 1 = dwK a b c d e f T 0 / facI ((a + b + d + e) / 2 - T) from rfl)
                    generalize dwK a b c d e f T 0 = V at *
                    go_wp2_with (go_at_call 64; refine (i_factorial _ _ (by omega)).mono ?_; rintro e w' ⟨rfl, rfl⟩)
                    go_roundw
                    case rel => first | exact ⟨1, by omega, rfl, by rw [ED.out], HN4.out⟩ | ((repeat apply Exists.intro); exact ⟨⟨1, by omega, rfl, by rw [ED.out], HN4.out⟩, rfl⟩)
                    case measure => simp [intOf]
                  · obtain ⟨d0, d1⟩ := DW.out 1
                    obtain ⟨f0, f1⟩ := facI_bd13 (n := (b + c + e + f) / 2 - T) (by omega)
                    have ED := Lib.hid (show dwK a b c d e f T 2 = dwK a b c d e f T 1 / facI ((b + c + e + f) / 2 - T) from rfl)
                    generalize dwK a b c d e f T 1 = V at *
                    go_wp2_with (go_at_call 64; refine (i_factorial _ _ (by omega)).mono ?_; rintro e w' ⟨rfl, rfl⟩)
                    go_roundw
                    case rel => first | exact ⟨2, by omega, rfl, by rw [ED.out], HN4.out⟩ | ((repeat apply Exists.intro); exact ⟨⟨2, by omega, rfl, by rw [ED.out], HN4.out⟩, rfl⟩)
                    case measure => simp [intOf]
                  · obtain ⟨d0, d1⟩ := DW.out 2
                    obtain ⟨f0, f1⟩ := facI_bd13 (n := (a + c + d + f) / 2 - T) (by omega)
                    have ED := Lib.hid (show dwK a b c d e f T 3 = dwK a b c d e f T 2 / facI ((a + c + d + f) / 2 - T) from rfl)
                    generalize dwK a b c d e f T 2 = V at *
                    go_wp2_with (go_at_call 64; refine (i_factorial _ _ (by omega)).mono ?_; rintro e w' ⟨rfl, rfl⟩)
                    go_roundw
                    case rel => first | exact ⟨3, by omega, rfl, by rw [ED.out], HN4.out⟩ | ((repeat apply Exists.intro); exact ⟨⟨3, by omega, rfl, by rw [ED.out], HN4.out⟩, rfl⟩)
                    case measure => simp [intOf]
                  · obtain ⟨d0, d1⟩ := DW.out 3
                    have EN := Lib.hid (show sxS a b c d e f (k + 1) = S + sgT T (dwK a b c d e f T 3) by rw [dw_T, ← HS.out, HT.out]; rfl)
                    generalize dwK a b c d e f T 3 = V at *
                    by_cases hp : T % 2 = 1
                    · have hp1 : (T % 2 == 1) = true := by simp [hp]
                      have EP := Lib.hid (show sgT T V = -V by simp [sgT, hp])
                      clear hp
                      go_wp2_with fail
                      go_roundw
                      case rel => first | exact ⟨k + 1, HK1.out, by rw [HT.out]; go_num, by rw [EN.out, EP.out], btr B3.out HN4.out⟩ | ((repeat apply Exists.intro); exact ⟨⟨k + 1, HK1.out, by rw [HT.out]; go_num, by rw [EN.out, EP.out], btr B3.out HN4.out⟩, rfl⟩)
                      case measure => simp [intOf]; omega
                    · have hp1 : (T % 2 == 1) = false := by simp [hp]
                      have EP := Lib.hid (show sgT T V = V by simp [sgT, hp])
                      clear hp
                      go_wp2_with fail
                      go_roundw
                      case rel => first | exact ⟨k + 1, HK1.out, by rw [HT.out]; go_num, by rw [EN.out, EP.out], btr B3.out HN4.out⟩ | ((repeat apply Exists.intro); exact ⟨⟨k + 1, HK1.out, by rw [HT.out]; go_num, by rw [EN.out, EP.out], btr B3.out HN4.out⟩, rfl⟩)
                      case measure => simp [intOf]; omega
        
        · have EK := Lib.hid (show (sxHi a b c d e f + 1 - sxLo a b c d e f).toNat = k by omega)
          have hm1 : sxHi a b c d e f < sxLo a b c d e f + (k : Int) := by omega
          unfold sxHi at hm1
          go_wp2_with fail
          all_goals go_ret
          all_goals exact ⟨ret_int (by rw [SXn.out, EK.out, HS.out]), btr HBZ.out HN.out⟩

end Go.Proofs.Ytneihommpncegaa
