/- The walk of the law that factors have a known sum. -/
import Derived.Test.YtnpfcifdpmdnlaaH
import Derived.Test.YtnpfcifdpmdnlaaB
import Derived.Test.YtnpfcifdpmdnlaaHk
import Derived.Test.YtnpfcifdpmdnlaaPh2
namespace Go.Proofs.Ytnpfcifdpmdnlaa
open Go.RowKit
set_option linter.unusedVariables false

theorem h_RatMul2 (a b c d N D : Int) (o : Bool) (w : World) (h : Hid (ratMul a b c d = (N, D, o))) :
    Calls Try.prog 30 #[.agg #[.int .i64 a, .int .i64 b], .agg #[.int .i64 c, .int .i64 d]] w fun e w' => e = .returned (.tuple #[.agg #[.int .i64 N, .int .i64 D], .bool o]) ∧ Below w.heap.size w w' :=
  (i_RatMul a b c d w).mono fun e w' ⟨he, hb⟩ => ⟨by rw [he, h.out]; rfl, hb⟩
theorem h_HyperFactor2 (a b f j i N D : Int) (o : Bool) (w : World) (h : Hid (hyFac a b f j i = (N, D, o))) :
    Calls Try.prog 25 #[.agg #[.int .i64 a, .int .i64 b], .int .i64 f, .int .i64 j, .int .i64 i] w fun e w' => e = .returned (.tuple #[.agg #[.int .i64 N, .int .i64 D], .bool o]) ∧ Below w.heap.size w w' :=
  (i_HyperFactor a b f j i w).mono fun e w' ⟨he, hb⟩ => ⟨by rw [he, h.out]; rfl, hb⟩
theorem h_pair3 {A B C : Type} (x : A × B × C) : ∃ a b c, x = (a, b, c) := ⟨x.1, x.2.1, x.2.2, rfl⟩
theorem h_mul {a b A B : Int} (h1 : 0 ≤ a) (h2 : a ≤ A) (h3 : 0 ≤ b) (h4 : b ≤ B) : 0 ≤ a * b ∧ a * b ≤ A * B :=
  ⟨Int.mul_nonneg h1 h3, Int.mul_le_mul h2 h4 h3 (by omega)⟩

theorem hyperL_len12 (j i : Int) : (hyperL j i).length ≤ 13 := by
  unfold hyperL
  split
  · unfold coupledL
    split
    · rename_i h1 h2
      simp [inB] at h1
      rw [stepL_length]; omega
    · simp
  · simp

set_option maxRecDepth 100000 in
set_option maxHeartbeats 6000000 in
theorem l_FnHyperFactorSum (a : Option Addr) (len cap : Nat) (w : World) (h : Code w a len cap) (hl : len ≤ 9223372036854775807) (hc : cap ≤ 9223372036854775807) :
    Calls Try.prog 12 #[.slice a len cap] w (RTrueF w) := by
  have H := Lib.hid h
  clear h
  by_cases hbig : 1048576 < len
  · go_enter Try.func12, Try.ntmps12
    go_wp2_with fail
    go_ret
    exact ⟨rfl, Below.refl _ _⟩
  go_enter Try.func12, Try.ntmps12
  go_wp2_with fail
  refine (s_DrawHyperFactor a len cap w H.out hl hc).mono ?_
  rintro e w1 ⟨p, q, f, j, i, rfl, hp, hq, hf, hj, hi, hb1⟩
  have w1z := hb1.size
  try simp at w1z
  have w1B := Lib.hid hb1
  clear hb1
  go_wp2_with fail
  refine (i_HyperFactor _ _ _ _ _ _).mono ?_
  rintro e w2 ⟨rfl, hb2⟩
  have Kw2_g : Blk w2 (w1.heap.size) #[.int .i64 p, .int .i64 q] := blk_later hb2 (blk_new (by simp))
  obtain ⟨w2_c0_g, w2_c1_g, w2_f0_g, w2_f1_g⟩ := blk2 Kw2_g
  have Kw2_gH := Lib.hid Kw2_g
  have w2_l_g := Kw2_g.lt
  have w2_m_g : w1.heap.size < w2.heap.size + 1 := by omega
  have w2z := hb2.size
  try simp at w2z
  have w2B := Lib.hid hb2
  clear Kw2_g
  clear hb2
  generalize hX : hyFac p q f j i = X at *
  obtain ⟨N, D, o⟩ := X
  have HX := Lib.hid hX
  clear hX
  simp only [rv]
  go_wp2_with fail
  refine (s_HyperFactor _ _ _ _ _ _).mono ?_
  rintro e w3 ⟨rfl, hb3⟩
  have Kw3_g : Blk w3 (w1.heap.size) #[.int .i64 p, .int .i64 q] := blk_later hb3 (blk_alloc Kw2_gH.out (.cells #[.int .i64 N, .int .i64 D] 36))
  have Kw3_out : Blk w3 (w2.heap.size) #[.int .i64 N, .int .i64 D] := blk_later hb3 (blk_new (by simp))
  obtain ⟨w3_c0_g, w3_c1_g, w3_f0_g, w3_f1_g⟩ := blk2 Kw3_g
  have Kw3_gH := Lib.hid Kw3_g
  have w3_l_g := Kw3_g.lt
  have w3_m_g : w1.heap.size < w3.heap.size + 1 := by omega
  obtain ⟨w3_c0_out, w3_c1_out, w3_f0_out, w3_f1_out⟩ := blk2 Kw3_out
  have Kw3_outH := Lib.hid Kw3_out
  have w3_l_out := Kw3_out.lt
  have w3_m_out : w2.heap.size < w3.heap.size + 1 := by omega
  have w3z := hb3.size
  try simp at w3z
  have w3B := Lib.hid hb3
  clear Kw3_g Kw3_out
  clear hb3
  rw [HX.out]
  simp only [rv]
  cases o
  · go_wp2_with fail
    go_ret
    exact ⟨rfl, by (repeat' (first | exact Below.refl _ _ | refine bl_out ?_ (by assumption) | exact (Hid.out (by assumption)) | refine bl_alloc ?_ _ | refine bl_drewN ?_ _ | refine bl_drew ?_ | refine bl_set ?_ ?_ _ | omega | (simp; done) | (simp; omega)))⟩
  have OKh := hyFac_ok HX.out
  have hh := hyB_iff.1 OKh.2.1
  clear OKh
  have hj2 := hh.1
  have hi2 := hh.2.1
  clear hh hf hj hi hp hq
  obtain ⟨P1, P2, P3⟩ := okFs_of hj2 hi2
  have HP := Lib.hid P1
  have PB := Lib.hid P2
  clear P1 P2
  go_wp2_with fail
  refine (i_HyperLevels _ _ _).mono ?_
  rintro e w4 ⟨v, rfl, hv, hb4⟩
  have w4z := hb4.size
  try simp at w4z
  have w4B := Lib.hid hb4
  clear hb4
  obtain ⟨v1, cp, rfl, m1, hcell⟩ := hv.opened
  rcases hcell with hcell | ⟨g, rfl, hg1, hg2, hcell⟩
  · rw [hcell] at P3; simp at P3
  have C := Lib.hid hcell
  clear hcell hv
  unfold maxLen at m1
  have hL0 := hyperL_len12 j i
  generalize hL : hyperL j i = L at *
  clear hL
  generalize hN : L.length = NL at *
  clear hN m1
  go_wp2_with fail
  refine (l_whole _ _).mono ?_
  rintro e w5 ⟨rfl, hb5⟩
  have w5z := hb5.size
  try simp at w5z
  have w5B := Lib.hid hb5
  clear hb5
  have gs : g < w5.heap.size := Nat.lt_of_lt_of_le hg2 w5z
  have CS : Hid (∀ t, t < NL → w5.cell? ⟨g, t, none⟩ = some (.int .i64 (L.getD t 0))) := Lib.hid (fun t ht => by rw [w5B.out.cell (p := ⟨g, t, none⟩) hg2]; exact C.out t ht)
  clear C
  have BS : Hid (Below w.heap.size w w5) := Lib.hid (by (repeat' (first | exact Below.refl _ _ | refine bl_out ?_ (by assumption) | exact (Hid.out (by assumption)) | refine bl_alloc ?_ _ | refine bl_drewN ?_ _ | refine bl_drew ?_ | refine bl_set ?_ ?_ _ | omega | (simp; done) | (simp; omega))))
  go_wp2_with fail
  go_loopw [13, 14, 15, 16, 17, 18, 19, 20] (fun o x _ _ _ _ _ _ wr => ∃ (k : Nat) (N D : Int) (q : Bool), k ≤ NL ∧ x = .int .i64 k ∧ o = .bool q ∧ fsSt j i L k = (N, D, q) ∧ Blk wr (w5.heap.size) #[.int .i64 N, .int .i64 D] ∧ Below w5.heap.size w5 wr) (fun _ x _ _ _ _ _ _ _ => NL - (intOf x).toNat)
  case atStart => exact ⟨0, 0, 1, true, by omega, rfl, rfl, rfl, (blk_new (by simp)), (Below.refl _ _).alloc (Nat.le_refl _) _⟩
  case round =>
    obtain ⟨k, N2, D2, q, hk, rfl, rfl, hst, KS, hnx⟩ := hrel
    have HST := Lib.hid hst
    have HNX := Lib.hid hnx
    have hsz := hnx.size
    obtain ⟨ks0, ks1, ks2, ks3⟩ := blk2 KS
    have KSH := Lib.hid KS
    have ksl := KS.lt
    clear hst KS
    by_cases hlt : k < NL
    · have cc := CS.out k hlt
      rw [← hnx.cell (p := ⟨g, k, none⟩) gs] at cc
      have gl : g < wr.heap.size := Nat.lt_of_lt_of_le gs hsz
      obtain ⟨d0, d1⟩ := PB.out k hlt
      clear hnx
      generalize hd : L.getD k 0 = l at *
      have HD := Lib.hid hd
      by_cases hz : l = 0
      · have E := Lib.hid (fsSt_no (j := j) (i := i) (hd.trans hz))
        subst hz
        clear hd
        go_wp2_with fail
        go_roundw
        case rel => exact ⟨k + 1, N2, D2, q, by omega, by go_num, rfl, by rw [E.out]; exact HST.out, KSH.out, HNX.out⟩
        case measure => simp [intOf]; omega
      have hz1 : (l == 0) = false := by simp [hz]
      clear hd
      obtain ⟨N1, D1, o1, hy⟩ := h_pair3 (hyFac 1 1 l j i)
      obtain ⟨N4, D4, o4, hw⟩ := h_pair3 (ratMul N1 D1 (l * (l + 2) * (l + 1)) 1)
      have E := Lib.hid (fsSt_yes HD.out hz HST.out hy hw)
      have HY := Lib.hid hy
      have HW := Lib.hid hw
      clear hy hw hz
      obtain ⟨e1, e2⟩ := h_mul (A := 24) (B := 26) (a := l) (b := l + 2) (by omega) (by omega) (by omega) (by omega)
      obtain ⟨e3, e4⟩ := h_mul (A := 624) (B := 25) (a := l * (l + 2)) (b := l + 1) (by omega) (by omega) (by omega) (by omega)
      have wr1 : IntKind.i64.wrap (l + 2) = l + 2 := IntWalk.i64_in _ (by omega)
      have wr2 : IntKind.i64.wrap (l * (l + 2)) = l * (l + 2) := IntWalk.i64_in _ (by omega)
      have wr3 : IntKind.i64.wrap (l + 1) = l + 1 := IntWalk.i64_in _ (by omega)
      have wr4 : IntKind.i64.wrap (l * (l + 2) * (l + 1)) = l * (l + 2) * (l + 1) := IntWalk.i64_in _ (by omega)
      go_upto_region 15 with fail
      have xl0 : g < wr.heap.size := by omega
      have xc0 : wr.cell? ⟨g, k, none⟩ = some (.int .i64 l) := by exact cc
      have Kz21_sum : Blk wr (w5.heap.size) #[.int .i64 N2, .int .i64 D2] := KSH.out
      have Bz21 : Below w.heap.size w wr := by (repeat' (first | exact Below.refl _ _ | refine bl_out ?_ (by assumption) | exact (Hid.out (by assumption)) | refine bl_alloc ?_ _ | refine bl_drewN ?_ _ | refine bl_drew ?_ | refine bl_set ?_ ?_ _ | omega | (simp; done) | (simp; omega)))
      have z21B_w5 : Hid (Below w5.heap.size w5 wr) := Lib.hid (HNX.out)
      generalize wr = z21 at *
      obtain ⟨z21_c0_sum, z21_c1_sum, z21_f0_sum, z21_f1_sum⟩ := blk2 Kz21_sum
      have Kz21_sumH := Lib.hid Kz21_sum
      have z21_l_sum := Kz21_sum.lt
      have z21B := Lib.hid Bz21
      clear Bz21
      clear Kz21_sum
      go_cut [15, 16] (CutBlk z21 #[.int .i64 N1, .int .i64 D1] o1)
      case first =>
        go_region_held3 (fun w' => Below z21.heap.size z21 w' ∧ w'.cell? ⟨g, k, none⟩ = some (.int .i64 l)) ((refine and_keep ?_ (fun hB => held_cell hB xc0 xl0); (repeat' (first | with_reducible exact Below.refl _ _ | with_reducible refine bl_alloc ?_ _ | with_reducible refine bl_set ?_ ?_ _ | exact (Below.refl _ _).drew | with_reducible refine bl_drew ?_ | with_reducible refine btr ?_ hbB | with_reducible refine btr ?_ hbA | omega | (simp; done) | (simp; omega))))) (first | (go_at_call 31; refine (l_whole _ _).mono ?_; rintro e wA ⟨rfl, hbA⟩; obtain ⟨hcA, hfA⟩ := bcell hbA; have hzA : z21.heap.size ≤ wA.heap.size := (by first | exact hbA.size | exact Nat.le_trans hzA hbA.size | (have h0 := hbA.size; simp at h0; omega)); (try (have hyA : z21.heap.size < wA.heap.size := by (have h0 := hbA.size; simp at h0; omega)))) | (go_at_call 25; refine (h_HyperFactor2 _ _ _ _ _ _ _ _ _ HY).mono ?_; rintro e wB ⟨rfl, hbB⟩; obtain ⟨hcB, hfB⟩ := bcell hbB; have hzB : z21.heap.size ≤ wB.heap.size := (by first | exact hbB.size | exact Nat.le_trans hzA hbB.size | (have h0 := hbB.size; simp at h0; omega)); (try (have hyB : z21.heap.size < wB.heap.size := by (have h0 := hbB.size; simp at h0; omega)))))
        all_goals
          go_wp2_with fail
          go_meet
          exact ⟨_, rfl, rfl, by (first | omega | (simp; omega)), by (repeat' (first | exact blk_new (by simp) | with_reducible refine blk_store2 (x := .int .i64 0) (y := .int .i64 0) ?_ | with_reducible refine blk_store3 (x := .int .i64 0) (y := .int .i64 0) (z := .int .i64 0) ?_ | with_reducible refine blk_drew ?_ | with_reducible refine blk_later hbB ?_ | with_reducible refine blk_later hbA ?_)), by (repeat' (first | with_reducible exact Below.refl _ _ | with_reducible refine bl_alloc ?_ _ | with_reducible refine bl_set ?_ ?_ _ | exact (Below.refl _ _).drew | with_reducible refine bl_drew ?_ | with_reducible refine btr ?_ hbB | with_reducible refine btr ?_ hbA | omega | (simp; done) | (simp; omega)))⟩
      case rest =>
        obtain ⟨g22, rfl, rfl, g22z, Kg22, hb22⟩ := hcut
        obtain ⟨w22, rfl⟩ : ∃ x, x = wc := ⟨_, rfl⟩
        have Kw22_sum : Blk w22 (w5.heap.size) #[.int .i64 N2, .int .i64 D2] := blk_later hb22 Kz21_sumH.out
        obtain ⟨w22_c0_sum, w22_c1_sum, w22_f0_sum, w22_f1_sum⟩ := blk2 Kw22_sum
        have Kw22_sumH := Lib.hid Kw22_sum
        have w22_l_sum := Kw22_sum.lt
        have w22_m_sum : w5.heap.size < w22.heap.size + 1 := by omega
        have w22z := hb22.size
        try simp at w22z
        have w22B := Lib.hid hb22
        clear Kw22_sum
        clear hb22
        obtain ⟨w22_c0_x, w22_c1_x, w22_f0_x, w22_f1_x⟩ := blk2 Kg22
        have Kg22H := Lib.hid Kg22
        have w22_l_x := Kg22.lt
        clear Kg22
        have gl2 : g < w22.heap.size := Nat.lt_of_lt_of_le xl0 w22z
        have cc2 : w22.cell? ⟨g, k, none⟩ = some (.int .i64 l) := by rw [w22B.out.cell (p := ⟨g, k, none⟩) xl0]; exact xc0
        go_upto_region 16 with fail
        have xl0 : g < w22.heap.size := by omega
        have xc0 : w22.cell? ⟨g, k, none⟩ = some (.int .i64 l) := by exact cc2
        have Kz23_sum : Blk w22 (w5.heap.size) #[.int .i64 N2, .int .i64 D2] := Kw22_sumH.out
        have Kz23_x : Blk w22 (g22) #[.int .i64 N1, .int .i64 D1] := Kg22H.out
        have Bz23 : Below w.heap.size w w22 := by (repeat' (first | exact Below.refl _ _ | refine bl_out ?_ (by assumption) | exact (Hid.out (by assumption)) | refine bl_alloc ?_ _ | refine bl_drewN ?_ _ | refine bl_drew ?_ | refine bl_set ?_ ?_ _ | omega | (simp; done) | (simp; omega)))
        have z23B_w5 : Hid (Below w5.heap.size w5 w22) := Lib.hid (btr z21B_w5.out w22B.out)
        generalize w22 = z23 at *
        obtain ⟨z23_c0_sum, z23_c1_sum, z23_f0_sum, z23_f1_sum⟩ := blk2 Kz23_sum
        have Kz23_sumH := Lib.hid Kz23_sum
        have z23_l_sum := Kz23_sum.lt
        obtain ⟨z23_c0_x, z23_c1_x, z23_f0_x, z23_f1_x⟩ := blk2 Kz23_x
        have Kz23_xH := Lib.hid Kz23_x
        have z23_l_x := Kz23_x.lt
        have z23B := Lib.hid Bz23
        clear Bz23
        clear Kz23_sum Kz23_x
        go_cut [17, 18] (CutBlk z23 #[.int .i64 N4, .int .i64 D4] o4)
        case first =>
          go_region_held3 (fun w' => Below z23.heap.size z23 w' ∧ w'.cell? ⟨g22, 0, none⟩ = some (.int .i64 N1) ∧ w'.cell? ⟨g22, 1, none⟩ = some (.int .i64 D1) ∧ w'.cell? ⟨g, k, none⟩ = some (.int .i64 l)) ((refine and_keep ?_ (fun hB => ⟨held_cell hB z23_c0_x z23_l_x, held_cell hB z23_c1_x z23_l_x, held_cell hB xc0 xl0⟩); (repeat' (first | with_reducible exact Below.refl _ _ | with_reducible refine bl_alloc ?_ _ | with_reducible refine bl_set ?_ ?_ _ | exact (Below.refl _ _).drew | with_reducible refine bl_drew ?_ | with_reducible refine btr ?_ hbB | with_reducible refine btr ?_ hbA | omega | (simp; done) | (simp; omega))))) (first | (go_at_call 31; refine (l_whole _ _).mono ?_; rintro e wA ⟨rfl, hbA⟩; obtain ⟨hcA, hfA⟩ := bcell hbA; have hzA : z23.heap.size ≤ wA.heap.size := (by first | exact hbA.size | exact Nat.le_trans hzA hbA.size | (have h0 := hbA.size; simp at h0; omega)); (try (have hyA : z23.heap.size < wA.heap.size := by (have h0 := hbA.size; simp at h0; omega)))) | (go_at_call 30; refine (h_RatMul2 _ _ _ _ _ _ _ _ HW).mono ?_; rintro e wB ⟨rfl, hbB⟩; obtain ⟨hcB, hfB⟩ := bcell hbB; have hzB : z23.heap.size ≤ wB.heap.size := (by first | exact hbB.size | exact Nat.le_trans hzA hbB.size | (have h0 := hbB.size; simp at h0; omega)); (try (have hyB : z23.heap.size < wB.heap.size := by (have h0 := hbB.size; simp at h0; omega)))))
          all_goals
            go_wp2_with fail
            go_meet
            exact ⟨_, rfl, rfl, by (first | omega | (simp; omega)), by (repeat' (first | exact blk_new (by simp) | with_reducible refine blk_store2 (x := .int .i64 0) (y := .int .i64 0) ?_ | with_reducible refine blk_store3 (x := .int .i64 0) (y := .int .i64 0) (z := .int .i64 0) ?_ | with_reducible refine blk_drew ?_ | with_reducible refine blk_later hbB ?_ | with_reducible refine blk_later hbA ?_)), by (repeat' (first | with_reducible exact Below.refl _ _ | with_reducible refine bl_alloc ?_ _ | with_reducible refine bl_set ?_ ?_ _ | exact (Below.refl _ _).drew | with_reducible refine bl_drew ?_ | with_reducible refine btr ?_ hbB | with_reducible refine btr ?_ hbA | omega | (simp; done) | (simp; omega)))⟩
        case rest =>
          obtain ⟨g24, rfl, rfl, g24z, Kg24, hb24⟩ := hcut
          obtain ⟨w24, rfl⟩ : ∃ x, x = wc := ⟨_, rfl⟩
          have Kw24_sum : Blk w24 (w5.heap.size) #[.int .i64 N2, .int .i64 D2] := blk_later hb24 Kz23_sumH.out
          obtain ⟨w24_c0_sum, w24_c1_sum, w24_f0_sum, w24_f1_sum⟩ := blk2 Kw24_sum
          have Kw24_sumH := Lib.hid Kw24_sum
          have w24_l_sum := Kw24_sum.lt
          have w24_m_sum : w5.heap.size < w24.heap.size + 1 := by omega
          have w24z := hb24.size
          try simp at w24z
          have w24B := Lib.hid hb24
          clear Kw24_sum
          clear hb24
          obtain ⟨w24_c0_y, w24_c1_y, w24_f0_y, w24_f1_y⟩ := blk2 Kg24
          have Kg24H := Lib.hid Kg24
          have w24_l_y := Kg24.lt
          clear Kg24
          clear wr1 wr2 wr3 wr4
          cases hqq : q
          · subst hqq
            go_wp2_with fail
            refine (i_RatAdd _ _ _ _ _).mono ?_
            rintro e w25 ⟨rfl, hb25⟩
            have Kw25_sum : Blk w25 (w5.heap.size) #[.int .i64 N2, .int .i64 D2] := blk_later hb25 Kw24_sumH.out
            have Kw25_y : Blk w25 (g24) #[.int .i64 N4, .int .i64 D4] := blk_later hb25 Kg24H.out
            obtain ⟨w25_c0_sum, w25_c1_sum, w25_f0_sum, w25_f1_sum⟩ := blk2 Kw25_sum
            have Kw25_sumH := Lib.hid Kw25_sum
            have w25_l_sum := Kw25_sum.lt
            have w25_m_sum : w5.heap.size < w25.heap.size + 1 := by omega
            obtain ⟨w25_c0_y, w25_c1_y, w25_f0_y, w25_f1_y⟩ := blk2 Kw25_y
            have Kw25_yH := Lib.hid Kw25_y
            have w25_l_y := Kw25_y.lt
            have w25_m_y : g24 < w25.heap.size + 1 := by omega
            have w25z := hb25.size
            try simp at w25z
            have w25B := Lib.hid hb25
            clear Kw25_sum Kw25_y
            clear hb25
            generalize hZ : ratAdd N2 D2 N4 D4 = Z at *
            obtain ⟨N3, D3, o3⟩ := Z
            clear hZ
            simp only [rv]
            go_wp2_with fail
            have BW : Below w5.heap.size w5 w25 := btr (btr z23B_w5.out w24B.out) w25B.out
            have hszw := BW.size
            go_roundw
            case rel => exact ⟨k + 1, N3, D3, _, by omega, by go_num, rfl, by rw [E.out]; simp, (blk_alloc (blk_set (blk_set Kw25_sumH.out 0 (.int .i64 N3)) 1 (.int .i64 D3)) _), bl_alloc ((BW.setCell (by (first | omega | (simp; done) | (simp; omega))) _).setCell (by (first | omega | (simp; done) | (simp; omega))) _) _⟩
            case measure => simp [intOf]; omega
          · subst hqq
            cases hc_o1 : o1
            · subst hc_o1
              go_wp2_with fail
              refine (i_RatAdd _ _ _ _ _).mono ?_
              rintro e w25 ⟨rfl, hb25⟩
              have Kw25_sum : Blk w25 (w5.heap.size) #[.int .i64 N2, .int .i64 D2] := blk_later hb25 Kw24_sumH.out
              have Kw25_y : Blk w25 (g24) #[.int .i64 N4, .int .i64 D4] := blk_later hb25 Kg24H.out
              obtain ⟨w25_c0_sum, w25_c1_sum, w25_f0_sum, w25_f1_sum⟩ := blk2 Kw25_sum
              have Kw25_sumH := Lib.hid Kw25_sum
              have w25_l_sum := Kw25_sum.lt
              have w25_m_sum : w5.heap.size < w25.heap.size + 1 := by omega
              obtain ⟨w25_c0_y, w25_c1_y, w25_f0_y, w25_f1_y⟩ := blk2 Kw25_y
              have Kw25_yH := Lib.hid Kw25_y
              have w25_l_y := Kw25_y.lt
              have w25_m_y : g24 < w25.heap.size + 1 := by omega
              have w25z := hb25.size
              try simp at w25z
              have w25B := Lib.hid hb25
              clear Kw25_sum Kw25_y
              clear hb25
              generalize hZ : ratAdd N2 D2 N4 D4 = Z at *
              obtain ⟨N3, D3, o3⟩ := Z
              clear hZ
              simp only [rv]
              go_wp2_with fail
              have BW : Below w5.heap.size w5 w25 := btr (btr z23B_w5.out w24B.out) w25B.out
              have hszw := BW.size
              go_roundw
              case rel => exact ⟨k + 1, N3, D3, _, by omega, by go_num, rfl, by rw [E.out]; simp, (blk_alloc (blk_set (blk_set Kw25_sumH.out 0 (.int .i64 N3)) 1 (.int .i64 D3)) _), bl_alloc ((BW.setCell (by (first | omega | (simp; done) | (simp; omega))) _).setCell (by (first | omega | (simp; done) | (simp; omega))) _) _⟩
              case measure => simp [intOf]; omega
            · subst hc_o1
              cases hc_o4 : o4
              · subst hc_o4
                go_wp2_with fail
                refine (i_RatAdd _ _ _ _ _).mono ?_
                rintro e w25 ⟨rfl, hb25⟩
                have Kw25_sum : Blk w25 (w5.heap.size) #[.int .i64 N2, .int .i64 D2] := blk_later hb25 Kw24_sumH.out
                have Kw25_y : Blk w25 (g24) #[.int .i64 N4, .int .i64 D4] := blk_later hb25 Kg24H.out
                obtain ⟨w25_c0_sum, w25_c1_sum, w25_f0_sum, w25_f1_sum⟩ := blk2 Kw25_sum
                have Kw25_sumH := Lib.hid Kw25_sum
                have w25_l_sum := Kw25_sum.lt
                have w25_m_sum : w5.heap.size < w25.heap.size + 1 := by omega
                obtain ⟨w25_c0_y, w25_c1_y, w25_f0_y, w25_f1_y⟩ := blk2 Kw25_y
                have Kw25_yH := Lib.hid Kw25_y
                have w25_l_y := Kw25_y.lt
                have w25_m_y : g24 < w25.heap.size + 1 := by omega
                have w25z := hb25.size
                try simp at w25z
                have w25B := Lib.hid hb25
                clear Kw25_sum Kw25_y
                clear hb25
                generalize hZ : ratAdd N2 D2 N4 D4 = Z at *
                obtain ⟨N3, D3, o3⟩ := Z
                clear hZ
                simp only [rv]
                go_wp2_with fail
                have BW : Below w5.heap.size w5 w25 := btr (btr z23B_w5.out w24B.out) w25B.out
                have hszw := BW.size
                go_roundw
                case rel => exact ⟨k + 1, N3, D3, _, by omega, by go_num, rfl, by rw [E.out]; simp, (blk_alloc (blk_set (blk_set Kw25_sumH.out 0 (.int .i64 N3)) 1 (.int .i64 D3)) _), bl_alloc ((BW.setCell (by (first | omega | (simp; done) | (simp; omega))) _).setCell (by (first | omega | (simp; done) | (simp; omega))) _) _⟩
                case measure => simp [intOf]; omega
              · subst hc_o4
                go_wp2_with fail
                refine (i_RatAdd _ _ _ _ _).mono ?_
                rintro e w25 ⟨rfl, hb25⟩
                have Kw25_sum : Blk w25 (w5.heap.size) #[.int .i64 N2, .int .i64 D2] := blk_later hb25 Kw24_sumH.out
                have Kw25_y : Blk w25 (g24) #[.int .i64 N4, .int .i64 D4] := blk_later hb25 Kg24H.out
                obtain ⟨w25_c0_sum, w25_c1_sum, w25_f0_sum, w25_f1_sum⟩ := blk2 Kw25_sum
                have Kw25_sumH := Lib.hid Kw25_sum
                have w25_l_sum := Kw25_sum.lt
                have w25_m_sum : w5.heap.size < w25.heap.size + 1 := by omega
                obtain ⟨w25_c0_y, w25_c1_y, w25_f0_y, w25_f1_y⟩ := blk2 Kw25_y
                have Kw25_yH := Lib.hid Kw25_y
                have w25_l_y := Kw25_y.lt
                have w25_m_y : g24 < w25.heap.size + 1 := by omega
                have w25z := hb25.size
                try simp at w25z
                have w25B := Lib.hid hb25
                clear Kw25_sum Kw25_y
                clear hb25
                generalize hZ : ratAdd N2 D2 N4 D4 = Z at *
                obtain ⟨N3, D3, o3⟩ := Z
                clear hZ
                simp only [rv]
                go_wp2_with fail
                have BW : Below w5.heap.size w5 w25 := btr (btr z23B_w5.out w24B.out) w25B.out
                have hszw := BW.size
                go_roundw
                case rel => exact ⟨k + 1, N3, D3, _, by omega, by go_num, rfl, by rw [E.out]; simp, (blk_alloc (blk_set (blk_set Kw25_sumH.out 0 (.int .i64 N3)) 1 (.int .i64 D3)) _), bl_alloc ((BW.setCell (by (first | omega | (simp; done) | (simp; omega))) _).setCell (by (first | omega | (simp; done) | (simp; omega))) _) _⟩
                case measure => simp [intOf]; omega
    · obtain rfl : k = NL := by omega
      have HP2 := HP.out
      rw [HST.out] at HP2
      injection HP2 with e1 e2
      injection e2 with e2 e3
      subst e1 e2 e3
      clear hnx
      have BN : Hid (Below w.heap.size w wr) := Lib.hid (btr BS.out HNX.out)
      obtain ⟨e1, e2⟩ := h_mul (A := 13) (B := 13) (a := j + 1) (b := i + 1) (by omega) (by omega) (by omega) (by omega)
      obtain ⟨e3, e4⟩ := h_mul (A := 169) (B := 12) (a := (j + 1) * (i + 1)) (b := j) (by omega) (by omega) (by omega) (by omega)
      obtain ⟨e5, e6⟩ := h_mul (A := 2028) (B := 14) (a := (j + 1) * (i + 1) * j) (b := j + 2) (by omega) (by omega) (by omega) (by omega)
      have wr1 : IntKind.i64.wrap (j + 1) = j + 1 := IntWalk.i64_in _ (by omega)
      have wr2 : IntKind.i64.wrap (i + 1) = i + 1 := IntWalk.i64_in _ (by omega)
      have wr3 : IntKind.i64.wrap ((j + 1) * (i + 1)) = (j + 1) * (i + 1) := IntWalk.i64_in _ (by omega)
      have wr4 : IntKind.i64.wrap ((j + 1) * (i + 1) * j) = (j + 1) * (i + 1) * j := IntWalk.i64_in _ (by omega)
      have wr5 : IntKind.i64.wrap (j + 2) = j + 2 := IntWalk.i64_in _ (by omega)
      have wr6 : IntKind.i64.wrap ((j + 1) * (i + 1) * j * (j + 2)) = (j + 1) * (i + 1) * j * (j + 2) := IntWalk.i64_in _ (by omega)
      go_wp2_with fail
      have Kz61_sum : Blk wr (w5.heap.size) #[.int .i64 ((j + 1) * (i + 1) * j * (j + 2)), .int .i64 1] := KSH.out
      have Bz61 : Below w.heap.size w wr := by (repeat' (first | exact Below.refl _ _ | refine bl_out ?_ (by assumption) | exact (Hid.out (by assumption)) | refine bl_alloc ?_ _ | refine bl_drewN ?_ _ | refine bl_drew ?_ | refine bl_set ?_ ?_ _ | omega | (simp; done) | (simp; omega)))
      generalize wr = z61 at *
      obtain ⟨z61_c0_sum, z61_c1_sum, z61_f0_sum, z61_f1_sum⟩ := blk2 Kz61_sum
      have Kz61_sumH := Lib.hid Kz61_sum
      have z61_l_sum := Kz61_sum.lt
      have z61B := Lib.hid Bz61
      clear Bz61
      clear Kz61_sum
      go_region_held3 (fun w' => Below z61.heap.size z61 w' ∧ w'.cell? ⟨w5.heap.size, 0, none⟩ = some (.int .i64 ((j + 1) * (i + 1) * j * (j + 2))) ∧ w'.cell? ⟨w5.heap.size, 1, none⟩ = some (.int .i64 1)) ((refine and_keep ?_ (fun hB => ⟨held_cell hB z61_c0_sum z61_l_sum, held_cell hB z61_c1_sum z61_l_sum⟩); (repeat' (first | exact (Below.refl _ _).drew | exact Below.refl _ _ | exact And.left (by assumption) | refine bl_alloc ?_ _ | refine bl_drew ?_ | refine bl_set ?_ ?_ _ | refine btr ?_ (by assumption) | omega | (simp; done) | (simp; omega))))) (first | (go_at_call 31; refine (l_whole _ _).mono ?_; rintro e w' ⟨rfl, hb'⟩))
      go_wp2_with fail
      go_ret
      exact ⟨rfl, btr z61B.out (by (repeat' (first | exact (Below.refl _ _).drew | exact Below.refl _ _ | exact And.left (by assumption) | refine bl_alloc ?_ _ | refine bl_drew ?_ | refine bl_set ?_ ?_ _ | refine btr ?_ (by assumption) | omega | (simp; done) | (simp; omega))))⟩

end Go.Proofs.Ytnpfcifdpmdnlaa
