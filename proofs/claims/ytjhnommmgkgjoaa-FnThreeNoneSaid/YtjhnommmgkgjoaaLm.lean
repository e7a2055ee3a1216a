/- The walks of the laws on ThreeJ. -/
import Derived.Test.YtjhnommmgkgjoaaTh
import Derived.Test.YtjhnommmgkgjoaaPt2
import Derived.Test.YtjhnommmgkgjoaaTk
import Derived.Test.YtjhnommmgkgjoaaDr
import Derived.Test.YtjhnommmgkgjoaaLv
namespace Go.Proofs.Ytjhnommmgkgjoaa
open Go.RowKit
set_option linter.unusedVariables false

set_option maxRecDepth 100000 in
set_option maxHeartbeats 4000000 in
theorem l_FnThreeNone (s : Option Addr) (len cap : Nat) (w : World) (h : Code w s len cap) (hl : len ≤ 9223372036854775807) (hc : cap ≤ 9223372036854775807) :
    Calls Try.prog 7 #[.slice s len cap] w (RTrueK w) := by
  have H := Lib.hid h
  clear h
  by_cases hbig : 1048576 < len
  · go_enter Try.func7, Try.ntmps7
    go_wp2_with fail
    go_ret
    exact ⟨rfl, Below.refl _ _⟩
  go_enter Try.func7, Try.ntmps7
  go_wp2_with fail
  refine (s_DrawThreeJ s len cap w H.out hl hc).mono ?_
  rintro e w1 ⟨a, b, c, m, n, k, rfl, ⟨a0, a1⟩, ⟨b0, b1⟩, ⟨c0, c1⟩, ⟨m0, m1⟩, ⟨n0, n1⟩, ⟨k0, k1⟩, hb1⟩
  have w1z := hb1.size
  try simp at w1z
  have w1B := Lib.hid hb1
  clear hb1
  go_wp2_with fail
  refine (i_ThreeJ _ _ _ _ _ _ _).mono ?_
  rintro e w2 ⟨rfl, hb2⟩
  have w2z := hb2.size
  try simp at w2z
  have w2B := Lib.hid hb2
  clear hb2
  generalize hX : thI a b c m n k = XhX at *
  obtain ⟨S, N, D, o⟩ := XhX
  have HhX := Lib.hid hX
  clear hX
  simp only [rtv]
  go_wp2_with fail
  refine (s_ThreeJ _ _ _ _ _ _ _).mono ?_
  rintro e w3 ⟨rfl, hb3⟩
  have Kw3_out : Blk w3 (w2.heap.size) #[.int .i64 S, .int .i64 N, .int .i64 D] := blk_later hb3 (blk_new (by simp))
  obtain ⟨w3_c0_out, w3_c1_out, w3_c2_out, w3_f0_out, w3_f1_out, w3_f2_out⟩ := blk3 Kw3_out
  have Kw3_outH := Lib.hid Kw3_out
  have w3_l_out := Kw3_out.lt
  have w3_m_out : w2.heap.size < w3.heap.size + 1 := by omega
  have w3z := hb3.size
  try simp at w3z
  have w3B := Lib.hid hb3
  clear Kw3_out
  clear hb3
  rw [HhX.out]
  simp only [rtv]
  cases o
  · go_wp2_with fail
    go_ret
    exact ⟨rfl, by (repeat' (first | exact Below.refl _ _ | refine bl_out ?_ (by assumption) | exact (Hid.out (by assumption)) | refine bl_alloc ?_ _ | refine bl_drewN ?_ _ | refine bl_drew ?_ | refine bl_set ?_ ?_ _ | omega | (simp; done) | (simp; omega)))⟩
  have OK := Lib.hid (thI_ok HhX.out)
  have ht := tdB_iff.1 (cpOk_iff.1 (thOk_iff.1 OK.out).1).1
  have hm := hasB_iff.1 (cpOk_iff.1 (thOk_iff.1 OK.out).1).2.1
  have hn := hasB_iff.1 (cpOk_iff.1 (thOk_iff.1 OK.out).1).2.2
  have hk := hasB_iff.1 (thOk_iff.1 OK.out).2
  have P := all6_of okNone3_all OK.out
  simp only [okNone3, HhX.out] at P
  obtain ⟨N2, D2, o2, hY⟩ := pair3 (ratMul N D (c + 1) 1)
  rw [hY] at P
  obtain ⟨⟨⟨⟨rfl, p2⟩, p3⟩, p1⟩, p4⟩ : (((o2 = true ∧ ratB N2 D2 = true) ∧ N2 ≤ D2) ∧ rootOk S N D = true) ∧ (m + n + k = 0 ∨ S = 0) := by simpa using P
  obtain ⟨⟨s0, s1⟩, h3, h4, h5⟩ := rootOk_iff p1
  have H3 := Lib.hid h3
  have H5 := Lib.hid h5
  have HY := Lib.hid hY
  have HLE : Hid (cmpI (1 * D2) (N2 * 1) < 0 ↔ false = true) := Lib.hid (by unfold cmpI; split <;> (try split) <;> simp <;> omega)
  have R1 : Hid (ratB 1 1 = true) := Lib.hid (by decide)
  have R2 := Lib.hid p2
  have wrc : IntKind.i64.wrap (c + 1) = c + 1 := IntWalk.i64_in _ (by omega)
  clear P p1 p2 p3 h3 h5 hY
  go_upto_region 8 with fail
  have Kz4_out : Blk (w3.alloc (.cells #[.int .i64 S, .int .i64 N, .int .i64 D] 33)) (w2.heap.size) #[.int .i64 S, .int .i64 N, .int .i64 D] := (blk_alloc Kw3_outH.out (.cells #[.int .i64 S, .int .i64 N, .int .i64 D] 33))
  have Bz4 : Below w.heap.size w (w3.alloc (.cells #[.int .i64 S, .int .i64 N, .int .i64 D] 33)) := by (repeat' (first | exact Below.refl _ _ | refine bl_out ?_ (by assumption) | exact (Hid.out (by assumption)) | refine bl_alloc ?_ _ | refine bl_drewN ?_ _ | refine bl_drew ?_ | refine bl_set ?_ ?_ _ | omega | (simp; done) | (simp; omega)))
  have Sz4 : (w3.alloc (.cells #[.int .i64 S, .int .i64 N, .int .i64 D] 33)).heap.size = w3.heap.size + 1 := by simp
  generalize (w3.alloc (.cells #[.int .i64 S, .int .i64 N, .int .i64 D] 33)) = z4 at *
  have Sz4a := Nat.le_of_eq Sz4
  have Sz4b := Nat.le_of_eq Sz4.symm
  clear Sz4
  obtain ⟨z4_c0_out, z4_c1_out, z4_c2_out, z4_f0_out, z4_f1_out, z4_f2_out⟩ := blk3 Kz4_out
  have Kz4_outH := Lib.hid Kz4_out
  have z4_l_out := Kz4_out.lt
  have z4B := Lib.hid Bz4
  clear Bz4
  clear Kz4_out
  go_cut [13, 14] (CutBlk z4 #[.int .i64 N2, .int .i64 D2] true)
  case first =>
    go_region_held3 (fun w' => Below z4.heap.size z4 w' ∧ w'.cell? ⟨w2.heap.size, 0, none⟩ = some (.int .i64 S) ∧ w'.cell? ⟨w2.heap.size, 1, none⟩ = some (.int .i64 N) ∧ w'.cell? ⟨w2.heap.size, 2, none⟩ = some (.int .i64 D)) ((refine and_keep ?_ (fun hB => ⟨held_cell hB z4_c0_out z4_l_out, held_cell hB z4_c1_out z4_l_out, held_cell hB z4_c2_out z4_l_out⟩); (repeat' (first | with_reducible exact Below.refl _ _ | with_reducible refine bl_alloc ?_ _ | with_reducible refine bl_set ?_ ?_ _ | exact (Below.refl _ _).drew | with_reducible refine bl_drew ?_ | with_reducible refine btr ?_ hbB | with_reducible refine btr ?_ hbA | omega | (simp; done) | (simp; omega))))) (first | (go_at_call 13; refine (l_whole _ _).mono ?_; rintro e wA ⟨rfl, hbA⟩; obtain ⟨hcA, hfA⟩ := bcell hbA; have hzA : z4.heap.size ≤ wA.heap.size := (by first | exact hbA.size | exact Nat.le_trans hzA hbA.size | (have h0 := hbA.size; (try simp at h0); omega)); (try (have hyA : z4.heap.size < wA.heap.size := by (have h0 := hbA.size; (try simp at h0); omega)))) | (go_at_call 16; refine (i_RatMul2 _ _ _ _ _ _ _ _ HY).mono ?_; rintro e wB ⟨rfl, hbB⟩; obtain ⟨hcB, hfB⟩ := bcell hbB; have hzB : z4.heap.size ≤ wB.heap.size := (by first | exact hbB.size | exact Nat.le_trans hzA hbB.size | (have h0 := hbB.size; (try simp at h0); omega)); (try (have hyB : z4.heap.size < wB.heap.size := by (have h0 := hbB.size; (try simp at h0); omega)))))
    all_goals
      go_wp2_with fail
      go_meet
      exact ⟨_, rfl, rfl, by (first | omega | (simp; omega)), by (repeat' (first | exact blk_new (by simp) | with_reducible refine blk_store2 (x := .int .i64 0) (y := .int .i64 0) ?_ | with_reducible refine blk_store3 (x := .int .i64 0) (y := .int .i64 0) (z := .int .i64 0) ?_ | with_reducible refine blk_drew ?_ | with_reducible refine blk_later hbB ?_ | with_reducible refine blk_later hbA ?_)), by (repeat' (first | with_reducible exact Below.refl _ _ | with_reducible refine bl_alloc ?_ _ | with_reducible refine bl_set ?_ ?_ _ | exact (Below.refl _ _).drew | with_reducible refine bl_drew ?_ | with_reducible refine btr ?_ hbB | with_reducible refine btr ?_ hbA | omega | (simp; done) | (simp; omega)))⟩
  case rest =>
    obtain ⟨g5, rfl, rfl, g5z, Kg5, hb5⟩ := hcut
    obtain ⟨w5, rfl⟩ : ∃ x, x = wc := ⟨_, rfl⟩
    have Kw5_out : Blk w5 (w2.heap.size) #[.int .i64 S, .int .i64 N, .int .i64 D] := blk_later hb5 Kz4_outH.out
    obtain ⟨w5_c0_out, w5_c1_out, w5_c2_out, w5_f0_out, w5_f1_out, w5_f2_out⟩ := blk3 Kw5_out
    have Kw5_outH := Lib.hid Kw5_out
    have w5_l_out := Kw5_out.lt
    have w5_m_out : w2.heap.size < w5.heap.size + 1 := by omega
    have w5z := hb5.size
    try simp at w5z
    have w5B := Lib.hid hb5
    clear Kw5_out
    clear hb5
    obtain ⟨w5_c0_x, w5_c1_x, w5_f0_x, w5_f1_x⟩ := blk2 Kg5
    have Kg5H := Lib.hid Kg5
    have w5_l_x := Kg5.lt
    clear Kg5
    clear wrc
    have wr1 : IntKind.i64.wrap (m + n) = m + n := IntWalk.i64_in _ (by omega)
    have wr2 : IntKind.i64.wrap (m + n + k) = m + n + k := IntWalk.i64_in _ (by omega)
    by_cases h0 : m + n + k = 0
    · skip
      have b0 : (m + n + k == 0) = true := by simp; omega
      clear p4 h0
      go_wp2_with fail
      have Kz6_out : Blk w5 (w2.heap.size) #[.int .i64 S, .int .i64 N, .int .i64 D] := Kw5_outH.out
      have Kz6_x : Blk w5 (g5) #[.int .i64 N2, .int .i64 D2] := Kg5H.out
      have Bz6 : Below w.heap.size w w5 := by (repeat' (first | exact Below.refl _ _ | refine bl_out ?_ (by assumption) | exact (Hid.out (by assumption)) | refine bl_alloc ?_ _ | refine bl_drewN ?_ _ | refine bl_drew ?_ | refine bl_set ?_ ?_ _ | omega | (simp; done) | (simp; omega)))
      generalize w5 = z6 at *
      obtain ⟨z6_c0_out, z6_c1_out, z6_c2_out, z6_f0_out, z6_f1_out, z6_f2_out⟩ := blk3 Kz6_out
      have Kz6_outH := Lib.hid Kz6_out
      have z6_l_out := Kz6_out.lt
      obtain ⟨z6_c0_x, z6_c1_x, z6_f0_x, z6_f1_x⟩ := blk2 Kz6_x
      have Kz6_xH := Lib.hid Kz6_x
      have z6_l_x := Kz6_x.lt
      have z6B := Lib.hid Bz6
      clear Bz6
      clear Kz6_out Kz6_x
      refine wp_region_held_drew (S := (fun w' => Below z6.heap.size z6 w' ∧ w'.cell? ⟨w2.heap.size, 0, none⟩ = some (.int .i64 S) ∧ w'.cell? ⟨w2.heap.size, 1, none⟩ = some (.int .i64 N) ∧ w'.cell? ⟨w2.heap.size, 2, none⟩ = some (.int .i64 D) ∧ w'.cell? ⟨g5, 0, none⟩ = some (.int .i64 N2) ∧ w'.cell? ⟨g5, 1, none⟩ = some (.int .i64 D2))) (by kernel_rfl) ?_ (fun hHeld => ?_)
      · (try dsimp only)
        (refine and_keep ?_ (fun hB => ⟨held_cell hB z6_c0_out z6_l_out, held_cell hB z6_c1_out z6_l_out, held_cell hB z6_c2_out z6_l_out, held_cell hB z6_c0_x z6_l_x, held_cell hB z6_c1_x z6_l_x⟩); (repeat' (first | with_reducible exact Below.refl _ _ | with_reducible refine bl_alloc ?_ _ | with_reducible refine bl_set ?_ ?_ _ | exact (Below.refl _ _).drew | with_reducible refine bl_drew ?_ | with_reducible refine btr ?_ hbA | with_reducible refine btr ?_ hbC | with_reducible refine btr ?_ hbB | omega | (simp; done) | (simp; omega))))
      refine take_yes (i := 0) (v := ?vt10_1) (d := some 76) rfl rfl (by kernel_rfl) (by kernel_rfl) (by kernel_rfl) (fun _ _ _ h => h) (by rfl) ?yt10_1 (by assumption) ?rt10_1
      case yt10_1 =>
        intro w hSw
        (try dsimp only at hSw)
        go_simp
        try with_reducible rfl
      (try simp only [Act.put, List.setIfInBounds_toArray, List.set_cons_zero, List.set_cons_succ])
      refine take_yes (i := 1) (v := ?vt10_2) (d := some 77) rfl rfl (by kernel_rfl) (by kernel_rfl) (by kernel_rfl) (fun _ _ _ h => h) (by rfl) ?yt10_2 (by assumption) ?rt10_2
      case yt10_2 =>
        intro w hSw
        (try dsimp only at hSw)
        go_simp
        try with_reducible rfl
      (try simp only [Act.put, List.setIfInBounds_toArray, List.set_cons_zero, List.set_cons_succ])
      refine take_yes (i := 2) (v := ?vt10_3) (d := some 78) rfl rfl (by kernel_rfl) (by kernel_rfl) (by kernel_rfl) (fun _ _ _ h => h) (by rfl) ?yt10_3 (by assumption) ?rt10_3
      case yt10_3 =>
        intro w hSw
        (try dsimp only at hSw)
        go_simp
        try with_reducible rfl
      (try simp only [Act.put, List.setIfInBounds_toArray, List.set_cons_zero, List.set_cons_succ])
      refine take_yes (i := 3) (v := ?vt10_4) (d := some 79) rfl rfl (by kernel_rfl) (by kernel_rfl) (by kernel_rfl) (fun _ _ _ h => h) (by rfl) ?yt10_4 (by assumption) ?rt10_4
      case yt10_4 =>
        intro w hSw
        (try dsimp only at hSw)
        go_simp
        try with_reducible rfl
      (try simp only [Act.put, List.setIfInBounds_toArray, List.set_cons_zero, List.set_cons_succ])
      refine take_yes (i := 4) (v := ?vt10_5) (d := some 80) rfl rfl (by kernel_rfl) (by kernel_rfl) (by kernel_rfl) (fun _ _ _ h => h) (by rfl) ?yt10_5 (by assumption) ?rt10_5
      case yt10_5 =>
        intro w hSw
        (try dsimp only at hSw)
        go_simp
        try with_reducible rfl
      (try simp only [Act.put, List.setIfInBounds_toArray, List.set_cons_zero, List.set_cons_succ])
      refine take_yes (i := 5) (v := ?vt10_6) (d := some 81) rfl rfl (by kernel_rfl) (by kernel_rfl) (by kernel_rfl) (fun _ _ _ h => h) (by rfl) ?yt10_6 (by assumption) ?rt10_6
      case yt10_6 =>
        intro w hSw
        (try dsimp only at hSw)
        go_simp
        try with_reducible rfl
      (try simp only [Act.put, List.setIfInBounds_toArray, List.set_cons_zero, List.set_cons_succ])
      refine take_yes (i := 6) (v := ?vt10_7) (d := some 82) rfl rfl (by kernel_rfl) (by kernel_rfl) (by kernel_rfl) (fun _ _ _ h => h) (by rfl) ?yt10_7 (by assumption) ?rt10_7
      case yt10_7 =>
        intro w hSw
        (try dsimp only at hSw)
        go_simp
        try with_reducible rfl
      (try simp only [Act.put, List.setIfInBounds_toArray, List.set_cons_zero, List.set_cons_succ])
      refine take_yes (i := 7) (v := ?vt10_8) (d := some 83) rfl rfl (by kernel_rfl) (by kernel_rfl) (by kernel_rfl) (fun _ _ _ h => h) (by rfl) ?yt10_8 (by assumption) ?rt10_8
      case yt10_8 =>
        intro w hSw
        (try dsimp only at hSw)
        go_simp
        try with_reducible rfl
      (try simp only [Act.put, List.setIfInBounds_toArray, List.set_cons_zero, List.set_cons_succ])
      refine take_yes (i := 8) (v := ?vt10_9) (d := some 84) rfl rfl (by kernel_rfl) (by kernel_rfl) (by kernel_rfl) (fun _ _ _ h => h) (by rfl) ?yt10_9 (by assumption) ?rt10_9
      case yt10_9 =>
        intro w hSw
        (try dsimp only at hSw)
        go_simp
        try with_reducible rfl
      (try simp only [Act.put, List.setIfInBounds_toArray, List.set_cons_zero, List.set_cons_succ])
      refine take_no (i := 9) (d := some 85) rfl rfl (by kernel_rfl) (by kernel_rfl) (by kernel_rfl) (fun _ _ _ h => h) (by rfl) (by assumption) ?_
      (try simp only [Act.put, List.setIfInBounds_toArray, List.set_cons_zero, List.set_cons_succ])
      refine take_no (i := 10) (d := some 86) rfl rfl (by kernel_rfl) (by kernel_rfl) (by kernel_rfl) (fun _ _ _ h => h) (by rfl) (by assumption) ?_
      (try simp only [Act.put, List.setIfInBounds_toArray, List.set_cons_zero, List.set_cons_succ])
      refine take_no (i := 11) (d := some 87) rfl rfl (by kernel_rfl) (by kernel_rfl) (by kernel_rfl) (fun _ _ _ h => h) (by rfl) (by assumption) ?_
      (try simp only [Act.put, List.setIfInBounds_toArray, List.set_cons_zero, List.set_cons_succ])
      refine take_yes (i := 12) (v := ?vt10_10) (d := some 88) rfl rfl (by kernel_rfl) (by kernel_rfl) (by kernel_rfl) (fun _ _ _ h => h) (by rfl) ?yt10_10 (by assumption) ?rt10_10
      case yt10_10 =>
        intro w hSw
        (try dsimp only at hSw)
        go_simp
        try with_reducible rfl
      (try simp only [Act.put, List.setIfInBounds_toArray, List.set_cons_zero, List.set_cons_succ])
      refine take_yes (i := 13) (v := ?vt10_11) (d := some 89) rfl rfl (by kernel_rfl) (by kernel_rfl) (by kernel_rfl) (fun _ _ _ h => h) (by rfl) ?yt10_11 (by assumption) ?rt10_11
      case yt10_11 =>
        intro w hSw
        (try dsimp only at hSw)
        go_simp
        try with_reducible rfl
      (try simp only [Act.put, List.setIfInBounds_toArray, List.set_cons_zero, List.set_cons_succ])
      refine take_yes (i := 14) (v := ?vt10_12) (d := some 90) rfl rfl (by kernel_rfl) (by kernel_rfl) (by kernel_rfl) (fun _ _ _ h => h) (by rfl) ?yt10_12 (by assumption) ?rt10_12
      case yt10_12 =>
        intro w hSw
        (try dsimp only at hSw)
        go_simp
        try with_reducible rfl
      (try simp only [Act.put, List.setIfInBounds_toArray, List.set_cons_zero, List.set_cons_succ])
      refine take_yes (i := 16) (v := ?vt10_13) (d := some 92) rfl rfl (by kernel_rfl) (by kernel_rfl) (by kernel_rfl) (fun _ _ _ h => h) (by rfl) ?yt10_13 (by assumption) ?rt10_13
      case yt10_13 =>
        intro w hSw
        (try dsimp only at hSw)
        go_simp
        try with_reducible rfl
      (try simp only [Act.put, List.setIfInBounds_toArray, List.set_cons_zero, List.set_cons_succ])
      refine wpAnyH_ready (rs := [15]) (by kernel_rfl) (by simp) ?_
      refine AllReadyH.cons (o := _) rfl (fun K hK => ?_) AllReadyH.nil
      go_simp
      refine (l_whole _ _).mono ?_
      rintro e wt10_14 ⟨rfl, hbB⟩
      (try go_wp2_with fail)
      refine hK.out _ _ ?_ (fun hHeld => ?_)
      · (try dsimp only)
        (refine and_keep ?_ (fun hB => ⟨held_cell hB z6_c0_out z6_l_out, held_cell hB z6_c1_out z6_l_out, held_cell hB z6_c2_out z6_l_out, held_cell hB z6_c0_x z6_l_x, held_cell hB z6_c1_x z6_l_x⟩); (repeat' (first | with_reducible exact Below.refl _ _ | with_reducible refine bl_alloc ?_ _ | with_reducible refine bl_set ?_ ?_ _ | exact (Below.refl _ _).drew | with_reducible refine bl_drew ?_ | with_reducible refine btr ?_ hbA | with_reducible refine btr ?_ hbC | with_reducible refine btr ?_ hbB | omega | (simp; done) | (simp; omega))))
      clear hK K
      (try simp only [Act.put, List.setIfInBounds_toArray, List.set_cons_zero, List.set_cons_succ])
      refine wpAnyH_ready (rs := [17]) (by kernel_rfl) (by simp) ?_
      refine AllReadyH.cons (o := _) rfl (fun K hK => ?_) AllReadyH.nil
      go_simp
      refine (i_RatLess _ _ _ _ false _ R1.out R2.out HLE.out).mono ?_
      rintro e wt10_15 ⟨rfl, hbC⟩
      (try go_wp2_with fail)
      refine hK.out _ _ ?_ (fun hHeld => ?_)
      · (try dsimp only)
        (refine and_keep ?_ (fun hB => ⟨held_cell hB z6_c0_out z6_l_out, held_cell hB z6_c1_out z6_l_out, held_cell hB z6_c2_out z6_l_out, held_cell hB z6_c0_x z6_l_x, held_cell hB z6_c1_x z6_l_x⟩); (repeat' (first | with_reducible exact Below.refl _ _ | with_reducible refine bl_alloc ?_ _ | with_reducible refine bl_set ?_ ?_ _ | exact (Below.refl _ _).drew | with_reducible refine bl_drew ?_ | with_reducible refine btr ?_ hbA | with_reducible refine btr ?_ hbC | with_reducible refine btr ?_ hbB | omega | (simp; done) | (simp; omega))))
      clear hK K
      (try simp only [Act.put, List.setIfInBounds_toArray, List.set_cons_zero, List.set_cons_succ])
      refine take_yes (i := 18) (v := ?vt10_16) (d := some 94) rfl rfl (by kernel_rfl) (by kernel_rfl) (by kernel_rfl) (fun _ _ _ h => h) (by rfl) ?yt10_16 (by assumption) ?rt10_16
      case yt10_16 =>
        intro w hSw
        (try dsimp only at hSw)
        go_simp
        try with_reducible rfl
      (try simp only [Act.put, List.setIfInBounds_toArray, List.set_cons_zero, List.set_cons_succ])
      refine take_yes (i := 19) (v := ?vt10_17) (d := some 95) rfl rfl (by kernel_rfl) (by kernel_rfl) (by kernel_rfl) (fun _ _ _ h => h) (by rfl) ?yt10_17 (by assumption) ?rt10_17
      case yt10_17 =>
        intro w hSw
        (try dsimp only at hSw)
        go_simp
        try with_reducible rfl
      (try simp only [Act.put, List.setIfInBounds_toArray, List.set_cons_zero, List.set_cons_succ])
      refine take_yes (i := 20) (v := ?vt10_18) (d := some 96) rfl rfl (by kernel_rfl) (by kernel_rfl) (by kernel_rfl) (fun _ _ _ h => h) (by rfl) ?yt10_18 (by assumption) ?rt10_18
      case yt10_18 =>
        intro w hSw
        (try dsimp only at hSw)
        go_simp
        try with_reducible rfl
      (try simp only [Act.put, List.setIfInBounds_toArray, List.set_cons_zero, List.set_cons_succ])
      refine take_yes (i := 21) (v := ?vt10_19) (d := some 97) rfl rfl (by kernel_rfl) (by kernel_rfl) (by kernel_rfl) (fun _ _ _ h => h) (by rfl) ?yt10_19 (by assumption) ?rt10_19
      case yt10_19 =>
        intro w hSw
        (try dsimp only at hSw)
        go_simp
        try with_reducible rfl
      (try simp only [Act.put, List.setIfInBounds_toArray, List.set_cons_zero, List.set_cons_succ])
      refine wpAnyH_ready (rs := [22]) (by kernel_rfl) (by simp) ?_
      refine AllReadyH.cons (o := _) rfl (fun K hK => ?_) AllReadyH.nil
      go_simp
      refine (i_RootValid _ _ _ _ (by omega) (by omega) H3.out h4 H5.out).mono ?_
      rintro e wt10_20 ⟨rfl, hbA⟩
      (try go_wp2_with fail)
      refine hK.out _ _ ?_ (fun hHeld => ?_)
      · (try dsimp only)
        (refine and_keep ?_ (fun hB => ⟨held_cell hB z6_c0_out z6_l_out, held_cell hB z6_c1_out z6_l_out, held_cell hB z6_c2_out z6_l_out, held_cell hB z6_c0_x z6_l_x, held_cell hB z6_c1_x z6_l_x⟩); (repeat' (first | with_reducible exact Below.refl _ _ | with_reducible refine bl_alloc ?_ _ | with_reducible refine bl_set ?_ ?_ _ | exact (Below.refl _ _).drew | with_reducible refine bl_drew ?_ | with_reducible refine btr ?_ hbA | with_reducible refine btr ?_ hbC | with_reducible refine btr ?_ hbB | omega | (simp; done) | (simp; omega))))
      clear hK K
      (try simp only [Act.put, List.setIfInBounds_toArray, List.set_cons_zero, List.set_cons_succ])
      refine take_yes (i := 23) (v := ?vt10_21) (d := some 99) rfl rfl (by kernel_rfl) (by kernel_rfl) (by kernel_rfl) (fun _ _ _ h => h) (by rfl) ?yt10_21 (by assumption) ?rt10_21
      case yt10_21 =>
        intro w hSw
        (try dsimp only at hSw)
        go_simp
        try with_reducible rfl
      (try simp only [Act.put, List.setIfInBounds_toArray, List.set_cons_zero, List.set_cons_succ])
      refine take_yes (i := 24) (v := ?vt10_22) (d := some 2) rfl rfl (by kernel_rfl) (by kernel_rfl) (by kernel_rfl) (fun _ _ _ h => h) (by rfl) ?yt10_22 (by assumption) ?rt10_22
      case yt10_22 =>
        intro w hSw
        (try dsimp only at hSw)
        go_simp
        try with_reducible rfl
      (try simp only [Act.put, List.setIfInBounds_toArray, List.set_cons_zero, List.set_cons_succ])
      refine wpAnyH_done (by kernel_rfl) ?_ _
      go_wp2_with fail
      go_ret
      exact ⟨rfl, btr z6B.out (by (repeat' (first | with_reducible exact Below.refl _ _ | with_reducible refine bl_alloc ?_ _ | with_reducible refine bl_set ?_ ?_ _ | exact (Below.refl _ _).drew | with_reducible refine bl_drew ?_ | with_reducible refine btr ?_ hbA | with_reducible refine btr ?_ hbC | with_reducible refine btr ?_ hbB | omega | (simp; done) | (simp; omega))))⟩
    · skip
      obtain rfl : S = 0 := by omega
      have H6 : Hid (N ≤ 0) := Lib.hid (by have h5b := H5.out; simp at h5b; omega)
      have b0 : (m + n + k == 0) = false := by simp; omega
      clear p4 h0
      go_wp2_with fail
      have Kz6_out : Blk w5 (w2.heap.size) #[.int .i64 0, .int .i64 N, .int .i64 D] := Kw5_outH.out
      have Kz6_x : Blk w5 (g5) #[.int .i64 N2, .int .i64 D2] := Kg5H.out
      have Bz6 : Below w.heap.size w w5 := by (repeat' (first | exact Below.refl _ _ | refine bl_out ?_ (by assumption) | exact (Hid.out (by assumption)) | refine bl_alloc ?_ _ | refine bl_drewN ?_ _ | refine bl_drew ?_ | refine bl_set ?_ ?_ _ | omega | (simp; done) | (simp; omega)))
      generalize w5 = z6 at *
      obtain ⟨z6_c0_out, z6_c1_out, z6_c2_out, z6_f0_out, z6_f1_out, z6_f2_out⟩ := blk3 Kz6_out
      have Kz6_outH := Lib.hid Kz6_out
      have z6_l_out := Kz6_out.lt
      obtain ⟨z6_c0_x, z6_c1_x, z6_f0_x, z6_f1_x⟩ := blk2 Kz6_x
      have Kz6_xH := Lib.hid Kz6_x
      have z6_l_x := Kz6_x.lt
      have z6B := Lib.hid Bz6
      clear Bz6
      clear Kz6_out Kz6_x
      refine wp_region_held_drew (S := (fun w' => Below z6.heap.size z6 w' ∧ w'.cell? ⟨w2.heap.size, 0, none⟩ = some (.int .i64 0) ∧ w'.cell? ⟨w2.heap.size, 1, none⟩ = some (.int .i64 N) ∧ w'.cell? ⟨w2.heap.size, 2, none⟩ = some (.int .i64 D) ∧ w'.cell? ⟨g5, 0, none⟩ = some (.int .i64 N2) ∧ w'.cell? ⟨g5, 1, none⟩ = some (.int .i64 D2))) (by kernel_rfl) ?_ (fun hHeld => ?_)
      · (try dsimp only)
        (refine and_keep ?_ (fun hB => ⟨held_cell hB z6_c0_out z6_l_out, held_cell hB z6_c1_out z6_l_out, held_cell hB z6_c2_out z6_l_out, held_cell hB z6_c0_x z6_l_x, held_cell hB z6_c1_x z6_l_x⟩); (repeat' (first | with_reducible exact Below.refl _ _ | with_reducible refine bl_alloc ?_ _ | with_reducible refine bl_set ?_ ?_ _ | exact (Below.refl _ _).drew | with_reducible refine bl_drew ?_ | with_reducible refine btr ?_ hbA | with_reducible refine btr ?_ hbC | with_reducible refine btr ?_ hbB | omega | (simp; done) | (simp; omega))))
      refine take_yes (i := 0) (v := ?vt11_1) (d := some 76) rfl rfl (by kernel_rfl) (by kernel_rfl) (by kernel_rfl) (fun _ _ _ h => h) (by rfl) ?yt11_1 (by assumption) ?rt11_1
      case yt11_1 =>
        intro w hSw
        (try dsimp only at hSw)
        go_simp
        try with_reducible rfl
      (try simp only [Act.put, List.setIfInBounds_toArray, List.set_cons_zero, List.set_cons_succ])
      refine take_yes (i := 1) (v := ?vt11_2) (d := some 77) rfl rfl (by kernel_rfl) (by kernel_rfl) (by kernel_rfl) (fun _ _ _ h => h) (by rfl) ?yt11_2 (by assumption) ?rt11_2
      case yt11_2 =>
        intro w hSw
        (try dsimp only at hSw)
        go_simp
        try with_reducible rfl
      (try simp only [Act.put, List.setIfInBounds_toArray, List.set_cons_zero, List.set_cons_succ])
      refine take_yes (i := 2) (v := ?vt11_3) (d := some 78) rfl rfl (by kernel_rfl) (by kernel_rfl) (by kernel_rfl) (fun _ _ _ h => h) (by rfl) ?yt11_3 (by assumption) ?rt11_3
      case yt11_3 =>
        intro w hSw
        (try dsimp only at hSw)
        go_simp
        try with_reducible rfl
      (try simp only [Act.put, List.setIfInBounds_toArray, List.set_cons_zero, List.set_cons_succ])
      refine take_yes (i := 3) (v := ?vt11_4) (d := some 79) rfl rfl (by kernel_rfl) (by kernel_rfl) (by kernel_rfl) (fun _ _ _ h => h) (by rfl) ?yt11_4 (by assumption) ?rt11_4
      case yt11_4 =>
        intro w hSw
        (try dsimp only at hSw)
        go_simp
        try with_reducible rfl
      (try simp only [Act.put, List.setIfInBounds_toArray, List.set_cons_zero, List.set_cons_succ])
      refine take_yes (i := 4) (v := ?vt11_5) (d := some 80) rfl rfl (by kernel_rfl) (by kernel_rfl) (by kernel_rfl) (fun _ _ _ h => h) (by rfl) ?yt11_5 (by assumption) ?rt11_5
      case yt11_5 =>
        intro w hSw
        (try dsimp only at hSw)
        go_simp
        try with_reducible rfl
      (try simp only [Act.put, List.setIfInBounds_toArray, List.set_cons_zero, List.set_cons_succ])
      refine take_yes (i := 5) (v := ?vt11_6) (d := some 81) rfl rfl (by kernel_rfl) (by kernel_rfl) (by kernel_rfl) (fun _ _ _ h => h) (by rfl) ?yt11_6 (by assumption) ?rt11_6
      case yt11_6 =>
        intro w hSw
        (try dsimp only at hSw)
        go_simp
        try with_reducible rfl
      (try simp only [Act.put, List.setIfInBounds_toArray, List.set_cons_zero, List.set_cons_succ])
      refine take_yes (i := 6) (v := ?vt11_7) (d := some 82) rfl rfl (by kernel_rfl) (by kernel_rfl) (by kernel_rfl) (fun _ _ _ h => h) (by rfl) ?yt11_7 (by assumption) ?rt11_7
      case yt11_7 =>
        intro w hSw
        (try dsimp only at hSw)
        go_simp
        try with_reducible rfl
      (try simp only [Act.put, List.setIfInBounds_toArray, List.set_cons_zero, List.set_cons_succ])
      refine take_yes (i := 7) (v := ?vt11_8) (d := some 83) rfl rfl (by kernel_rfl) (by kernel_rfl) (by kernel_rfl) (fun _ _ _ h => h) (by rfl) ?yt11_8 (by assumption) ?rt11_8
      case yt11_8 =>
        intro w hSw
        (try dsimp only at hSw)
        go_simp
        try with_reducible rfl
      (try simp only [Act.put, List.setIfInBounds_toArray, List.set_cons_zero, List.set_cons_succ])
      refine take_yes (i := 8) (v := ?vt11_9) (d := some 84) rfl rfl (by kernel_rfl) (by kernel_rfl) (by kernel_rfl) (fun _ _ _ h => h) (by rfl) ?yt11_9 (by assumption) ?rt11_9
      case yt11_9 =>
        intro w hSw
        (try dsimp only at hSw)
        go_simp
        try with_reducible rfl
      (try simp only [Act.put, List.setIfInBounds_toArray, List.set_cons_zero, List.set_cons_succ])
      refine take_yes (i := 9) (v := ?vt11_10) (d := some 85) rfl rfl (by kernel_rfl) (by kernel_rfl) (by kernel_rfl) (fun _ _ _ h => h) (by rfl) ?yt11_10 (by assumption) ?rt11_10
      case yt11_10 =>
        intro w hSw
        (try dsimp only at hSw)
        go_simp
        try with_reducible rfl
      (try simp only [Act.put, List.setIfInBounds_toArray, List.set_cons_zero, List.set_cons_succ])
      refine take_yes (i := 10) (v := ?vt11_11) (d := some 86) rfl rfl (by kernel_rfl) (by kernel_rfl) (by kernel_rfl) (fun _ _ _ h => h) (by rfl) ?yt11_11 (by assumption) ?rt11_11
      case yt11_11 =>
        intro w hSw
        (try dsimp only at hSw)
        go_simp
        try with_reducible rfl
      (try simp only [Act.put, List.setIfInBounds_toArray, List.set_cons_zero, List.set_cons_succ])
      refine take_yes (i := 11) (v := ?vt11_12) (d := some 87) rfl rfl (by kernel_rfl) (by kernel_rfl) (by kernel_rfl) (fun _ _ _ h => h) (by rfl) ?yt11_12 (by assumption) ?rt11_12
      case yt11_12 =>
        intro w hSw
        (try dsimp only at hSw)
        go_simp
        try with_reducible rfl
      (try simp only [Act.put, List.setIfInBounds_toArray, List.set_cons_zero, List.set_cons_succ])
      refine take_yes (i := 12) (v := ?vt11_13) (d := some 88) rfl rfl (by kernel_rfl) (by kernel_rfl) (by kernel_rfl) (fun _ _ _ h => h) (by rfl) ?yt11_13 (by assumption) ?rt11_13
      case yt11_13 =>
        intro w hSw
        (try dsimp only at hSw)
        go_simp
        try with_reducible rfl
      (try simp only [Act.put, List.setIfInBounds_toArray, List.set_cons_zero, List.set_cons_succ])
      refine take_yes (i := 13) (v := ?vt11_14) (d := some 89) rfl rfl (by kernel_rfl) (by kernel_rfl) (by kernel_rfl) (fun _ _ _ h => h) (by rfl) ?yt11_14 (by assumption) ?rt11_14
      case yt11_14 =>
        intro w hSw
        (try dsimp only at hSw)
        go_simp
        try with_reducible rfl
      (try simp only [Act.put, List.setIfInBounds_toArray, List.set_cons_zero, List.set_cons_succ])
      refine take_yes (i := 14) (v := ?vt11_15) (d := some 90) rfl rfl (by kernel_rfl) (by kernel_rfl) (by kernel_rfl) (fun _ _ _ h => h) (by rfl) ?yt11_15 (by assumption) ?rt11_15
      case yt11_15 =>
        intro w hSw
        (try dsimp only at hSw)
        go_simp
        try with_reducible rfl
      (try simp only [Act.put, List.setIfInBounds_toArray, List.set_cons_zero, List.set_cons_succ])
      refine take_yes (i := 16) (v := ?vt11_16) (d := some 92) rfl rfl (by kernel_rfl) (by kernel_rfl) (by kernel_rfl) (fun _ _ _ h => h) (by rfl) ?yt11_16 (by assumption) ?rt11_16
      case yt11_16 =>
        intro w hSw
        (try dsimp only at hSw)
        go_simp
        try with_reducible rfl
      (try simp only [Act.put, List.setIfInBounds_toArray, List.set_cons_zero, List.set_cons_succ])
      refine wpAnyH_ready (rs := [15]) (by kernel_rfl) (by simp) ?_
      refine AllReadyH.cons (o := _) rfl (fun K hK => ?_) AllReadyH.nil
      go_simp
      refine (l_whole _ _).mono ?_
      rintro e wt11_17 ⟨rfl, hbB⟩
      (try go_wp2_with fail)
      refine hK.out _ _ ?_ (fun hHeld => ?_)
      · (try dsimp only)
        (refine and_keep ?_ (fun hB => ⟨held_cell hB z6_c0_out z6_l_out, held_cell hB z6_c1_out z6_l_out, held_cell hB z6_c2_out z6_l_out, held_cell hB z6_c0_x z6_l_x, held_cell hB z6_c1_x z6_l_x⟩); (repeat' (first | with_reducible exact Below.refl _ _ | with_reducible refine bl_alloc ?_ _ | with_reducible refine bl_set ?_ ?_ _ | exact (Below.refl _ _).drew | with_reducible refine bl_drew ?_ | with_reducible refine btr ?_ hbA | with_reducible refine btr ?_ hbC | with_reducible refine btr ?_ hbB | omega | (simp; done) | (simp; omega))))
      clear hK K
      (try simp only [Act.put, List.setIfInBounds_toArray, List.set_cons_zero, List.set_cons_succ])
      refine wpAnyH_ready (rs := [17]) (by kernel_rfl) (by simp) ?_
      refine AllReadyH.cons (o := _) rfl (fun K hK => ?_) AllReadyH.nil
      go_simp
      refine (i_RatLess _ _ _ _ false _ R1.out R2.out HLE.out).mono ?_
      rintro e wt11_18 ⟨rfl, hbC⟩
      (try go_wp2_with fail)
      refine hK.out _ _ ?_ (fun hHeld => ?_)
      · (try dsimp only)
        (refine and_keep ?_ (fun hB => ⟨held_cell hB z6_c0_out z6_l_out, held_cell hB z6_c1_out z6_l_out, held_cell hB z6_c2_out z6_l_out, held_cell hB z6_c0_x z6_l_x, held_cell hB z6_c1_x z6_l_x⟩); (repeat' (first | with_reducible exact Below.refl _ _ | with_reducible refine bl_alloc ?_ _ | with_reducible refine bl_set ?_ ?_ _ | exact (Below.refl _ _).drew | with_reducible refine bl_drew ?_ | with_reducible refine btr ?_ hbA | with_reducible refine btr ?_ hbC | with_reducible refine btr ?_ hbB | omega | (simp; done) | (simp; omega))))
      clear hK K
      (try simp only [Act.put, List.setIfInBounds_toArray, List.set_cons_zero, List.set_cons_succ])
      refine take_yes (i := 18) (v := ?vt11_19) (d := some 94) rfl rfl (by kernel_rfl) (by kernel_rfl) (by kernel_rfl) (fun _ _ _ h => h) (by rfl) ?yt11_19 (by assumption) ?rt11_19
      case yt11_19 =>
        intro w hSw
        (try dsimp only at hSw)
        go_simp
        try with_reducible rfl
      (try simp only [Act.put, List.setIfInBounds_toArray, List.set_cons_zero, List.set_cons_succ])
      refine take_yes (i := 19) (v := ?vt11_20) (d := some 95) rfl rfl (by kernel_rfl) (by kernel_rfl) (by kernel_rfl) (fun _ _ _ h => h) (by rfl) ?yt11_20 (by assumption) ?rt11_20
      case yt11_20 =>
        intro w hSw
        (try dsimp only at hSw)
        go_simp
        try with_reducible rfl
      (try simp only [Act.put, List.setIfInBounds_toArray, List.set_cons_zero, List.set_cons_succ])
      refine take_yes (i := 20) (v := ?vt11_21) (d := some 96) rfl rfl (by kernel_rfl) (by kernel_rfl) (by kernel_rfl) (fun _ _ _ h => h) (by rfl) ?yt11_21 (by assumption) ?rt11_21
      case yt11_21 =>
        intro w hSw
        (try dsimp only at hSw)
        go_simp
        try with_reducible rfl
      (try simp only [Act.put, List.setIfInBounds_toArray, List.set_cons_zero, List.set_cons_succ])
      refine take_yes (i := 21) (v := ?vt11_22) (d := some 97) rfl rfl (by kernel_rfl) (by kernel_rfl) (by kernel_rfl) (fun _ _ _ h => h) (by rfl) ?yt11_22 (by assumption) ?rt11_22
      case yt11_22 =>
        intro w hSw
        (try dsimp only at hSw)
        go_simp
        try with_reducible rfl
      (try simp only [Act.put, List.setIfInBounds_toArray, List.set_cons_zero, List.set_cons_succ])
      refine wpAnyH_ready (rs := [22]) (by kernel_rfl) (by simp) ?_
      refine AllReadyH.cons (o := _) rfl (fun K hK => ?_) AllReadyH.nil
      go_simp
      refine (i_RootValid _ _ _ _ (by omega) (by omega) H3.out h4 ⟨fun _ => rfl, fun _ => Int.le_antisymm H6.out h4⟩).mono ?_
      rintro e wt11_23 ⟨rfl, hbA⟩
      (try go_wp2_with fail)
      refine hK.out _ _ ?_ (fun hHeld => ?_)
      · (try dsimp only)
        (refine and_keep ?_ (fun hB => ⟨held_cell hB z6_c0_out z6_l_out, held_cell hB z6_c1_out z6_l_out, held_cell hB z6_c2_out z6_l_out, held_cell hB z6_c0_x z6_l_x, held_cell hB z6_c1_x z6_l_x⟩); (repeat' (first | with_reducible exact Below.refl _ _ | with_reducible refine bl_alloc ?_ _ | with_reducible refine bl_set ?_ ?_ _ | exact (Below.refl _ _).drew | with_reducible refine bl_drew ?_ | with_reducible refine btr ?_ hbA | with_reducible refine btr ?_ hbC | with_reducible refine btr ?_ hbB | omega | (simp; done) | (simp; omega))))
      clear hK K
      (try simp only [Act.put, List.setIfInBounds_toArray, List.set_cons_zero, List.set_cons_succ])
      refine take_yes (i := 23) (v := ?vt11_24) (d := some 99) rfl rfl (by kernel_rfl) (by kernel_rfl) (by kernel_rfl) (fun _ _ _ h => h) (by rfl) ?yt11_24 (by assumption) ?rt11_24
      case yt11_24 =>
        intro w hSw
        (try dsimp only at hSw)
        go_simp
        try with_reducible rfl
      (try simp only [Act.put, List.setIfInBounds_toArray, List.set_cons_zero, List.set_cons_succ])
      refine take_yes (i := 24) (v := ?vt11_25) (d := some 2) rfl rfl (by kernel_rfl) (by kernel_rfl) (by kernel_rfl) (fun _ _ _ h => h) (by rfl) ?yt11_25 (by assumption) ?rt11_25
      case yt11_25 =>
        intro w hSw
        (try dsimp only at hSw)
        go_simp
        try with_reducible rfl
      (try simp only [Act.put, List.setIfInBounds_toArray, List.set_cons_zero, List.set_cons_succ])
      refine wpAnyH_done (by kernel_rfl) ?_ _
      go_wp2_with fail
      go_ret
      exact ⟨rfl, btr z6B.out (by (repeat' (first | with_reducible exact Below.refl _ _ | with_reducible refine bl_alloc ?_ _ | with_reducible refine bl_set ?_ ?_ _ | exact (Below.refl _ _).drew | with_reducible refine bl_drew ?_ | with_reducible refine btr ?_ hbA | with_reducible refine btr ?_ hbC | with_reducible refine btr ?_ hbB | omega | (simp; done) | (simp; omega))))⟩

end Go.Proofs.Ytjhnommmgkgjoaa
