/- The walk of the law that a coefficient is at most 1. -/
import Derived.Test.YtjhnommmgkgjoaaCl
import Derived.Test.YtjhnommmgkgjoaaDr
import Derived.Test.YtjhnommmgkgjoaaPm2
import Derived.Test.YtjhnommmgkgjoaaLv
import Derived.Test.YtjhnommmgkgjoaaTk
namespace Go.Proofs.Ytjhnommmgkgjoaa
open Go.RowKit
set_option linter.unusedVariables false

set_option maxRecDepth 100000 in
set_option maxHeartbeats 4000000 in
theorem l_FnClebsch (s : Option Addr) (len cap : Nat) (w : World) (h : Code w s len cap) (hl : len ≤ 9223372036854775807) (hc : cap ≤ 9223372036854775807) :
    Calls Try.prog 4 #[.slice s len cap] w (RTrueK w) := by
  have H := Lib.hid h
  clear h
  by_cases hbig : 1048576 < len
  · go_enter Try.func4, Try.ntmps4
    go_wp2_with fail
    go_ret
    exact ⟨rfl, Below.refl _ _⟩
  go_enter Try.func4, Try.ntmps4
  go_wp2_with fail
  refine (s_DrawClebsch s len cap w H.out hl hc).mono ?_
  rintro e w1 ⟨a, b, c, m, n, rfl, ⟨a0, a1⟩, ⟨b0, b1⟩, ⟨c0, c1⟩, ⟨m0, m1⟩, ⟨n0, n1⟩, hb1⟩
  have w1z := hb1.size
  try simp at w1z
  have w1B := Lib.hid hb1
  clear hb1
  go_wp2_with fail
  refine (i_Clebsch _ _ _ _ _ _).mono ?_
  rintro e w2 ⟨rfl, hb2⟩
  have w2z := hb2.size
  try simp at w2z
  have w2B := Lib.hid hb2
  clear hb2
  generalize hX : clebI a b c m n = XhX at *
  obtain ⟨S, N, D, o⟩ := XhX
  have HhX := Lib.hid hX
  clear hX
  simp only [rtv]
  go_wp2_with fail
  refine (s_Clebsch _ _ _ _ _ _).mono ?_
  rintro e w3 ⟨rfl, hb3⟩
  have Kw3_out : Blk w3 (w2.heap.size) #[.int .i64 S, .int .i64 N, .int .i64 D] := blk_later hb3 (blk_new (by simp))
  obtain ⟨w3_c0_out, w3_c1_out, w3_c2_out, w3_f0_out, w3_f1_out, w3_f2_out⟩ := blk3 Kw3_out
  have Kw3_outH := Lib.hid Kw3_out
  have w3_l_out := Kw3_out.lt
  have w3_m_out : w2.heap.size < w3.heap.size + 1 := by omega
  have w3z := hb3.size
  try simp at w3z
  have w3B := Lib.hid hb3
  clear Kw3_out
  clear hb3
  rw [HhX.out]
  simp only [rtv]
  cases o
  · go_wp2_with fail
    go_ret
    exact ⟨rfl, by (repeat' (first | exact Below.refl _ _ | refine bl_out ?_ (by assumption) | exact (Hid.out (by assumption)) | refine bl_alloc ?_ _ | refine bl_drewN ?_ _ | refine bl_drew ?_ | refine bl_set ?_ ?_ _ | omega | (simp; done) | (simp; omega)))⟩
  have OK := Lib.hid (clebI_ok HhX.out)
  have ht := tdB_iff.1 (cpOk_iff.1 OK.out).1
  have hm := hasB_iff.1 (cpOk_iff.1 OK.out).2.1
  have hn := hasB_iff.1 (cpOk_iff.1 OK.out).2.2
  go_wp2_with fail
  refine (i_CoupleSum _ _ _ _ _ _).mono ?_
  rintro e w4 ⟨rfl, hb4⟩
  have Kw4_out : Blk w4 (w2.heap.size) #[.int .i64 S, .int .i64 N, .int .i64 D] := blk_later hb4 (blk_alloc Kw3_outH.out (.cells #[.int .i64 S, .int .i64 N, .int .i64 D] 33))
  obtain ⟨w4_c0_out, w4_c1_out, w4_c2_out, w4_f0_out, w4_f1_out, w4_f2_out⟩ := blk3 Kw4_out
  have Kw4_outH := Lib.hid Kw4_out
  have w4_l_out := Kw4_out.lt
  have w4_m_out : w2.heap.size < w4.heap.size + 1 := by omega
  have w4z := hb4.size
  try simp at w4z
  have w4B := Lib.hid hb4
  clear Kw4_out
  clear hb4
  have P := all5_of okCleb_all OK.out
  simp only [okCleb, HhX.out] at P
  obtain ⟨⟨⟨p1, p5⟩, p6⟩, p7⟩ : ((rootOk S N D = true ∧ N ≤ D) ∧ S = sgnI (coupleI a b c m n)) ∧ (hasB c (m + n) = true ∨ S = 0) := by simpa using P
  obtain ⟨⟨s0, s1⟩, h3, h4, h5⟩ := rootOk_iff p1
  have H3 := Lib.hid h3
  have H5 := Lib.hid h5
  have HLE : Hid (cmpI (1 * D) (N * 1) < 0 ↔ false = true) := Lib.hid (by unfold cmpI; split <;> (try split) <;> simp <;> omega)
  have R1 : Hid (ratB 1 1 = true) := Lib.hid (by decide)
  have wrc : IntKind.i64.wrap (m + n) = m + n := IntWalk.i64_in _ (by omega)
  have p8 : hasB c (m + n) = false → coupleI a b c m n = 0 := fun h => by simp [coupleI, h]
  clear P p1 h3 h5
  generalize coupleI a b c m n = X at *
  rcases (show (S = 1 ∧ 0 < X) ∨ (S = 0 ∧ X = 0) ∨ (S = -1 ∧ X < 0) by rw [p6]; unfold sgnI; split <;> (try split) <;> omega) with ⟨rfl, hX⟩ | ⟨rfl, rfl⟩ | ⟨rfl, hX⟩
  · skip
    have d1 : decide (0 < X) = true := by simp; omega
    have d2 : decide (X < 0) = false := by simp; omega
    have hh : hasB c (m + n) = true := by rcases p7 with h | h; exact h; omega
    clear p6 p7 p8
    go_wp2_with fail
    have Kz5_out : Blk w4 (w2.heap.size) #[.int .i64 1, .int .i64 N, .int .i64 D] := Kw4_outH.out
    have Bz5 : Below w.heap.size w w4 := by (repeat' (first | exact Below.refl _ _ | refine bl_out ?_ (by assumption) | exact (Hid.out (by assumption)) | refine bl_alloc ?_ _ | refine bl_drewN ?_ _ | refine bl_drew ?_ | refine bl_set ?_ ?_ _ | omega | (simp; done) | (simp; omega)))
    generalize w4 = z5 at *
    obtain ⟨z5_c0_out, z5_c1_out, z5_c2_out, z5_f0_out, z5_f1_out, z5_f2_out⟩ := blk3 Kz5_out
    have Kz5_outH := Lib.hid Kz5_out
    have z5_l_out := Kz5_out.lt
    have z5B := Lib.hid Bz5
    clear Bz5
    clear Kz5_out
    refine wp_region_held_drew (S := (fun w' => Below z5.heap.size z5 w' ∧ w'.cell? ⟨w2.heap.size, 0, none⟩ = some (.int .i64 1) ∧ w'.cell? ⟨w2.heap.size, 1, none⟩ = some (.int .i64 N) ∧ w'.cell? ⟨w2.heap.size, 2, none⟩ = some (.int .i64 D))) (by kernel_rfl) ?_ (fun hHeld => ?_)
    · (try dsimp only)
      (refine and_keep ?_ (fun hB => ⟨held_cell hB z5_c0_out z5_l_out, held_cell hB z5_c1_out z5_l_out, held_cell hB z5_c2_out z5_l_out⟩); (repeat' (first | with_reducible exact Below.refl _ _ | with_reducible refine bl_alloc ?_ _ | with_reducible refine bl_set ?_ ?_ _ | exact (Below.refl _ _).drew | with_reducible refine bl_drew ?_ | with_reducible refine btr ?_ hbC | with_reducible refine btr ?_ hbB | with_reducible refine btr ?_ hbA | omega | (simp; done) | (simp; omega))))
    refine take_yes (i := 0) (v := ?vt1_1) (d := some 68) rfl rfl (by kernel_rfl) (by kernel_rfl) (by kernel_rfl) (fun _ _ _ h => h) (by rfl) ?yt1_1 (by assumption) ?rt1_1
    case yt1_1 =>
      intro w hSw
      (try dsimp only at hSw)
      go_simp
      try with_reducible rfl
    (try simp only [Act.put, List.setIfInBounds_toArray, List.set_cons_zero, List.set_cons_succ])
    refine wpAnyH_ready (rs := [1]) (by kernel_rfl) (by simp) ?_
    refine AllReadyH.cons (o := _) rfl (fun K hK => ?_) AllReadyH.nil
    go_simp
    refine (i_RootValid _ _ _ _ (by omega) (by omega) H3.out h4 H5.out).mono ?_
    rintro e wt1_2 ⟨rfl, hbA⟩
    (try go_wp2_with fail)
    refine hK.out _ _ ?_ (fun hHeld => ?_)
    · (try dsimp only)
      (refine and_keep ?_ (fun hB => ⟨held_cell hB z5_c0_out z5_l_out, held_cell hB z5_c1_out z5_l_out, held_cell hB z5_c2_out z5_l_out⟩); (repeat' (first | with_reducible exact Below.refl _ _ | with_reducible refine bl_alloc ?_ _ | with_reducible refine bl_set ?_ ?_ _ | exact (Below.refl _ _).drew | with_reducible refine bl_drew ?_ | with_reducible refine btr ?_ hbC | with_reducible refine btr ?_ hbB | with_reducible refine btr ?_ hbA | omega | (simp; done) | (simp; omega))))
    clear hK K
    (try simp only [Act.put, List.setIfInBounds_toArray, List.set_cons_zero, List.set_cons_succ])
    refine take_yes (i := 2) (v := ?vt1_3) (d := some 70) rfl rfl (by kernel_rfl) (by kernel_rfl) (by kernel_rfl) (fun _ _ _ h => h) (by rfl) ?yt1_3 (by assumption) ?rt1_3
    case yt1_3 =>
      intro w hSw
      (try dsimp only at hSw)
      go_simp
      try with_reducible rfl
    (try simp only [Act.put, List.setIfInBounds_toArray, List.set_cons_zero, List.set_cons_succ])
    refine take_yes (i := 4) (v := ?vt1_4) (d := some 72) rfl rfl (by kernel_rfl) (by kernel_rfl) (by kernel_rfl) (fun _ _ _ h => h) (by rfl) ?yt1_4 (by assumption) ?rt1_4
    case yt1_4 =>
      intro w hSw
      (try dsimp only at hSw)
      go_simp
      try with_reducible rfl
    (try simp only [Act.put, List.setIfInBounds_toArray, List.set_cons_zero, List.set_cons_succ])
    refine take_yes (i := 5) (v := ?vt1_5) (d := some 73) rfl rfl (by kernel_rfl) (by kernel_rfl) (by kernel_rfl) (fun _ _ _ h => h) (by rfl) ?yt1_5 (by assumption) ?rt1_5
    case yt1_5 =>
      intro w hSw
      (try dsimp only at hSw)
      go_simp
      try with_reducible rfl
    (try simp only [Act.put, List.setIfInBounds_toArray, List.set_cons_zero, List.set_cons_succ])
    refine wpAnyH_ready (rs := [3]) (by kernel_rfl) (by simp) ?_
    refine AllReadyH.cons (o := _) rfl (fun K hK => ?_) AllReadyH.nil
    go_simp
    refine (l_whole _ _).mono ?_
    rintro e wt1_6 ⟨rfl, hbB⟩
    (try go_wp2_with fail)
    refine hK.out _ _ ?_ (fun hHeld => ?_)
    · (try dsimp only)
      (refine and_keep ?_ (fun hB => ⟨held_cell hB z5_c0_out z5_l_out, held_cell hB z5_c1_out z5_l_out, held_cell hB z5_c2_out z5_l_out⟩); (repeat' (first | with_reducible exact Below.refl _ _ | with_reducible refine bl_alloc ?_ _ | with_reducible refine bl_set ?_ ?_ _ | exact (Below.refl _ _).drew | with_reducible refine bl_drew ?_ | with_reducible refine btr ?_ hbC | with_reducible refine btr ?_ hbB | with_reducible refine btr ?_ hbA | omega | (simp; done) | (simp; omega))))
    clear hK K
    (try simp only [Act.put, List.setIfInBounds_toArray, List.set_cons_zero, List.set_cons_succ])
    refine wpAnyH_ready (rs := [6]) (by kernel_rfl) (by simp) ?_
    refine AllReadyH.cons (o := _) rfl (fun K hK => ?_) AllReadyH.nil
    go_simp
    refine (i_RatLess _ _ _ _ false _ R1.out H3.out HLE.out).mono ?_
    rintro e wt1_7 ⟨rfl, hbC⟩
    (try go_wp2_with fail)
    refine hK.out _ _ ?_ (fun hHeld => ?_)
    · (try dsimp only)
      (refine and_keep ?_ (fun hB => ⟨held_cell hB z5_c0_out z5_l_out, held_cell hB z5_c1_out z5_l_out, held_cell hB z5_c2_out z5_l_out⟩); (repeat' (first | with_reducible exact Below.refl _ _ | with_reducible refine bl_alloc ?_ _ | with_reducible refine bl_set ?_ ?_ _ | exact (Below.refl _ _).drew | with_reducible refine bl_drew ?_ | with_reducible refine btr ?_ hbC | with_reducible refine btr ?_ hbB | with_reducible refine btr ?_ hbA | omega | (simp; done) | (simp; omega))))
    clear hK K
    (try simp only [Act.put, List.setIfInBounds_toArray, List.set_cons_zero, List.set_cons_succ])
    refine take_yes (i := 7) (v := ?vt1_8) (d := some 75) rfl rfl (by kernel_rfl) (by kernel_rfl) (by kernel_rfl) (fun _ _ _ h => h) (by rfl) ?yt1_8 (by assumption) ?rt1_8
    case yt1_8 =>
      intro w hSw
      (try dsimp only at hSw)
      go_simp
      try with_reducible rfl
    (try simp only [Act.put, List.setIfInBounds_toArray, List.set_cons_zero, List.set_cons_succ])
    refine take_yes (i := 8) (v := ?vt1_9) (d := some 76) rfl rfl (by kernel_rfl) (by kernel_rfl) (by kernel_rfl) (fun _ _ _ h => h) (by rfl) ?yt1_9 (by assumption) ?rt1_9
    case yt1_9 =>
      intro w hSw
      (try dsimp only at hSw)
      go_simp
      try with_reducible rfl
    (try simp only [Act.put, List.setIfInBounds_toArray, List.set_cons_zero, List.set_cons_succ])
    refine take_yes (i := 9) (v := ?vt1_10) (d := some 77) rfl rfl (by kernel_rfl) (by kernel_rfl) (by kernel_rfl) (fun _ _ _ h => h) (by rfl) ?yt1_10 (by assumption) ?rt1_10
    case yt1_10 =>
      intro w hSw
      (try dsimp only at hSw)
      go_simp
      try with_reducible rfl
    (try simp only [Act.put, List.setIfInBounds_toArray, List.set_cons_zero, List.set_cons_succ])
    refine take_yes (i := 10) (v := ?vt1_11) (d := some 78) rfl rfl (by kernel_rfl) (by kernel_rfl) (by kernel_rfl) (fun _ _ _ h => h) (by rfl) ?yt1_11 (by assumption) ?rt1_11
    case yt1_11 =>
      intro w hSw
      (try dsimp only at hSw)
      go_simp
      try with_reducible rfl
    (try simp only [Act.put, List.setIfInBounds_toArray, List.set_cons_zero, List.set_cons_succ])
    refine take_yes (i := 11) (v := ?vt1_12) (d := some 79) rfl rfl (by kernel_rfl) (by kernel_rfl) (by kernel_rfl) (fun _ _ _ h => h) (by rfl) ?yt1_12 (by assumption) ?rt1_12
    case yt1_12 =>
      intro w hSw
      (try dsimp only at hSw)
      go_simp
      try with_reducible rfl
    (try simp only [Act.put, List.setIfInBounds_toArray, List.set_cons_zero, List.set_cons_succ])
    refine take_yes (i := 12) (v := ?vt1_13) (d := some 80) rfl rfl (by kernel_rfl) (by kernel_rfl) (by kernel_rfl) (fun _ _ _ h => h) (by rfl) ?yt1_13 (by assumption) ?rt1_13
    case yt1_13 =>
      intro w hSw
      (try dsimp only at hSw)
      go_simp
      try with_reducible rfl
    (try simp only [Act.put, List.setIfInBounds_toArray, List.set_cons_zero, List.set_cons_succ])
    refine take_yes (i := 13) (v := ?vt1_14) (d := some 81) rfl rfl (by kernel_rfl) (by kernel_rfl) (by kernel_rfl) (fun _ _ _ h => h) (by rfl) ?yt1_14 (by assumption) ?rt1_14
    case yt1_14 =>
      intro w hSw
      (try dsimp only at hSw)
      go_simp
      try with_reducible rfl
    (try simp only [Act.put, List.setIfInBounds_toArray, List.set_cons_zero, List.set_cons_succ])
    refine take_yes (i := 14) (v := ?vt1_15) (d := some 82) rfl rfl (by kernel_rfl) (by kernel_rfl) (by kernel_rfl) (fun _ _ _ h => h) (by rfl) ?yt1_15 (by assumption) ?rt1_15
    case yt1_15 =>
      intro w hSw
      (try dsimp only at hSw)
      go_simp
      try with_reducible rfl
    (try simp only [Act.put, List.setIfInBounds_toArray, List.set_cons_zero, List.set_cons_succ])
    refine take_yes (i := 15) (v := ?vt1_16) (d := some 83) rfl rfl (by kernel_rfl) (by kernel_rfl) (by kernel_rfl) (fun _ _ _ h => h) (by rfl) ?yt1_16 (by assumption) ?rt1_16
    case yt1_16 =>
      intro w hSw
      (try dsimp only at hSw)
      go_simp
      try with_reducible rfl
    (try simp only [Act.put, List.setIfInBounds_toArray, List.set_cons_zero, List.set_cons_succ])
    refine take_yes (i := 16) (v := ?vt1_17) (d := some 84) rfl rfl (by kernel_rfl) (by kernel_rfl) (by kernel_rfl) (fun _ _ _ h => h) (by rfl) ?yt1_17 (by assumption) ?rt1_17
    case yt1_17 =>
      intro w hSw
      (try dsimp only at hSw)
      go_simp
      try with_reducible rfl
    (try simp only [Act.put, List.setIfInBounds_toArray, List.set_cons_zero, List.set_cons_succ])
    refine take_yes (i := 17) (v := ?vt1_18) (d := some 85) rfl rfl (by kernel_rfl) (by kernel_rfl) (by kernel_rfl) (fun _ _ _ h => h) (by rfl) ?yt1_18 (by assumption) ?rt1_18
    case yt1_18 =>
      intro w hSw
      (try dsimp only at hSw)
      go_simp
      try with_reducible rfl
    (try simp only [Act.put, List.setIfInBounds_toArray, List.set_cons_zero, List.set_cons_succ])
    refine take_yes (i := 18) (v := ?vt1_19) (d := some 86) rfl rfl (by kernel_rfl) (by kernel_rfl) (by kernel_rfl) (fun _ _ _ h => h) (by rfl) ?yt1_19 (by assumption) ?rt1_19
    case yt1_19 =>
      intro w hSw
      (try dsimp only at hSw)
      go_simp
      try with_reducible rfl
    (try simp only [Act.put, List.setIfInBounds_toArray, List.set_cons_zero, List.set_cons_succ])
    refine take_yes (i := 19) (v := ?vt1_20) (d := some 87) rfl rfl (by kernel_rfl) (by kernel_rfl) (by kernel_rfl) (fun _ _ _ h => h) (by rfl) ?yt1_20 (by assumption) ?rt1_20
    case yt1_20 =>
      intro w hSw
      (try dsimp only at hSw)
      go_simp
      try with_reducible rfl
    (try simp only [Act.put, List.setIfInBounds_toArray, List.set_cons_zero, List.set_cons_succ])
    refine take_yes (i := 20) (v := ?vt1_21) (d := some 88) rfl rfl (by kernel_rfl) (by kernel_rfl) (by kernel_rfl) (fun _ _ _ h => h) (by rfl) ?yt1_21 (by assumption) ?rt1_21
    case yt1_21 =>
      intro w hSw
      (try dsimp only at hSw)
      go_simp
      try with_reducible rfl
    (try simp only [Act.put, List.setIfInBounds_toArray, List.set_cons_zero, List.set_cons_succ])
    refine take_yes (i := 21) (v := ?vt1_22) (d := some 89) rfl rfl (by kernel_rfl) (by kernel_rfl) (by kernel_rfl) (fun _ _ _ h => h) (by rfl) ?yt1_22 (by assumption) ?rt1_22
    case yt1_22 =>
      intro w hSw
      (try dsimp only at hSw)
      go_simp
      try with_reducible rfl
    (try simp only [Act.put, List.setIfInBounds_toArray, List.set_cons_zero, List.set_cons_succ])
    refine take_yes (i := 22) (v := ?vt1_23) (d := some 90) rfl rfl (by kernel_rfl) (by kernel_rfl) (by kernel_rfl) (fun _ _ _ h => h) (by rfl) ?yt1_23 (by assumption) ?rt1_23
    case yt1_23 =>
      intro w hSw
      (try dsimp only at hSw)
      go_simp
      try with_reducible rfl
    (try simp only [Act.put, List.setIfInBounds_toArray, List.set_cons_zero, List.set_cons_succ])
    refine take_yes (i := 23) (v := ?vt1_24) (d := some 91) rfl rfl (by kernel_rfl) (by kernel_rfl) (by kernel_rfl) (fun _ _ _ h => h) (by rfl) ?yt1_24 (by assumption) ?rt1_24
    case yt1_24 =>
      intro w hSw
      (try dsimp only at hSw)
      go_simp
      try with_reducible rfl
    (try simp only [Act.put, List.setIfInBounds_toArray, List.set_cons_zero, List.set_cons_succ])
    refine take_yes (i := 24) (v := ?vt1_25) (d := some 92) rfl rfl (by kernel_rfl) (by kernel_rfl) (by kernel_rfl) (fun _ _ _ h => h) (by rfl) ?yt1_25 (by assumption) ?rt1_25
    case yt1_25 =>
      intro w hSw
      (try dsimp only at hSw)
      go_simp
      try with_reducible rfl
    (try simp only [Act.put, List.setIfInBounds_toArray, List.set_cons_zero, List.set_cons_succ])
    refine take_yes (i := 25) (v := ?vt1_26) (d := some 93) rfl rfl (by kernel_rfl) (by kernel_rfl) (by kernel_rfl) (fun _ _ _ h => h) (by rfl) ?yt1_26 (by assumption) ?rt1_26
    case yt1_26 =>
      intro w hSw
      (try dsimp only at hSw)
      go_simp
      try with_reducible rfl
    (try simp only [Act.put, List.setIfInBounds_toArray, List.set_cons_zero, List.set_cons_succ])
    refine take_yes (i := 26) (v := ?vt1_27) (d := some 94) rfl rfl (by kernel_rfl) (by kernel_rfl) (by kernel_rfl) (fun _ _ _ h => h) (by rfl) ?yt1_27 (by assumption) ?rt1_27
    case yt1_27 =>
      intro w hSw
      (try dsimp only at hSw)
      go_simp
      try with_reducible rfl
    (try simp only [Act.put, List.setIfInBounds_toArray, List.set_cons_zero, List.set_cons_succ])
    refine take_yes (i := 27) (v := ?vt1_28) (d := some 95) rfl rfl (by kernel_rfl) (by kernel_rfl) (by kernel_rfl) (fun _ _ _ h => h) (by rfl) ?yt1_28 (by assumption) ?rt1_28
    case yt1_28 =>
      intro w hSw
      (try dsimp only at hSw)
      go_simp
      try with_reducible rfl
    (try simp only [Act.put, List.setIfInBounds_toArray, List.set_cons_zero, List.set_cons_succ])
    refine take_yes (i := 28) (v := ?vt1_29) (d := some 96) rfl rfl (by kernel_rfl) (by kernel_rfl) (by kernel_rfl) (fun _ _ _ h => h) (by rfl) ?yt1_29 (by assumption) ?rt1_29
    case yt1_29 =>
      intro w hSw
      (try dsimp only at hSw)
      go_simp
      try with_reducible rfl
    (try simp only [Act.put, List.setIfInBounds_toArray, List.set_cons_zero, List.set_cons_succ])
    refine take_yes (i := 29) (v := ?vt1_30) (d := some 97) rfl rfl (by kernel_rfl) (by kernel_rfl) (by kernel_rfl) (fun _ _ _ h => h) (by rfl) ?yt1_30 (by assumption) ?rt1_30
    case yt1_30 =>
      intro w hSw
      (try dsimp only at hSw)
      go_simp
      try with_reducible rfl
    (try simp only [Act.put, List.setIfInBounds_toArray, List.set_cons_zero, List.set_cons_succ])
    refine wpAnyH_ready (rs := [30]) (by kernel_rfl) (by simp) ?_
    refine AllReadyH.cons (o := _) rfl (fun K hK => ?_) AllReadyH.nil
    go_simp
    refine (i_SpinHas _ _ _).mono ?_
    rintro e wt1_31 ⟨rfl, hbD⟩
    subst hbD
    rw [hh]
    (try go_wp2_with fail)
    refine hK.out _ _ ?_ (fun hHeld => ?_)
    · (try dsimp only)
      (refine and_keep ?_ (fun hB => ⟨held_cell hB z5_c0_out z5_l_out, held_cell hB z5_c1_out z5_l_out, held_cell hB z5_c2_out z5_l_out⟩); (repeat' (first | with_reducible exact Below.refl _ _ | with_reducible refine bl_alloc ?_ _ | with_reducible refine bl_set ?_ ?_ _ | exact (Below.refl _ _).drew | with_reducible refine bl_drew ?_ | with_reducible refine btr ?_ hbC | with_reducible refine btr ?_ hbB | with_reducible refine btr ?_ hbA | omega | (simp; done) | (simp; omega))))
    clear hK K
    (try simp only [Act.put, List.setIfInBounds_toArray, List.set_cons_zero, List.set_cons_succ])
    refine take_yes (i := 31) (v := ?vt1_32) (d := some 99) rfl rfl (by kernel_rfl) (by kernel_rfl) (by kernel_rfl) (fun _ _ _ h => h) (by rfl) ?yt1_32 (by assumption) ?rt1_32
    case yt1_32 =>
      intro w hSw
      (try dsimp only at hSw)
      go_simp
      try with_reducible rfl
    (try simp only [Act.put, List.setIfInBounds_toArray, List.set_cons_zero, List.set_cons_succ])
    refine take_no (i := 32) (d := some 100) rfl rfl (by kernel_rfl) (by kernel_rfl) (by kernel_rfl) (fun _ _ _ h => h) (by rfl) (by assumption) ?_
    (try simp only [Act.put, List.setIfInBounds_toArray, List.set_cons_zero, List.set_cons_succ])
    refine take_no (i := 33) (d := some 101) rfl rfl (by kernel_rfl) (by kernel_rfl) (by kernel_rfl) (fun _ _ _ h => h) (by rfl) (by assumption) ?_
    (try simp only [Act.put, List.setIfInBounds_toArray, List.set_cons_zero, List.set_cons_succ])
    refine take_no (i := 34) (d := some 102) rfl rfl (by kernel_rfl) (by kernel_rfl) (by kernel_rfl) (fun _ _ _ h => h) (by rfl) (by assumption) ?_
    (try simp only [Act.put, List.setIfInBounds_toArray, List.set_cons_zero, List.set_cons_succ])
    refine take_yes (i := 35) (v := ?vt1_33) (d := some 103) rfl rfl (by kernel_rfl) (by kernel_rfl) (by kernel_rfl) (fun _ _ _ h => h) (by rfl) ?yt1_33 (by assumption) ?rt1_33
    case yt1_33 =>
      intro w hSw
      (try dsimp only at hSw)
      go_simp
      try with_reducible rfl
    (try simp only [Act.put, List.setIfInBounds_toArray, List.set_cons_zero, List.set_cons_succ])
    refine take_yes (i := 36) (v := ?vt1_34) (d := some 104) rfl rfl (by kernel_rfl) (by kernel_rfl) (by kernel_rfl) (fun _ _ _ h => h) (by rfl) ?yt1_34 (by assumption) ?rt1_34
    case yt1_34 =>
      intro w hSw
      (try dsimp only at hSw)
      go_simp
      try with_reducible rfl
    (try simp only [Act.put, List.setIfInBounds_toArray, List.set_cons_zero, List.set_cons_succ])
    refine take_yes (i := 37) (v := ?vt1_35) (d := some 2) rfl rfl (by kernel_rfl) (by kernel_rfl) (by kernel_rfl) (fun _ _ _ h => h) (by rfl) ?yt1_35 (by assumption) ?rt1_35
    case yt1_35 =>
      intro w hSw
      (try dsimp only at hSw)
      go_simp
      try with_reducible rfl
    (try simp only [Act.put, List.setIfInBounds_toArray, List.set_cons_zero, List.set_cons_succ])
    refine wpAnyH_done (by kernel_rfl) ?_ _
    go_wp2_with fail
    go_ret
    exact ⟨rfl, btr z5B.out (by (repeat' (first | with_reducible exact Below.refl _ _ | with_reducible refine bl_alloc ?_ _ | with_reducible refine bl_set ?_ ?_ _ | exact (Below.refl _ _).drew | with_reducible refine bl_drew ?_ | with_reducible refine btr ?_ hbC | with_reducible refine btr ?_ hbB | with_reducible refine btr ?_ hbA | omega | (simp; done) | (simp; omega))))⟩
  · skip
    have H6 : Hid (N ≤ 0) := Lib.hid (by have h5b := H5.out; simp at h5b; omega)
    clear p6 p7 p8
    cases hh : hasB c (m + n)
    · skip
      go_wp2_with fail
      have Kz5_out : Blk w4 (w2.heap.size) #[.int .i64 0, .int .i64 N, .int .i64 D] := Kw4_outH.out
      have Bz5 : Below w.heap.size w w4 := by (repeat' (first | exact Below.refl _ _ | refine bl_out ?_ (by assumption) | exact (Hid.out (by assumption)) | refine bl_alloc ?_ _ | refine bl_drewN ?_ _ | refine bl_drew ?_ | refine bl_set ?_ ?_ _ | omega | (simp; done) | (simp; omega)))
      generalize w4 = z5 at *
      obtain ⟨z5_c0_out, z5_c1_out, z5_c2_out, z5_f0_out, z5_f1_out, z5_f2_out⟩ := blk3 Kz5_out
      have Kz5_outH := Lib.hid Kz5_out
      have z5_l_out := Kz5_out.lt
      have z5B := Lib.hid Bz5
      clear Bz5
      clear Kz5_out
      refine wp_region_held_drew (S := (fun w' => Below z5.heap.size z5 w' ∧ w'.cell? ⟨w2.heap.size, 0, none⟩ = some (.int .i64 0) ∧ w'.cell? ⟨w2.heap.size, 1, none⟩ = some (.int .i64 N) ∧ w'.cell? ⟨w2.heap.size, 2, none⟩ = some (.int .i64 D))) (by kernel_rfl) ?_ (fun hHeld => ?_)
      · (try dsimp only)
        (refine and_keep ?_ (fun hB => ⟨held_cell hB z5_c0_out z5_l_out, held_cell hB z5_c1_out z5_l_out, held_cell hB z5_c2_out z5_l_out⟩); (repeat' (first | with_reducible exact Below.refl _ _ | with_reducible refine bl_alloc ?_ _ | with_reducible refine bl_set ?_ ?_ _ | exact (Below.refl _ _).drew | with_reducible refine bl_drew ?_ | with_reducible refine btr ?_ hbC | with_reducible refine btr ?_ hbB | with_reducible refine btr ?_ hbA | omega | (simp; done) | (simp; omega))))
      refine take_yes (i := 0) (v := ?vt2_1) (d := some 68) rfl rfl (by kernel_rfl) (by kernel_rfl) (by kernel_rfl) (fun _ _ _ h => h) (by rfl) ?yt2_1 (by assumption) ?rt2_1
      case yt2_1 =>
        intro w hSw
        (try dsimp only at hSw)
        go_simp
        try with_reducible rfl
      (try simp only [Act.put, List.setIfInBounds_toArray, List.set_cons_zero, List.set_cons_succ])
      refine wpAnyH_ready (rs := [1]) (by kernel_rfl) (by simp) ?_
      refine AllReadyH.cons (o := _) rfl (fun K hK => ?_) AllReadyH.nil
      go_simp
      refine (i_RootValid _ _ _ _ (by omega) (by omega) H3.out h4 ⟨fun _ => rfl, fun _ => Int.le_antisymm H6.out h4⟩).mono ?_
      rintro e wt2_2 ⟨rfl, hbA⟩
      (try go_wp2_with fail)
      refine hK.out _ _ ?_ (fun hHeld => ?_)
      · (try dsimp only)
        (refine and_keep ?_ (fun hB => ⟨held_cell hB z5_c0_out z5_l_out, held_cell hB z5_c1_out z5_l_out, held_cell hB z5_c2_out z5_l_out⟩); (repeat' (first | with_reducible exact Below.refl _ _ | with_reducible refine bl_alloc ?_ _ | with_reducible refine bl_set ?_ ?_ _ | exact (Below.refl _ _).drew | with_reducible refine bl_drew ?_ | with_reducible refine btr ?_ hbC | with_reducible refine btr ?_ hbB | with_reducible refine btr ?_ hbA | omega | (simp; done) | (simp; omega))))
      clear hK K
      (try simp only [Act.put, List.setIfInBounds_toArray, List.set_cons_zero, List.set_cons_succ])
      refine take_yes (i := 2) (v := ?vt2_3) (d := some 70) rfl rfl (by kernel_rfl) (by kernel_rfl) (by kernel_rfl) (fun _ _ _ h => h) (by rfl) ?yt2_3 (by assumption) ?rt2_3
      case yt2_3 =>
        intro w hSw
        (try dsimp only at hSw)
        go_simp
        try with_reducible rfl
      (try simp only [Act.put, List.setIfInBounds_toArray, List.set_cons_zero, List.set_cons_succ])
      refine take_yes (i := 4) (v := ?vt2_4) (d := some 72) rfl rfl (by kernel_rfl) (by kernel_rfl) (by kernel_rfl) (fun _ _ _ h => h) (by rfl) ?yt2_4 (by assumption) ?rt2_4
      case yt2_4 =>
        intro w hSw
        (try dsimp only at hSw)
        go_simp
        try with_reducible rfl
      (try simp only [Act.put, List.setIfInBounds_toArray, List.set_cons_zero, List.set_cons_succ])
      refine take_yes (i := 5) (v := ?vt2_5) (d := some 73) rfl rfl (by kernel_rfl) (by kernel_rfl) (by kernel_rfl) (fun _ _ _ h => h) (by rfl) ?yt2_5 (by assumption) ?rt2_5
      case yt2_5 =>
        intro w hSw
        (try dsimp only at hSw)
        go_simp
        try with_reducible rfl
      (try simp only [Act.put, List.setIfInBounds_toArray, List.set_cons_zero, List.set_cons_succ])
      refine wpAnyH_ready (rs := [3]) (by kernel_rfl) (by simp) ?_
      refine AllReadyH.cons (o := _) rfl (fun K hK => ?_) AllReadyH.nil
      go_simp
      refine (l_whole _ _).mono ?_
      rintro e wt2_6 ⟨rfl, hbB⟩
      (try go_wp2_with fail)
      refine hK.out _ _ ?_ (fun hHeld => ?_)
      · (try dsimp only)
        (refine and_keep ?_ (fun hB => ⟨held_cell hB z5_c0_out z5_l_out, held_cell hB z5_c1_out z5_l_out, held_cell hB z5_c2_out z5_l_out⟩); (repeat' (first | with_reducible exact Below.refl _ _ | with_reducible refine bl_alloc ?_ _ | with_reducible refine bl_set ?_ ?_ _ | exact (Below.refl _ _).drew | with_reducible refine bl_drew ?_ | with_reducible refine btr ?_ hbC | with_reducible refine btr ?_ hbB | with_reducible refine btr ?_ hbA | omega | (simp; done) | (simp; omega))))
      clear hK K
      (try simp only [Act.put, List.setIfInBounds_toArray, List.set_cons_zero, List.set_cons_succ])
      refine wpAnyH_ready (rs := [6]) (by kernel_rfl) (by simp) ?_
      refine AllReadyH.cons (o := _) rfl (fun K hK => ?_) AllReadyH.nil
      go_simp
      refine (i_RatLess _ _ _ _ false _ R1.out H3.out HLE.out).mono ?_
      rintro e wt2_7 ⟨rfl, hbC⟩
      (try go_wp2_with fail)
      refine hK.out _ _ ?_ (fun hHeld => ?_)
      · (try dsimp only)
        (refine and_keep ?_ (fun hB => ⟨held_cell hB z5_c0_out z5_l_out, held_cell hB z5_c1_out z5_l_out, held_cell hB z5_c2_out z5_l_out⟩); (repeat' (first | with_reducible exact Below.refl _ _ | with_reducible refine bl_alloc ?_ _ | with_reducible refine bl_set ?_ ?_ _ | exact (Below.refl _ _).drew | with_reducible refine bl_drew ?_ | with_reducible refine btr ?_ hbC | with_reducible refine btr ?_ hbB | with_reducible refine btr ?_ hbA | omega | (simp; done) | (simp; omega))))
      clear hK K
      (try simp only [Act.put, List.setIfInBounds_toArray, List.set_cons_zero, List.set_cons_succ])
      refine take_yes (i := 7) (v := ?vt2_8) (d := some 75) rfl rfl (by kernel_rfl) (by kernel_rfl) (by kernel_rfl) (fun _ _ _ h => h) (by rfl) ?yt2_8 (by assumption) ?rt2_8
      case yt2_8 =>
        intro w hSw
        (try dsimp only at hSw)
        go_simp
        try with_reducible rfl
      (try simp only [Act.put, List.setIfInBounds_toArray, List.set_cons_zero, List.set_cons_succ])
      refine take_yes (i := 8) (v := ?vt2_9) (d := some 76) rfl rfl (by kernel_rfl) (by kernel_rfl) (by kernel_rfl) (fun _ _ _ h => h) (by rfl) ?yt2_9 (by assumption) ?rt2_9
      case yt2_9 =>
        intro w hSw
        (try dsimp only at hSw)
        go_simp
        try with_reducible rfl
      (try simp only [Act.put, List.setIfInBounds_toArray, List.set_cons_zero, List.set_cons_succ])
      refine take_yes (i := 9) (v := ?vt2_10) (d := some 77) rfl rfl (by kernel_rfl) (by kernel_rfl) (by kernel_rfl) (fun _ _ _ h => h) (by rfl) ?yt2_10 (by assumption) ?rt2_10
      case yt2_10 =>
        intro w hSw
        (try dsimp only at hSw)
        go_simp
        try with_reducible rfl
      (try simp only [Act.put, List.setIfInBounds_toArray, List.set_cons_zero, List.set_cons_succ])
      refine take_yes (i := 10) (v := ?vt2_11) (d := some 78) rfl rfl (by kernel_rfl) (by kernel_rfl) (by kernel_rfl) (fun _ _ _ h => h) (by rfl) ?yt2_11 (by assumption) ?rt2_11
      case yt2_11 =>
        intro w hSw
        (try dsimp only at hSw)
        go_simp
        try with_reducible rfl
      (try simp only [Act.put, List.setIfInBounds_toArray, List.set_cons_zero, List.set_cons_succ])
      refine take_yes (i := 11) (v := ?vt2_12) (d := some 79) rfl rfl (by kernel_rfl) (by kernel_rfl) (by kernel_rfl) (fun _ _ _ h => h) (by rfl) ?yt2_12 (by assumption) ?rt2_12
      case yt2_12 =>
        intro w hSw
        (try dsimp only at hSw)
        go_simp
        try with_reducible rfl
      (try simp only [Act.put, List.setIfInBounds_toArray, List.set_cons_zero, List.set_cons_succ])
      refine take_yes (i := 12) (v := ?vt2_13) (d := some 80) rfl rfl (by kernel_rfl) (by kernel_rfl) (by kernel_rfl) (fun _ _ _ h => h) (by rfl) ?yt2_13 (by assumption) ?rt2_13
      case yt2_13 =>
        intro w hSw
        (try dsimp only at hSw)
        go_simp
        try with_reducible rfl
      (try simp only [Act.put, List.setIfInBounds_toArray, List.set_cons_zero, List.set_cons_succ])
      refine take_yes (i := 13) (v := ?vt2_14) (d := some 81) rfl rfl (by kernel_rfl) (by kernel_rfl) (by kernel_rfl) (fun _ _ _ h => h) (by rfl) ?yt2_14 (by assumption) ?rt2_14
      case yt2_14 =>
        intro w hSw
        (try dsimp only at hSw)
        go_simp
        try with_reducible rfl
      (try simp only [Act.put, List.setIfInBounds_toArray, List.set_cons_zero, List.set_cons_succ])
      refine take_yes (i := 14) (v := ?vt2_15) (d := some 82) rfl rfl (by kernel_rfl) (by kernel_rfl) (by kernel_rfl) (fun _ _ _ h => h) (by rfl) ?yt2_15 (by assumption) ?rt2_15
      case yt2_15 =>
        intro w hSw
        (try dsimp only at hSw)
        go_simp
        try with_reducible rfl
      (try simp only [Act.put, List.setIfInBounds_toArray, List.set_cons_zero, List.set_cons_succ])
      refine take_yes (i := 15) (v := ?vt2_16) (d := some 83) rfl rfl (by kernel_rfl) (by kernel_rfl) (by kernel_rfl) (fun _ _ _ h => h) (by rfl) ?yt2_16 (by assumption) ?rt2_16
      case yt2_16 =>
        intro w hSw
        (try dsimp only at hSw)
        go_simp
        try with_reducible rfl
      (try simp only [Act.put, List.setIfInBounds_toArray, List.set_cons_zero, List.set_cons_succ])
      refine take_yes (i := 16) (v := ?vt2_17) (d := some 84) rfl rfl (by kernel_rfl) (by kernel_rfl) (by kernel_rfl) (fun _ _ _ h => h) (by rfl) ?yt2_17 (by assumption) ?rt2_17
      case yt2_17 =>
        intro w hSw
        (try dsimp only at hSw)
        go_simp
        try with_reducible rfl
      (try simp only [Act.put, List.setIfInBounds_toArray, List.set_cons_zero, List.set_cons_succ])
      refine take_yes (i := 17) (v := ?vt2_18) (d := some 85) rfl rfl (by kernel_rfl) (by kernel_rfl) (by kernel_rfl) (fun _ _ _ h => h) (by rfl) ?yt2_18 (by assumption) ?rt2_18
      case yt2_18 =>
        intro w hSw
        (try dsimp only at hSw)
        go_simp
        try with_reducible rfl
      (try simp only [Act.put, List.setIfInBounds_toArray, List.set_cons_zero, List.set_cons_succ])
      refine take_yes (i := 18) (v := ?vt2_19) (d := some 86) rfl rfl (by kernel_rfl) (by kernel_rfl) (by kernel_rfl) (fun _ _ _ h => h) (by rfl) ?yt2_19 (by assumption) ?rt2_19
      case yt2_19 =>
        intro w hSw
        (try dsimp only at hSw)
        go_simp
        try with_reducible rfl
      (try simp only [Act.put, List.setIfInBounds_toArray, List.set_cons_zero, List.set_cons_succ])
      refine take_yes (i := 19) (v := ?vt2_20) (d := some 87) rfl rfl (by kernel_rfl) (by kernel_rfl) (by kernel_rfl) (fun _ _ _ h => h) (by rfl) ?yt2_20 (by assumption) ?rt2_20
      case yt2_20 =>
        intro w hSw
        (try dsimp only at hSw)
        go_simp
        try with_reducible rfl
      (try simp only [Act.put, List.setIfInBounds_toArray, List.set_cons_zero, List.set_cons_succ])
      refine take_yes (i := 20) (v := ?vt2_21) (d := some 88) rfl rfl (by kernel_rfl) (by kernel_rfl) (by kernel_rfl) (fun _ _ _ h => h) (by rfl) ?yt2_21 (by assumption) ?rt2_21
      case yt2_21 =>
        intro w hSw
        (try dsimp only at hSw)
        go_simp
        try with_reducible rfl
      (try simp only [Act.put, List.setIfInBounds_toArray, List.set_cons_zero, List.set_cons_succ])
      refine take_yes (i := 21) (v := ?vt2_22) (d := some 89) rfl rfl (by kernel_rfl) (by kernel_rfl) (by kernel_rfl) (fun _ _ _ h => h) (by rfl) ?yt2_22 (by assumption) ?rt2_22
      case yt2_22 =>
        intro w hSw
        (try dsimp only at hSw)
        go_simp
        try with_reducible rfl
      (try simp only [Act.put, List.setIfInBounds_toArray, List.set_cons_zero, List.set_cons_succ])
      refine take_yes (i := 22) (v := ?vt2_23) (d := some 90) rfl rfl (by kernel_rfl) (by kernel_rfl) (by kernel_rfl) (fun _ _ _ h => h) (by rfl) ?yt2_23 (by assumption) ?rt2_23
      case yt2_23 =>
        intro w hSw
        (try dsimp only at hSw)
        go_simp
        try with_reducible rfl
      (try simp only [Act.put, List.setIfInBounds_toArray, List.set_cons_zero, List.set_cons_succ])
      refine take_yes (i := 23) (v := ?vt2_24) (d := some 91) rfl rfl (by kernel_rfl) (by kernel_rfl) (by kernel_rfl) (fun _ _ _ h => h) (by rfl) ?yt2_24 (by assumption) ?rt2_24
      case yt2_24 =>
        intro w hSw
        (try dsimp only at hSw)
        go_simp
        try with_reducible rfl
      (try simp only [Act.put, List.setIfInBounds_toArray, List.set_cons_zero, List.set_cons_succ])
      refine take_yes (i := 24) (v := ?vt2_25) (d := some 92) rfl rfl (by kernel_rfl) (by kernel_rfl) (by kernel_rfl) (fun _ _ _ h => h) (by rfl) ?yt2_25 (by assumption) ?rt2_25
      case yt2_25 =>
        intro w hSw
        (try dsimp only at hSw)
        go_simp
        try with_reducible rfl
      (try simp only [Act.put, List.setIfInBounds_toArray, List.set_cons_zero, List.set_cons_succ])
      refine take_yes (i := 25) (v := ?vt2_26) (d := some 93) rfl rfl (by kernel_rfl) (by kernel_rfl) (by kernel_rfl) (fun _ _ _ h => h) (by rfl) ?yt2_26 (by assumption) ?rt2_26
      case yt2_26 =>
        intro w hSw
        (try dsimp only at hSw)
        go_simp
        try with_reducible rfl
      (try simp only [Act.put, List.setIfInBounds_toArray, List.set_cons_zero, List.set_cons_succ])
      refine take_yes (i := 26) (v := ?vt2_27) (d := some 94) rfl rfl (by kernel_rfl) (by kernel_rfl) (by kernel_rfl) (fun _ _ _ h => h) (by rfl) ?yt2_27 (by assumption) ?rt2_27
      case yt2_27 =>
        intro w hSw
        (try dsimp only at hSw)
        go_simp
        try with_reducible rfl
      (try simp only [Act.put, List.setIfInBounds_toArray, List.set_cons_zero, List.set_cons_succ])
      refine take_yes (i := 27) (v := ?vt2_28) (d := some 95) rfl rfl (by kernel_rfl) (by kernel_rfl) (by kernel_rfl) (fun _ _ _ h => h) (by rfl) ?yt2_28 (by assumption) ?rt2_28
      case yt2_28 =>
        intro w hSw
        (try dsimp only at hSw)
        go_simp
        try with_reducible rfl
      (try simp only [Act.put, List.setIfInBounds_toArray, List.set_cons_zero, List.set_cons_succ])
      refine take_yes (i := 28) (v := ?vt2_29) (d := some 96) rfl rfl (by kernel_rfl) (by kernel_rfl) (by kernel_rfl) (fun _ _ _ h => h) (by rfl) ?yt2_29 (by assumption) ?rt2_29
      case yt2_29 =>
        intro w hSw
        (try dsimp only at hSw)
        go_simp
        try with_reducible rfl
      (try simp only [Act.put, List.setIfInBounds_toArray, List.set_cons_zero, List.set_cons_succ])
      refine take_yes (i := 29) (v := ?vt2_30) (d := some 97) rfl rfl (by kernel_rfl) (by kernel_rfl) (by kernel_rfl) (fun _ _ _ h => h) (by rfl) ?yt2_30 (by assumption) ?rt2_30
      case yt2_30 =>
        intro w hSw
        (try dsimp only at hSw)
        go_simp
        try with_reducible rfl
      (try simp only [Act.put, List.setIfInBounds_toArray, List.set_cons_zero, List.set_cons_succ])
      refine wpAnyH_ready (rs := [30]) (by kernel_rfl) (by simp) ?_
      refine AllReadyH.cons (o := _) rfl (fun K hK => ?_) AllReadyH.nil
      go_simp
      refine (i_SpinHas _ _ _).mono ?_
      rintro e wt2_31 ⟨rfl, hbD⟩
      subst hbD
      rw [hh]
      (try go_wp2_with fail)
      refine hK.out _ _ ?_ (fun hHeld => ?_)
      · (try dsimp only)
        (refine and_keep ?_ (fun hB => ⟨held_cell hB z5_c0_out z5_l_out, held_cell hB z5_c1_out z5_l_out, held_cell hB z5_c2_out z5_l_out⟩); (repeat' (first | with_reducible exact Below.refl _ _ | with_reducible refine bl_alloc ?_ _ | with_reducible refine bl_set ?_ ?_ _ | exact (Below.refl _ _).drew | with_reducible refine bl_drew ?_ | with_reducible refine btr ?_ hbC | with_reducible refine btr ?_ hbB | with_reducible refine btr ?_ hbA | omega | (simp; done) | (simp; omega))))
      clear hK K
      (try simp only [Act.put, List.setIfInBounds_toArray, List.set_cons_zero, List.set_cons_succ])
      refine take_yes (i := 31) (v := ?vt2_32) (d := some 99) rfl rfl (by kernel_rfl) (by kernel_rfl) (by kernel_rfl) (fun _ _ _ h => h) (by rfl) ?yt2_32 (by assumption) ?rt2_32
      case yt2_32 =>
        intro w hSw
        (try dsimp only at hSw)
        go_simp
        try with_reducible rfl
      (try simp only [Act.put, List.setIfInBounds_toArray, List.set_cons_zero, List.set_cons_succ])
      refine take_yes (i := 32) (v := ?vt2_33) (d := some 100) rfl rfl (by kernel_rfl) (by kernel_rfl) (by kernel_rfl) (fun _ _ _ h => h) (by rfl) ?yt2_33 (by assumption) ?rt2_33
      case yt2_33 =>
        intro w hSw
        (try dsimp only at hSw)
        go_simp
        try with_reducible rfl
      (try simp only [Act.put, List.setIfInBounds_toArray, List.set_cons_zero, List.set_cons_succ])
      refine take_yes (i := 33) (v := ?vt2_34) (d := some 101) rfl rfl (by kernel_rfl) (by kernel_rfl) (by kernel_rfl) (fun _ _ _ h => h) (by rfl) ?yt2_34 (by assumption) ?rt2_34
      case yt2_34 =>
        intro w hSw
        (try dsimp only at hSw)
        go_simp
        try with_reducible rfl
      (try simp only [Act.put, List.setIfInBounds_toArray, List.set_cons_zero, List.set_cons_succ])
      refine take_yes (i := 34) (v := ?vt2_35) (d := some 102) rfl rfl (by kernel_rfl) (by kernel_rfl) (by kernel_rfl) (fun _ _ _ h => h) (by rfl) ?yt2_35 (by assumption) ?rt2_35
      case yt2_35 =>
        intro w hSw
        (try dsimp only at hSw)
        go_simp
        try with_reducible rfl
      (try simp only [Act.put, List.setIfInBounds_toArray, List.set_cons_zero, List.set_cons_succ])
      refine take_yes (i := 35) (v := ?vt2_36) (d := some 103) rfl rfl (by kernel_rfl) (by kernel_rfl) (by kernel_rfl) (fun _ _ _ h => h) (by rfl) ?yt2_36 (by assumption) ?rt2_36
      case yt2_36 =>
        intro w hSw
        (try dsimp only at hSw)
        go_simp
        try with_reducible rfl
      (try simp only [Act.put, List.setIfInBounds_toArray, List.set_cons_zero, List.set_cons_succ])
      refine take_yes (i := 36) (v := ?vt2_37) (d := some 104) rfl rfl (by kernel_rfl) (by kernel_rfl) (by kernel_rfl) (fun _ _ _ h => h) (by rfl) ?yt2_37 (by assumption) ?rt2_37
      case yt2_37 =>
        intro w hSw
        (try dsimp only at hSw)
        go_simp
        try with_reducible rfl
      (try simp only [Act.put, List.setIfInBounds_toArray, List.set_cons_zero, List.set_cons_succ])
      refine take_yes (i := 37) (v := ?vt2_38) (d := some 2) rfl rfl (by kernel_rfl) (by kernel_rfl) (by kernel_rfl) (fun _ _ _ h => h) (by rfl) ?yt2_38 (by assumption) ?rt2_38
      case yt2_38 =>
        intro w hSw
        (try dsimp only at hSw)
        go_simp
        try with_reducible rfl
      (try simp only [Act.put, List.setIfInBounds_toArray, List.set_cons_zero, List.set_cons_succ])
      refine wpAnyH_done (by kernel_rfl) ?_ _
      go_wp2_with fail
      go_ret
      exact ⟨rfl, btr z5B.out (by (repeat' (first | with_reducible exact Below.refl _ _ | with_reducible refine bl_alloc ?_ _ | with_reducible refine bl_set ?_ ?_ _ | exact (Below.refl _ _).drew | with_reducible refine bl_drew ?_ | with_reducible refine btr ?_ hbC | with_reducible refine btr ?_ hbB | with_reducible refine btr ?_ hbA | omega | (simp; done) | (simp; omega))))⟩
    · skip
      go_wp2_with fail
      have Kz5_out : Blk w4 (w2.heap.size) #[.int .i64 0, .int .i64 N, .int .i64 D] := Kw4_outH.out
      have Bz5 : Below w.heap.size w w4 := by (repeat' (first | exact Below.refl _ _ | refine bl_out ?_ (by assumption) | exact (Hid.out (by assumption)) | refine bl_alloc ?_ _ | refine bl_drewN ?_ _ | refine bl_drew ?_ | refine bl_set ?_ ?_ _ | omega | (simp; done) | (simp; omega)))
      generalize w4 = z5 at *
      obtain ⟨z5_c0_out, z5_c1_out, z5_c2_out, z5_f0_out, z5_f1_out, z5_f2_out⟩ := blk3 Kz5_out
      have Kz5_outH := Lib.hid Kz5_out
      have z5_l_out := Kz5_out.lt
      have z5B := Lib.hid Bz5
      clear Bz5
      clear Kz5_out
      refine wp_region_held_drew (S := (fun w' => Below z5.heap.size z5 w' ∧ w'.cell? ⟨w2.heap.size, 0, none⟩ = some (.int .i64 0) ∧ w'.cell? ⟨w2.heap.size, 1, none⟩ = some (.int .i64 N) ∧ w'.cell? ⟨w2.heap.size, 2, none⟩ = some (.int .i64 D))) (by kernel_rfl) ?_ (fun hHeld => ?_)
      · (try dsimp only)
        (refine and_keep ?_ (fun hB => ⟨held_cell hB z5_c0_out z5_l_out, held_cell hB z5_c1_out z5_l_out, held_cell hB z5_c2_out z5_l_out⟩); (repeat' (first | with_reducible exact Below.refl _ _ | with_reducible refine bl_alloc ?_ _ | with_reducible refine bl_set ?_ ?_ _ | exact (Below.refl _ _).drew | with_reducible refine bl_drew ?_ | with_reducible refine btr ?_ hbC | with_reducible refine btr ?_ hbB | with_reducible refine btr ?_ hbA | omega | (simp; done) | (simp; omega))))
      refine take_yes (i := 0) (v := ?vt3_1) (d := some 68) rfl rfl (by kernel_rfl) (by kernel_rfl) (by kernel_rfl) (fun _ _ _ h => h) (by rfl) ?yt3_1 (by assumption) ?rt3_1
      case yt3_1 =>
        intro w hSw
        (try dsimp only at hSw)
        go_simp
        try with_reducible rfl
      (try simp only [Act.put, List.setIfInBounds_toArray, List.set_cons_zero, List.set_cons_succ])
      refine wpAnyH_ready (rs := [1]) (by kernel_rfl) (by simp) ?_
      refine AllReadyH.cons (o := _) rfl (fun K hK => ?_) AllReadyH.nil
      go_simp
      refine (i_RootValid _ _ _ _ (by omega) (by omega) H3.out h4 ⟨fun _ => rfl, fun _ => Int.le_antisymm H6.out h4⟩).mono ?_
      rintro e wt3_2 ⟨rfl, hbA⟩
      (try go_wp2_with fail)
      refine hK.out _ _ ?_ (fun hHeld => ?_)
      · (try dsimp only)
        (refine and_keep ?_ (fun hB => ⟨held_cell hB z5_c0_out z5_l_out, held_cell hB z5_c1_out z5_l_out, held_cell hB z5_c2_out z5_l_out⟩); (repeat' (first | with_reducible exact Below.refl _ _ | with_reducible refine bl_alloc ?_ _ | with_reducible refine bl_set ?_ ?_ _ | exact (Below.refl _ _).drew | with_reducible refine bl_drew ?_ | with_reducible refine btr ?_ hbC | with_reducible refine btr ?_ hbB | with_reducible refine btr ?_ hbA | omega | (simp; done) | (simp; omega))))
      clear hK K
      (try simp only [Act.put, List.setIfInBounds_toArray, List.set_cons_zero, List.set_cons_succ])
      refine take_yes (i := 2) (v := ?vt3_3) (d := some 70) rfl rfl (by kernel_rfl) (by kernel_rfl) (by kernel_rfl) (fun _ _ _ h => h) (by rfl) ?yt3_3 (by assumption) ?rt3_3
      case yt3_3 =>
        intro w hSw
        (try dsimp only at hSw)
        go_simp
        try with_reducible rfl
      (try simp only [Act.put, List.setIfInBounds_toArray, List.set_cons_zero, List.set_cons_succ])
      refine take_yes (i := 4) (v := ?vt3_4) (d := some 72) rfl rfl (by kernel_rfl) (by kernel_rfl) (by kernel_rfl) (fun _ _ _ h => h) (by rfl) ?yt3_4 (by assumption) ?rt3_4
      case yt3_4 =>
        intro w hSw
        (try dsimp only at hSw)
        go_simp
        try with_reducible rfl
      (try simp only [Act.put, List.setIfInBounds_toArray, List.set_cons_zero, List.set_cons_succ])
      refine take_yes (i := 5) (v := ?vt3_5) (d := some 73) rfl rfl (by kernel_rfl) (by kernel_rfl) (by kernel_rfl) (fun _ _ _ h => h) (by rfl) ?yt3_5 (by assumption) ?rt3_5
      case yt3_5 =>
        intro w hSw
        (try dsimp only at hSw)
        go_simp
        try with_reducible rfl
      (try simp only [Act.put, List.setIfInBounds_toArray, List.set_cons_zero, List.set_cons_succ])
      refine wpAnyH_ready (rs := [3]) (by kernel_rfl) (by simp) ?_
      refine AllReadyH.cons (o := _) rfl (fun K hK => ?_) AllReadyH.nil
      go_simp
      refine (l_whole _ _).mono ?_
      rintro e wt3_6 ⟨rfl, hbB⟩
      (try go_wp2_with fail)
      refine hK.out _ _ ?_ (fun hHeld => ?_)
      · (try dsimp only)
        (refine and_keep ?_ (fun hB => ⟨held_cell hB z5_c0_out z5_l_out, held_cell hB z5_c1_out z5_l_out, held_cell hB z5_c2_out z5_l_out⟩); (repeat' (first | with_reducible exact Below.refl _ _ | with_reducible refine bl_alloc ?_ _ | with_reducible refine bl_set ?_ ?_ _ | exact (Below.refl _ _).drew | with_reducible refine bl_drew ?_ | with_reducible refine btr ?_ hbC | with_reducible refine btr ?_ hbB | with_reducible refine btr ?_ hbA | omega | (simp; done) | (simp; omega))))
      clear hK K
      (try simp only [Act.put, List.setIfInBounds_toArray, List.set_cons_zero, List.set_cons_succ])
      refine wpAnyH_ready (rs := [6]) (by kernel_rfl) (by simp) ?_
      refine AllReadyH.cons (o := _) rfl (fun K hK => ?_) AllReadyH.nil
      go_simp
      refine (i_RatLess _ _ _ _ false _ R1.out H3.out HLE.out).mono ?_
      rintro e wt3_7 ⟨rfl, hbC⟩
      (try go_wp2_with fail)
      refine hK.out _ _ ?_ (fun hHeld => ?_)
      · (try dsimp only)
        (refine and_keep ?_ (fun hB => ⟨held_cell hB z5_c0_out z5_l_out, held_cell hB z5_c1_out z5_l_out, held_cell hB z5_c2_out z5_l_out⟩); (repeat' (first | with_reducible exact Below.refl _ _ | with_reducible refine bl_alloc ?_ _ | with_reducible refine bl_set ?_ ?_ _ | exact (Below.refl _ _).drew | with_reducible refine bl_drew ?_ | with_reducible refine btr ?_ hbC | with_reducible refine btr ?_ hbB | with_reducible refine btr ?_ hbA | omega | (simp; done) | (simp; omega))))
      clear hK K
      (try simp only [Act.put, List.setIfInBounds_toArray, List.set_cons_zero, List.set_cons_succ])
      refine take_yes (i := 7) (v := ?vt3_8) (d := some 75) rfl rfl (by kernel_rfl) (by kernel_rfl) (by kernel_rfl) (fun _ _ _ h => h) (by rfl) ?yt3_8 (by assumption) ?rt3_8
      case yt3_8 =>
        intro w hSw
        (try dsimp only at hSw)
        go_simp
        try with_reducible rfl
      (try simp only [Act.put, List.setIfInBounds_toArray, List.set_cons_zero, List.set_cons_succ])
      refine take_yes (i := 8) (v := ?vt3_9) (d := some 76) rfl rfl (by kernel_rfl) (by kernel_rfl) (by kernel_rfl) (fun _ _ _ h => h) (by rfl) ?yt3_9 (by assumption) ?rt3_9
      case yt3_9 =>
        intro w hSw
        (try dsimp only at hSw)
        go_simp
        try with_reducible rfl
      (try simp only [Act.put, List.setIfInBounds_toArray, List.set_cons_zero, List.set_cons_succ])
      refine take_yes (i := 9) (v := ?vt3_10) (d := some 77) rfl rfl (by kernel_rfl) (by kernel_rfl) (by kernel_rfl) (fun _ _ _ h => h) (by rfl) ?yt3_10 (by assumption) ?rt3_10
      case yt3_10 =>
        intro w hSw
        (try dsimp only at hSw)
        go_simp
        try with_reducible rfl
      (try simp only [Act.put, List.setIfInBounds_toArray, List.set_cons_zero, List.set_cons_succ])
      refine take_yes (i := 10) (v := ?vt3_11) (d := some 78) rfl rfl (by kernel_rfl) (by kernel_rfl) (by kernel_rfl) (fun _ _ _ h => h) (by rfl) ?yt3_11 (by assumption) ?rt3_11
      case yt3_11 =>
        intro w hSw
        (try dsimp only at hSw)
        go_simp
        try with_reducible rfl
      (try simp only [Act.put, List.setIfInBounds_toArray, List.set_cons_zero, List.set_cons_succ])
      refine take_yes (i := 11) (v := ?vt3_12) (d := some 79) rfl rfl (by kernel_rfl) (by kernel_rfl) (by kernel_rfl) (fun _ _ _ h => h) (by rfl) ?yt3_12 (by assumption) ?rt3_12
      case yt3_12 =>
        intro w hSw
        (try dsimp only at hSw)
        go_simp
        try with_reducible rfl
      (try simp only [Act.put, List.setIfInBounds_toArray, List.set_cons_zero, List.set_cons_succ])
      refine take_yes (i := 12) (v := ?vt3_13) (d := some 80) rfl rfl (by kernel_rfl) (by kernel_rfl) (by kernel_rfl) (fun _ _ _ h => h) (by rfl) ?yt3_13 (by assumption) ?rt3_13
      case yt3_13 =>
        intro w hSw
        (try dsimp only at hSw)
        go_simp
        try with_reducible rfl
      (try simp only [Act.put, List.setIfInBounds_toArray, List.set_cons_zero, List.set_cons_succ])
      refine take_yes (i := 13) (v := ?vt3_14) (d := some 81) rfl rfl (by kernel_rfl) (by kernel_rfl) (by kernel_rfl) (fun _ _ _ h => h) (by rfl) ?yt3_14 (by assumption) ?rt3_14
      case yt3_14 =>
        intro w hSw
        (try dsimp only at hSw)
        go_simp
        try with_reducible rfl
      (try simp only [Act.put, List.setIfInBounds_toArray, List.set_cons_zero, List.set_cons_succ])
      refine take_yes (i := 14) (v := ?vt3_15) (d := some 82) rfl rfl (by kernel_rfl) (by kernel_rfl) (by kernel_rfl) (fun _ _ _ h => h) (by rfl) ?yt3_15 (by assumption) ?rt3_15
      case yt3_15 =>
        intro w hSw
        (try dsimp only at hSw)
        go_simp
        try with_reducible rfl
      (try simp only [Act.put, List.setIfInBounds_toArray, List.set_cons_zero, List.set_cons_succ])
      refine take_yes (i := 15) (v := ?vt3_16) (d := some 83) rfl rfl (by kernel_rfl) (by kernel_rfl) (by kernel_rfl) (fun _ _ _ h => h) (by rfl) ?yt3_16 (by assumption) ?rt3_16
      case yt3_16 =>
        intro w hSw
        (try dsimp only at hSw)
        go_simp
        try with_reducible rfl
      (try simp only [Act.put, List.setIfInBounds_toArray, List.set_cons_zero, List.set_cons_succ])
      refine take_yes (i := 16) (v := ?vt3_17) (d := some 84) rfl rfl (by kernel_rfl) (by kernel_rfl) (by kernel_rfl) (fun _ _ _ h => h) (by rfl) ?yt3_17 (by assumption) ?rt3_17
      case yt3_17 =>
        intro w hSw
        (try dsimp only at hSw)
        go_simp
        try with_reducible rfl
      (try simp only [Act.put, List.setIfInBounds_toArray, List.set_cons_zero, List.set_cons_succ])
      refine take_yes (i := 17) (v := ?vt3_18) (d := some 85) rfl rfl (by kernel_rfl) (by kernel_rfl) (by kernel_rfl) (fun _ _ _ h => h) (by rfl) ?yt3_18 (by assumption) ?rt3_18
      case yt3_18 =>
        intro w hSw
        (try dsimp only at hSw)
        go_simp
        try with_reducible rfl
      (try simp only [Act.put, List.setIfInBounds_toArray, List.set_cons_zero, List.set_cons_succ])
      refine take_yes (i := 18) (v := ?vt3_19) (d := some 86) rfl rfl (by kernel_rfl) (by kernel_rfl) (by kernel_rfl) (fun _ _ _ h => h) (by rfl) ?yt3_19 (by assumption) ?rt3_19
      case yt3_19 =>
        intro w hSw
        (try dsimp only at hSw)
        go_simp
        try with_reducible rfl
      (try simp only [Act.put, List.setIfInBounds_toArray, List.set_cons_zero, List.set_cons_succ])
      refine take_yes (i := 19) (v := ?vt3_20) (d := some 87) rfl rfl (by kernel_rfl) (by kernel_rfl) (by kernel_rfl) (fun _ _ _ h => h) (by rfl) ?yt3_20 (by assumption) ?rt3_20
      case yt3_20 =>
        intro w hSw
        (try dsimp only at hSw)
        go_simp
        try with_reducible rfl
      (try simp only [Act.put, List.setIfInBounds_toArray, List.set_cons_zero, List.set_cons_succ])
      refine take_yes (i := 20) (v := ?vt3_21) (d := some 88) rfl rfl (by kernel_rfl) (by kernel_rfl) (by kernel_rfl) (fun _ _ _ h => h) (by rfl) ?yt3_21 (by assumption) ?rt3_21
      case yt3_21 =>
        intro w hSw
        (try dsimp only at hSw)
        go_simp
        try with_reducible rfl
      (try simp only [Act.put, List.setIfInBounds_toArray, List.set_cons_zero, List.set_cons_succ])
      refine take_yes (i := 21) (v := ?vt3_22) (d := some 89) rfl rfl (by kernel_rfl) (by kernel_rfl) (by kernel_rfl) (fun _ _ _ h => h) (by rfl) ?yt3_22 (by assumption) ?rt3_22
      case yt3_22 =>
        intro w hSw
        (try dsimp only at hSw)
        go_simp
        try with_reducible rfl
      (try simp only [Act.put, List.setIfInBounds_toArray, List.set_cons_zero, List.set_cons_succ])
      refine take_yes (i := 22) (v := ?vt3_23) (d := some 90) rfl rfl (by kernel_rfl) (by kernel_rfl) (by kernel_rfl) (fun _ _ _ h => h) (by rfl) ?yt3_23 (by assumption) ?rt3_23
      case yt3_23 =>
        intro w hSw
        (try dsimp only at hSw)
        go_simp
        try with_reducible rfl
      (try simp only [Act.put, List.setIfInBounds_toArray, List.set_cons_zero, List.set_cons_succ])
      refine take_yes (i := 23) (v := ?vt3_24) (d := some 91) rfl rfl (by kernel_rfl) (by kernel_rfl) (by kernel_rfl) (fun _ _ _ h => h) (by rfl) ?yt3_24 (by assumption) ?rt3_24
      case yt3_24 =>
        intro w hSw
        (try dsimp only at hSw)
        go_simp
        try with_reducible rfl
      (try simp only [Act.put, List.setIfInBounds_toArray, List.set_cons_zero, List.set_cons_succ])
      refine take_yes (i := 24) (v := ?vt3_25) (d := some 92) rfl rfl (by kernel_rfl) (by kernel_rfl) (by kernel_rfl) (fun _ _ _ h => h) (by rfl) ?yt3_25 (by assumption) ?rt3_25
      case yt3_25 =>
        intro w hSw
        (try dsimp only at hSw)
        go_simp
        try with_reducible rfl
      (try simp only [Act.put, List.setIfInBounds_toArray, List.set_cons_zero, List.set_cons_succ])
      refine take_yes (i := 25) (v := ?vt3_26) (d := some 93) rfl rfl (by kernel_rfl) (by kernel_rfl) (by kernel_rfl) (fun _ _ _ h => h) (by rfl) ?yt3_26 (by assumption) ?rt3_26
      case yt3_26 =>
        intro w hSw
        (try dsimp only at hSw)
        go_simp
        try with_reducible rfl
      (try simp only [Act.put, List.setIfInBounds_toArray, List.set_cons_zero, List.set_cons_succ])
      refine take_yes (i := 26) (v := ?vt3_27) (d := some 94) rfl rfl (by kernel_rfl) (by kernel_rfl) (by kernel_rfl) (fun _ _ _ h => h) (by rfl) ?yt3_27 (by assumption) ?rt3_27
      case yt3_27 =>
        intro w hSw
        (try dsimp only at hSw)
        go_simp
        try with_reducible rfl
      (try simp only [Act.put, List.setIfInBounds_toArray, List.set_cons_zero, List.set_cons_succ])
      refine take_yes (i := 27) (v := ?vt3_28) (d := some 95) rfl rfl (by kernel_rfl) (by kernel_rfl) (by kernel_rfl) (fun _ _ _ h => h) (by rfl) ?yt3_28 (by assumption) ?rt3_28
      case yt3_28 =>
        intro w hSw
        (try dsimp only at hSw)
        go_simp
        try with_reducible rfl
      (try simp only [Act.put, List.setIfInBounds_toArray, List.set_cons_zero, List.set_cons_succ])
      refine take_yes (i := 28) (v := ?vt3_29) (d := some 96) rfl rfl (by kernel_rfl) (by kernel_rfl) (by kernel_rfl) (fun _ _ _ h => h) (by rfl) ?yt3_29 (by assumption) ?rt3_29
      case yt3_29 =>
        intro w hSw
        (try dsimp only at hSw)
        go_simp
        try with_reducible rfl
      (try simp only [Act.put, List.setIfInBounds_toArray, List.set_cons_zero, List.set_cons_succ])
      refine take_yes (i := 29) (v := ?vt3_30) (d := some 97) rfl rfl (by kernel_rfl) (by kernel_rfl) (by kernel_rfl) (fun _ _ _ h => h) (by rfl) ?yt3_30 (by assumption) ?rt3_30
      case yt3_30 =>
        intro w hSw
        (try dsimp only at hSw)
        go_simp
        try with_reducible rfl
      (try simp only [Act.put, List.setIfInBounds_toArray, List.set_cons_zero, List.set_cons_succ])
      refine wpAnyH_ready (rs := [30]) (by kernel_rfl) (by simp) ?_
      refine AllReadyH.cons (o := _) rfl (fun K hK => ?_) AllReadyH.nil
      go_simp
      refine (i_SpinHas _ _ _).mono ?_
      rintro e wt3_31 ⟨rfl, hbD⟩
      subst hbD
      rw [hh]
      (try go_wp2_with fail)
      refine hK.out _ _ ?_ (fun hHeld => ?_)
      · (try dsimp only)
        (refine and_keep ?_ (fun hB => ⟨held_cell hB z5_c0_out z5_l_out, held_cell hB z5_c1_out z5_l_out, held_cell hB z5_c2_out z5_l_out⟩); (repeat' (first | with_reducible exact Below.refl _ _ | with_reducible refine bl_alloc ?_ _ | with_reducible refine bl_set ?_ ?_ _ | exact (Below.refl _ _).drew | with_reducible refine bl_drew ?_ | with_reducible refine btr ?_ hbC | with_reducible refine btr ?_ hbB | with_reducible refine btr ?_ hbA | omega | (simp; done) | (simp; omega))))
      clear hK K
      (try simp only [Act.put, List.setIfInBounds_toArray, List.set_cons_zero, List.set_cons_succ])
      refine take_yes (i := 31) (v := ?vt3_32) (d := some 99) rfl rfl (by kernel_rfl) (by kernel_rfl) (by kernel_rfl) (fun _ _ _ h => h) (by rfl) ?yt3_32 (by assumption) ?rt3_32
      case yt3_32 =>
        intro w hSw
        (try dsimp only at hSw)
        go_simp
        try with_reducible rfl
      (try simp only [Act.put, List.setIfInBounds_toArray, List.set_cons_zero, List.set_cons_succ])
      refine take_no (i := 32) (d := some 100) rfl rfl (by kernel_rfl) (by kernel_rfl) (by kernel_rfl) (fun _ _ _ h => h) (by rfl) (by assumption) ?_
      (try simp only [Act.put, List.setIfInBounds_toArray, List.set_cons_zero, List.set_cons_succ])
      refine take_no (i := 33) (d := some 101) rfl rfl (by kernel_rfl) (by kernel_rfl) (by kernel_rfl) (fun _ _ _ h => h) (by rfl) (by assumption) ?_
      (try simp only [Act.put, List.setIfInBounds_toArray, List.set_cons_zero, List.set_cons_succ])
      refine take_no (i := 34) (d := some 102) rfl rfl (by kernel_rfl) (by kernel_rfl) (by kernel_rfl) (fun _ _ _ h => h) (by rfl) (by assumption) ?_
      (try simp only [Act.put, List.setIfInBounds_toArray, List.set_cons_zero, List.set_cons_succ])
      refine take_yes (i := 35) (v := ?vt3_33) (d := some 103) rfl rfl (by kernel_rfl) (by kernel_rfl) (by kernel_rfl) (fun _ _ _ h => h) (by rfl) ?yt3_33 (by assumption) ?rt3_33
      case yt3_33 =>
        intro w hSw
        (try dsimp only at hSw)
        go_simp
        try with_reducible rfl
      (try simp only [Act.put, List.setIfInBounds_toArray, List.set_cons_zero, List.set_cons_succ])
      refine take_yes (i := 36) (v := ?vt3_34) (d := some 104) rfl rfl (by kernel_rfl) (by kernel_rfl) (by kernel_rfl) (fun _ _ _ h => h) (by rfl) ?yt3_34 (by assumption) ?rt3_34
      case yt3_34 =>
        intro w hSw
        (try dsimp only at hSw)
        go_simp
        try with_reducible rfl
      (try simp only [Act.put, List.setIfInBounds_toArray, List.set_cons_zero, List.set_cons_succ])
      refine take_yes (i := 37) (v := ?vt3_35) (d := some 2) rfl rfl (by kernel_rfl) (by kernel_rfl) (by kernel_rfl) (fun _ _ _ h => h) (by rfl) ?yt3_35 (by assumption) ?rt3_35
      case yt3_35 =>
        intro w hSw
        (try dsimp only at hSw)
        go_simp
        try with_reducible rfl
      (try simp only [Act.put, List.setIfInBounds_toArray, List.set_cons_zero, List.set_cons_succ])
      refine wpAnyH_done (by kernel_rfl) ?_ _
      go_wp2_with fail
      go_ret
      exact ⟨rfl, btr z5B.out (by (repeat' (first | with_reducible exact Below.refl _ _ | with_reducible refine bl_alloc ?_ _ | with_reducible refine bl_set ?_ ?_ _ | exact (Below.refl _ _).drew | with_reducible refine bl_drew ?_ | with_reducible refine btr ?_ hbC | with_reducible refine btr ?_ hbB | with_reducible refine btr ?_ hbA | omega | (simp; done) | (simp; omega))))⟩
  · skip
    have d1 : decide (0 < X) = false := by simp; omega
    have d2 : decide (X < 0) = true := by simp; omega
    have hh : hasB c (m + n) = true := by rcases p7 with h | h; exact h; omega
    clear p6 p7 p8
    go_wp2_with fail
    have Kz5_out : Blk w4 (w2.heap.size) #[.int .i64 (-1), .int .i64 N, .int .i64 D] := Kw4_outH.out
    have Bz5 : Below w.heap.size w w4 := by (repeat' (first | exact Below.refl _ _ | refine bl_out ?_ (by assumption) | exact (Hid.out (by assumption)) | refine bl_alloc ?_ _ | refine bl_drewN ?_ _ | refine bl_drew ?_ | refine bl_set ?_ ?_ _ | omega | (simp; done) | (simp; omega)))
    generalize w4 = z5 at *
    obtain ⟨z5_c0_out, z5_c1_out, z5_c2_out, z5_f0_out, z5_f1_out, z5_f2_out⟩ := blk3 Kz5_out
    have Kz5_outH := Lib.hid Kz5_out
    have z5_l_out := Kz5_out.lt
    have z5B := Lib.hid Bz5
    clear Bz5
    clear Kz5_out
    refine wp_region_held_drew (S := (fun w' => Below z5.heap.size z5 w' ∧ w'.cell? ⟨w2.heap.size, 0, none⟩ = some (.int .i64 (-1)) ∧ w'.cell? ⟨w2.heap.size, 1, none⟩ = some (.int .i64 N) ∧ w'.cell? ⟨w2.heap.size, 2, none⟩ = some (.int .i64 D))) (by kernel_rfl) ?_ (fun hHeld => ?_)
    · (try dsimp only)
      (refine and_keep ?_ (fun hB => ⟨held_cell hB z5_c0_out z5_l_out, held_cell hB z5_c1_out z5_l_out, held_cell hB z5_c2_out z5_l_out⟩); (repeat' (first | with_reducible exact Below.refl _ _ | with_reducible refine bl_alloc ?_ _ | with_reducible refine bl_set ?_ ?_ _ | exact (Below.refl _ _).drew | with_reducible refine bl_drew ?_ | with_reducible refine btr ?_ hbC | with_reducible refine btr ?_ hbB | with_reducible refine btr ?_ hbA | omega | (simp; done) | (simp; omega))))
    refine take_yes (i := 0) (v := ?vt4_1) (d := some 68) rfl rfl (by kernel_rfl) (by kernel_rfl) (by kernel_rfl) (fun _ _ _ h => h) (by rfl) ?yt4_1 (by assumption) ?rt4_1
    case yt4_1 =>
      intro w hSw
      (try dsimp only at hSw)
      go_simp
      try with_reducible rfl
    (try simp only [Act.put, List.setIfInBounds_toArray, List.set_cons_zero, List.set_cons_succ])
    refine wpAnyH_ready (rs := [1]) (by kernel_rfl) (by simp) ?_
    refine AllReadyH.cons (o := _) rfl (fun K hK => ?_) AllReadyH.nil
    go_simp
    refine (i_RootValid _ _ _ _ (by omega) (by omega) H3.out h4 H5.out).mono ?_
    rintro e wt4_2 ⟨rfl, hbA⟩
    (try go_wp2_with fail)
    refine hK.out _ _ ?_ (fun hHeld => ?_)
    · (try dsimp only)
      (refine and_keep ?_ (fun hB => ⟨held_cell hB z5_c0_out z5_l_out, held_cell hB z5_c1_out z5_l_out, held_cell hB z5_c2_out z5_l_out⟩); (repeat' (first | with_reducible exact Below.refl _ _ | with_reducible refine bl_alloc ?_ _ | with_reducible refine bl_set ?_ ?_ _ | exact (Below.refl _ _).drew | with_reducible refine bl_drew ?_ | with_reducible refine btr ?_ hbC | with_reducible refine btr ?_ hbB | with_reducible refine btr ?_ hbA | omega | (simp; done) | (simp; omega))))
    clear hK K
    (try simp only [Act.put, List.setIfInBounds_toArray, List.set_cons_zero, List.set_cons_succ])
    refine take_yes (i := 2) (v := ?vt4_3) (d := some 70) rfl rfl (by kernel_rfl) (by kernel_rfl) (by kernel_rfl) (fun _ _ _ h => h) (by rfl) ?yt4_3 (by assumption) ?rt4_3
    case yt4_3 =>
      intro w hSw
      (try dsimp only at hSw)
      go_simp
      try with_reducible rfl
    (try simp only [Act.put, List.setIfInBounds_toArray, List.set_cons_zero, List.set_cons_succ])
    refine take_yes (i := 4) (v := ?vt4_4) (d := some 72) rfl rfl (by kernel_rfl) (by kernel_rfl) (by kernel_rfl) (fun _ _ _ h => h) (by rfl) ?yt4_4 (by assumption) ?rt4_4
    case yt4_4 =>
      intro w hSw
      (try dsimp only at hSw)
      go_simp
      try with_reducible rfl
    (try simp only [Act.put, List.setIfInBounds_toArray, List.set_cons_zero, List.set_cons_succ])
    refine take_yes (i := 5) (v := ?vt4_5) (d := some 73) rfl rfl (by kernel_rfl) (by kernel_rfl) (by kernel_rfl) (fun _ _ _ h => h) (by rfl) ?yt4_5 (by assumption) ?rt4_5
    case yt4_5 =>
      intro w hSw
      (try dsimp only at hSw)
      go_simp
      try with_reducible rfl
    (try simp only [Act.put, List.setIfInBounds_toArray, List.set_cons_zero, List.set_cons_succ])
    refine wpAnyH_ready (rs := [3]) (by kernel_rfl) (by simp) ?_
    refine AllReadyH.cons (o := _) rfl (fun K hK => ?_) AllReadyH.nil
    go_simp
    refine (l_whole _ _).mono ?_
    rintro e wt4_6 ⟨rfl, hbB⟩
    (try go_wp2_with fail)
    refine hK.out _ _ ?_ (fun hHeld => ?_)
    · (try dsimp only)
      (refine and_keep ?_ (fun hB => ⟨held_cell hB z5_c0_out z5_l_out, held_cell hB z5_c1_out z5_l_out, held_cell hB z5_c2_out z5_l_out⟩); (repeat' (first | with_reducible exact Below.refl _ _ | with_reducible refine bl_alloc ?_ _ | with_reducible refine bl_set ?_ ?_ _ | exact (Below.refl _ _).drew | with_reducible refine bl_drew ?_ | with_reducible refine btr ?_ hbC | with_reducible refine btr ?_ hbB | with_reducible refine btr ?_ hbA | omega | (simp; done) | (simp; omega))))
    clear hK K
    (try simp only [Act.put, List.setIfInBounds_toArray, List.set_cons_zero, List.set_cons_succ])
    refine wpAnyH_ready (rs := [6]) (by kernel_rfl) (by simp) ?_
    refine AllReadyH.cons (o := _) rfl (fun K hK => ?_) AllReadyH.nil
    go_simp
    refine (i_RatLess _ _ _ _ false _ R1.out H3.out HLE.out).mono ?_
    rintro e wt4_7 ⟨rfl, hbC⟩
    (try go_wp2_with fail)
    refine hK.out _ _ ?_ (fun hHeld => ?_)
    · (try dsimp only)
      (refine and_keep ?_ (fun hB => ⟨held_cell hB z5_c0_out z5_l_out, held_cell hB z5_c1_out z5_l_out, held_cell hB z5_c2_out z5_l_out⟩); (repeat' (first | with_reducible exact Below.refl _ _ | with_reducible refine bl_alloc ?_ _ | with_reducible refine bl_set ?_ ?_ _ | exact (Below.refl _ _).drew | with_reducible refine bl_drew ?_ | with_reducible refine btr ?_ hbC | with_reducible refine btr ?_ hbB | with_reducible refine btr ?_ hbA | omega | (simp; done) | (simp; omega))))
    clear hK K
    (try simp only [Act.put, List.setIfInBounds_toArray, List.set_cons_zero, List.set_cons_succ])
    refine take_yes (i := 7) (v := ?vt4_8) (d := some 75) rfl rfl (by kernel_rfl) (by kernel_rfl) (by kernel_rfl) (fun _ _ _ h => h) (by rfl) ?yt4_8 (by assumption) ?rt4_8
    case yt4_8 =>
      intro w hSw
      (try dsimp only at hSw)
      go_simp
      try with_reducible rfl
    (try simp only [Act.put, List.setIfInBounds_toArray, List.set_cons_zero, List.set_cons_succ])
    refine take_yes (i := 8) (v := ?vt4_9) (d := some 76) rfl rfl (by kernel_rfl) (by kernel_rfl) (by kernel_rfl) (fun _ _ _ h => h) (by rfl) ?yt4_9 (by assumption) ?rt4_9
    case yt4_9 =>
      intro w hSw
      (try dsimp only at hSw)
      go_simp
      try with_reducible rfl
    (try simp only [Act.put, List.setIfInBounds_toArray, List.set_cons_zero, List.set_cons_succ])
    refine take_yes (i := 9) (v := ?vt4_10) (d := some 77) rfl rfl (by kernel_rfl) (by kernel_rfl) (by kernel_rfl) (fun _ _ _ h => h) (by rfl) ?yt4_10 (by assumption) ?rt4_10
    case yt4_10 =>
      intro w hSw
      (try dsimp only at hSw)
      go_simp
      try with_reducible rfl
    (try simp only [Act.put, List.setIfInBounds_toArray, List.set_cons_zero, List.set_cons_succ])
    refine take_yes (i := 10) (v := ?vt4_11) (d := some 78) rfl rfl (by kernel_rfl) (by kernel_rfl) (by kernel_rfl) (fun _ _ _ h => h) (by rfl) ?yt4_11 (by assumption) ?rt4_11
    case yt4_11 =>
      intro w hSw
      (try dsimp only at hSw)
      go_simp
      try with_reducible rfl
    (try simp only [Act.put, List.setIfInBounds_toArray, List.set_cons_zero, List.set_cons_succ])
    refine take_yes (i := 11) (v := ?vt4_12) (d := some 79) rfl rfl (by kernel_rfl) (by kernel_rfl) (by kernel_rfl) (fun _ _ _ h => h) (by rfl) ?yt4_12 (by assumption) ?rt4_12
    case yt4_12 =>
      intro w hSw
      (try dsimp only at hSw)
      go_simp
      try with_reducible rfl
    (try simp only [Act.put, List.setIfInBounds_toArray, List.set_cons_zero, List.set_cons_succ])
    refine take_yes (i := 12) (v := ?vt4_13) (d := some 80) rfl rfl (by kernel_rfl) (by kernel_rfl) (by kernel_rfl) (fun _ _ _ h => h) (by rfl) ?yt4_13 (by assumption) ?rt4_13
    case yt4_13 =>
      intro w hSw
      (try dsimp only at hSw)
      go_simp
      try with_reducible rfl
    (try simp only [Act.put, List.setIfInBounds_toArray, List.set_cons_zero, List.set_cons_succ])
    refine take_yes (i := 13) (v := ?vt4_14) (d := some 81) rfl rfl (by kernel_rfl) (by kernel_rfl) (by kernel_rfl) (fun _ _ _ h => h) (by rfl) ?yt4_14 (by assumption) ?rt4_14
    case yt4_14 =>
      intro w hSw
      (try dsimp only at hSw)
      go_simp
      try with_reducible rfl
    (try simp only [Act.put, List.setIfInBounds_toArray, List.set_cons_zero, List.set_cons_succ])
    refine take_yes (i := 14) (v := ?vt4_15) (d := some 82) rfl rfl (by kernel_rfl) (by kernel_rfl) (by kernel_rfl) (fun _ _ _ h => h) (by rfl) ?yt4_15 (by assumption) ?rt4_15
    case yt4_15 =>
      intro w hSw
      (try dsimp only at hSw)
      go_simp
      try with_reducible rfl
    (try simp only [Act.put, List.setIfInBounds_toArray, List.set_cons_zero, List.set_cons_succ])
    refine take_yes (i := 15) (v := ?vt4_16) (d := some 83) rfl rfl (by kernel_rfl) (by kernel_rfl) (by kernel_rfl) (fun _ _ _ h => h) (by rfl) ?yt4_16 (by assumption) ?rt4_16
    case yt4_16 =>
      intro w hSw
      (try dsimp only at hSw)
      go_simp
      try with_reducible rfl
    (try simp only [Act.put, List.setIfInBounds_toArray, List.set_cons_zero, List.set_cons_succ])
    refine take_yes (i := 16) (v := ?vt4_17) (d := some 84) rfl rfl (by kernel_rfl) (by kernel_rfl) (by kernel_rfl) (fun _ _ _ h => h) (by rfl) ?yt4_17 (by assumption) ?rt4_17
    case yt4_17 =>
      intro w hSw
      (try dsimp only at hSw)
      go_simp
      try with_reducible rfl
    (try simp only [Act.put, List.setIfInBounds_toArray, List.set_cons_zero, List.set_cons_succ])
    refine take_yes (i := 17) (v := ?vt4_18) (d := some 85) rfl rfl (by kernel_rfl) (by kernel_rfl) (by kernel_rfl) (fun _ _ _ h => h) (by rfl) ?yt4_18 (by assumption) ?rt4_18
    case yt4_18 =>
      intro w hSw
      (try dsimp only at hSw)
      go_simp
      try with_reducible rfl
    (try simp only [Act.put, List.setIfInBounds_toArray, List.set_cons_zero, List.set_cons_succ])
    refine take_yes (i := 18) (v := ?vt4_19) (d := some 86) rfl rfl (by kernel_rfl) (by kernel_rfl) (by kernel_rfl) (fun _ _ _ h => h) (by rfl) ?yt4_19 (by assumption) ?rt4_19
    case yt4_19 =>
      intro w hSw
      (try dsimp only at hSw)
      go_simp
      try with_reducible rfl
    (try simp only [Act.put, List.setIfInBounds_toArray, List.set_cons_zero, List.set_cons_succ])
    refine take_yes (i := 19) (v := ?vt4_20) (d := some 87) rfl rfl (by kernel_rfl) (by kernel_rfl) (by kernel_rfl) (fun _ _ _ h => h) (by rfl) ?yt4_20 (by assumption) ?rt4_20
    case yt4_20 =>
      intro w hSw
      (try dsimp only at hSw)
      go_simp
      try with_reducible rfl
    (try simp only [Act.put, List.setIfInBounds_toArray, List.set_cons_zero, List.set_cons_succ])
    refine take_yes (i := 20) (v := ?vt4_21) (d := some 88) rfl rfl (by kernel_rfl) (by kernel_rfl) (by kernel_rfl) (fun _ _ _ h => h) (by rfl) ?yt4_21 (by assumption) ?rt4_21
    case yt4_21 =>
      intro w hSw
      (try dsimp only at hSw)
      go_simp
      try with_reducible rfl
    (try simp only [Act.put, List.setIfInBounds_toArray, List.set_cons_zero, List.set_cons_succ])
    refine take_yes (i := 21) (v := ?vt4_22) (d := some 89) rfl rfl (by kernel_rfl) (by kernel_rfl) (by kernel_rfl) (fun _ _ _ h => h) (by rfl) ?yt4_22 (by assumption) ?rt4_22
    case yt4_22 =>
      intro w hSw
      (try dsimp only at hSw)
      go_simp
      try with_reducible rfl
    (try simp only [Act.put, List.setIfInBounds_toArray, List.set_cons_zero, List.set_cons_succ])
    refine take_yes (i := 22) (v := ?vt4_23) (d := some 90) rfl rfl (by kernel_rfl) (by kernel_rfl) (by kernel_rfl) (fun _ _ _ h => h) (by rfl) ?yt4_23 (by assumption) ?rt4_23
    case yt4_23 =>
      intro w hSw
      (try dsimp only at hSw)
      go_simp
      try with_reducible rfl
    (try simp only [Act.put, List.setIfInBounds_toArray, List.set_cons_zero, List.set_cons_succ])
    refine take_yes (i := 23) (v := ?vt4_24) (d := some 91) rfl rfl (by kernel_rfl) (by kernel_rfl) (by kernel_rfl) (fun _ _ _ h => h) (by rfl) ?yt4_24 (by assumption) ?rt4_24
    case yt4_24 =>
      intro w hSw
      (try dsimp only at hSw)
      go_simp
      try with_reducible rfl
    (try simp only [Act.put, List.setIfInBounds_toArray, List.set_cons_zero, List.set_cons_succ])
    refine take_yes (i := 24) (v := ?vt4_25) (d := some 92) rfl rfl (by kernel_rfl) (by kernel_rfl) (by kernel_rfl) (fun _ _ _ h => h) (by rfl) ?yt4_25 (by assumption) ?rt4_25
    case yt4_25 =>
      intro w hSw
      (try dsimp only at hSw)
      go_simp
      try with_reducible rfl
    (try simp only [Act.put, List.setIfInBounds_toArray, List.set_cons_zero, List.set_cons_succ])
    refine take_yes (i := 25) (v := ?vt4_26) (d := some 93) rfl rfl (by kernel_rfl) (by kernel_rfl) (by kernel_rfl) (fun _ _ _ h => h) (by rfl) ?yt4_26 (by assumption) ?rt4_26
    case yt4_26 =>
      intro w hSw
      (try dsimp only at hSw)
      go_simp
      try with_reducible rfl
    (try simp only [Act.put, List.setIfInBounds_toArray, List.set_cons_zero, List.set_cons_succ])
    refine take_yes (i := 26) (v := ?vt4_27) (d := some 94) rfl rfl (by kernel_rfl) (by kernel_rfl) (by kernel_rfl) (fun _ _ _ h => h) (by rfl) ?yt4_27 (by assumption) ?rt4_27
    case yt4_27 =>
      intro w hSw
      (try dsimp only at hSw)
      go_simp
      try with_reducible rfl
    (try simp only [Act.put, List.setIfInBounds_toArray, List.set_cons_zero, List.set_cons_succ])
    refine take_yes (i := 27) (v := ?vt4_28) (d := some 95) rfl rfl (by kernel_rfl) (by kernel_rfl) (by kernel_rfl) (fun _ _ _ h => h) (by rfl) ?yt4_28 (by assumption) ?rt4_28
    case yt4_28 =>
      intro w hSw
      (try dsimp only at hSw)
      go_simp
      try with_reducible rfl
    (try simp only [Act.put, List.setIfInBounds_toArray, List.set_cons_zero, List.set_cons_succ])
    refine take_yes (i := 28) (v := ?vt4_29) (d := some 96) rfl rfl (by kernel_rfl) (by kernel_rfl) (by kernel_rfl) (fun _ _ _ h => h) (by rfl) ?yt4_29 (by assumption) ?rt4_29
    case yt4_29 =>
      intro w hSw
      (try dsimp only at hSw)
      go_simp
      try with_reducible rfl
    (try simp only [Act.put, List.setIfInBounds_toArray, List.set_cons_zero, List.set_cons_succ])
    refine take_yes (i := 29) (v := ?vt4_30) (d := some 97) rfl rfl (by kernel_rfl) (by kernel_rfl) (by kernel_rfl) (fun _ _ _ h => h) (by rfl) ?yt4_30 (by assumption) ?rt4_30
    case yt4_30 =>
      intro w hSw
      (try dsimp only at hSw)
      go_simp
      try with_reducible rfl
    (try simp only [Act.put, List.setIfInBounds_toArray, List.set_cons_zero, List.set_cons_succ])
    refine wpAnyH_ready (rs := [30]) (by kernel_rfl) (by simp) ?_
    refine AllReadyH.cons (o := _) rfl (fun K hK => ?_) AllReadyH.nil
    go_simp
    refine (i_SpinHas _ _ _).mono ?_
    rintro e wt4_31 ⟨rfl, hbD⟩
    subst hbD
    rw [hh]
    (try go_wp2_with fail)
    refine hK.out _ _ ?_ (fun hHeld => ?_)
    · (try dsimp only)
      (refine and_keep ?_ (fun hB => ⟨held_cell hB z5_c0_out z5_l_out, held_cell hB z5_c1_out z5_l_out, held_cell hB z5_c2_out z5_l_out⟩); (repeat' (first | with_reducible exact Below.refl _ _ | with_reducible refine bl_alloc ?_ _ | with_reducible refine bl_set ?_ ?_ _ | exact (Below.refl _ _).drew | with_reducible refine bl_drew ?_ | with_reducible refine btr ?_ hbC | with_reducible refine btr ?_ hbB | with_reducible refine btr ?_ hbA | omega | (simp; done) | (simp; omega))))
    clear hK K
    (try simp only [Act.put, List.setIfInBounds_toArray, List.set_cons_zero, List.set_cons_succ])
    refine take_yes (i := 31) (v := ?vt4_32) (d := some 99) rfl rfl (by kernel_rfl) (by kernel_rfl) (by kernel_rfl) (fun _ _ _ h => h) (by rfl) ?yt4_32 (by assumption) ?rt4_32
    case yt4_32 =>
      intro w hSw
      (try dsimp only at hSw)
      go_simp
      try with_reducible rfl
    (try simp only [Act.put, List.setIfInBounds_toArray, List.set_cons_zero, List.set_cons_succ])
    refine take_no (i := 32) (d := some 100) rfl rfl (by kernel_rfl) (by kernel_rfl) (by kernel_rfl) (fun _ _ _ h => h) (by rfl) (by assumption) ?_
    (try simp only [Act.put, List.setIfInBounds_toArray, List.set_cons_zero, List.set_cons_succ])
    refine take_no (i := 33) (d := some 101) rfl rfl (by kernel_rfl) (by kernel_rfl) (by kernel_rfl) (fun _ _ _ h => h) (by rfl) (by assumption) ?_
    (try simp only [Act.put, List.setIfInBounds_toArray, List.set_cons_zero, List.set_cons_succ])
    refine take_no (i := 34) (d := some 102) rfl rfl (by kernel_rfl) (by kernel_rfl) (by kernel_rfl) (fun _ _ _ h => h) (by rfl) (by assumption) ?_
    (try simp only [Act.put, List.setIfInBounds_toArray, List.set_cons_zero, List.set_cons_succ])
    refine take_yes (i := 35) (v := ?vt4_33) (d := some 103) rfl rfl (by kernel_rfl) (by kernel_rfl) (by kernel_rfl) (fun _ _ _ h => h) (by rfl) ?yt4_33 (by assumption) ?rt4_33
    case yt4_33 =>
      intro w hSw
      (try dsimp only at hSw)
      go_simp
      try with_reducible rfl
    (try simp only [Act.put, List.setIfInBounds_toArray, List.set_cons_zero, List.set_cons_succ])
    refine take_yes (i := 36) (v := ?vt4_34) (d := some 104) rfl rfl (by kernel_rfl) (by kernel_rfl) (by kernel_rfl) (fun _ _ _ h => h) (by rfl) ?yt4_34 (by assumption) ?rt4_34
    case yt4_34 =>
      intro w hSw
      (try dsimp only at hSw)
      go_simp
      try with_reducible rfl
    (try simp only [Act.put, List.setIfInBounds_toArray, List.set_cons_zero, List.set_cons_succ])
    refine take_yes (i := 37) (v := ?vt4_35) (d := some 2) rfl rfl (by kernel_rfl) (by kernel_rfl) (by kernel_rfl) (fun _ _ _ h => h) (by rfl) ?yt4_35 (by assumption) ?rt4_35
    case yt4_35 =>
      intro w hSw
      (try dsimp only at hSw)
      go_simp
      try with_reducible rfl
    (try simp only [Act.put, List.setIfInBounds_toArray, List.set_cons_zero, List.set_cons_succ])
    refine wpAnyH_done (by kernel_rfl) ?_ _
    go_wp2_with fail
    go_ret
    exact ⟨rfl, btr z5B.out (by (repeat' (first | with_reducible exact Below.refl _ _ | with_reducible refine bl_alloc ?_ _ | with_reducible refine bl_set ?_ ?_ _ | exact (Below.refl _ _).drew | with_reducible refine bl_drew ?_ | with_reducible refine btr ?_ hbC | with_reducible refine btr ?_ hbB | with_reducible refine btr ?_ hbA | omega | (simp; done) | (simp; omega))))⟩

end Go.Proofs.Ytjhnommmgkgjoaa
