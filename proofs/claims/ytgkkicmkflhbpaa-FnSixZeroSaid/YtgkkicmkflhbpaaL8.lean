/- The walks of the laws on 6j symbols. -/
import Derived.Test.YtgkkicmkflhbpaaSz
import Derived.Test.YtgkkicmkflhbpaaDx
import Derived.Test.YtgkkicmkflhbpaaP8
import Derived.Test.YtgkkicmkflhbpaaLv
namespace Go.Proofs.Ytgkkicmkflhbpaa
open Go.RowKit
set_option linter.unusedVariables false

set_option maxRecDepth 100000 in
set_option maxHeartbeats 2000000 in
theorem l_FnSixZero (s : Option Addr) (len cap : Nat) (w : World) (h : Code w s len cap) (hl : len ≤ 9223372036854775807) (hc : cap ≤ 9223372036854775807) :
    Calls Try.prog 9 #[.slice s len cap] w (RTrueK w) := by
  have H := Lib.hid h
  clear h
  by_cases hbig : 1048576 < len
  · go_enter Try.func9, Try.ntmps9
    go_wp2_with fail
    go_ret
    exact ⟨rfl, Below.refl _ _⟩
  go_enter Try.func9, Try.ntmps9
  go_wp2_with fail
  refine (s_DrawSixJ s len cap w H.out hl hc).mono ?_
  rintro e w1 ⟨a, b, c, d, e, f, rfl, ⟨a0, a1⟩, ⟨b0, b1⟩, ⟨c0, c1⟩, ⟨d0, d1⟩, ⟨e0, e1⟩, ⟨f0, f1⟩, hb1⟩
  have w1z := hb1.size
  try simp at w1z
  have w1B := Lib.hid hb1
  clear hb1
  go_wp2_with fail
  refine (i_SixJ _ _ _ _ _ _ _).mono ?_
  rintro e w2 ⟨rfl, hb2⟩
  have w2z := hb2.size
  try simp at w2z
  have w2B := Lib.hid hb2
  clear hb2
  generalize hX : sjI a b c d e f = XhX at *
  obtain ⟨S, N, D, o⟩ := XhX
  have HhX := Lib.hid hX
  clear hX
  simp only [rtv]
  go_wp2_with fail
  refine (s_SixJ _ _ _ _ _ _ _).mono ?_
  rintro e w3 ⟨rfl, hb3⟩
  have Kw3_out : Blk w3 (w2.heap.size) #[.int .i64 S, .int .i64 N, .int .i64 D] := blk_later hb3 (blk_new (by simp))
  obtain ⟨w3_c0_out, w3_c1_out, w3_c2_out, w3_f0_out, w3_f1_out, w3_f2_out⟩ := blk3 Kw3_out
  have Kw3_outH := Lib.hid Kw3_out
  have w3_l_out := Kw3_out.lt
  have w3_m_out : w2.heap.size < w3.heap.size + 1 := by omega
  have w3z := hb3.size
  try simp at w3z
  have w3B := Lib.hid hb3
  clear Kw3_out
  clear hb3
  rw [HhX.out]
  simp only [rtv]
  cases o
  · go_wp2_with fail
    go_ret
    exact ⟨rfl, by (repeat' (first | exact Below.refl _ _ | refine bl_out ?_ (by assumption) | exact (Hid.out (by assumption)) | refine bl_alloc ?_ _ | refine bl_drewN ?_ _ | refine bl_drew ?_ | refine bl_set ?_ ?_ _ | omega | (simp; done) | (simp; omega)))⟩
  have OK := Lib.hid (sjI_ok HhX.out)
  have t1 := tdB_iff.1 (sixOk_iff.1 OK.out).1
  have t2 := tdB_iff.1 (sixOk_iff.1 OK.out).2.1
  have t3 := tdB_iff.1 (sixOk_iff.1 OK.out).2.2.1
  have t4 := tdB_iff.1 (sixOk_iff.1 OK.out).2.2.2
  have tb := t1.2.1
  have tc := t1.2.2.1
  have ta := t1.1
  obtain ⟨m0, m1⟩ := mul_bd (A := 7) (B := 7) (a := b + 1) (b := c + 1) (by omega) (by omega) (by omega) (by omega)
  clear t1 t2 t3 t4
  go_wp2_with fail
  refine (i_SixJ _ _ _ _ _ _ _).mono ?_
  rintro e w4 ⟨rfl, hb4⟩
  have Kw4_out : Blk w4 (w2.heap.size) #[.int .i64 S, .int .i64 N, .int .i64 D] := blk_later hb4 (blk_alloc Kw3_outH.out (.cells #[.int .i64 S, .int .i64 N, .int .i64 D] 31))
  obtain ⟨w4_c0_out, w4_c1_out, w4_c2_out, w4_f0_out, w4_f1_out, w4_f2_out⟩ := blk3 Kw4_out
  have Kw4_outH := Lib.hid Kw4_out
  have w4_l_out := Kw4_out.lt
  have w4_m_out : w2.heap.size < w4.heap.size + 1 := by omega
  have w4z := hb4.size
  try simp at w4z
  have w4B := Lib.hid hb4
  clear Kw4_out
  clear hb4
  generalize hY : sjI a b c 0 c b = XhY at *
  obtain ⟨S1, N1, D1, o1⟩ := XhY
  have HhY := Lib.hid hY
  clear hY
  simp only [rtv]
  go_wp2_with fail
  refine (i_RatOf _ _ _).mono ?_
  rintro e w5 ⟨rfl, hb5⟩
  have Kw5_out : Blk w5 (w2.heap.size) #[.int .i64 S, .int .i64 N, .int .i64 D] := blk_later hb5 (blk_alloc Kw4_outH.out (.cells #[.int .i64 S1, .int .i64 N1, .int .i64 D1] 31))
  have Kw5_x : Blk w5 (w4.heap.size) #[.int .i64 S1, .int .i64 N1, .int .i64 D1] := blk_later hb5 (blk_new (by simp))
  obtain ⟨w5_c0_out, w5_c1_out, w5_c2_out, w5_f0_out, w5_f1_out, w5_f2_out⟩ := blk3 Kw5_out
  have Kw5_outH := Lib.hid Kw5_out
  have w5_l_out := Kw5_out.lt
  have w5_m_out : w2.heap.size < w5.heap.size + 1 := by omega
  obtain ⟨w5_c0_x, w5_c1_x, w5_c2_x, w5_f0_x, w5_f1_x, w5_f2_x⟩ := blk3 Kw5_x
  have Kw5_xH := Lib.hid Kw5_x
  have w5_l_x := Kw5_x.lt
  have w5_m_x : w4.heap.size < w5.heap.size + 1 := by omega
  have w5z := hb5.size
  try simp at w5z
  have w5B := Lib.hid hb5
  clear Kw5_out Kw5_x
  clear hb5
  generalize hZ : ratOf 1 ((b + 1) * (c + 1)) = XhZ at *
  obtain ⟨N2, D2, o2⟩ := XhZ
  have HhZ := Lib.hid hZ
  clear hZ
  simp only [rv]
  have P := all3_of okZero6_all (sixOk_iff.1 OK.out).1
  simp only [okZero6, HhY.out, HhZ.out] at P
  obtain ⟨⟨⟨⟨rfl, rfl⟩, rfl⟩, rfl⟩, P5⟩ : (((o1 = true ∧ o2 = true) ∧ N1 = N2) ∧ D1 = D2) ∧ (decide (S1 < 0) == decide ((a + b + c) / 2 % 2 ≠ 0)) = true := by simpa using P
  clear P
  rw [beq_iff_eq, decide_eq_decide] at P5
  by_cases hp : (a + b + c) / 2 % 2 = 0
  · have hp1 : ((a + b + c) / 2 % 2 == 0) = true := by simp [hp]
    have hp2 : ((a + b + c) / 2 % 2 != 0) = false := by simp [hp]
    have hs : ¬ S1 < 0 := by omega
    have hs2 : decide (S1 < 0) = false := by simpa using hs
    clear P5 hp
    go_wp2_with fail
    go_ret
    exact ⟨rfl, by (repeat' (first | exact Below.refl _ _ | refine bl_out ?_ (by assumption) | exact (Hid.out (by assumption)) | refine bl_alloc ?_ _ | refine bl_drewN ?_ _ | refine bl_drew ?_ | refine bl_set ?_ ?_ _ | omega | (simp; done) | (simp; omega)))⟩
  have hp1 : ((a + b + c) / 2 % 2 == 0) = false := by simp [hp]
  have hp2 : ((a + b + c) / 2 % 2 != 0) = true := by simp [hp]
  have hs : S1 < 0 := by omega
  have hs2 : decide (S1 < 0) = true := by simpa using hs
  clear P5 hp
  go_wp2_with fail
  go_ret
  exact ⟨rfl, by (repeat' (first | exact Below.refl _ _ | refine bl_out ?_ (by assumption) | exact (Hid.out (by assumption)) | refine bl_alloc ?_ _ | refine bl_drewN ?_ _ | refine bl_drew ?_ | refine bl_set ?_ ?_ _ | omega | (simp; done) | (simp; omega)))⟩

set_option maxRecDepth 100000 in
set_option maxHeartbeats 3000000 in
theorem l_FnSixSmall (s : Option Addr) (len cap : Nat) (w : World) (h : Code w s len cap) (hl : len ≤ 9223372036854775807) (hc : cap ≤ 9223372036854775807) :
    Calls Try.prog 10 #[.slice s len cap] w (RTrueK w) := by
  have H := Lib.hid h
  clear h
  by_cases hbig : 1048576 < len
  · go_enter Try.func10, Try.ntmps10
    go_wp2_with fail
    go_ret
    exact ⟨rfl, Below.refl _ _⟩
  go_enter Try.func10, Try.ntmps10
  go_wp2_with fail
  refine (s_DrawSixJ s len cap w H.out hl hc).mono ?_
  rintro e w1 ⟨a, b, c, d, e, f, rfl, ⟨a0, a1⟩, ⟨b0, b1⟩, ⟨c0, c1⟩, ⟨d0, d1⟩, ⟨e0, e1⟩, ⟨f0, f1⟩, hb1⟩
  have w1z := hb1.size
  try simp at w1z
  have w1B := Lib.hid hb1
  clear hb1
  go_wp2_with fail
  refine (i_SixJ _ _ _ _ _ _ _).mono ?_
  rintro e w2 ⟨rfl, hb2⟩
  have w2z := hb2.size
  try simp at w2z
  have w2B := Lib.hid hb2
  clear hb2
  generalize hX : sjI a b c d e f = XhX at *
  obtain ⟨S, N, D, o⟩ := XhX
  have HhX := Lib.hid hX
  clear hX
  simp only [rtv]
  go_wp2_with fail
  refine (s_SixJ _ _ _ _ _ _ _).mono ?_
  rintro e w3 ⟨rfl, hb3⟩
  have Kw3_out : Blk w3 (w2.heap.size) #[.int .i64 S, .int .i64 N, .int .i64 D] := blk_later hb3 (blk_new (by simp))
  obtain ⟨w3_c0_out, w3_c1_out, w3_c2_out, w3_f0_out, w3_f1_out, w3_f2_out⟩ := blk3 Kw3_out
  have Kw3_outH := Lib.hid Kw3_out
  have w3_l_out := Kw3_out.lt
  have w3_m_out : w2.heap.size < w3.heap.size + 1 := by omega
  have w3z := hb3.size
  try simp at w3z
  have w3B := Lib.hid hb3
  clear Kw3_out
  clear hb3
  rw [HhX.out]
  simp only [rtv]
  cases o
  · go_wp2_with fail
    go_ret
    exact ⟨rfl, by (repeat' (first | exact Below.refl _ _ | refine bl_out ?_ (by assumption) | exact (Hid.out (by assumption)) | refine bl_alloc ?_ _ | refine bl_drewN ?_ _ | refine bl_drew ?_ | refine bl_set ?_ ?_ _ | omega | (simp; done) | (simp; omega)))⟩
  have OK := Lib.hid (sjI_ok HhX.out)
  have t1 := tdB_iff.1 (sixOk_iff.1 OK.out).1
  have t2 := tdB_iff.1 (sixOk_iff.1 OK.out).2.1
  have t3 := tdB_iff.1 (sixOk_iff.1 OK.out).2.2.1
  have t4 := tdB_iff.1 (sixOk_iff.1 OK.out).2.2.2
  have tf := t2.2.2.1
  have tc := t1.2.2.1
  obtain ⟨m0, m1⟩ := mul_bd (A := 7) (B := 7) (a := c + 1) (b := f + 1) (by omega) (by omega) (by omega) (by omega)
  clear t1 t2 t3 t4
  have P := allS_of okSmall_all OK.out
  simp only [okSmall, HhX.out] at P
  obtain ⟨N2, D2, o2, hy⟩ := pair3 (ratMul N D ((c + 1) * (f + 1)) 1)
  simp only [hy] at P
  obtain ⟨⟨⟨rfl, p2⟩, p3⟩, p4⟩ : ((o2 = true ∧ ratB N2 D2 = true) ∧ N2 ≤ D2) ∧ rootOk S N D = true := by simpa using P
  obtain ⟨⟨s0, s1⟩, h3, h4, h5⟩ := rootOk_iff p4
  have HY := Lib.hid hy
  have H2 := Lib.hid p2
  have H3 := Lib.hid h3
  have H5 := Lib.hid h5
  have HLE : Hid (cmpI (1 * D2) (N2 * 1) < 0 ↔ false = true) := Lib.hid (by unfold cmpI; split <;> (try split) <;> simp <;> omega)
  have R1 : Hid (ratB 1 1 = true) := Lib.hid (by decide)
  have wr1 : IntKind.i64.wrap (c + 1) = c + 1 := IntWalk.i64_in _ (by omega)
  have wr2 : IntKind.i64.wrap (f + 1) = f + 1 := IntWalk.i64_in _ (by omega)
  have wr3 : IntKind.i64.wrap ((c + 1) * (f + 1)) = (c + 1) * (f + 1) := IntWalk.i64_in _ (by omega)
  clear P hy p2 p4 h3 h5
  go_upto_region 8 with fail
  have Kz4_out : Blk (w3.alloc (.cells #[.int .i64 S, .int .i64 N, .int .i64 D] 31)) (w2.heap.size) #[.int .i64 S, .int .i64 N, .int .i64 D] := (blk_alloc Kw3_outH.out (.cells #[.int .i64 S, .int .i64 N, .int .i64 D] 31))
  have Bz4 : Below w.heap.size w (w3.alloc (.cells #[.int .i64 S, .int .i64 N, .int .i64 D] 31)) := by (repeat' (first | exact Below.refl _ _ | refine bl_out ?_ (by assumption) | exact (Hid.out (by assumption)) | refine bl_alloc ?_ _ | refine bl_drewN ?_ _ | refine bl_drew ?_ | refine bl_set ?_ ?_ _ | omega | (simp; done) | (simp; omega)))
  have Sz4 : (w3.alloc (.cells #[.int .i64 S, .int .i64 N, .int .i64 D] 31)).heap.size = w3.heap.size + 1 := by simp
  generalize (w3.alloc (.cells #[.int .i64 S, .int .i64 N, .int .i64 D] 31)) = z4 at *
  have Sz4a := Nat.le_of_eq Sz4
  have Sz4b := Nat.le_of_eq Sz4.symm
  clear Sz4
  obtain ⟨z4_c0_out, z4_c1_out, z4_c2_out, z4_f0_out, z4_f1_out, z4_f2_out⟩ := blk3 Kz4_out
  have Kz4_outH := Lib.hid Kz4_out
  have z4_l_out := Kz4_out.lt
  have z4B := Lib.hid Bz4
  clear Bz4
  clear Kz4_out
  go_cut [13, 14] (CutBlk z4 #[.int .i64 N2, .int .i64 D2] true)
  case first =>
    go_region_held3 (fun w' => Below z4.heap.size z4 w' ∧ w'.cell? ⟨w2.heap.size, 0, none⟩ = some (.int .i64 S) ∧ w'.cell? ⟨w2.heap.size, 1, none⟩ = some (.int .i64 N) ∧ w'.cell? ⟨w2.heap.size, 2, none⟩ = some (.int .i64 D)) ((refine and_keep ?_ (fun hB => ⟨held_cell hB z4_c0_out z4_l_out, held_cell hB z4_c1_out z4_l_out, held_cell hB z4_c2_out z4_l_out⟩); (repeat' (first | with_reducible exact Below.refl _ _ | with_reducible refine bl_alloc ?_ _ | with_reducible refine bl_set ?_ ?_ _ | exact (Below.refl _ _).drew | with_reducible refine bl_drew ?_ | with_reducible refine btr ?_ hbB | with_reducible refine btr ?_ hbA | omega | (simp; done) | (simp; omega))))) (first | (go_at_call 25; refine (l_whole _ _).mono ?_; rintro e wA ⟨rfl, hbA⟩; obtain ⟨hcA, hfA⟩ := bcell hbA; have hzA : z4.heap.size ≤ wA.heap.size := (by first | exact hbA.size | exact Nat.le_trans hzA hbA.size | (have h0 := hbA.size; simp at h0; omega)); (try (have hyA : z4.heap.size < wA.heap.size := by (have h0 := hbA.size; simp at h0; omega)))) | (go_at_call 24; refine (i_RatMul2 _ _ _ _ _ _ _ _ HY).mono ?_; rintro e wB ⟨rfl, hbB⟩; obtain ⟨hcB, hfB⟩ := bcell hbB; have hzB : z4.heap.size ≤ wB.heap.size := (by first | exact hbB.size | exact Nat.le_trans hzA hbB.size | (have h0 := hbB.size; simp at h0; omega)); (try (have hyB : z4.heap.size < wB.heap.size := by (have h0 := hbB.size; simp at h0; omega)))))
    all_goals
      go_wp2_with fail
      go_meet
      exact ⟨_, rfl, rfl, by (first | omega | (simp; omega)), by (repeat' (first | exact blk_new (by simp) | with_reducible refine blk_store2 (x := .int .i64 0) (y := .int .i64 0) ?_ | with_reducible refine blk_store3 (x := .int .i64 0) (y := .int .i64 0) (z := .int .i64 0) ?_ | with_reducible refine blk_drew ?_ | with_reducible refine blk_later hbB ?_ | with_reducible refine blk_later hbA ?_)), by (repeat' (first | with_reducible exact Below.refl _ _ | with_reducible refine bl_alloc ?_ _ | with_reducible refine bl_set ?_ ?_ _ | exact (Below.refl _ _).drew | with_reducible refine bl_drew ?_ | with_reducible refine btr ?_ hbB | with_reducible refine btr ?_ hbA | omega | (simp; done) | (simp; omega)))⟩
  case rest =>
    obtain ⟨g5, rfl, rfl, g5z, Kg5, hb5⟩ := hcut
    obtain ⟨w5, rfl⟩ : ∃ x, x = wc := ⟨_, rfl⟩
    have Kw5_out : Blk w5 (w2.heap.size) #[.int .i64 S, .int .i64 N, .int .i64 D] := blk_later hb5 Kz4_outH.out
    obtain ⟨w5_c0_out, w5_c1_out, w5_c2_out, w5_f0_out, w5_f1_out, w5_f2_out⟩ := blk3 Kw5_out
    have Kw5_outH := Lib.hid Kw5_out
    have w5_l_out := Kw5_out.lt
    have w5_m_out : w2.heap.size < w5.heap.size + 1 := by omega
    have w5z := hb5.size
    try simp at w5z
    have w5B := Lib.hid hb5
    clear Kw5_out
    clear hb5
    obtain ⟨w5_c0_x, w5_c1_x, w5_f0_x, w5_f1_x⟩ := blk2 Kg5
    have Kg5H := Lib.hid Kg5
    have w5_l_x := Kg5.lt
    clear Kg5
    clear wr1 wr2 wr3
    go_wp2_with fail
    have Kz6_out : Blk w5 (w2.heap.size) #[.int .i64 S, .int .i64 N, .int .i64 D] := Kw5_outH.out
    have Kz6_x : Blk w5 (g5) #[.int .i64 N2, .int .i64 D2] := Kg5H.out
    have Bz6 : Below w.heap.size w w5 := by (repeat' (first | exact Below.refl _ _ | refine bl_out ?_ (by assumption) | exact (Hid.out (by assumption)) | refine bl_alloc ?_ _ | refine bl_drewN ?_ _ | refine bl_drew ?_ | refine bl_set ?_ ?_ _ | omega | (simp; done) | (simp; omega)))
    generalize w5 = z6 at *
    obtain ⟨z6_c0_out, z6_c1_out, z6_c2_out, z6_f0_out, z6_f1_out, z6_f2_out⟩ := blk3 Kz6_out
    have Kz6_outH := Lib.hid Kz6_out
    have z6_l_out := Kz6_out.lt
    obtain ⟨z6_c0_x, z6_c1_x, z6_f0_x, z6_f1_x⟩ := blk2 Kz6_x
    have Kz6_xH := Lib.hid Kz6_x
    have z6_l_x := Kz6_x.lt
    have z6B := Lib.hid Bz6
    clear Bz6
    clear Kz6_out Kz6_x
    go_region_held3 (fun w' => Below z6.heap.size z6 w' ∧ w'.cell? ⟨w2.heap.size, 0, none⟩ = some (.int .i64 S) ∧ w'.cell? ⟨w2.heap.size, 1, none⟩ = some (.int .i64 N) ∧ w'.cell? ⟨w2.heap.size, 2, none⟩ = some (.int .i64 D) ∧ w'.cell? ⟨g5, 0, none⟩ = some (.int .i64 N2) ∧ w'.cell? ⟨g5, 1, none⟩ = some (.int .i64 D2)) ((refine and_keep ?_ (fun hB => ⟨held_cell hB z6_c0_out z6_l_out, held_cell hB z6_c1_out z6_l_out, held_cell hB z6_c2_out z6_l_out, held_cell hB z6_c0_x z6_l_x, held_cell hB z6_c1_x z6_l_x⟩); (repeat' (first | exact (Below.refl _ _).drew | exact Below.refl _ _ | exact And.left (by assumption) | refine bl_alloc ?_ _ | refine bl_drew ?_ | refine bl_set ?_ ?_ _ | refine btr ?_ (by assumption) | omega | (simp; done) | (simp; omega))))) (first | (go_at_call 26; refine (i_RootValid _ _ _ _ (by omega) (by omega) H3.out h4 H5.out).mono ?_; rintro e w' ⟨rfl, hb'⟩) | (go_at_call 25; refine (l_whole _ _).mono ?_; rintro e w' ⟨rfl, hb'⟩) | (go_at_call 27; refine (i_RatLess _ _ _ _ false _ R1.out H2.out HLE.out).mono ?_; rintro e w' ⟨rfl, hb'⟩))
    go_wp2_with fail
    go_ret
    exact ⟨rfl, btr z6B.out (by (repeat' (first | exact (Below.refl _ _).drew | exact Below.refl _ _ | exact And.left (by assumption) | refine bl_alloc ?_ _ | refine bl_drew ?_ | refine bl_set ?_ ?_ _ | refine btr ?_ (by assumption) | omega | (simp; done) | (simp; omega))))⟩

end Go.Proofs.Ytgkkicmkflhbpaa
