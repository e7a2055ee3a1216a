/- The walk of FnHundTermSum. -/
import Derived.Test.YtpdhbilghmejiaaDoorPho
import Derived.Test.YtpdhbilghmejiaaDoorZ
import Derived.Test.YtpdhbilghmejiaaDoorHk
import Derived.Deep.RegionHeld3
namespace Go.Proofs.YtpdhbilghmejiaaDoor
open Go.RowKit
set_option linter.unusedVariables false

theorem Tab.drew {w : World} (h : Tab w) : Tab w.drew := h
theorem retT (b : Bool) (h : b = true) : Ending.returned (.bool b) = .returned (.bool true) := by rw [h]

set_option maxRecDepth 100000 in
set_option maxHeartbeats 2000000 in
theorem l_FnHundTermSum (a : Option Addr) (len cap : Nat) (w : World) (h : Code w a len cap) (hl : len ≤ 9223372036854775807) (hc : cap ≤ 9223372036854775807) (ht : Tab w) :
    Calls Tryd.prog 3 #[.slice a len cap] w (RTrueU w) := by
  have H := Lib.hid h
  have HT := Lib.hid ht
  clear h ht
  by_cases hbig : 1048576 < len
  · go_enter Tryd.func3, Tryd.ntmps3
    go_wp2_with fail
    go_ret
    exact ⟨rfl, Below.refl _ _⟩
  go_enter Tryd.func3, Tryd.ntmps3
  go_wp2_with fail
  refine (s_DrawHundTerm a len cap w H.out hl hc).mono ?_
  rintro e w1 ⟨l, n, rfl, hl1, hn1, hb1⟩
  have w1z := hb1.size
  try simp at w1z
  have w1B := Lib.hid hb1
  clear hb1
  obtain ⟨S, L, o, hX⟩ := pair3u (hundR l n)
  have HX := Lib.hid hX
  clear hX
  go_wp2_with fail
  refine (i_HundTerm _ _ _ _ _ _ HX).mono ?_
  rintro e w2 ⟨rfl, hb2⟩
  have w2z := hb2.size
  try simp at w2z
  have w2B := Lib.hid hb2
  clear hb2
  go_wp2_with fail
  refine (s_HundTerm _ _ _ _ _ _ HX).mono ?_
  rintro e w3 ⟨rfl, hb3⟩
  have Kw3_out : Blk w3 (w2.heap.size) #[.int .i64 S, .int .i64 L] := blk_later hb3 (blk_new (by simp))
  obtain ⟨w3_c0_out, w3_c1_out, w3_f0_out, w3_f1_out⟩ := blk2 Kw3_out
  have Kw3_outH := Lib.hid Kw3_out
  have w3_l_out := Kw3_out.lt
  have w3_m_out : w2.heap.size < w3.heap.size + 1 := by omega
  have w3z := hb3.size
  try simp at w3z
  have w3B := Lib.hid hb3
  clear Kw3_out
  clear hb3
  cases o
  · go_wp2_with fail
    go_ret
    exact ⟨rfl, by (repeat' (first | exact Below.refl _ _ | refine bl_out ?_ (by assumption) | exact (Hid.out (by assumption)) | refine bl_alloc ?_ _ | refine bl_drewN ?_ _ | refine bl_drew ?_ | refine bl_set ?_ ?_ _ | omega | (simp; done) | (simp; omega)))⟩
  have he : elecB l n = true := by
    cases he : elecB l n
    · have := (hundR_no he HX.out).2.2
      cases this
    · rfl
  obtain ⟨e1, e2⟩ := sum_ok he
  obtain ⟨s1, s2, _⟩ := hundR_yes he HX.out
  rw [← s1, ← s2] at e1
  rw [← s2] at e2
  obtain ⟨⟨q1, q2⟩, q3, q4⟩ := elecB_iff.1 he
  have bd := hundS_bd l q1 q2 n.toNat
  rw [← s2] at bd
  have b3 : -40 ≤ L := by omega
  have b4 : L ≤ 40 := by omega
  clear bd s1 s2
  have CO := Lib.hid (fun (w0 : World) (h0 : Tab w0) => i_MicroOrbit l n S w0 he h0)
  generalize orbR l n S = R at *
  have E1 := Lib.hid e1
  have E2 := Lib.hid e2
  have Kz : Blk (w3.alloc (.cells #[.int .i64 S, .int .i64 L] 26)) (w2.heap.size) #[.int .i64 S, .int .i64 L] := blk_alloc Kw3_outH.out _
  have Bz : Below w.heap.size w (w3.alloc (.cells #[.int .i64 S, .int .i64 L] 26)) := by (repeat' (first | exact Below.refl _ _ | refine bl_out ?_ (by assumption) | exact (Hid.out (by assumption)) | refine bl_alloc ?_ _ | refine bl_drewN ?_ _ | refine bl_drew ?_ | refine bl_set ?_ ?_ _ | omega | (simp; done) | (simp; omega)))
  by_cases hn : 2 * l + 1 < n
  · have hf : hlf l n = n - 2 * l - 1 := by unfold hlf; rw [if_pos hn]
    rw [hf] at E2
    have g1 : 0 ≤ n - 2 * l - 1 := by omega
    have g2 : n - 2 * l - 1 ≤ 5 := by omega
    clear e2 hf
    subst e1
    have x1 : (n - 2 * l - 1) * (2 * l + 1 - (n - 2 * l - 1)) = 2 * R := E2.out.symm
    go_wp2_with fail
    generalize n - 2 * l - 1 = h at *
    generalize w3.alloc (.cells #[.int .i64 S, .int .i64 R] 26) = z at *
    have TZ := Lib.hid (HT.out.below Bz)
    have HBz := Lib.hid Bz
    obtain ⟨c0, c1, _, _⟩ := blk2 Kz
    have lz := Kz.lt
    clear Kz Bz w3_c0_out w3_c1_out w3_f0_out w3_f1_out
    go_region_held3 (fun w' => Below z.heap.size z w' ∧ w'.cell? ⟨w2.heap.size, 0, none⟩ = some (.int .i64 S) ∧ w'.cell? ⟨w2.heap.size, 1, none⟩ = some (.int .i64 R)) ((refine and_keep ?_ (fun hB => ⟨held_cell hB c0 lz, held_cell hB c1 lz⟩); (repeat' (first | exact (Below.refl _ _).drew | exact Below.refl _ _ | exact And.left (by assumption) | refine bl_alloc ?_ _ | refine bl_drew ?_ | refine bl_set ?_ ?_ _ | refine btr ?_ (by assumption) | omega | (simp; done) | (simp; omega))))) (first | (go_at_call 8; refine (CO.out _ (by first | exact TZ.out | exact TZ.out.below (And.left (by assumption)))).mono ?_; rintro e w' ⟨rfl, hb'⟩))
    have wr : (IntKind.i64.wrap (2 * R) == IntKind.i64.wrap (h * IntKind.i64.wrap (IntKind.i64.wrap (IntKind.i64.wrap (2 * l) + 1) - h))) = true := by
      rw [show IntKind.i64.wrap (2 * l) = 2 * l from IntWalk.i64_in _ (by omega), show IntKind.i64.wrap (2 * l + 1) = 2 * l + 1 from IntWalk.i64_in _ (by omega), show IntKind.i64.wrap (2 * l + 1 - h) = 2 * l + 1 - h from IntWalk.i64_in _ (by omega), x1]
      exact beq_self_eq_true _
    rw [wr]
    go_wp2_with fail
    go_ret
    exact ⟨rfl, btr HBz.out (And.left (by assumption))⟩
  · have hf : hlf l n = n := by unfold hlf; rw [if_neg hn]
    rw [hf] at E2
    clear e2 hf
    subst e1
    have x1 : n * (2 * l + 1 - n) = 2 * R := E2.out.symm
    go_wp2_with fail
    generalize w3.alloc (.cells #[.int .i64 S, .int .i64 R] 26) = z at *
    have TZ := Lib.hid (HT.out.below Bz)
    have HBz := Lib.hid Bz
    obtain ⟨c0, c1, _, _⟩ := blk2 Kz
    have lz := Kz.lt
    clear Kz Bz w3_c0_out w3_c1_out w3_f0_out w3_f1_out
    go_region_held3 (fun w' => Below z.heap.size z w' ∧ w'.cell? ⟨w2.heap.size, 0, none⟩ = some (.int .i64 S) ∧ w'.cell? ⟨w2.heap.size, 1, none⟩ = some (.int .i64 R)) ((refine and_keep ?_ (fun hB => ⟨held_cell hB c0 lz, held_cell hB c1 lz⟩); (repeat' (first | exact (Below.refl _ _).drew | exact Below.refl _ _ | exact And.left (by assumption) | refine bl_alloc ?_ _ | refine bl_drew ?_ | refine bl_set ?_ ?_ _ | refine btr ?_ (by assumption) | omega | (simp; done) | (simp; omega))))) (first | (go_at_call 8; refine (CO.out _ (by first | exact TZ.out | exact TZ.out.below (And.left (by assumption)))).mono ?_; rintro e w' ⟨rfl, hb'⟩))
    have wr : (IntKind.i64.wrap (2 * R) == IntKind.i64.wrap (n * IntKind.i64.wrap (IntKind.i64.wrap (IntKind.i64.wrap (2 * l) + 1) - n))) = true := by
      rw [show IntKind.i64.wrap (2 * l) = 2 * l from IntWalk.i64_in _ (by omega), show IntKind.i64.wrap (2 * l + 1) = 2 * l + 1 from IntWalk.i64_in _ (by omega), show IntKind.i64.wrap (2 * l + 1 - n) = 2 * l + 1 - n from IntWalk.i64_in _ (by omega), x1]
      exact beq_self_eq_true _
    rw [wr]
    go_wp2_with fail
    go_ret
    exact ⟨rfl, btr HBz.out (And.left (by assumption))⟩

end Go.Proofs.YtpdhbilghmejiaaDoor
