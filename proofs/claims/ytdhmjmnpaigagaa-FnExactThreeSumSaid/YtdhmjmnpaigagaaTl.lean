/- The walks of the laws on ThreeSum. -/
import Derived.Test.YtdhmjmnpaigagaaTq
import Derived.Test.YtdhmjmnpaigagaaDr
import Derived.Test.YtdhmjmnpaigagaaLu
import Derived.BigQuiet
namespace Go.Proofs.Ytdhmjmnpaigagaa
open Go.RowKit
set_option linter.unusedVariables false

theorem thsV_two (a b c : Int) : thsV a b c = (1, 1, true) ∨ thsV a b c = (0, 0, false) := by
  unfold thsV; split
  · exact .inl rfl
  · exact .inr rfl
theorem m_sTS (a b c N D : Int) (o : Bool) (w : World) (h : Hid (thsV a b c = (N, D, o))) :
    Calls Try.prog 5 #[.int .i64 a, .int .i64 b, .int .i64 c] w fun e w' => e = .returned (.tuple #[.agg #[.int .i64 N, .int .i64 D], .bool o]) ∧ Below w.heap.size w w' :=
  (s_ThreeSum a b c w).mono fun e w' ⟨he, hb⟩ => ⟨by rw [he, h.out]; rfl, hb⟩
theorem m_iTS (a b c N D : Int) (o : Bool) (w : World) (h : Hid (thsV a b c = (N, D, o))) :
    Calls Try.prog 6 #[.int .i64 a, .int .i64 b, .int .i64 c] w fun e w' => e = .returned (.tuple #[.agg #[.int .i64 N, .int .i64 D], .bool o]) ∧ Below w.heap.size w w' :=
  (i_ThreeSum a b c w).mono fun e w' ⟨he, hb⟩ => ⟨by rw [he, h.out]; rfl, hb⟩

set_option maxRecDepth 100000 in
set_option maxHeartbeats 1000000 in
theorem l_FnExactThreeSum (a b c : Int) (w : World) (_ : I64 a) (_ : I64 b) (_ : I64 c) :
    Calls Try.prog 3 #[.int .i64 a, .int .i64 b, .int .i64 c] w (RTrueK w) := by
  obtain ⟨N, D, o, hx⟩ := pair3 (thsV a b c)
  have HX := Lib.hid hx
  clear hx
  go_enter Try.func3, Try.ntmps3
  go_wp2_with fail
  refine (m_sTS _ _ _ _ _ _ _ HX).mono ?_
  rintro e w1 ⟨rfl, hb1⟩
  have w1z := hb1.size
  try simp at w1z
  have w1B := Lib.hid hb1
  clear hb1
  go_wp2_with fail
  refine (m_iTS _ _ _ _ _ _ _ HX).mono ?_
  rintro e w2 ⟨rfl, hb2⟩
  have Kw2_x : Blk w2 (w1.heap.size) #[.int .i64 N, .int .i64 D] := blk_later hb2 (blk_new (by simp))
  obtain ⟨w2_c0_x, w2_c1_x, w2_f0_x, w2_f1_x⟩ := blk2 Kw2_x
  have Kw2_xH := Lib.hid Kw2_x
  have w2_l_x := Kw2_x.lt
  have w2_m_x : w1.heap.size < w2.heap.size + 1 := by omega
  have w2z := hb2.size
  try simp at w2z
  have w2B := Lib.hid hb2
  clear Kw2_x
  clear hb2
  go_wp2_with fail
  refine (l_eqRat _ _ _).mono ?_
  rintro e w3 ⟨rfl, hb3⟩
  have Kw3_x : Blk w3 (w1.heap.size) #[.int .i64 N, .int .i64 D] := blk_later hb3 (blk_alloc Kw2_xH.out (.cells #[.int .i64 N, .int .i64 D] 23))
  have Kw3_y : Blk w3 (w2.heap.size) #[.int .i64 N, .int .i64 D] := blk_later hb3 (blk_new (by simp))
  obtain ⟨w3_c0_x, w3_c1_x, w3_f0_x, w3_f1_x⟩ := blk2 Kw3_x
  have Kw3_xH := Lib.hid Kw3_x
  have w3_l_x := Kw3_x.lt
  have w3_m_x : w1.heap.size < w3.heap.size + 1 := by omega
  obtain ⟨w3_c0_y, w3_c1_y, w3_f0_y, w3_f1_y⟩ := blk2 Kw3_y
  have Kw3_yH := Lib.hid Kw3_y
  have w3_l_y := Kw3_y.lt
  have w3_m_y : w2.heap.size < w3.heap.size + 1 := by omega
  have w3z := hb3.size
  try simp at w3z
  have w3B := Lib.hid hb3
  clear Kw3_x Kw3_y
  clear hb3
  cases o
  all_goals
    go_wp2_with fail
    go_ret
    exact ⟨rfl, by (repeat' (first | exact Below.refl _ _ | refine bl_out ?_ (by assumption) | exact (Hid.out (by assumption)) | refine bl_alloc ?_ _ | refine bl_drewN ?_ _ | refine bl_drew ?_ | refine bl_set ?_ ?_ _ | omega | (simp; done) | (simp; omega)))⟩

set_option maxRecDepth 100000 in
set_option maxHeartbeats 1000000 in
theorem l_FnThreeSum (s : Option Addr) (len cap : Nat) (w : World) (h : Code w s len cap) (hl : len ≤ 9223372036854775807) (hc : cap ≤ 9223372036854775807) :
    Calls Try.prog 4 #[.slice s len cap] w (RTrueK w) := by
  have H := Lib.hid h
  clear h
  by_cases hbig : 1048576 < len
  · go_enter Try.func4, Try.ntmps4
    go_wp2_with fail
    go_ret
    exact ⟨rfl, Below.refl _ _⟩
  go_enter Try.func4, Try.ntmps4
  go_wp2_with fail
  refine (s_DrawThreeSum s len cap w H.out hl hc).mono ?_
  rintro e w1 ⟨a, b, c, rfl, ⟨a0, a1⟩, ⟨b0, b1⟩, ⟨c0, c1⟩, hb1⟩
  have w1z := hb1.size
  try simp at w1z
  have w1B := Lib.hid hb1
  clear hb1
  rcases thsV_two a b c with HX | HX
  · replace HX := Lib.hid HX
    go_wp2_with fail
    refine (m_iTS _ _ _ _ _ _ _ HX).mono ?_
    rintro e w2 ⟨rfl, hb2⟩
    have w2z := hb2.size
    try simp at w2z
    have w2B := Lib.hid hb2
    clear hb2
    go_wp2_with fail
    refine (m_sTS _ _ _ _ _ _ _ HX).mono ?_
    rintro e w3 ⟨rfl, hb3⟩
    have Kw3_out : Blk w3 (w2.heap.size) #[.int .i64 1, .int .i64 1] := blk_later hb3 (blk_new (by simp))
    obtain ⟨w3_c0_out, w3_c1_out, w3_f0_out, w3_f1_out⟩ := blk2 Kw3_out
    have Kw3_outH := Lib.hid Kw3_out
    have w3_l_out := Kw3_out.lt
    have w3_m_out : w2.heap.size < w3.heap.size + 1 := by omega
    have w3z := hb3.size
    try simp at w3z
    have w3B := Lib.hid hb3
    clear Kw3_out
    clear hb3
    go_wp2_with fail
    have Kz4_out : Blk (w3.alloc (.cells #[.int .i64 1, .int .i64 1] 23)) (w2.heap.size) #[.int .i64 1, .int .i64 1] := (blk_alloc Kw3_outH.out (.cells #[.int .i64 1, .int .i64 1] 23))
    have Kz4_want : Blk (w3.alloc (.cells #[.int .i64 1, .int .i64 1] 23)) (w3.heap.size) #[.int .i64 1, .int .i64 1] := (blk_new (by simp))
    have Bz4 : Below w.heap.size w (w3.alloc (.cells #[.int .i64 1, .int .i64 1] 23)) := by (repeat' (first | exact Below.refl _ _ | refine bl_out ?_ (by assumption) | exact (Hid.out (by assumption)) | refine bl_alloc ?_ _ | refine bl_drewN ?_ _ | refine bl_drew ?_ | refine bl_set ?_ ?_ _ | omega | (simp; done) | (simp; omega)))
    have Sz4 : (w3.alloc (.cells #[.int .i64 1, .int .i64 1] 23)).heap.size = w3.heap.size + 1 := by simp
    generalize (w3.alloc (.cells #[.int .i64 1, .int .i64 1] 23)) = z4 at *
    have Sz4a := Nat.le_of_eq Sz4
    have Sz4b := Nat.le_of_eq Sz4.symm
    clear Sz4
    obtain ⟨z4_c0_out, z4_c1_out, z4_f0_out, z4_f1_out⟩ := blk2 Kz4_out
    have Kz4_outH := Lib.hid Kz4_out
    have z4_l_out := Kz4_out.lt
    obtain ⟨z4_c0_want, z4_c1_want, z4_f0_want, z4_f1_want⟩ := blk2 Kz4_want
    have Kz4_wantH := Lib.hid Kz4_want
    have z4_l_want := Kz4_want.lt
    have z4B := Lib.hid Bz4
    clear Bz4
    clear Kz4_out Kz4_want
    go_region_held3 (fun w' => Below z4.heap.size z4 w' ∧ w'.cell? ⟨w2.heap.size, 0, none⟩ = some (.int .i64 1) ∧ w'.cell? ⟨w2.heap.size, 1, none⟩ = some (.int .i64 1)) ((refine and_keep ?_ (fun hB => ⟨held_cell hB z4_c0_out z4_l_out, held_cell hB z4_c1_out z4_l_out⟩); (repeat' (first | exact (Below.refl _ _).drew | exact Below.refl _ _ | exact And.left (by assumption) | refine bl_alloc ?_ _ | refine bl_drew ?_ | refine bl_set ?_ ?_ _ | refine btr ?_ (by assumption) | omega | (simp; done) | (simp; omega))))) (first | (go_at_call 9; refine (l_whole _ _).mono ?_; rintro e w' ⟨rfl, hb'⟩))
    go_wp2_with fail
    go_ret
    exact ⟨rfl, btr z4B.out (by (repeat' (first | exact (Below.refl _ _).drew | exact Below.refl _ _ | exact And.left (by assumption) | refine bl_alloc ?_ _ | refine bl_drew ?_ | refine bl_set ?_ ?_ _ | refine btr ?_ (by assumption) | omega | (simp; done) | (simp; omega))))⟩
  · replace HX := Lib.hid HX
    go_wp2_with fail
    refine (m_iTS _ _ _ _ _ _ _ HX).mono ?_
    rintro e w2 ⟨rfl, hb2⟩
    have w2z := hb2.size
    try simp at w2z
    have w2B := Lib.hid hb2
    clear hb2
    go_wp2_with fail
    refine (m_sTS _ _ _ _ _ _ _ HX).mono ?_
    rintro e w3 ⟨rfl, hb3⟩
    have Kw3_out : Blk w3 (w2.heap.size) #[.int .i64 0, .int .i64 0] := blk_later hb3 (blk_new (by simp))
    obtain ⟨w3_c0_out, w3_c1_out, w3_f0_out, w3_f1_out⟩ := blk2 Kw3_out
    have Kw3_outH := Lib.hid Kw3_out
    have w3_l_out := Kw3_out.lt
    have w3_m_out : w2.heap.size < w3.heap.size + 1 := by omega
    have w3z := hb3.size
    try simp at w3z
    have w3B := Lib.hid hb3
    clear Kw3_out
    clear hb3
    go_wp2_with fail
    go_ret
    exact ⟨rfl, by (repeat' (first | exact Below.refl _ _ | refine bl_out ?_ (by assumption) | exact (Hid.out (by assumption)) | refine bl_alloc ?_ _ | refine bl_drewN ?_ _ | refine bl_drew ?_ | refine bl_set ?_ ?_ _ | omega | (simp; done) | (simp; omega)))⟩

end Go.Proofs.Ytdhmjmnpaigagaa
