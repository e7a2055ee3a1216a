/- The walks of laws on strengths of lines. -/
import Derived.Test.YtneihommpncegaaDl
import Derived.Test.YtneihommpncegaaSt
import Derived.Test.YtneihommpncegaaPst
import Derived.Test.YtneihommpncegaaTk
namespace Go.Proofs.Ytneihommpncegaa
open Go.RowKit
set_option linter.unusedVariables false

theorem g_sLine (s l j s2 l2 j2 N D : Int) (o : Bool) (w : World) (h : Hid (lsI s l j s2 l2 j2 = (N, D, o))) :
    Calls Try.prog 10 #[.agg #[.int .i64 s, .int .i64 l, .int .i64 j], .agg #[.int .i64 s2, .int .i64 l2, .int .i64 j2]] w fun e w' => e = .returned (.tuple #[.agg #[.int .i64 N, .int .i64 D], .bool o]) ∧ Below w.heap.size w w' :=
  (s_LineStrength s l j s2 l2 j2 w).mono fun e w' ⟨he, hb⟩ => ⟨by rw [he, h.out]; rfl, hb⟩
theorem g_iLine (s l j s2 l2 j2 N D : Int) (o : Bool) (w : World) (h : Hid (lsI s l j s2 l2 j2 = (N, D, o))) :
    Calls Try.prog 9 #[.agg #[.int .i64 s, .int .i64 l, .int .i64 j], .agg #[.int .i64 s2, .int .i64 l2, .int .i64 j2]] w fun e w' => e = .returned (.tuple #[.agg #[.int .i64 N, .int .i64 D], .bool o]) ∧ Below w.heap.size w w' :=
  (i_LineStrength s l j s2 l2 j2 w).mono fun e w' ⟨he, hb⟩ => ⟨by rw [he, h.out]; rfl, hb⟩
theorem ratB_small {x : Int} (h : 0 ≤ x ∧ x ≤ 10) : ratB x 1 = true := by
  rcases (by omega : x = 0 ∨ x = 1 ∨ x = 2 ∨ x = 3 ∨ x = 4 ∨ x = 5 ∨ x = 6 ∨ x = 7 ∨ x = 8 ∨ x = 9 ∨ x = 10) with h | h | h | h | h | h | h | h | h | h | h <;> subst h <;> decide
theorem not_less {a b c d : Int} (h : c * b ≤ a * d) : cmpI (a * d) (c * b) < 0 ↔ false = true := by
  unfold cmpI; split <;> (try split) <;> simp <;> omega

set_option maxRecDepth 100000 in
set_option maxHeartbeats 2000000 in
theorem l_FnStrengthRule (s : Option Addr) (len cap : Nat) (w : World) (h : Code w s len cap) (hl : len ≤ 9223372036854775807) (hc : cap ≤ 9223372036854775807) :
    Calls Try.prog 6 #[.slice s len cap] w (RTrueK w) := by
  have H := Lib.hid h
  clear h
  by_cases hbig : 1048576 < len
  · go_enter Try.func6, Try.ntmps6
    go_wp2_with fail
    go_ret
    exact ⟨rfl, Below.refl _ _⟩
  go_enter Try.func6, Try.ntmps6
  go_wp2_with fail
  refine (s_DrawLineStrength s len cap w H.out hl hc).mono ?_
  rintro e w1 ⟨s1, l1, j1, s2, l2, j2, rfl, ⟨⟨s1a, s1b⟩, ⟨l1a, l1b⟩, ⟨j1a, j1b⟩⟩, ⟨⟨s2a, s2b⟩, ⟨l2a, l2b⟩, ⟨j2a, j2b⟩⟩, hb1⟩
  have w1z := hb1.size
  try simp at w1z
  have w1B := Lib.hid hb1
  clear hb1
  obtain ⟨N, D, o, hX⟩ := pair3 (lsI s1 l1 j1 s2 l2 j2)
  have HX := Lib.hid hX
  clear hX
  go_wp2_with fail
  refine (g_iLine _ _ _ _ _ _ _ _ _ _ HX).mono ?_
  rintro e w2 ⟨rfl, hb2⟩
  have Kw2_x : Blk w2 (w1.heap.size) #[.int .i64 s1, .int .i64 l1, .int .i64 j1] := blk_later hb2 (blk_alloc (blk_new (by simp)) (.cells #[.int .i64 s2, .int .i64 l2, .int .i64 j2] 26))
  have Kw2_y : Blk w2 (w1.heap.size + 1) #[.int .i64 s2, .int .i64 l2, .int .i64 j2] := blk_later hb2 (blk_new (by simp))
  obtain ⟨w2_c0_x, w2_c1_x, w2_c2_x, w2_f0_x, w2_f1_x, w2_f2_x⟩ := blk3 Kw2_x
  have Kw2_xH := Lib.hid Kw2_x
  have w2_l_x := Kw2_x.lt
  have w2_m_x : w1.heap.size < w2.heap.size + 1 := by omega
  obtain ⟨w2_c0_y, w2_c1_y, w2_c2_y, w2_f0_y, w2_f1_y, w2_f2_y⟩ := blk3 Kw2_y
  have Kw2_yH := Lib.hid Kw2_y
  have w2_l_y := Kw2_y.lt
  have w2_m_y : w1.heap.size + 1 < w2.heap.size + 1 := by omega
  have w2z := hb2.size
  try simp at w2z
  have w2B := Lib.hid hb2
  clear Kw2_x Kw2_y
  clear hb2
  go_wp2_with fail
  refine (g_sLine _ _ _ _ _ _ _ _ _ _ HX).mono ?_
  rintro e w3 ⟨rfl, hb3⟩
  have Kw3_x : Blk w3 (w1.heap.size) #[.int .i64 s1, .int .i64 l1, .int .i64 j1] := blk_later hb3 (blk_alloc Kw2_xH.out (.cells #[.int .i64 N, .int .i64 D] 30))
  have Kw3_y : Blk w3 (w1.heap.size + 1) #[.int .i64 s2, .int .i64 l2, .int .i64 j2] := blk_later hb3 (blk_alloc Kw2_yH.out (.cells #[.int .i64 N, .int .i64 D] 30))
  have Kw3_out : Blk w3 (w2.heap.size) #[.int .i64 N, .int .i64 D] := blk_later hb3 (blk_new (by simp))
  obtain ⟨w3_c0_x, w3_c1_x, w3_c2_x, w3_f0_x, w3_f1_x, w3_f2_x⟩ := blk3 Kw3_x
  have Kw3_xH := Lib.hid Kw3_x
  have w3_l_x := Kw3_x.lt
  have w3_m_x : w1.heap.size < w3.heap.size + 1 := by omega
  obtain ⟨w3_c0_y, w3_c1_y, w3_c2_y, w3_f0_y, w3_f1_y, w3_f2_y⟩ := blk3 Kw3_y
  have Kw3_yH := Lib.hid Kw3_y
  have w3_l_y := Kw3_y.lt
  have w3_m_y : w1.heap.size + 1 < w3.heap.size + 1 := by omega
  obtain ⟨w3_c0_out, w3_c1_out, w3_f0_out, w3_f1_out⟩ := blk2 Kw3_out
  have Kw3_outH := Lib.hid Kw3_out
  have w3_l_out := Kw3_out.lt
  have w3_m_out : w2.heap.size < w3.heap.size + 1 := by omega
  have w3z := hb3.size
  try simp at w3z
  have w3B := Lib.hid hb3
  clear Kw3_x Kw3_y Kw3_out
  clear hb3
  cases o
  · go_wp2_with fail
    go_ret
    exact ⟨rfl, by (repeat' (first | exact Below.refl _ _ | refine bl_out ?_ (by assumption) | exact (Hid.out (by assumption)) | refine bl_alloc ?_ _ | refine bl_drewN ?_ _ | refine bl_drew ?_ | refine bl_set ?_ ?_ _ | omega | (simp; done) | (simp; omega)))⟩
  obtain ⟨q1, q2, rfl⟩ := lsI_ok HX.out
  have r1 := smlB_iff q1
  have r2 := smlB_iff q2
  clear q1 q2 s1a s1b l1a l1b j1a j1b s2a s2b l2a l2b j2a j2b
  rcases rule_of HX.out with ⟨rfl, rfl⟩ | ⟨h0, ⟨ha, hb⟩, ⟨hc1, hd⟩, he, hf⟩
  · skip
    go_wp2_with fail
    have Kz4_x : Blk (w3.alloc (.cells #[.int .i64 0, .int .i64 1] 30)) (w1.heap.size) #[.int .i64 s1, .int .i64 l1, .int .i64 j1] := (blk_alloc Kw3_xH.out (.cells #[.int .i64 0, .int .i64 1] 30))
    have Kz4_y : Blk (w3.alloc (.cells #[.int .i64 0, .int .i64 1] 30)) (w1.heap.size + 1) #[.int .i64 s1, .int .i64 l2, .int .i64 j2] := (blk_alloc Kw3_yH.out (.cells #[.int .i64 0, .int .i64 1] 30))
    have Kz4_out : Blk (w3.alloc (.cells #[.int .i64 0, .int .i64 1] 30)) (w2.heap.size) #[.int .i64 0, .int .i64 1] := (blk_alloc Kw3_outH.out (.cells #[.int .i64 0, .int .i64 1] 30))
    have Bz4 : Below w.heap.size w (w3.alloc (.cells #[.int .i64 0, .int .i64 1] 30)) := by (repeat' (first | exact Below.refl _ _ | refine bl_out ?_ (by assumption) | exact (Hid.out (by assumption)) | refine bl_alloc ?_ _ | refine bl_drewN ?_ _ | refine bl_drew ?_ | refine bl_set ?_ ?_ _ | omega | (simp; done) | (simp; omega)))
    have Sz4 : (w3.alloc (.cells #[.int .i64 0, .int .i64 1] 30)).heap.size = w3.heap.size + 1 := by simp
    generalize (w3.alloc (.cells #[.int .i64 0, .int .i64 1] 30)) = z4 at *
    have Sz4a := Nat.le_of_eq Sz4
    have Sz4b := Nat.le_of_eq Sz4.symm
    clear Sz4
    obtain ⟨z4_c0_x, z4_c1_x, z4_c2_x, z4_f0_x, z4_f1_x, z4_f2_x⟩ := blk3 Kz4_x
    have Kz4_xH := Lib.hid Kz4_x
    have z4_l_x := Kz4_x.lt
    obtain ⟨z4_c0_y, z4_c1_y, z4_c2_y, z4_f0_y, z4_f1_y, z4_f2_y⟩ := blk3 Kz4_y
    have Kz4_yH := Lib.hid Kz4_y
    have z4_l_y := Kz4_y.lt
    obtain ⟨z4_c0_out, z4_c1_out, z4_f0_out, z4_f1_out⟩ := blk2 Kz4_out
    have Kz4_outH := Lib.hid Kz4_out
    have z4_l_out := Kz4_out.lt
    have z4B := Lib.hid Bz4
    clear Bz4
    clear Kz4_x Kz4_y Kz4_out
    go_region_held3 (fun w' => Below z4.heap.size z4 w' ∧ w'.cell? ⟨w2.heap.size, 0, none⟩ = some (.int .i64 0) ∧ w'.cell? ⟨w2.heap.size, 1, none⟩ = some (.int .i64 1)) ((refine and_keep ?_ (fun hB => ⟨held_cell hB z4_c0_out z4_l_out, held_cell hB z4_c1_out z4_l_out⟩); (repeat' (first | exact (Below.refl _ _).drew | exact Below.refl _ _ | exact And.left (by assumption) | refine bl_alloc ?_ _ | refine bl_drew ?_ | refine bl_set ?_ ?_ _ | refine btr ?_ (by assumption) | omega | (simp; done) | (simp; omega))))) (first | (go_at_call 12; refine (l_whole _ _).mono ?_; rintro e w' ⟨rfl, hb'⟩))
    go_wp2_with fail
    go_ret
    exact ⟨rfl, btr z4B.out (by (repeat' (first | exact (Below.refl _ _).drew | exact Below.refl _ _ | exact And.left (by assumption) | refine bl_alloc ?_ _ | refine bl_drew ?_ | refine bl_set ?_ ?_ _ | refine btr ?_ (by assumption) | omega | (simp; done) | (simp; omega))))⟩
  have h0b : (N == 0) = false := by simp [h0]
  clear h0
  have wr1 : IntKind.i64.wrap (l1 - l2) = l1 - l2 := IntWalk.i64_in _ (by omega)
  have wr2 : IntKind.i64.wrap (j1 - j2) = j1 - j2 := IntWalk.i64_in _ (by omega)
  have wr3 : IntKind.i64.wrap (l1 + l2) = l1 + l2 := IntWalk.i64_in _ (by omega)
  have wr4 : IntKind.i64.wrap (j1 + j2) = j1 + j2 := IntWalk.i64_in _ (by omega)
  go_wp2_with fail
  go_ret
  exact ⟨rfl, by (repeat' (first | exact Below.refl _ _ | refine bl_out ?_ (by assumption) | exact (Hid.out (by assumption)) | refine bl_alloc ?_ _ | refine bl_drewN ?_ _ | refine bl_drew ?_ | refine bl_set ?_ ?_ _ | omega | (simp; done) | (simp; omega)))⟩

set_option maxRecDepth 100000 in
set_option maxHeartbeats 2000000 in
theorem l_FnStrengthSinglet (s : Option Addr) (len cap : Nat) (w : World) (h : Code w s len cap) (hl : len ≤ 9223372036854775807) (hc : cap ≤ 9223372036854775807) :
    Calls Try.prog 7 #[.slice s len cap] w (RTrueK w) := by
  have H := Lib.hid h
  clear h
  by_cases hbig : 1048576 < len
  · go_enter Try.func7, Try.ntmps7
    go_wp2_with fail
    go_ret
    exact ⟨rfl, Below.refl _ _⟩
  go_enter Try.func7, Try.ntmps7
  go_wp2_with fail
  refine (s_DrawLineStrength s len cap w H.out hl hc).mono ?_
  rintro e w1 ⟨s1, l1, j1, s2, l2, j2, rfl, ⟨⟨s1a, s1b⟩, ⟨l1a, l1b⟩, ⟨j1a, j1b⟩⟩, ⟨⟨s2a, s2b⟩, ⟨l2a, l2b⟩, ⟨j2a, j2b⟩⟩, hb1⟩
  have w1z := hb1.size
  try simp at w1z
  have w1B := Lib.hid hb1
  clear hb1
  obtain ⟨N, D, o, hX⟩ := pair3 (lsI s1 l1 j1 s2 l2 j2)
  have HX := Lib.hid hX
  clear hX
  go_wp2_with fail
  refine (g_iLine _ _ _ _ _ _ _ _ _ _ HX).mono ?_
  rintro e w2 ⟨rfl, hb2⟩
  have Kw2_x : Blk w2 (w1.heap.size) #[.int .i64 s1, .int .i64 l1, .int .i64 j1] := blk_later hb2 (blk_alloc (blk_new (by simp)) (.cells #[.int .i64 s2, .int .i64 l2, .int .i64 j2] 26))
  have Kw2_y : Blk w2 (w1.heap.size + 1) #[.int .i64 s2, .int .i64 l2, .int .i64 j2] := blk_later hb2 (blk_new (by simp))
  obtain ⟨w2_c0_x, w2_c1_x, w2_c2_x, w2_f0_x, w2_f1_x, w2_f2_x⟩ := blk3 Kw2_x
  have Kw2_xH := Lib.hid Kw2_x
  have w2_l_x := Kw2_x.lt
  have w2_m_x : w1.heap.size < w2.heap.size + 1 := by omega
  obtain ⟨w2_c0_y, w2_c1_y, w2_c2_y, w2_f0_y, w2_f1_y, w2_f2_y⟩ := blk3 Kw2_y
  have Kw2_yH := Lib.hid Kw2_y
  have w2_l_y := Kw2_y.lt
  have w2_m_y : w1.heap.size + 1 < w2.heap.size + 1 := by omega
  have w2z := hb2.size
  try simp at w2z
  have w2B := Lib.hid hb2
  clear Kw2_x Kw2_y
  clear hb2
  go_wp2_with fail
  refine (g_sLine _ _ _ _ _ _ _ _ _ _ HX).mono ?_
  rintro e w3 ⟨rfl, hb3⟩
  have Kw3_x : Blk w3 (w1.heap.size) #[.int .i64 s1, .int .i64 l1, .int .i64 j1] := blk_later hb3 (blk_alloc Kw2_xH.out (.cells #[.int .i64 N, .int .i64 D] 30))
  have Kw3_y : Blk w3 (w1.heap.size + 1) #[.int .i64 s2, .int .i64 l2, .int .i64 j2] := blk_later hb3 (blk_alloc Kw2_yH.out (.cells #[.int .i64 N, .int .i64 D] 30))
  have Kw3_out : Blk w3 (w2.heap.size) #[.int .i64 N, .int .i64 D] := blk_later hb3 (blk_new (by simp))
  obtain ⟨w3_c0_x, w3_c1_x, w3_c2_x, w3_f0_x, w3_f1_x, w3_f2_x⟩ := blk3 Kw3_x
  have Kw3_xH := Lib.hid Kw3_x
  have w3_l_x := Kw3_x.lt
  have w3_m_x : w1.heap.size < w3.heap.size + 1 := by omega
  obtain ⟨w3_c0_y, w3_c1_y, w3_c2_y, w3_f0_y, w3_f1_y, w3_f2_y⟩ := blk3 Kw3_y
  have Kw3_yH := Lib.hid Kw3_y
  have w3_l_y := Kw3_y.lt
  have w3_m_y : w1.heap.size + 1 < w3.heap.size + 1 := by omega
  obtain ⟨w3_c0_out, w3_c1_out, w3_f0_out, w3_f1_out⟩ := blk2 Kw3_out
  have Kw3_outH := Lib.hid Kw3_out
  have w3_l_out := Kw3_out.lt
  have w3_m_out : w2.heap.size < w3.heap.size + 1 := by omega
  have w3z := hb3.size
  try simp at w3z
  have w3B := Lib.hid hb3
  clear Kw3_x Kw3_y Kw3_out
  clear hb3
  cases o
  · go_wp2_with fail
    go_ret
    exact ⟨rfl, by (repeat' (first | exact Below.refl _ _ | refine bl_out ?_ (by assumption) | exact (Hid.out (by assumption)) | refine bl_alloc ?_ _ | refine bl_drewN ?_ _ | refine bl_drew ?_ | refine bl_set ?_ ?_ _ | omega | (simp; done) | (simp; omega)))⟩
  obtain ⟨q1, q2, rfl⟩ := lsI_ok HX.out
  have r1 := smlB_iff q1
  have r2 := smlB_iff q2
  clear q1 q2 s1a s1b l1a l1b j1a j1b s2a s2b l2a l2b j2a j2b
  obtain ⟨n0, hc1⟩ := sing_of HX.out
  have wr1 : IntKind.i64.wrap (l1 - l2) = l1 - l2 := IntWalk.i64_in _ (by omega)
  have wr3 : IntKind.i64.wrap (l1 + l2) = l1 + l2 := IntWalk.i64_in _ (by omega)
  rcases hc1 with hs | ⟨hc1, rfl, rfl⟩ | ⟨⟨ha, hb, hc1⟩, rfl, rfl⟩
  · go_wp2_with fail
    go_ret
    exact ⟨rfl, by (repeat' (first | exact Below.refl _ _ | refine bl_out ?_ (by assumption) | exact (Hid.out (by assumption)) | refine bl_alloc ?_ _ | refine bl_drewN ?_ _ | refine bl_drew ?_ | refine bl_set ?_ ?_ _ | omega | (simp; done) | (simp; omega)))⟩
  · skip
    by_cases hs : 0 < s1
    · go_wp2_with fail
      go_ret
      exact ⟨rfl, by (repeat' (first | exact Below.refl _ _ | refine bl_out ?_ (by assumption) | exact (Hid.out (by assumption)) | refine bl_alloc ?_ _ | refine bl_drewN ?_ _ | refine bl_drew ?_ | refine bl_set ?_ ?_ _ | omega | (simp; done) | (simp; omega)))⟩
    by_cases h1 : l1 - l2 < -1
    · skip
      go_wp2_with fail
      have Kz4_x : Blk (w3.alloc (.cells #[.int .i64 0, .int .i64 1] 30)) (w1.heap.size) #[.int .i64 s1, .int .i64 l1, .int .i64 j1] := (blk_alloc Kw3_xH.out (.cells #[.int .i64 0, .int .i64 1] 30))
      have Kz4_y : Blk (w3.alloc (.cells #[.int .i64 0, .int .i64 1] 30)) (w1.heap.size + 1) #[.int .i64 s1, .int .i64 l2, .int .i64 j2] := (blk_alloc Kw3_yH.out (.cells #[.int .i64 0, .int .i64 1] 30))
      have Kz4_out : Blk (w3.alloc (.cells #[.int .i64 0, .int .i64 1] 30)) (w2.heap.size) #[.int .i64 0, .int .i64 1] := (blk_alloc Kw3_outH.out (.cells #[.int .i64 0, .int .i64 1] 30))
      have Bz4 : Below w.heap.size w (w3.alloc (.cells #[.int .i64 0, .int .i64 1] 30)) := by (repeat' (first | exact Below.refl _ _ | refine bl_out ?_ (by assumption) | exact (Hid.out (by assumption)) | refine bl_alloc ?_ _ | refine bl_drewN ?_ _ | refine bl_drew ?_ | refine bl_set ?_ ?_ _ | omega | (simp; done) | (simp; omega)))
      have Sz4 : (w3.alloc (.cells #[.int .i64 0, .int .i64 1] 30)).heap.size = w3.heap.size + 1 := by simp
      generalize (w3.alloc (.cells #[.int .i64 0, .int .i64 1] 30)) = z4 at *
      have Sz4a := Nat.le_of_eq Sz4
      have Sz4b := Nat.le_of_eq Sz4.symm
      clear Sz4
      obtain ⟨z4_c0_x, z4_c1_x, z4_c2_x, z4_f0_x, z4_f1_x, z4_f2_x⟩ := blk3 Kz4_x
      have Kz4_xH := Lib.hid Kz4_x
      have z4_l_x := Kz4_x.lt
      obtain ⟨z4_c0_y, z4_c1_y, z4_c2_y, z4_f0_y, z4_f1_y, z4_f2_y⟩ := blk3 Kz4_y
      have Kz4_yH := Lib.hid Kz4_y
      have z4_l_y := Kz4_y.lt
      obtain ⟨z4_c0_out, z4_c1_out, z4_f0_out, z4_f1_out⟩ := blk2 Kz4_out
      have Kz4_outH := Lib.hid Kz4_out
      have z4_l_out := Kz4_out.lt
      have z4B := Lib.hid Bz4
      clear Bz4
      clear Kz4_x Kz4_y Kz4_out
      go_region_held3 (fun w' => Below z4.heap.size z4 w' ∧ w'.cell? ⟨w2.heap.size, 0, none⟩ = some (.int .i64 0) ∧ w'.cell? ⟨w2.heap.size, 1, none⟩ = some (.int .i64 1)) ((refine and_keep ?_ (fun hB => ⟨held_cell hB z4_c0_out z4_l_out, held_cell hB z4_c1_out z4_l_out⟩); (repeat' (first | exact (Below.refl _ _).drew | exact Below.refl _ _ | exact And.left (by assumption) | refine bl_alloc ?_ _ | refine bl_drew ?_ | refine bl_set ?_ ?_ _ | refine btr ?_ (by assumption) | omega | (simp; done) | (simp; omega))))) (first | (go_at_call 12; refine (l_whole _ _).mono ?_; rintro e w' ⟨rfl, hb'⟩))
      go_wp2_with fail
      go_ret
      exact ⟨rfl, btr z4B.out (by (repeat' (first | exact (Below.refl _ _).drew | exact Below.refl _ _ | exact And.left (by assumption) | refine bl_alloc ?_ _ | refine bl_drew ?_ | refine bl_set ?_ ?_ _ | refine btr ?_ (by assumption) | omega | (simp; done) | (simp; omega))))⟩
    by_cases h2 : 1 < l1 - l2
    · skip
      go_wp2_with fail
      have Kz4_x : Blk (w3.alloc (.cells #[.int .i64 0, .int .i64 1] 30)) (w1.heap.size) #[.int .i64 s1, .int .i64 l1, .int .i64 j1] := (blk_alloc Kw3_xH.out (.cells #[.int .i64 0, .int .i64 1] 30))
      have Kz4_y : Blk (w3.alloc (.cells #[.int .i64 0, .int .i64 1] 30)) (w1.heap.size + 1) #[.int .i64 s1, .int .i64 l2, .int .i64 j2] := (blk_alloc Kw3_yH.out (.cells #[.int .i64 0, .int .i64 1] 30))
      have Kz4_out : Blk (w3.alloc (.cells #[.int .i64 0, .int .i64 1] 30)) (w2.heap.size) #[.int .i64 0, .int .i64 1] := (blk_alloc Kw3_outH.out (.cells #[.int .i64 0, .int .i64 1] 30))
      have Bz4 : Below w.heap.size w (w3.alloc (.cells #[.int .i64 0, .int .i64 1] 30)) := by (repeat' (first | exact Below.refl _ _ | refine bl_out ?_ (by assumption) | exact (Hid.out (by assumption)) | refine bl_alloc ?_ _ | refine bl_drewN ?_ _ | refine bl_drew ?_ | refine bl_set ?_ ?_ _ | omega | (simp; done) | (simp; omega)))
      have Sz4 : (w3.alloc (.cells #[.int .i64 0, .int .i64 1] 30)).heap.size = w3.heap.size + 1 := by simp
      generalize (w3.alloc (.cells #[.int .i64 0, .int .i64 1] 30)) = z4 at *
      have Sz4a := Nat.le_of_eq Sz4
      have Sz4b := Nat.le_of_eq Sz4.symm
      clear Sz4
      obtain ⟨z4_c0_x, z4_c1_x, z4_c2_x, z4_f0_x, z4_f1_x, z4_f2_x⟩ := blk3 Kz4_x
      have Kz4_xH := Lib.hid Kz4_x
      have z4_l_x := Kz4_x.lt
      obtain ⟨z4_c0_y, z4_c1_y, z4_c2_y, z4_f0_y, z4_f1_y, z4_f2_y⟩ := blk3 Kz4_y
      have Kz4_yH := Lib.hid Kz4_y
      have z4_l_y := Kz4_y.lt
      obtain ⟨z4_c0_out, z4_c1_out, z4_f0_out, z4_f1_out⟩ := blk2 Kz4_out
      have Kz4_outH := Lib.hid Kz4_out
      have z4_l_out := Kz4_out.lt
      have z4B := Lib.hid Bz4
      clear Bz4
      clear Kz4_x Kz4_y Kz4_out
      go_region_held3 (fun w' => Below z4.heap.size z4 w' ∧ w'.cell? ⟨w2.heap.size, 0, none⟩ = some (.int .i64 0) ∧ w'.cell? ⟨w2.heap.size, 1, none⟩ = some (.int .i64 1)) ((refine and_keep ?_ (fun hB => ⟨held_cell hB z4_c0_out z4_l_out, held_cell hB z4_c1_out z4_l_out⟩); (repeat' (first | exact (Below.refl _ _).drew | exact Below.refl _ _ | exact And.left (by assumption) | refine bl_alloc ?_ _ | refine bl_drew ?_ | refine bl_set ?_ ?_ _ | refine btr ?_ (by assumption) | omega | (simp; done) | (simp; omega))))) (first | (go_at_call 12; refine (l_whole _ _).mono ?_; rintro e w' ⟨rfl, hb'⟩))
      go_wp2_with fail
      go_ret
      exact ⟨rfl, btr z4B.out (by (repeat' (first | exact (Below.refl _ _).drew | exact Below.refl _ _ | exact And.left (by assumption) | refine bl_alloc ?_ _ | refine bl_drew ?_ | refine bl_set ?_ ?_ _ | refine btr ?_ (by assumption) | omega | (simp; done) | (simp; omega))))⟩
    have h3 : l1 + l2 = 0 := by omega
    have h3b : (l1 + l2 == 0) = true := by simp [h3]
    clear hc1 h3
    go_wp2_with fail
    have Kz4_x : Blk (w3.alloc (.cells #[.int .i64 0, .int .i64 1] 30)) (w1.heap.size) #[.int .i64 s1, .int .i64 l1, .int .i64 j1] := (blk_alloc Kw3_xH.out (.cells #[.int .i64 0, .int .i64 1] 30))
    have Kz4_y : Blk (w3.alloc (.cells #[.int .i64 0, .int .i64 1] 30)) (w1.heap.size + 1) #[.int .i64 s1, .int .i64 l2, .int .i64 j2] := (blk_alloc Kw3_yH.out (.cells #[.int .i64 0, .int .i64 1] 30))
    have Kz4_out : Blk (w3.alloc (.cells #[.int .i64 0, .int .i64 1] 30)) (w2.heap.size) #[.int .i64 0, .int .i64 1] := (blk_alloc Kw3_outH.out (.cells #[.int .i64 0, .int .i64 1] 30))
    have Bz4 : Below w.heap.size w (w3.alloc (.cells #[.int .i64 0, .int .i64 1] 30)) := by (repeat' (first | exact Below.refl _ _ | refine bl_out ?_ (by assumption) | exact (Hid.out (by assumption)) | refine bl_alloc ?_ _ | refine bl_drewN ?_ _ | refine bl_drew ?_ | refine bl_set ?_ ?_ _ | omega | (simp; done) | (simp; omega)))
    have Sz4 : (w3.alloc (.cells #[.int .i64 0, .int .i64 1] 30)).heap.size = w3.heap.size + 1 := by simp
    generalize (w3.alloc (.cells #[.int .i64 0, .int .i64 1] 30)) = z4 at *
    have Sz4a := Nat.le_of_eq Sz4
    have Sz4b := Nat.le_of_eq Sz4.symm
    clear Sz4
    obtain ⟨z4_c0_x, z4_c1_x, z4_c2_x, z4_f0_x, z4_f1_x, z4_f2_x⟩ := blk3 Kz4_x
    have Kz4_xH := Lib.hid Kz4_x
    have z4_l_x := Kz4_x.lt
    obtain ⟨z4_c0_y, z4_c1_y, z4_c2_y, z4_f0_y, z4_f1_y, z4_f2_y⟩ := blk3 Kz4_y
    have Kz4_yH := Lib.hid Kz4_y
    have z4_l_y := Kz4_y.lt
    obtain ⟨z4_c0_out, z4_c1_out, z4_f0_out, z4_f1_out⟩ := blk2 Kz4_out
    have Kz4_outH := Lib.hid Kz4_out
    have z4_l_out := Kz4_out.lt
    have z4B := Lib.hid Bz4
    clear Bz4
    clear Kz4_x Kz4_y Kz4_out
    go_region_held3 (fun w' => Below z4.heap.size z4 w' ∧ w'.cell? ⟨w2.heap.size, 0, none⟩ = some (.int .i64 0) ∧ w'.cell? ⟨w2.heap.size, 1, none⟩ = some (.int .i64 1)) ((refine and_keep ?_ (fun hB => ⟨held_cell hB z4_c0_out z4_l_out, held_cell hB z4_c1_out z4_l_out⟩); (repeat' (first | exact (Below.refl _ _).drew | exact Below.refl _ _ | exact And.left (by assumption) | refine bl_alloc ?_ _ | refine bl_drew ?_ | refine bl_set ?_ ?_ _ | refine btr ?_ (by assumption) | omega | (simp; done) | (simp; omega))))) (first | (go_at_call 12; refine (l_whole _ _).mono ?_; rintro e w' ⟨rfl, hb'⟩))
    go_wp2_with fail
    go_ret
    exact ⟨rfl, btr z4B.out (by (repeat' (first | exact (Below.refl _ _).drew | exact Below.refl _ _ | exact And.left (by assumption) | refine bl_alloc ?_ _ | refine bl_drew ?_ | refine bl_set ?_ ?_ _ | refine btr ?_ (by assumption) | omega | (simp; done) | (simp; omega))))⟩
  · skip
    by_cases hs : 0 < s1
    · go_wp2_with fail
      go_ret
      exact ⟨rfl, by (repeat' (first | exact Below.refl _ _ | refine bl_out ?_ (by assumption) | exact (Hid.out (by assumption)) | refine bl_alloc ?_ _ | refine bl_drewN ?_ _ | refine bl_drew ?_ | refine bl_set ?_ ?_ _ | omega | (simp; done) | (simp; omega)))⟩
    have h3b : (l1 + l2 == 0) = false := by simp [hc1]
    clear hc1
    go_wp2_with fail
    have Kz4_x : Blk (w3.alloc (.cells #[.int .i64 1, .int .i64 1] 30)) (w1.heap.size) #[.int .i64 s1, .int .i64 l1, .int .i64 j1] := (blk_alloc Kw3_xH.out (.cells #[.int .i64 1, .int .i64 1] 30))
    have Kz4_y : Blk (w3.alloc (.cells #[.int .i64 1, .int .i64 1] 30)) (w1.heap.size + 1) #[.int .i64 s1, .int .i64 l2, .int .i64 j2] := (blk_alloc Kw3_yH.out (.cells #[.int .i64 1, .int .i64 1] 30))
    have Kz4_out : Blk (w3.alloc (.cells #[.int .i64 1, .int .i64 1] 30)) (w2.heap.size) #[.int .i64 1, .int .i64 1] := (blk_alloc Kw3_outH.out (.cells #[.int .i64 1, .int .i64 1] 30))
    have Bz4 : Below w.heap.size w (w3.alloc (.cells #[.int .i64 1, .int .i64 1] 30)) := by (repeat' (first | exact Below.refl _ _ | refine bl_out ?_ (by assumption) | exact (Hid.out (by assumption)) | refine bl_alloc ?_ _ | refine bl_drewN ?_ _ | refine bl_drew ?_ | refine bl_set ?_ ?_ _ | omega | (simp; done) | (simp; omega)))
    have Sz4 : (w3.alloc (.cells #[.int .i64 1, .int .i64 1] 30)).heap.size = w3.heap.size + 1 := by simp
    generalize (w3.alloc (.cells #[.int .i64 1, .int .i64 1] 30)) = z4 at *
    have Sz4a := Nat.le_of_eq Sz4
    have Sz4b := Nat.le_of_eq Sz4.symm
    clear Sz4
    obtain ⟨z4_c0_x, z4_c1_x, z4_c2_x, z4_f0_x, z4_f1_x, z4_f2_x⟩ := blk3 Kz4_x
    have Kz4_xH := Lib.hid Kz4_x
    have z4_l_x := Kz4_x.lt
    obtain ⟨z4_c0_y, z4_c1_y, z4_c2_y, z4_f0_y, z4_f1_y, z4_f2_y⟩ := blk3 Kz4_y
    have Kz4_yH := Lib.hid Kz4_y
    have z4_l_y := Kz4_y.lt
    obtain ⟨z4_c0_out, z4_c1_out, z4_f0_out, z4_f1_out⟩ := blk2 Kz4_out
    have Kz4_outH := Lib.hid Kz4_out
    have z4_l_out := Kz4_out.lt
    have z4B := Lib.hid Bz4
    clear Bz4
    clear Kz4_x Kz4_y Kz4_out
    go_region_held3 (fun w' => Below z4.heap.size z4 w' ∧ w'.cell? ⟨w2.heap.size, 0, none⟩ = some (.int .i64 1) ∧ w'.cell? ⟨w2.heap.size, 1, none⟩ = some (.int .i64 1)) ((refine and_keep ?_ (fun hB => ⟨held_cell hB z4_c0_out z4_l_out, held_cell hB z4_c1_out z4_l_out⟩); (repeat' (first | exact (Below.refl _ _).drew | exact Below.refl _ _ | exact And.left (by assumption) | refine bl_alloc ?_ _ | refine bl_drew ?_ | refine bl_set ?_ ?_ _ | refine btr ?_ (by assumption) | omega | (simp; done) | (simp; omega))))) (first | (go_at_call 12; refine (l_whole _ _).mono ?_; rintro e w' ⟨rfl, hb'⟩))
    go_wp2_with fail
    go_ret
    exact ⟨rfl, btr z4B.out (by (repeat' (first | exact (Below.refl _ _).drew | exact Below.refl _ _ | exact And.left (by assumption) | refine bl_alloc ?_ _ | refine bl_drew ?_ | refine bl_set ?_ ?_ _ | refine btr ?_ (by assumption) | omega | (simp; done) | (simp; omega))))⟩

set_option maxRecDepth 100000 in
set_option maxHeartbeats 4000000 in
theorem l_FnStrength (s : Option Addr) (len cap : Nat) (w : World) (h : Code w s len cap) (hl : len ≤ 9223372036854775807) (hc : cap ≤ 9223372036854775807) :
    Calls Try.prog 3 #[.slice s len cap] w (RTrueK w) := by
  have H := Lib.hid h
  clear h
  by_cases hbig : 1048576 < len
  · go_enter Try.func3, Try.ntmps3
    go_wp2_with fail
    go_ret
    exact ⟨rfl, Below.refl _ _⟩
  go_enter Try.func3, Try.ntmps3
  go_wp2_with fail
  refine (s_DrawLineStrength s len cap w H.out hl hc).mono ?_
  rintro e w1 ⟨s1, l1, j1, s2, l2, j2, rfl, ⟨⟨s1a, s1b⟩, ⟨l1a, l1b⟩, ⟨j1a, j1b⟩⟩, ⟨⟨s2a, s2b⟩, ⟨l2a, l2b⟩, ⟨j2a, j2b⟩⟩, hb1⟩
  have w1z := hb1.size
  try simp at w1z
  have w1B := Lib.hid hb1
  clear hb1
  obtain ⟨N, D, o, hX⟩ := pair3 (lsI s1 l1 j1 s2 l2 j2)
  have HX := Lib.hid hX
  clear hX
  go_wp2_with fail
  refine (g_iLine _ _ _ _ _ _ _ _ _ _ HX).mono ?_
  rintro e w2 ⟨rfl, hb2⟩
  have Kw2_x : Blk w2 (w1.heap.size) #[.int .i64 s1, .int .i64 l1, .int .i64 j1] := blk_later hb2 (blk_alloc (blk_new (by simp)) (.cells #[.int .i64 s2, .int .i64 l2, .int .i64 j2] 26))
  have Kw2_y : Blk w2 (w1.heap.size + 1) #[.int .i64 s2, .int .i64 l2, .int .i64 j2] := blk_later hb2 (blk_new (by simp))
  obtain ⟨w2_c0_x, w2_c1_x, w2_c2_x, w2_f0_x, w2_f1_x, w2_f2_x⟩ := blk3 Kw2_x
  have Kw2_xH := Lib.hid Kw2_x
  have w2_l_x := Kw2_x.lt
  have w2_m_x : w1.heap.size < w2.heap.size + 1 := by omega
  obtain ⟨w2_c0_y, w2_c1_y, w2_c2_y, w2_f0_y, w2_f1_y, w2_f2_y⟩ := blk3 Kw2_y
  have Kw2_yH := Lib.hid Kw2_y
  have w2_l_y := Kw2_y.lt
  have w2_m_y : w1.heap.size + 1 < w2.heap.size + 1 := by omega
  have w2z := hb2.size
  try simp at w2z
  have w2B := Lib.hid hb2
  clear Kw2_x Kw2_y
  clear hb2
  go_wp2_with fail
  refine (g_sLine _ _ _ _ _ _ _ _ _ _ HX).mono ?_
  rintro e w3 ⟨rfl, hb3⟩
  have Kw3_x : Blk w3 (w1.heap.size) #[.int .i64 s1, .int .i64 l1, .int .i64 j1] := blk_later hb3 (blk_alloc Kw2_xH.out (.cells #[.int .i64 N, .int .i64 D] 30))
  have Kw3_y : Blk w3 (w1.heap.size + 1) #[.int .i64 s2, .int .i64 l2, .int .i64 j2] := blk_later hb3 (blk_alloc Kw2_yH.out (.cells #[.int .i64 N, .int .i64 D] 30))
  have Kw3_out : Blk w3 (w2.heap.size) #[.int .i64 N, .int .i64 D] := blk_later hb3 (blk_new (by simp))
  obtain ⟨w3_c0_x, w3_c1_x, w3_c2_x, w3_f0_x, w3_f1_x, w3_f2_x⟩ := blk3 Kw3_x
  have Kw3_xH := Lib.hid Kw3_x
  have w3_l_x := Kw3_x.lt
  have w3_m_x : w1.heap.size < w3.heap.size + 1 := by omega
  obtain ⟨w3_c0_y, w3_c1_y, w3_c2_y, w3_f0_y, w3_f1_y, w3_f2_y⟩ := blk3 Kw3_y
  have Kw3_yH := Lib.hid Kw3_y
  have w3_l_y := Kw3_y.lt
  have w3_m_y : w1.heap.size + 1 < w3.heap.size + 1 := by omega
  obtain ⟨w3_c0_out, w3_c1_out, w3_f0_out, w3_f1_out⟩ := blk2 Kw3_out
  have Kw3_outH := Lib.hid Kw3_out
  have w3_l_out := Kw3_out.lt
  have w3_m_out : w2.heap.size < w3.heap.size + 1 := by omega
  have w3z := hb3.size
  try simp at w3z
  have w3B := Lib.hid hb3
  clear Kw3_x Kw3_y Kw3_out
  clear hb3
  cases o
  · go_wp2_with fail
    go_ret
    exact ⟨rfl, by (repeat' (first | exact Below.refl _ _ | refine bl_out ?_ (by assumption) | exact (Hid.out (by assumption)) | refine bl_alloc ?_ _ | refine bl_drewN ?_ _ | refine bl_drew ?_ | refine bl_set ?_ ?_ _ | omega | (simp; done) | (simp; omega)))⟩
  obtain ⟨q1, q2, rfl⟩ := lsI_ok HX.out
  have r1 := smlB_iff q1
  have r2 := smlB_iff q2
  clear q1 q2 s1a s1b l1a l1b j1a j1b s2a s2b l2a l2b j2a j2b
  obtain ⟨h1, h2, h3, h4, h5⟩ := str_of HX.out
  have HY := Lib.hid h1
  have H2 := Lib.hid h2
  have R1 := Lib.hid (ratB_small (x := j1 + 1) (by omega))
  have R2 := Lib.hid (ratB_small (x := j2 + 1) (by omega))
  have L1 : Hid (cmpI ((j1 + 1) * D) (N * 1) < 0 ↔ false = true) := Lib.hid (not_less (by omega))
  have L2 : Hid (cmpI ((j2 + 1) * D) (N * 1) < 0 ↔ false = true) := Lib.hid (not_less (by omega))
  have wr1 : IntKind.i64.wrap (j1 + 1) = j1 + 1 := IntWalk.i64_in _ (by omega)
  have wr2 : IntKind.i64.wrap (j2 + 1) = j2 + 1 := IntWalk.i64_in _ (by omega)
  clear h1 h2 h4 h5
  go_wp2_with fail
  refine (g_iLine _ _ _ _ _ _ _ _ _ _ HY).mono ?_
  rintro e w4 ⟨rfl, hb4⟩
  have Kw4_x : Blk w4 (w1.heap.size) #[.int .i64 s1, .int .i64 l1, .int .i64 j1] := blk_later hb4 (blk_alloc Kw3_xH.out (.cells #[.int .i64 N, .int .i64 D] 30))
  have Kw4_y : Blk w4 (w1.heap.size + 1) #[.int .i64 s1, .int .i64 l2, .int .i64 j2] := blk_later hb4 (blk_alloc Kw3_yH.out (.cells #[.int .i64 N, .int .i64 D] 30))
  have Kw4_out : Blk w4 (w2.heap.size) #[.int .i64 N, .int .i64 D] := blk_later hb4 (blk_alloc Kw3_outH.out (.cells #[.int .i64 N, .int .i64 D] 30))
  obtain ⟨w4_c0_x, w4_c1_x, w4_c2_x, w4_f0_x, w4_f1_x, w4_f2_x⟩ := blk3 Kw4_x
  have Kw4_xH := Lib.hid Kw4_x
  have w4_l_x := Kw4_x.lt
  have w4_m_x : w1.heap.size < w4.heap.size + 1 := by omega
  obtain ⟨w4_c0_y, w4_c1_y, w4_c2_y, w4_f0_y, w4_f1_y, w4_f2_y⟩ := blk3 Kw4_y
  have Kw4_yH := Lib.hid Kw4_y
  have w4_l_y := Kw4_y.lt
  have w4_m_y : w1.heap.size + 1 < w4.heap.size + 1 := by omega
  obtain ⟨w4_c0_out, w4_c1_out, w4_f0_out, w4_f1_out⟩ := blk2 Kw4_out
  have Kw4_outH := Lib.hid Kw4_out
  have w4_l_out := Kw4_out.lt
  have w4_m_out : w2.heap.size < w4.heap.size + 1 := by omega
  have w4z := hb4.size
  try simp at w4z
  have w4B := Lib.hid hb4
  clear Kw4_x Kw4_y Kw4_out
  clear hb4
  go_wp2_with fail
  have Kz5_x : Blk (w4.alloc (.cells #[.int .i64 N, .int .i64 D] 30)) (w1.heap.size) #[.int .i64 s1, .int .i64 l1, .int .i64 j1] := (blk_alloc Kw4_xH.out (.cells #[.int .i64 N, .int .i64 D] 30))
  have Kz5_y : Blk (w4.alloc (.cells #[.int .i64 N, .int .i64 D] 30)) (w1.heap.size + 1) #[.int .i64 s1, .int .i64 l2, .int .i64 j2] := (blk_alloc Kw4_yH.out (.cells #[.int .i64 N, .int .i64 D] 30))
  have Kz5_out : Blk (w4.alloc (.cells #[.int .i64 N, .int .i64 D] 30)) (w2.heap.size) #[.int .i64 N, .int .i64 D] := (blk_alloc Kw4_outH.out (.cells #[.int .i64 N, .int .i64 D] 30))
  have Kz5_z : Blk (w4.alloc (.cells #[.int .i64 N, .int .i64 D] 30)) (w4.heap.size) #[.int .i64 N, .int .i64 D] := (blk_new (by simp))
  have Bz5 : Below w.heap.size w (w4.alloc (.cells #[.int .i64 N, .int .i64 D] 30)) := by (repeat' (first | exact Below.refl _ _ | refine bl_out ?_ (by assumption) | exact (Hid.out (by assumption)) | refine bl_alloc ?_ _ | refine bl_drewN ?_ _ | refine bl_drew ?_ | refine bl_set ?_ ?_ _ | omega | (simp; done) | (simp; omega)))
  have Sz5 : (w4.alloc (.cells #[.int .i64 N, .int .i64 D] 30)).heap.size = w4.heap.size + 1 := by simp
  generalize (w4.alloc (.cells #[.int .i64 N, .int .i64 D] 30)) = z5 at *
  have Sz5a := Nat.le_of_eq Sz5
  have Sz5b := Nat.le_of_eq Sz5.symm
  clear Sz5
  obtain ⟨z5_c0_x, z5_c1_x, z5_c2_x, z5_f0_x, z5_f1_x, z5_f2_x⟩ := blk3 Kz5_x
  have Kz5_xH := Lib.hid Kz5_x
  have z5_l_x := Kz5_x.lt
  obtain ⟨z5_c0_y, z5_c1_y, z5_c2_y, z5_f0_y, z5_f1_y, z5_f2_y⟩ := blk3 Kz5_y
  have Kz5_yH := Lib.hid Kz5_y
  have z5_l_y := Kz5_y.lt
  obtain ⟨z5_c0_out, z5_c1_out, z5_f0_out, z5_f1_out⟩ := blk2 Kz5_out
  have Kz5_outH := Lib.hid Kz5_out
  have z5_l_out := Kz5_out.lt
  obtain ⟨z5_c0_z, z5_c1_z, z5_f0_z, z5_f1_z⟩ := blk2 Kz5_z
  have Kz5_zH := Lib.hid Kz5_z
  have z5_l_z := Kz5_z.lt
  have z5B := Lib.hid Bz5
  clear Bz5
  clear Kz5_x Kz5_y Kz5_out Kz5_z
  refine wp_region_held_drew (S := (fun w' => Below z5.heap.size z5 w' ∧ w'.cell? ⟨w1.heap.size, 0, none⟩ = some (.int .i64 s1) ∧ w'.cell? ⟨w1.heap.size, 1, none⟩ = some (.int .i64 l1) ∧ w'.cell? ⟨w1.heap.size, 2, none⟩ = some (.int .i64 j1) ∧ w'.cell? ⟨w1.heap.size + 1, 0, none⟩ = some (.int .i64 s1) ∧ w'.cell? ⟨w1.heap.size + 1, 1, none⟩ = some (.int .i64 l2) ∧ w'.cell? ⟨w1.heap.size + 1, 2, none⟩ = some (.int .i64 j2) ∧ w'.cell? ⟨w2.heap.size, 0, none⟩ = some (.int .i64 N) ∧ w'.cell? ⟨w2.heap.size, 1, none⟩ = some (.int .i64 D) ∧ w'.cell? ⟨w4.heap.size, 0, none⟩ = some (.int .i64 N) ∧ w'.cell? ⟨w4.heap.size, 1, none⟩ = some (.int .i64 D))) (by kernel_rfl) ?_ (fun hHeld => ?_)
  · (try dsimp only)
    (refine and_keep ?_ (fun hB => ⟨held_cell hB z5_c0_x z5_l_x, held_cell hB z5_c1_x z5_l_x, held_cell hB z5_c2_x z5_l_x, held_cell hB z5_c0_y z5_l_y, held_cell hB z5_c1_y z5_l_y, held_cell hB z5_c2_y z5_l_y, held_cell hB z5_c0_out z5_l_out, held_cell hB z5_c1_out z5_l_out, held_cell hB z5_c0_z z5_l_z, held_cell hB z5_c1_z z5_l_z⟩); (repeat' (first | with_reducible exact Below.refl _ _ | with_reducible refine bl_alloc ?_ _ | with_reducible refine bl_set ?_ ?_ _ | exact (Below.refl _ _).drew | with_reducible refine bl_drew ?_ | with_reducible refine btr ?_ hbD | with_reducible refine btr ?_ hbC | with_reducible refine btr ?_ hbB | with_reducible refine btr ?_ hbA | omega | (simp; done) | (simp; omega))))
  refine take_yes (i := 0) (v := ?vt1_1) (d := some 57) rfl rfl (by kernel_rfl) (by kernel_rfl) (by kernel_rfl) (fun _ _ _ h => h) (by rfl) ?yt1_1 (by assumption) ?rt1_1
  case yt1_1 =>
    intro w hSw
    (try dsimp only at hSw)
    go_simp
    try with_reducible rfl
  (try simp only [Act.put, List.setIfInBounds_toArray, List.set_cons_zero, List.set_cons_succ])
  refine take_yes (i := 1) (v := ?vt1_2) (d := some 58) rfl rfl (by kernel_rfl) (by kernel_rfl) (by kernel_rfl) (fun _ _ _ h => h) (by rfl) ?yt1_2 (by assumption) ?rt1_2
  case yt1_2 =>
    intro w hSw
    (try dsimp only at hSw)
    go_simp
    try with_reducible rfl
  (try simp only [Act.put, List.setIfInBounds_toArray, List.set_cons_zero, List.set_cons_succ])
  refine take_yes (i := 2) (v := ?vt1_3) (d := some 59) rfl rfl (by kernel_rfl) (by kernel_rfl) (by kernel_rfl) (fun _ _ _ h => h) (by rfl) ?yt1_3 (by assumption) ?rt1_3
  case yt1_3 =>
    intro w hSw
    (try dsimp only at hSw)
    go_simp
    try with_reducible rfl
  (try simp only [Act.put, List.setIfInBounds_toArray, List.set_cons_zero, List.set_cons_succ])
  refine take_yes (i := 3) (v := ?vt1_4) (d := some 60) rfl rfl (by kernel_rfl) (by kernel_rfl) (by kernel_rfl) (fun _ _ _ h => h) (by rfl) ?yt1_4 (by assumption) ?rt1_4
  case yt1_4 =>
    intro w hSw
    (try dsimp only at hSw)
    go_simp
    try with_reducible rfl
  (try simp only [Act.put, List.setIfInBounds_toArray, List.set_cons_zero, List.set_cons_succ])
  refine take_yes (i := 4) (v := ?vt1_5) (d := some 61) rfl rfl (by kernel_rfl) (by kernel_rfl) (by kernel_rfl) (fun _ _ _ h => h) (by rfl) ?yt1_5 (by assumption) ?rt1_5
  case yt1_5 =>
    intro w hSw
    (try dsimp only at hSw)
    go_simp
    try with_reducible rfl
  (try simp only [Act.put, List.setIfInBounds_toArray, List.set_cons_zero, List.set_cons_succ])
  refine take_yes (i := 5) (v := ?vt1_6) (d := some 62) rfl rfl (by kernel_rfl) (by kernel_rfl) (by kernel_rfl) (fun _ _ _ h => h) (by rfl) ?yt1_6 (by assumption) ?rt1_6
  case yt1_6 =>
    intro w hSw
    (try dsimp only at hSw)
    go_simp
    try with_reducible rfl
  (try simp only [Act.put, List.setIfInBounds_toArray, List.set_cons_zero, List.set_cons_succ])
  refine take_yes (i := 6) (v := ?vt1_7) (d := some 63) rfl rfl (by kernel_rfl) (by kernel_rfl) (by kernel_rfl) (fun _ _ _ h => h) (by rfl) ?yt1_7 (by assumption) ?rt1_7
  case yt1_7 =>
    intro w hSw
    (try dsimp only at hSw)
    go_simp
    try with_reducible rfl
  (try simp only [Act.put, List.setIfInBounds_toArray, List.set_cons_zero, List.set_cons_succ])
  refine take_yes (i := 7) (v := ?vt1_8) (d := some 64) rfl rfl (by kernel_rfl) (by kernel_rfl) (by kernel_rfl) (fun _ _ _ h => h) (by rfl) ?yt1_8 (by assumption) ?rt1_8
  case yt1_8 =>
    intro w hSw
    (try dsimp only at hSw)
    go_simp
    try with_reducible rfl
  (try simp only [Act.put, List.setIfInBounds_toArray, List.set_cons_zero, List.set_cons_succ])
  refine take_yes (i := 8) (v := ?vt1_9) (d := some 65) rfl rfl (by kernel_rfl) (by kernel_rfl) (by kernel_rfl) (fun _ _ _ h => h) (by rfl) ?yt1_9 (by assumption) ?rt1_9
  case yt1_9 =>
    intro w hSw
    (try dsimp only at hSw)
    go_simp
    try with_reducible rfl
  (try simp only [Act.put, List.setIfInBounds_toArray, List.set_cons_zero, List.set_cons_succ])
  refine take_yes (i := 9) (v := ?vt1_10) (d := some 66) rfl rfl (by kernel_rfl) (by kernel_rfl) (by kernel_rfl) (fun _ _ _ h => h) (by rfl) ?yt1_10 (by assumption) ?rt1_10
  case yt1_10 =>
    intro w hSw
    (try dsimp only at hSw)
    go_simp
    try with_reducible rfl
  (try simp only [Act.put, List.setIfInBounds_toArray, List.set_cons_zero, List.set_cons_succ])
  refine take_yes (i := 10) (v := ?vt1_11) (d := some 67) rfl rfl (by kernel_rfl) (by kernel_rfl) (by kernel_rfl) (fun _ _ _ h => h) (by rfl) ?yt1_11 (by assumption) ?rt1_11
  case yt1_11 =>
    intro w hSw
    (try dsimp only at hSw)
    go_simp
    try with_reducible rfl
  (try simp only [Act.put, List.setIfInBounds_toArray, List.set_cons_zero, List.set_cons_succ])
  refine take_yes (i := 11) (v := ?vt1_12) (d := some 68) rfl rfl (by kernel_rfl) (by kernel_rfl) (by kernel_rfl) (fun _ _ _ h => h) (by rfl) ?yt1_12 (by assumption) ?rt1_12
  case yt1_12 =>
    intro w hSw
    (try dsimp only at hSw)
    go_simp
    try with_reducible rfl
  (try simp only [Act.put, List.setIfInBounds_toArray, List.set_cons_zero, List.set_cons_succ])
  refine take_yes (i := 12) (v := ?vt1_13) (d := some 69) rfl rfl (by kernel_rfl) (by kernel_rfl) (by kernel_rfl) (fun _ _ _ h => h) (by rfl) ?yt1_13 (by assumption) ?rt1_13
  case yt1_13 =>
    intro w hSw
    (try dsimp only at hSw)
    go_simp
    try with_reducible rfl
  (try simp only [Act.put, List.setIfInBounds_toArray, List.set_cons_zero, List.set_cons_succ])
  refine take_yes (i := 13) (v := ?vt1_14) (d := some 70) rfl rfl (by kernel_rfl) (by kernel_rfl) (by kernel_rfl) (fun _ _ _ h => h) (by rfl) ?yt1_14 (by assumption) ?rt1_14
  case yt1_14 =>
    intro w hSw
    (try dsimp only at hSw)
    go_simp
    try with_reducible rfl
  (try simp only [Act.put, List.setIfInBounds_toArray, List.set_cons_zero, List.set_cons_succ])
  refine take_yes (i := 14) (v := ?vt1_15) (d := some 71) rfl rfl (by kernel_rfl) (by kernel_rfl) (by kernel_rfl) (fun _ _ _ h => h) (by rfl) ?yt1_15 (by assumption) ?rt1_15
  case yt1_15 =>
    intro w hSw
    (try dsimp only at hSw)
    go_simp
    try with_reducible rfl
  (try simp only [Act.put, List.setIfInBounds_toArray, List.set_cons_zero, List.set_cons_succ])
  refine take_yes (i := 16) (v := ?vt1_16) (d := some 73) rfl rfl (by kernel_rfl) (by kernel_rfl) (by kernel_rfl) (fun _ _ _ h => h) (by rfl) ?yt1_16 (by assumption) ?rt1_16
  case yt1_16 =>
    intro w hSw
    (try dsimp only at hSw)
    go_simp
    try with_reducible rfl
  (try simp only [Act.put, List.setIfInBounds_toArray, List.set_cons_zero, List.set_cons_succ])
  refine wpAnyH_ready (rs := [15]) (by kernel_rfl) (by simp) ?_
  refine AllReadyH.cons (o := _) rfl (fun K hK => ?_) AllReadyH.nil
  go_simp
  refine (l_whole _ _).mono ?_
  rintro e wt1_17 ⟨rfl, hbA⟩
  (try go_wp2_with fail)
  refine hK.out _ _ ?_ (fun hHeld => ?_)
  · (try dsimp only)
    (refine and_keep ?_ (fun hB => ⟨held_cell hB z5_c0_x z5_l_x, held_cell hB z5_c1_x z5_l_x, held_cell hB z5_c2_x z5_l_x, held_cell hB z5_c0_y z5_l_y, held_cell hB z5_c1_y z5_l_y, held_cell hB z5_c2_y z5_l_y, held_cell hB z5_c0_out z5_l_out, held_cell hB z5_c1_out z5_l_out, held_cell hB z5_c0_z z5_l_z, held_cell hB z5_c1_z z5_l_z⟩); (repeat' (first | with_reducible exact Below.refl _ _ | with_reducible refine bl_alloc ?_ _ | with_reducible refine bl_set ?_ ?_ _ | exact (Below.refl _ _).drew | with_reducible refine bl_drew ?_ | with_reducible refine btr ?_ hbD | with_reducible refine btr ?_ hbC | with_reducible refine btr ?_ hbB | with_reducible refine btr ?_ hbA | omega | (simp; done) | (simp; omega))))
  clear hK K
  (try simp only [Act.put, List.setIfInBounds_toArray, List.set_cons_zero, List.set_cons_succ])
  refine wpAnyH_ready (rs := [17]) (by kernel_rfl) (by simp) ?_
  refine AllReadyH.cons (o := _) rfl (fun K hK => ?_) AllReadyH.nil
  go_simp
  refine (i_RatLess _ _ _ _ false _ R1.out H2.out L1.out).mono ?_
  rintro e wt1_18 ⟨rfl, hbB⟩
  (try go_wp2_with fail)
  refine hK.out _ _ ?_ (fun hHeld => ?_)
  · (try dsimp only)
    (refine and_keep ?_ (fun hB => ⟨held_cell hB z5_c0_x z5_l_x, held_cell hB z5_c1_x z5_l_x, held_cell hB z5_c2_x z5_l_x, held_cell hB z5_c0_y z5_l_y, held_cell hB z5_c1_y z5_l_y, held_cell hB z5_c2_y z5_l_y, held_cell hB z5_c0_out z5_l_out, held_cell hB z5_c1_out z5_l_out, held_cell hB z5_c0_z z5_l_z, held_cell hB z5_c1_z z5_l_z⟩); (repeat' (first | with_reducible exact Below.refl _ _ | with_reducible refine bl_alloc ?_ _ | with_reducible refine bl_set ?_ ?_ _ | exact (Below.refl _ _).drew | with_reducible refine bl_drew ?_ | with_reducible refine btr ?_ hbD | with_reducible refine btr ?_ hbC | with_reducible refine btr ?_ hbB | with_reducible refine btr ?_ hbA | omega | (simp; done) | (simp; omega))))
  clear hK K
  (try simp only [Act.put, List.setIfInBounds_toArray, List.set_cons_zero, List.set_cons_succ])
  refine take_yes (i := 18) (v := ?vt1_19) (d := some 75) rfl rfl (by kernel_rfl) (by kernel_rfl) (by kernel_rfl) (fun _ _ _ h => h) (by rfl) ?yt1_19 (by assumption) ?rt1_19
  case yt1_19 =>
    intro w hSw
    (try dsimp only at hSw)
    go_simp
    try with_reducible rfl
  (try simp only [Act.put, List.setIfInBounds_toArray, List.set_cons_zero, List.set_cons_succ])
  refine take_yes (i := 19) (v := ?vt1_20) (d := some 76) rfl rfl (by kernel_rfl) (by kernel_rfl) (by kernel_rfl) (fun _ _ _ h => h) (by rfl) ?yt1_20 (by assumption) ?rt1_20
  case yt1_20 =>
    intro w hSw
    (try dsimp only at hSw)
    go_simp
    try with_reducible rfl
  (try simp only [Act.put, List.setIfInBounds_toArray, List.set_cons_zero, List.set_cons_succ])
  refine take_yes (i := 20) (v := ?vt1_21) (d := some 77) rfl rfl (by kernel_rfl) (by kernel_rfl) (by kernel_rfl) (fun _ _ _ h => h) (by rfl) ?yt1_21 (by assumption) ?rt1_21
  case yt1_21 =>
    intro w hSw
    (try dsimp only at hSw)
    go_simp
    try with_reducible rfl
  (try simp only [Act.put, List.setIfInBounds_toArray, List.set_cons_zero, List.set_cons_succ])
  refine take_yes (i := 21) (v := ?vt1_22) (d := some 78) rfl rfl (by kernel_rfl) (by kernel_rfl) (by kernel_rfl) (fun _ _ _ h => h) (by rfl) ?yt1_22 (by assumption) ?rt1_22
  case yt1_22 =>
    intro w hSw
    (try dsimp only at hSw)
    go_simp
    try with_reducible rfl
  (try simp only [Act.put, List.setIfInBounds_toArray, List.set_cons_zero, List.set_cons_succ])
  refine take_yes (i := 22) (v := ?vt1_23) (d := some 79) rfl rfl (by kernel_rfl) (by kernel_rfl) (by kernel_rfl) (fun _ _ _ h => h) (by rfl) ?yt1_23 (by assumption) ?rt1_23
  case yt1_23 =>
    intro w hSw
    (try dsimp only at hSw)
    go_simp
    try with_reducible rfl
  (try simp only [Act.put, List.setIfInBounds_toArray, List.set_cons_zero, List.set_cons_succ])
  refine take_yes (i := 23) (v := ?vt1_24) (d := some 80) rfl rfl (by kernel_rfl) (by kernel_rfl) (by kernel_rfl) (fun _ _ _ h => h) (by rfl) ?yt1_24 (by assumption) ?rt1_24
  case yt1_24 =>
    intro w hSw
    (try dsimp only at hSw)
    go_simp
    try with_reducible rfl
  (try simp only [Act.put, List.setIfInBounds_toArray, List.set_cons_zero, List.set_cons_succ])
  refine take_yes (i := 25) (v := ?vt1_25) (d := some 82) rfl rfl (by kernel_rfl) (by kernel_rfl) (by kernel_rfl) (fun _ _ _ h => h) (by rfl) ?yt1_25 (by assumption) ?rt1_25
  case yt1_25 =>
    intro w hSw
    (try dsimp only at hSw)
    go_simp
    try with_reducible rfl
  (try simp only [Act.put, List.setIfInBounds_toArray, List.set_cons_zero, List.set_cons_succ])
  refine wpAnyH_ready (rs := [24]) (by kernel_rfl) (by simp) ?_
  refine AllReadyH.cons (o := _) rfl (fun K hK => ?_) AllReadyH.nil
  go_simp
  refine (l_whole _ _).mono ?_
  rintro e wt1_26 ⟨rfl, hbC⟩
  (try go_wp2_with fail)
  refine hK.out _ _ ?_ (fun hHeld => ?_)
  · (try dsimp only)
    (refine and_keep ?_ (fun hB => ⟨held_cell hB z5_c0_x z5_l_x, held_cell hB z5_c1_x z5_l_x, held_cell hB z5_c2_x z5_l_x, held_cell hB z5_c0_y z5_l_y, held_cell hB z5_c1_y z5_l_y, held_cell hB z5_c2_y z5_l_y, held_cell hB z5_c0_out z5_l_out, held_cell hB z5_c1_out z5_l_out, held_cell hB z5_c0_z z5_l_z, held_cell hB z5_c1_z z5_l_z⟩); (repeat' (first | with_reducible exact Below.refl _ _ | with_reducible refine bl_alloc ?_ _ | with_reducible refine bl_set ?_ ?_ _ | exact (Below.refl _ _).drew | with_reducible refine bl_drew ?_ | with_reducible refine btr ?_ hbD | with_reducible refine btr ?_ hbC | with_reducible refine btr ?_ hbB | with_reducible refine btr ?_ hbA | omega | (simp; done) | (simp; omega))))
  clear hK K
  (try simp only [Act.put, List.setIfInBounds_toArray, List.set_cons_zero, List.set_cons_succ])
  refine wpAnyH_ready (rs := [26]) (by kernel_rfl) (by simp) ?_
  refine AllReadyH.cons (o := _) rfl (fun K hK => ?_) AllReadyH.nil
  go_simp
  refine (i_RatLess _ _ _ _ false _ R2.out H2.out L2.out).mono ?_
  rintro e wt1_27 ⟨rfl, hbD⟩
  (try go_wp2_with fail)
  refine hK.out _ _ ?_ (fun hHeld => ?_)
  · (try dsimp only)
    (refine and_keep ?_ (fun hB => ⟨held_cell hB z5_c0_x z5_l_x, held_cell hB z5_c1_x z5_l_x, held_cell hB z5_c2_x z5_l_x, held_cell hB z5_c0_y z5_l_y, held_cell hB z5_c1_y z5_l_y, held_cell hB z5_c2_y z5_l_y, held_cell hB z5_c0_out z5_l_out, held_cell hB z5_c1_out z5_l_out, held_cell hB z5_c0_z z5_l_z, held_cell hB z5_c1_z z5_l_z⟩); (repeat' (first | with_reducible exact Below.refl _ _ | with_reducible refine bl_alloc ?_ _ | with_reducible refine bl_set ?_ ?_ _ | exact (Below.refl _ _).drew | with_reducible refine bl_drew ?_ | with_reducible refine btr ?_ hbD | with_reducible refine btr ?_ hbC | with_reducible refine btr ?_ hbB | with_reducible refine btr ?_ hbA | omega | (simp; done) | (simp; omega))))
  clear hK K
  (try simp only [Act.put, List.setIfInBounds_toArray, List.set_cons_zero, List.set_cons_succ])
  refine take_yes (i := 27) (v := ?vt1_28) (d := some 84) rfl rfl (by kernel_rfl) (by kernel_rfl) (by kernel_rfl) (fun _ _ _ h => h) (by rfl) ?yt1_28 (by assumption) ?rt1_28
  case yt1_28 =>
    intro w hSw
    (try dsimp only at hSw)
    go_simp
    try with_reducible rfl
  (try simp only [Act.put, List.setIfInBounds_toArray, List.set_cons_zero, List.set_cons_succ])
  refine take_yes (i := 28) (v := ?vt1_29) (d := some 85) rfl rfl (by kernel_rfl) (by kernel_rfl) (by kernel_rfl) (fun _ _ _ h => h) (by rfl) ?yt1_29 (by assumption) ?rt1_29
  case yt1_29 =>
    intro w hSw
    (try dsimp only at hSw)
    go_simp
    try with_reducible rfl
  (try simp only [Act.put, List.setIfInBounds_toArray, List.set_cons_zero, List.set_cons_succ])
  refine take_yes (i := 29) (v := ?vt1_30) (d := some 2) rfl rfl (by kernel_rfl) (by kernel_rfl) (by kernel_rfl) (fun _ _ _ h => h) (by rfl) ?yt1_30 (by assumption) ?rt1_30
  case yt1_30 =>
    intro w hSw
    (try dsimp only at hSw)
    go_simp
    try with_reducible rfl
  (try simp only [Act.put, List.setIfInBounds_toArray, List.set_cons_zero, List.set_cons_succ])
  refine wpAnyH_done (by kernel_rfl) ?_ _
  go_wp2_with fail
  go_ret
  exact ⟨rfl, btr z5B.out (by (repeat' (first | with_reducible exact Below.refl _ _ | with_reducible refine bl_alloc ?_ _ | with_reducible refine bl_set ?_ ?_ _ | exact (Below.refl _ _).drew | with_reducible refine bl_drew ?_ | with_reducible refine btr ?_ hbD | with_reducible refine btr ?_ hbC | with_reducible refine btr ?_ hbB | with_reducible refine btr ?_ hbA | omega | (simp; done) | (simp; omega))))⟩

end Go.Proofs.Ytneihommpncegaa
