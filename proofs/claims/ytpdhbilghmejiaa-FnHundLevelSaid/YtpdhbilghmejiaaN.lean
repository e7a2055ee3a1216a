/- LevelShift, and the walks of the laws on Hund's level. -/
import Derived.Test.YtpdhbilghmejiaaM
import Derived.Test.YtpdhbilghmejiaaZ
import Derived.Deep.RegionHeld3
namespace Go.Proofs.Ytpdhbilghmejiaa
open Go.RowKit
set_option linter.unusedVariables false

theorem blk_store2 {w : World} {g : Nat} {x y a b : Value} (h : Blk w g #[x, y]) : Blk ((w.setCell ⟨g, 0, none⟩ a).setCell ⟨g, 1, none⟩ b) g #[a, b] := blk_set (blk_set h 0 a) 1 b
theorem blk_store3 {w : World} {g : Nat} {x y z a b c : Value} (h : Blk w g #[x, y, z]) : Blk (((w.setCell ⟨g, 0, none⟩ a).setCell ⟨g, 1, none⟩ b).setCell ⟨g, 2, none⟩ c) g #[a, b, c] := blk_set (blk_set (blk_set h 0 a) 1 b) 2 c
/-- What a statement 'y, ok := f(..)' leaves, in whatever order. -/
def CutBlk (z : World) (cs : Array Value) (o : Bool) (p q : Value) (wx : World) : Prop := ∃ g : Nat, p = .pointer (some ⟨g, 0, none⟩) ∧ q = .bool o ∧ z.heap.size ≤ g ∧ Blk wx g cs ∧ Below z.heap.size z wx
theorem and_keep {A B : Prop} (a : A) (f : A → B) : A ∧ B := ⟨a, f a⟩
theorem held_cell {z w' : World} (hB : Below z.heap.size z w') {g i : Nat} {v : Value} (hz : z.cell? ⟨g, i, none⟩ = some v) (hl : g < z.heap.size) : w'.cell? ⟨g, i, none⟩ = some v := by
  rw [hB.cell (p := ⟨g, i, none⟩) hl]; exact hz

def sqU (j : Int) : Int := j * (j + 2)
theorem sqU_bd {j : Int} (h0 : 0 ≤ j) (h1 : j ≤ 24) : 0 ≤ sqU j ∧ sqU j ≤ 624 := by
  unfold sqU
  exact ⟨Int.mul_nonneg h0 (by omega), Int.le_trans (Int.mul_le_mul h1 (show j + 2 ≤ 26 by omega) (by omega) (by omega)) (by omega)⟩
theorem sqU_mono {a b : Int} (h0 : 0 ≤ a) (h : a ≤ b) : sqU a ≤ sqU b := by
  unfold sqU
  exact Int.mul_le_mul h (by omega) (by omega) (by omega)
/-- What LevelShift returns for a valid level. -/
def shU (S L J : Int) : Int := sqU J - sqU (2 * L) - sqU S

theorem lvB_iff {S L J : Int} : lvB S L J = true ↔ ((0 ≤ S ∧ S ≤ 8) ∧ 0 ≤ L ∧ L ≤ 8) ∧ (0 ≤ J ∧ J ≤ 24) ∧ (2 * L + S + J) % 2 = 0 ∧ 2 * L ≤ S + J ∧ S ≤ 2 * L + J ∧ J ≤ 2 * L + S := by
  unfold lvB triB
  simp [tmB, inB]
  omega

theorem hlv_valid {l n S L J : Int} (h : hlvR l n = (S, L, J, true)) : lvB S L J = true ∧ elecB l n = true := by
  cases he : elecB l n
  · have := (hlvR_no he h).2.2.2.1
    cases this
  · obtain ⟨_, hJ, _, ht⟩ := hlvR_yes he h
    have := tmB_iff.1 ht
    refine ⟨lvB_iff.2 ?_, rfl⟩
    rw [hJ]
    unfold absI
    split <;> (try split) <;> omega

theorem pair4u {A B C D : Type} (x : A × B × C × D) : ∃ a b c d, x = (a, b, c, d) := ⟨x.1, x.2.1, x.2.2.1, x.2.2.2, rfl⟩

set_option maxRecDepth 100000 in
set_option maxHeartbeats 1000000 in
theorem i_square (S L J j : Int) (w : World) (h0 : 0 ≤ j) (h1 : j ≤ 24) :
    Calls Try.prog 39 #[.agg #[.int .i64 S, .int .i64 L, .int .i64 J], .int .i64 j] w fun e w' => e = .returned (.int .i64 (sqU j)) ∧ Below w.heap.size w w' := by
  have hb := sqU_bd h0 h1
  unfold sqU at hb
  go_enter Try.func39, Try.ntmps39
  go_wp2_with fail
  go_ret
  exact ⟨rfl, by (repeat' (first | exact Below.refl _ _ | refine bl_out ?_ (by assumption) | exact (Hid.out (by assumption)) | refine bl_alloc ?_ _ | refine bl_drewN ?_ _ | refine bl_drew ?_ | refine bl_set ?_ ?_ _ | omega | (simp; done) | (simp; omega)))⟩

set_option maxRecDepth 100000 in
set_option maxHeartbeats 2000000 in
theorem i_LevelShift (S L J : Int) (w : World) (hv : lvB S L J = true) :
    Calls Try.prog 22 #[.agg #[.int .i64 S, .int .i64 L, .int .i64 J]] w fun e w' => e = .returned (.int .i64 (shU S L J)) ∧ Below w.heap.size w w' := by
  have hb := lvB_iff.1 hv
  have b1 := sqU_bd (j := J) (by omega) (by omega)
  have b2 := sqU_bd (j := 2 * L) (by omega) (by omega)
  have b3 := sqU_bd (j := S) (by omega) (by omega)
  go_enter Try.func22, Try.ntmps22
  go_wp2_with fail
  refine (i_LevelValid _ _ _ _).mono ?_
  rintro e w1 ⟨rfl, hb1⟩
  have Kw1_x : Blk w1 (w.heap.size) #[.int .i64 S, .int .i64 L, .int .i64 J] := blk_later hb1 (blk_new (by simp))
  obtain ⟨w1_c0_x, w1_c1_x, w1_c2_x, w1_f0_x, w1_f1_x, w1_f2_x⟩ := blk3 Kw1_x
  have Kw1_xH := Lib.hid Kw1_x
  have w1_l_x := Kw1_x.lt
  have w1_m_x : w.heap.size < w1.heap.size + 1 := by omega
  have w1z := hb1.size
  try simp at w1z
  have w1B := Lib.hid hb1
  clear Kw1_x
  clear hb1
  rw [hv]
  go_wp2_with fail
  have y1 : IntKind.i64.wrap (2 * L) = 2 * L := IntWalk.i64_in _ (by omega)
  have y2 : IntKind.i64.wrap (sqU J - sqU (2 * L)) = sqU J - sqU (2 * L) := IntWalk.i64_in _ (by omega)
  have y3 : IntKind.i64.wrap (sqU J - sqU (2 * L) - sqU S) = sqU J - sqU (2 * L) - sqU S := IntWalk.i64_in _ (by omega)
  have Kz2_x : Blk (w1.alloc (.cells #[.int .i64 S, .int .i64 L, .int .i64 J] 63)) (w.heap.size) #[.int .i64 S, .int .i64 L, .int .i64 J] := (blk_alloc Kw1_xH.out (.cells #[.int .i64 S, .int .i64 L, .int .i64 J] 63))
  have Kz2_l : Blk (w1.alloc (.cells #[.int .i64 S, .int .i64 L, .int .i64 J] 63)) (w1.heap.size) #[.int .i64 S, .int .i64 L, .int .i64 J] := (blk_new (by simp))
  have Bz2 : Below w.heap.size w (w1.alloc (.cells #[.int .i64 S, .int .i64 L, .int .i64 J] 63)) := by (repeat' (first | exact Below.refl _ _ | refine bl_out ?_ (by assumption) | exact (Hid.out (by assumption)) | refine bl_alloc ?_ _ | refine bl_drewN ?_ _ | refine bl_drew ?_ | refine bl_set ?_ ?_ _ | omega | (simp; done) | (simp; omega)))
  have Sz2 : (w1.alloc (.cells #[.int .i64 S, .int .i64 L, .int .i64 J] 63)).heap.size = w1.heap.size + 1 := by simp
  generalize (w1.alloc (.cells #[.int .i64 S, .int .i64 L, .int .i64 J] 63)) = z2 at *
  have Sz2a := Nat.le_of_eq Sz2
  have Sz2b := Nat.le_of_eq Sz2.symm
  clear Sz2
  obtain ⟨z2_c0_x, z2_c1_x, z2_c2_x, z2_f0_x, z2_f1_x, z2_f2_x⟩ := blk3 Kz2_x
  have Kz2_xH := Lib.hid Kz2_x
  have z2_l_x := Kz2_x.lt
  obtain ⟨z2_c0_l, z2_c1_l, z2_c2_l, z2_f0_l, z2_f1_l, z2_f2_l⟩ := blk3 Kz2_l
  have Kz2_lH := Lib.hid Kz2_l
  have z2_l_l := Kz2_l.lt
  have z2B := Lib.hid Bz2
  clear Bz2
  clear Kz2_x Kz2_l
  go_region_held3 (fun w' => Below z2.heap.size z2 w' ∧ w'.cell? ⟨w1.heap.size, 0, none⟩ = some (.int .i64 S) ∧ w'.cell? ⟨w1.heap.size, 1, none⟩ = some (.int .i64 L) ∧ w'.cell? ⟨w1.heap.size, 2, none⟩ = some (.int .i64 J)) ((refine and_keep ?_ (fun hB => ⟨held_cell hB z2_c0_l z2_l_l, held_cell hB z2_c1_l z2_l_l, held_cell hB z2_c2_l z2_l_l⟩); (repeat' (first | exact (Below.refl _ _).drew | exact Below.refl _ _ | exact And.left (by assumption) | refine bl_alloc ?_ _ | refine bl_drew ?_ | refine bl_set ?_ ?_ _ | refine btr ?_ (by assumption) | omega | (simp; done) | (simp; omega))))) (first | (go_at_call 39; refine (i_square _ _ _ _ _ (by omega) (by omega)).mono ?_; rintro e w' ⟨rfl, hb'⟩))
  go_wp2_with fail
  go_ret
  exact ⟨rfl, btr z2B.out (by (repeat' (first | exact (Below.refl _ _).drew | exact Below.refl _ _ | exact And.left (by assumption) | refine bl_alloc ?_ _ | refine bl_drew ?_ | refine bl_set ?_ ?_ _ | refine btr ?_ (by assumption) | omega | (simp; done) | (simp; omega))))⟩

set_option maxRecDepth 100000 in
set_option maxHeartbeats 1000000 in
theorem l_eqLevel (S L J : Int) (w : World) :
    Calls Try.prog 18 #[.agg #[.int .i64 S, .int .i64 L, .int .i64 J], .agg #[.int .i64 S, .int .i64 L, .int .i64 J]] w (RTrueU w) := by
  go_enter Try.func18, Try.ntmps18
  go_wp2_with fail
  refine (l_eqTerm _ _ _).mono ?_
  rintro e w1 ⟨rfl, hb1⟩
  have Kw1_x : Blk w1 (w.heap.size) #[.int .i64 S, .int .i64 L, .int .i64 J] := blk_later hb1 (blk_alloc (blk_new (by simp)) (.cells #[.int .i64 S, .int .i64 L, .int .i64 J] 33))
  have Kw1_y : Blk w1 (w.heap.size + 1) #[.int .i64 S, .int .i64 L, .int .i64 J] := blk_later hb1 (blk_new (by simp))
  obtain ⟨w1_c0_x, w1_c1_x, w1_c2_x, w1_f0_x, w1_f1_x, w1_f2_x⟩ := blk3 Kw1_x
  have Kw1_xH := Lib.hid Kw1_x
  have w1_l_x := Kw1_x.lt
  have w1_m_x : w.heap.size < w1.heap.size + 1 := by omega
  obtain ⟨w1_c0_y, w1_c1_y, w1_c2_y, w1_f0_y, w1_f1_y, w1_f2_y⟩ := blk3 Kw1_y
  have Kw1_yH := Lib.hid Kw1_y
  have w1_l_y := Kw1_y.lt
  have w1_m_y : w.heap.size + 1 < w1.heap.size + 1 := by omega
  have w1z := hb1.size
  try simp at w1z
  have w1B := Lib.hid hb1
  clear Kw1_x Kw1_y
  clear hb1
  go_wp2_with fail
  go_ret
  exact ⟨rfl, by (repeat' (first | exact Below.refl _ _ | refine bl_out ?_ (by assumption) | exact (Hid.out (by assumption)) | refine bl_alloc ?_ _ | refine bl_drewN ?_ _ | refine bl_drew ?_ | refine bl_set ?_ ?_ _ | omega | (simp; done) | (simp; omega)))⟩

set_option maxRecDepth 100000 in
set_option maxHeartbeats 1000000 in
theorem l_FnExactHundLevel (l n : Int) (w : World) (_ : I64 l) (_ : I64 n) :
    Calls Try.prog 5 #[.int .i64 l, .int .i64 n] w (RTrueU w) := by
  obtain ⟨S, L, J, o, hX⟩ := pair4u (hlvR l n)
  have HX := Lib.hid hX
  clear hX
  go_enter Try.func5, Try.ntmps5
  go_wp2_with fail
  refine (s_HundLevel _ _ _ _ _ _ _ HX).mono ?_
  rintro e w1 ⟨rfl, hb1⟩
  have w1z := hb1.size
  try simp at w1z
  have w1B := Lib.hid hb1
  clear hb1
  go_wp2_with fail
  refine (i_HundLevel _ _ _ _ _ _ _ HX).mono ?_
  rintro e w2 ⟨rfl, hb2⟩
  have Kw2_w0 : Blk w2 (w1.heap.size) #[.int .i64 S, .int .i64 L, .int .i64 J] := blk_later hb2 (blk_new (by simp))
  obtain ⟨w2_c0_w0, w2_c1_w0, w2_c2_w0, w2_f0_w0, w2_f1_w0, w2_f2_w0⟩ := blk3 Kw2_w0
  have Kw2_w0H := Lib.hid Kw2_w0
  have w2_l_w0 := Kw2_w0.lt
  have w2_m_w0 : w1.heap.size < w2.heap.size + 1 := by omega
  have w2z := hb2.size
  try simp at w2z
  have w2B := Lib.hid hb2
  clear Kw2_w0
  clear hb2
  go_wp2_with fail
  refine (l_eqLevel _ _ _ _).mono ?_
  rintro e w3 ⟨rfl, hb3⟩
  have Kw3_w0 : Blk w3 (w1.heap.size) #[.int .i64 S, .int .i64 L, .int .i64 J] := blk_later hb3 (blk_alloc Kw2_w0H.out (.cells #[.int .i64 S, .int .i64 L, .int .i64 J] 33))
  have Kw3_g0 : Blk w3 (w2.heap.size) #[.int .i64 S, .int .i64 L, .int .i64 J] := blk_later hb3 (blk_new (by simp))
  obtain ⟨w3_c0_w0, w3_c1_w0, w3_c2_w0, w3_f0_w0, w3_f1_w0, w3_f2_w0⟩ := blk3 Kw3_w0
  have Kw3_w0H := Lib.hid Kw3_w0
  have w3_l_w0 := Kw3_w0.lt
  have w3_m_w0 : w1.heap.size < w3.heap.size + 1 := by omega
  obtain ⟨w3_c0_g0, w3_c1_g0, w3_c2_g0, w3_f0_g0, w3_f1_g0, w3_f2_g0⟩ := blk3 Kw3_g0
  have Kw3_g0H := Lib.hid Kw3_g0
  have w3_l_g0 := Kw3_g0.lt
  have w3_m_g0 : w2.heap.size < w3.heap.size + 1 := by omega
  have w3z := hb3.size
  try simp at w3z
  have w3B := Lib.hid hb3
  clear Kw3_w0 Kw3_g0
  clear hb3
  cases o
  · go_wp2_with fail
    go_ret
    exact ⟨rfl, by (repeat' (first | exact Below.refl _ _ | refine bl_out ?_ (by assumption) | exact (Hid.out (by assumption)) | refine bl_alloc ?_ _ | refine bl_drewN ?_ _ | refine bl_drew ?_ | refine bl_set ?_ ?_ _ | omega | (simp; done) | (simp; omega)))⟩
  · go_wp2_with fail
    go_ret
    exact ⟨rfl, by (repeat' (first | exact Below.refl _ _ | refine bl_out ?_ (by assumption) | exact (Hid.out (by assumption)) | refine bl_alloc ?_ _ | refine bl_drewN ?_ _ | refine bl_drew ?_ | refine bl_set ?_ ?_ _ | omega | (simp; done) | (simp; omega)))⟩

set_option maxRecDepth 100000 in
set_option maxHeartbeats 2000000 in
theorem l_FnHundLevel (a : Option Addr) (len cap : Nat) (w : World) (h : Code w a len cap) (hl : len ≤ 9223372036854775807) (hc : cap ≤ 9223372036854775807) :
    Calls Try.prog 6 #[.slice a len cap] w (RTrueU w) := by
  have H := Lib.hid h
  clear h
  by_cases hbig : 1048576 < len
  · go_enter Try.func6, Try.ntmps6
    go_wp2_with fail
    go_ret
    exact ⟨rfl, Below.refl _ _⟩
  go_enter Try.func6, Try.ntmps6
  go_wp2_with fail
  refine (s_DrawHundLevel a len cap w H.out hl hc).mono ?_
  rintro e w1 ⟨l, n, rfl, hl1, hn1, hb1⟩
  have w1z := hb1.size
  try simp at w1z
  have w1B := Lib.hid hb1
  clear hb1
  obtain ⟨S, L, J, o, hX⟩ := pair4u (hlvR l n)
  have HX := Lib.hid hX
  clear hX
  go_wp2_with fail
  refine (i_HundLevel _ _ _ _ _ _ _ HX).mono ?_
  rintro e w2 ⟨rfl, hb2⟩
  have w2z := hb2.size
  try simp at w2z
  have w2B := Lib.hid hb2
  clear hb2
  go_wp2_with fail
  refine (s_HundLevel _ _ _ _ _ _ _ HX).mono ?_
  rintro e w3 ⟨rfl, hb3⟩
  have Kw3_out : Blk w3 (w2.heap.size) #[.int .i64 S, .int .i64 L, .int .i64 J] := blk_later hb3 (blk_new (by simp))
  obtain ⟨w3_c0_out, w3_c1_out, w3_c2_out, w3_f0_out, w3_f1_out, w3_f2_out⟩ := blk3 Kw3_out
  have Kw3_outH := Lib.hid Kw3_out
  have w3_l_out := Kw3_out.lt
  have w3_m_out : w2.heap.size < w3.heap.size + 1 := by omega
  have w3z := hb3.size
  try simp at w3z
  have w3B := Lib.hid hb3
  clear Kw3_out
  clear hb3
  cases o
  · go_wp2_with fail
    go_ret
    exact ⟨rfl, by (repeat' (first | exact Below.refl _ _ | refine bl_out ?_ (by assumption) | exact (Hid.out (by assumption)) | refine bl_alloc ?_ _ | refine bl_drewN ?_ _ | refine bl_drew ?_ | refine bl_set ?_ ?_ _ | omega | (simp; done) | (simp; omega)))⟩
  obtain ⟨hv, he⟩ := hlv_valid HX.out
  obtain ⟨hT, hJ, _, ht⟩ := hlvR_yes he HX.out
  have HT := Lib.hid hT
  have HJ := Lib.hid hJ
  have hb8 := tmB_iff.1 ht
  clear hT hJ
  go_wp2_with fail
  refine (i_HundTerm _ _ _ _ _ _ HT).mono ?_
  rintro e w4 ⟨rfl, hb4⟩
  have Kw4_out : Blk w4 (w2.heap.size) #[.int .i64 S, .int .i64 L, .int .i64 J] := blk_later hb4 (blk_alloc Kw3_outH.out (.cells #[.int .i64 S, .int .i64 L, .int .i64 J] 33))
  have Kw4_want : Blk w4 (w3.heap.size) #[.int .i64 S, .int .i64 L, .int .i64 J] := blk_later hb4 (blk_new (by simp))
  obtain ⟨w4_c0_out, w4_c1_out, w4_c2_out, w4_f0_out, w4_f1_out, w4_f2_out⟩ := blk3 Kw4_out
  have Kw4_outH := Lib.hid Kw4_out
  have w4_l_out := Kw4_out.lt
  have w4_m_out : w2.heap.size < w4.heap.size + 1 := by omega
  obtain ⟨w4_c0_want, w4_c1_want, w4_c2_want, w4_f0_want, w4_f1_want, w4_f2_want⟩ := blk3 Kw4_want
  have Kw4_wantH := Lib.hid Kw4_want
  have w4_l_want := Kw4_want.lt
  have w4_m_want : w3.heap.size < w4.heap.size + 1 := by omega
  have w4z := hb4.size
  try simp at w4z
  have w4B := Lib.hid hb4
  clear Kw4_out Kw4_want
  clear hb4
  by_cases hh : n ≤ 2 * l + 1
  · by_cases h2 : 2 * L - S < S - 2 * L
    · obtain rfl : J = S - 2 * L := by rw [HJ.out]; rw [if_pos hh]; unfold absI; split <;> omega
      clear HJ HX
      go_wp2_with fail
      refine (i_LevelValid _ _ _ _).mono ?_
      rintro e w5 ⟨rfl, hb5⟩
      have Kw5_out : Blk w5 (w2.heap.size) #[.int .i64 S, .int .i64 L, .int .i64 (S - 2 * L)] := blk_later hb5 (blk_alloc Kw4_outH.out (.cells #[.int .i64 S, .int .i64 L] 23))
      have Kw5_want : Blk w5 (w3.heap.size) #[.int .i64 S, .int .i64 L, .int .i64 (S - 2 * L)] := blk_later hb5 (blk_alloc Kw4_wantH.out (.cells #[.int .i64 S, .int .i64 L] 23))
      have Kw5_t : Blk w5 (w4.heap.size) #[.int .i64 S, .int .i64 L] := blk_later hb5 (blk_new (by simp))
      obtain ⟨w5_c0_out, w5_c1_out, w5_c2_out, w5_f0_out, w5_f1_out, w5_f2_out⟩ := blk3 Kw5_out
      have Kw5_outH := Lib.hid Kw5_out
      have w5_l_out := Kw5_out.lt
      have w5_m_out : w2.heap.size < w5.heap.size + 1 := by omega
      obtain ⟨w5_c0_want, w5_c1_want, w5_c2_want, w5_f0_want, w5_f1_want, w5_f2_want⟩ := blk3 Kw5_want
      have Kw5_wantH := Lib.hid Kw5_want
      have w5_l_want := Kw5_want.lt
      have w5_m_want : w3.heap.size < w5.heap.size + 1 := by omega
      obtain ⟨w5_c0_t, w5_c1_t, w5_f0_t, w5_f1_t⟩ := blk2 Kw5_t
      have Kw5_tH := Lib.hid Kw5_t
      have w5_l_t := Kw5_t.lt
      have w5_m_t : w4.heap.size < w5.heap.size + 1 := by omega
      have w5z := hb5.size
      try simp at w5z
      have w5B := Lib.hid hb5
      clear Kw5_out Kw5_want Kw5_t
      clear hb5
      rw [hv]
      go_wp2_with fail
      go_ret
      exact ⟨rfl, by (repeat' (first | exact Below.refl _ _ | refine bl_out ?_ (by assumption) | exact (Hid.out (by assumption)) | refine bl_alloc ?_ _ | refine bl_drewN ?_ _ | refine bl_drew ?_ | refine bl_set ?_ ?_ _ | omega | (simp; done) | (simp; omega)))⟩
    · obtain rfl : J = 2 * L - S := by rw [HJ.out]; rw [if_pos hh]; unfold absI; split <;> omega
      clear HJ HX
      go_wp2_with fail
      refine (i_LevelValid _ _ _ _).mono ?_
      rintro e w5 ⟨rfl, hb5⟩
      have Kw5_out : Blk w5 (w2.heap.size) #[.int .i64 S, .int .i64 L, .int .i64 (2 * L - S)] := blk_later hb5 (blk_alloc Kw4_outH.out (.cells #[.int .i64 S, .int .i64 L] 23))
      have Kw5_want : Blk w5 (w3.heap.size) #[.int .i64 S, .int .i64 L, .int .i64 (2 * L - S)] := blk_later hb5 (blk_alloc Kw4_wantH.out (.cells #[.int .i64 S, .int .i64 L] 23))
      have Kw5_t : Blk w5 (w4.heap.size) #[.int .i64 S, .int .i64 L] := blk_later hb5 (blk_new (by simp))
      obtain ⟨w5_c0_out, w5_c1_out, w5_c2_out, w5_f0_out, w5_f1_out, w5_f2_out⟩ := blk3 Kw5_out
      have Kw5_outH := Lib.hid Kw5_out
      have w5_l_out := Kw5_out.lt
      have w5_m_out : w2.heap.size < w5.heap.size + 1 := by omega
      obtain ⟨w5_c0_want, w5_c1_want, w5_c2_want, w5_f0_want, w5_f1_want, w5_f2_want⟩ := blk3 Kw5_want
      have Kw5_wantH := Lib.hid Kw5_want
      have w5_l_want := Kw5_want.lt
      have w5_m_want : w3.heap.size < w5.heap.size + 1 := by omega
      obtain ⟨w5_c0_t, w5_c1_t, w5_f0_t, w5_f1_t⟩ := blk2 Kw5_t
      have Kw5_tH := Lib.hid Kw5_t
      have w5_l_t := Kw5_t.lt
      have w5_m_t : w4.heap.size < w5.heap.size + 1 := by omega
      have w5z := hb5.size
      try simp at w5z
      have w5B := Lib.hid hb5
      clear Kw5_out Kw5_want Kw5_t
      clear hb5
      rw [hv]
      go_wp2_with fail
      go_ret
      exact ⟨rfl, by (repeat' (first | exact Below.refl _ _ | refine bl_out ?_ (by assumption) | exact (Hid.out (by assumption)) | refine bl_alloc ?_ _ | refine bl_drewN ?_ _ | refine bl_drew ?_ | refine bl_set ?_ ?_ _ | omega | (simp; done) | (simp; omega)))⟩
  · obtain rfl : J = 2 * L + S := by rw [HJ.out]; rw [if_neg hh]
    clear HJ HX
    go_wp2_with fail
    refine (i_LevelValid _ _ _ _).mono ?_
    rintro e w5 ⟨rfl, hb5⟩
    have Kw5_out : Blk w5 (w2.heap.size) #[.int .i64 S, .int .i64 L, .int .i64 (2 * L + S)] := blk_later hb5 (blk_alloc Kw4_outH.out (.cells #[.int .i64 S, .int .i64 L] 23))
    have Kw5_want : Blk w5 (w3.heap.size) #[.int .i64 S, .int .i64 L, .int .i64 (2 * L + S)] := blk_later hb5 (blk_alloc Kw4_wantH.out (.cells #[.int .i64 S, .int .i64 L] 23))
    have Kw5_t : Blk w5 (w4.heap.size) #[.int .i64 S, .int .i64 L] := blk_later hb5 (blk_new (by simp))
    obtain ⟨w5_c0_out, w5_c1_out, w5_c2_out, w5_f0_out, w5_f1_out, w5_f2_out⟩ := blk3 Kw5_out
    have Kw5_outH := Lib.hid Kw5_out
    have w5_l_out := Kw5_out.lt
    have w5_m_out : w2.heap.size < w5.heap.size + 1 := by omega
    obtain ⟨w5_c0_want, w5_c1_want, w5_c2_want, w5_f0_want, w5_f1_want, w5_f2_want⟩ := blk3 Kw5_want
    have Kw5_wantH := Lib.hid Kw5_want
    have w5_l_want := Kw5_want.lt
    have w5_m_want : w3.heap.size < w5.heap.size + 1 := by omega
    obtain ⟨w5_c0_t, w5_c1_t, w5_f0_t, w5_f1_t⟩ := blk2 Kw5_t
    have Kw5_tH := Lib.hid Kw5_t
    have w5_l_t := Kw5_t.lt
    have w5_m_t : w4.heap.size < w5.heap.size + 1 := by omega
    have w5z := hb5.size
    try simp at w5z
    have w5B := Lib.hid hb5
    clear Kw5_out Kw5_want Kw5_t
    clear hb5
    rw [hv]
    go_wp2_with fail
    go_ret
    exact ⟨rfl, by (repeat' (first | exact Below.refl _ _ | refine bl_out ?_ (by assumption) | exact (Hid.out (by assumption)) | refine bl_alloc ?_ _ | refine bl_drewN ?_ _ | refine bl_drew ?_ | refine bl_set ?_ ?_ _ | omega | (simp; done) | (simp; omega)))⟩

end Go.Proofs.Ytpdhbilghmejiaa
