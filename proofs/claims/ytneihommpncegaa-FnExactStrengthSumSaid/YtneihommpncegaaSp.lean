/- The walks of the laws that StrengthSum and StrengthTotal return what the reference's return. -/
import Derived.Test.YtneihommpncegaaSn
import Derived.Test.YtneihommpncegaaLl
namespace Go.Proofs.Ytneihommpncegaa
open Go.RowKit
set_option linter.unusedVariables false

set_option maxRecDepth 100000 in
set_option maxHeartbeats 4000000 in
theorem l_FnExactStrengthSum (s l j S L : Int) (w : World) (_ : I64 s) (_ : I64 l) (_ : I64 j) (_ : I64 S) (_ : I64 L) :
    Calls Try.prog 4 #[.agg #[.int .i64 s, .int .i64 l, .int .i64 j], .agg #[.int .i64 S, .int .i64 L]] w (RTrueK w) := by
  obtain ⟨N, D, o, hx⟩ := pair3 (strS s l j S L)
  have HX := Lib.hid hx
  clear hx
  go_enter Try.func4, Try.ntmps4
  go_upto_region 1 with fail
  have Kz1_x : Blk ((w.alloc (.cells #[.int .i64 s, .int .i64 l, .int .i64 j] 38)).alloc (.cells #[.int .i64 S, .int .i64 L] 36)) (w.heap.size) #[.int .i64 s, .int .i64 l, .int .i64 j] := (blk_alloc (blk_new (by simp)) (.cells #[.int .i64 S, .int .i64 L] 36))
  have Kz1_y : Blk ((w.alloc (.cells #[.int .i64 s, .int .i64 l, .int .i64 j] 38)).alloc (.cells #[.int .i64 S, .int .i64 L] 36)) (w.heap.size + 1) #[.int .i64 S, .int .i64 L] := (blk_new (by simp))
  have Bz1 : Below w.heap.size w ((w.alloc (.cells #[.int .i64 s, .int .i64 l, .int .i64 j] 38)).alloc (.cells #[.int .i64 S, .int .i64 L] 36)) := by (repeat' (first | exact Below.refl _ _ | refine bl_out ?_ (by assumption) | exact (Hid.out (by assumption)) | refine bl_alloc ?_ _ | refine bl_drewN ?_ _ | refine bl_drew ?_ | refine bl_set ?_ ?_ _ | omega | (simp; done) | (simp; omega)))
  have Sz1 : ((w.alloc (.cells #[.int .i64 s, .int .i64 l, .int .i64 j] 38)).alloc (.cells #[.int .i64 S, .int .i64 L] 36)).heap.size = w.heap.size + 2 := by simp
  generalize ((w.alloc (.cells #[.int .i64 s, .int .i64 l, .int .i64 j] 38)).alloc (.cells #[.int .i64 S, .int .i64 L] 36)) = z1 at *
  have Sz1a := Nat.le_of_eq Sz1
  have Sz1b := Nat.le_of_eq Sz1.symm
  clear Sz1
  obtain ⟨z1_c0_x, z1_c1_x, z1_c2_x, z1_f0_x, z1_f1_x, z1_f2_x⟩ := blk3 Kz1_x
  have Kz1_xH := Lib.hid Kz1_x
  have z1_l_x := Kz1_x.lt
  obtain ⟨z1_c0_y, z1_c1_y, z1_f0_y, z1_f1_y⟩ := blk2 Kz1_y
  have Kz1_yH := Lib.hid Kz1_y
  have z1_l_y := Kz1_y.lt
  have z1B := Lib.hid Bz1
  clear Bz1
  clear Kz1_x Kz1_y
  go_cut [5, 6] (CutBlk z1 #[.int .i64 N, .int .i64 D] o)
  case first =>
    go_region_held3 (fun w' => Below z1.heap.size z1 w' ∧ w'.cell? ⟨w.heap.size, 0, none⟩ = some (.int .i64 s) ∧ w'.cell? ⟨w.heap.size, 1, none⟩ = some (.int .i64 l) ∧ w'.cell? ⟨w.heap.size, 2, none⟩ = some (.int .i64 j) ∧ w'.cell? ⟨w.heap.size + 1, 0, none⟩ = some (.int .i64 S) ∧ w'.cell? ⟨w.heap.size + 1, 1, none⟩ = some (.int .i64 L)) ((refine and_keep ?_ (fun hB => ⟨held_cell hB z1_c0_x z1_l_x, held_cell hB z1_c1_x z1_l_x, held_cell hB z1_c2_x z1_l_x, held_cell hB z1_c0_y z1_l_y, held_cell hB z1_c1_y z1_l_y⟩); (repeat' (first | with_reducible exact Below.refl _ _ | with_reducible refine bl_alloc ?_ _ | with_reducible refine bl_set ?_ ?_ _ | exact (Below.refl _ _).drew | with_reducible refine bl_drew ?_ | with_reducible refine btr ?_ hbC | with_reducible refine btr ?_ hbB | with_reducible refine btr ?_ hbA | omega | (simp; done) | (simp; omega))))) (first | (go_at_call_of 14 (Value.agg #[Value.int IntKind.i64 s, Value.int IntKind.i64 l, Value.int IntKind.i64 j]); refine (l_toLevel _ _ _ _).mono ?_; rintro e wA ⟨rfl, hbA⟩; obtain ⟨hcA, hfA⟩ := bcell hbA; have hzA : z1.heap.size ≤ wA.heap.size := (by first | exact hbA.size | exact Nat.le_trans hzA hbA.size | (have h0 := hbA.size; (try simp at h0); omega)); (try (have hyA : z1.heap.size < wA.heap.size := by (have h0 := hbA.size; (try simp at h0); omega)))) | (go_at_call_of 15 (Value.agg #[Value.int IntKind.i64 S, Value.int IntKind.i64 L]); refine (l_toTerm _ _ _).mono ?_; rintro e wB ⟨rfl, hbB⟩; obtain ⟨hcB, hfB⟩ := bcell hbB; have hzB : z1.heap.size ≤ wB.heap.size := (by first | exact hbB.size | exact Nat.le_trans hzA hbB.size | (have h0 := hbB.size; (try simp at h0); omega)); (try (have hyB : z1.heap.size < wB.heap.size := by (have h0 := hbB.size; (try simp at h0); omega))); (try (have hxAB : wA.heap.size < wB.heap.size := by (have h0 := hbB.size; (try simp at h0); omega)))) | (go_at_call 13; refine (m_sSum _ _ _ _ _ _ _ _ _ HX).mono ?_; rintro e wC ⟨rfl, hbC⟩; obtain ⟨hcC, hfC⟩ := bcell hbC; have hzC : z1.heap.size ≤ wC.heap.size := (by first | exact hbC.size | exact Nat.le_trans hzB hbC.size | (have h0 := hbC.size; (try simp at h0); omega)); (try (have hyC : z1.heap.size < wC.heap.size := by (have h0 := hbC.size; (try simp at h0); omega))); (try (have hxAC : wA.heap.size < wC.heap.size := by (have h0 := hbC.size; (try simp at h0); omega))); (try (have hxBC : wB.heap.size < wC.heap.size := by (have h0 := hbC.size; (try simp at h0); omega)))))
    all_goals
      go_wp2_with fail
      go_meet
      exact ⟨_, rfl, rfl, by (first | omega | (simp; omega)), by (repeat' (first | exact blk_new (by simp) | with_reducible refine blk_store2 (x := .int .i64 0) (y := .int .i64 0) ?_ | with_reducible refine blk_store3 (x := .int .i64 0) (y := .int .i64 0) (z := .int .i64 0) ?_ | with_reducible refine blk_drew ?_ | with_reducible refine blk_later hbC ?_ | with_reducible refine blk_later hbB ?_ | with_reducible refine blk_later hbA ?_)), by (repeat' (first | with_reducible exact Below.refl _ _ | with_reducible refine bl_alloc ?_ _ | with_reducible refine bl_set ?_ ?_ _ | exact (Below.refl _ _).drew | with_reducible refine bl_drew ?_ | with_reducible refine btr ?_ hbC | with_reducible refine btr ?_ hbB | with_reducible refine btr ?_ hbA | omega | (simp; done) | (simp; omega)))⟩
  case rest =>
    obtain ⟨g2, rfl, rfl, g2z, Kg2, hb2⟩ := hcut
    obtain ⟨w2, rfl⟩ : ∃ x, x = wc := ⟨_, rfl⟩
    have Kw2_x : Blk w2 (w.heap.size) #[.int .i64 s, .int .i64 l, .int .i64 j] := blk_later hb2 Kz1_xH.out
    have Kw2_y : Blk w2 (w.heap.size + 1) #[.int .i64 S, .int .i64 L] := blk_later hb2 Kz1_yH.out
    obtain ⟨w2_c0_x, w2_c1_x, w2_c2_x, w2_f0_x, w2_f1_x, w2_f2_x⟩ := blk3 Kw2_x
    have Kw2_xH := Lib.hid Kw2_x
    have w2_l_x := Kw2_x.lt
    have w2_m_x : w.heap.size < w2.heap.size + 1 := by omega
    obtain ⟨w2_c0_y, w2_c1_y, w2_f0_y, w2_f1_y⟩ := blk2 Kw2_y
    have Kw2_yH := Lib.hid Kw2_y
    have w2_l_y := Kw2_y.lt
    have w2_m_y : w.heap.size + 1 < w2.heap.size + 1 := by omega
    have w2z := hb2.size
    try simp at w2z
    have w2B := Lib.hid hb2
    clear Kw2_x Kw2_y
    clear hb2
    obtain ⟨w2_c0_p, w2_c1_p, w2_f0_p, w2_f1_p⟩ := blk2 Kg2
    have Kg2H := Lib.hid Kg2
    have w2_l_p := Kg2.lt
    clear Kg2
    go_upto_region 2 with fail
    have Kz3_x : Blk w2 (w.heap.size) #[.int .i64 s, .int .i64 l, .int .i64 j] := Kw2_xH.out
    have Kz3_y : Blk w2 (w.heap.size + 1) #[.int .i64 S, .int .i64 L] := Kw2_yH.out
    have Kz3_p : Blk w2 (g2) #[.int .i64 N, .int .i64 D] := Kg2H.out
    have Bz3 : Below w.heap.size w w2 := by (repeat' (first | exact Below.refl _ _ | refine bl_out ?_ (by assumption) | exact (Hid.out (by assumption)) | refine bl_alloc ?_ _ | refine bl_drewN ?_ _ | refine bl_drew ?_ | refine bl_set ?_ ?_ _ | omega | (simp; done) | (simp; omega)))
    generalize w2 = z3 at *
    obtain ⟨z3_c0_x, z3_c1_x, z3_c2_x, z3_f0_x, z3_f1_x, z3_f2_x⟩ := blk3 Kz3_x
    have Kz3_xH := Lib.hid Kz3_x
    have z3_l_x := Kz3_x.lt
    obtain ⟨z3_c0_y, z3_c1_y, z3_f0_y, z3_f1_y⟩ := blk2 Kz3_y
    have Kz3_yH := Lib.hid Kz3_y
    have z3_l_y := Kz3_y.lt
    obtain ⟨z3_c0_p, z3_c1_p, z3_f0_p, z3_f1_p⟩ := blk2 Kz3_p
    have Kz3_pH := Lib.hid Kz3_p
    have z3_l_p := Kz3_p.lt
    have z3B := Lib.hid Bz3
    clear Bz3
    clear Kz3_x Kz3_y Kz3_p
    go_cut [7, 8] (CutBlk z3 #[.int .i64 N, .int .i64 D] o)
    case first =>
      go_region_held3 (fun w' => Below z3.heap.size z3 w' ∧ w'.cell? ⟨w.heap.size, 0, none⟩ = some (.int .i64 s) ∧ w'.cell? ⟨w.heap.size, 1, none⟩ = some (.int .i64 l) ∧ w'.cell? ⟨w.heap.size, 2, none⟩ = some (.int .i64 j) ∧ w'.cell? ⟨w.heap.size + 1, 0, none⟩ = some (.int .i64 S) ∧ w'.cell? ⟨w.heap.size + 1, 1, none⟩ = some (.int .i64 L)) ((refine and_keep ?_ (fun hB => ⟨held_cell hB z3_c0_x z3_l_x, held_cell hB z3_c1_x z3_l_x, held_cell hB z3_c2_x z3_l_x, held_cell hB z3_c0_y z3_l_y, held_cell hB z3_c1_y z3_l_y⟩); (repeat' (first | with_reducible exact Below.refl _ _ | with_reducible refine bl_alloc ?_ _ | with_reducible refine bl_set ?_ ?_ _ | exact (Below.refl _ _).drew | with_reducible refine bl_drew ?_ | with_reducible refine btr ?_ hbC | with_reducible refine btr ?_ hbB | with_reducible refine btr ?_ hbA | omega | (simp; done) | (simp; omega))))) (first | (go_at_call_of 14 (Value.agg #[Value.int IntKind.i64 s, Value.int IntKind.i64 l, Value.int IntKind.i64 j]); refine (l_toLevel _ _ _ _).mono ?_; rintro e wA ⟨rfl, hbA⟩; obtain ⟨hcA, hfA⟩ := bcell hbA; have hzA : z3.heap.size ≤ wA.heap.size := (by first | exact hbA.size | exact Nat.le_trans hzA hbA.size | (have h0 := hbA.size; (try simp at h0); omega)); (try (have hyA : z3.heap.size < wA.heap.size := by (have h0 := hbA.size; (try simp at h0); omega)))) | (go_at_call_of 15 (Value.agg #[Value.int IntKind.i64 S, Value.int IntKind.i64 L]); refine (l_toTerm _ _ _).mono ?_; rintro e wB ⟨rfl, hbB⟩; obtain ⟨hcB, hfB⟩ := bcell hbB; have hzB : z3.heap.size ≤ wB.heap.size := (by first | exact hbB.size | exact Nat.le_trans hzA hbB.size | (have h0 := hbB.size; (try simp at h0); omega)); (try (have hyB : z3.heap.size < wB.heap.size := by (have h0 := hbB.size; (try simp at h0); omega))); (try (have hxAB : wA.heap.size < wB.heap.size := by (have h0 := hbB.size; (try simp at h0); omega)))) | (go_at_call 16; refine (n_iSum _ _ _ _ _ _ _ _ _ HX).mono ?_; rintro e wC ⟨rfl, hbC⟩; obtain ⟨hcC, hfC⟩ := bcell hbC; have hzC : z3.heap.size ≤ wC.heap.size := (by first | exact hbC.size | exact Nat.le_trans hzB hbC.size | (have h0 := hbC.size; (try simp at h0); omega)); (try (have hyC : z3.heap.size < wC.heap.size := by (have h0 := hbC.size; (try simp at h0); omega))); (try (have hxAC : wA.heap.size < wC.heap.size := by (have h0 := hbC.size; (try simp at h0); omega))); (try (have hxBC : wB.heap.size < wC.heap.size := by (have h0 := hbC.size; (try simp at h0); omega)))))
      all_goals
        go_wp2_with fail
        go_meet
        exact ⟨_, rfl, rfl, by (first | omega | (simp; omega)), by (repeat' (first | exact blk_new (by simp) | with_reducible refine blk_store2 (x := .int .i64 0) (y := .int .i64 0) ?_ | with_reducible refine blk_store3 (x := .int .i64 0) (y := .int .i64 0) (z := .int .i64 0) ?_ | with_reducible refine blk_drew ?_ | with_reducible refine blk_later hbC ?_ | with_reducible refine blk_later hbB ?_ | with_reducible refine blk_later hbA ?_)), by (repeat' (first | with_reducible exact Below.refl _ _ | with_reducible refine bl_alloc ?_ _ | with_reducible refine bl_set ?_ ?_ _ | exact (Below.refl _ _).drew | with_reducible refine bl_drew ?_ | with_reducible refine btr ?_ hbC | with_reducible refine btr ?_ hbB | with_reducible refine btr ?_ hbA | omega | (simp; done) | (simp; omega)))⟩
    case rest =>
      obtain ⟨g4, rfl, rfl, g4z, Kg4, hb4⟩ := hcut
      obtain ⟨w4, rfl⟩ : ∃ x, x = wc := ⟨_, rfl⟩
      have Kw4_p : Blk w4 (g2) #[.int .i64 N, .int .i64 D] := blk_later hb4 Kz3_pH.out
      obtain ⟨w4_c0_p, w4_c1_p, w4_f0_p, w4_f1_p⟩ := blk2 Kw4_p
      have Kw4_pH := Lib.hid Kw4_p
      have w4_l_p := Kw4_p.lt
      have w4_m_p : g2 < w4.heap.size + 1 := by omega
      have w4z := hb4.size
      try simp at w4z
      have w4B := Lib.hid hb4
      clear Kw4_p
      clear hb4
      obtain ⟨w4_c0_q, w4_c1_q, w4_f0_q, w4_f1_q⟩ := blk2 Kg4
      have Kg4H := Lib.hid Kg4
      have w4_l_q := Kg4.lt
      clear Kg4
      go_wp2_with fail
      refine (l_eqRat _ _ _).mono ?_
      rintro e w5 ⟨rfl, hb5⟩
      have Kw5_p : Blk w5 (g2) #[.int .i64 N, .int .i64 D] := blk_later hb5 Kw4_pH.out
      have Kw5_q : Blk w5 (g4) #[.int .i64 N, .int .i64 D] := blk_later hb5 Kg4H.out
      obtain ⟨w5_c0_p, w5_c1_p, w5_f0_p, w5_f1_p⟩ := blk2 Kw5_p
      have Kw5_pH := Lib.hid Kw5_p
      have w5_l_p := Kw5_p.lt
      have w5_m_p : g2 < w5.heap.size + 1 := by omega
      obtain ⟨w5_c0_q, w5_c1_q, w5_f0_q, w5_f1_q⟩ := blk2 Kw5_q
      have Kw5_qH := Lib.hid Kw5_q
      have w5_l_q := Kw5_q.lt
      have w5_m_q : g4 < w5.heap.size + 1 := by omega
      have w5z := hb5.size
      try simp at w5z
      have w5B := Lib.hid hb5
      clear Kw5_p Kw5_q
      clear hb5
      cases o
      all_goals
        go_wp2_with fail
        go_ret
        exact ⟨rfl, by (repeat' (first | exact Below.refl _ _ | refine bl_out ?_ (by assumption) | exact (Hid.out (by assumption)) | refine bl_alloc ?_ _ | refine bl_drewN ?_ _ | refine bl_drew ?_ | refine bl_set ?_ ?_ _ | omega | (simp; done) | (simp; omega)))⟩

set_option maxRecDepth 100000 in
set_option maxHeartbeats 4000000 in
theorem l_FnExactStrengthTotal (S L S2 L2 : Int) (w : World) (_ : I64 S) (_ : I64 L) (_ : I64 S2) (_ : I64 L2) :
    Calls Try.prog 5 #[.agg #[.int .i64 S, .int .i64 L], .agg #[.int .i64 S2, .int .i64 L2]] w (RTrueK w) := by
  obtain ⟨N, D, o, hx⟩ := pair3 (strT S L S2 L2)
  have HX := Lib.hid hx
  clear hx
  go_enter Try.func5, Try.ntmps5
  go_upto_region 1 with fail
  have Kz1_x : Blk ((w.alloc (.cells #[.int .i64 S, .int .i64 L] 36)).alloc (.cells #[.int .i64 S2, .int .i64 L2] 36)) (w.heap.size) #[.int .i64 S, .int .i64 L] := (blk_alloc (blk_new (by simp)) (.cells #[.int .i64 S2, .int .i64 L2] 36))
  have Kz1_y : Blk ((w.alloc (.cells #[.int .i64 S, .int .i64 L] 36)).alloc (.cells #[.int .i64 S2, .int .i64 L2] 36)) (w.heap.size + 1) #[.int .i64 S2, .int .i64 L2] := (blk_new (by simp))
  have Bz1 : Below w.heap.size w ((w.alloc (.cells #[.int .i64 S, .int .i64 L] 36)).alloc (.cells #[.int .i64 S2, .int .i64 L2] 36)) := by (repeat' (first | exact Below.refl _ _ | refine bl_out ?_ (by assumption) | exact (Hid.out (by assumption)) | refine bl_alloc ?_ _ | refine bl_drewN ?_ _ | refine bl_drew ?_ | refine bl_set ?_ ?_ _ | omega | (simp; done) | (simp; omega)))
  have Sz1 : ((w.alloc (.cells #[.int .i64 S, .int .i64 L] 36)).alloc (.cells #[.int .i64 S2, .int .i64 L2] 36)).heap.size = w.heap.size + 2 := by simp
  generalize ((w.alloc (.cells #[.int .i64 S, .int .i64 L] 36)).alloc (.cells #[.int .i64 S2, .int .i64 L2] 36)) = z1 at *
  have Sz1a := Nat.le_of_eq Sz1
  have Sz1b := Nat.le_of_eq Sz1.symm
  clear Sz1
  obtain ⟨z1_c0_x, z1_c1_x, z1_f0_x, z1_f1_x⟩ := blk2 Kz1_x
  have Kz1_xH := Lib.hid Kz1_x
  have z1_l_x := Kz1_x.lt
  obtain ⟨z1_c0_y, z1_c1_y, z1_f0_y, z1_f1_y⟩ := blk2 Kz1_y
  have Kz1_yH := Lib.hid Kz1_y
  have z1_l_y := Kz1_y.lt
  have z1B := Lib.hid Bz1
  clear Bz1
  clear Kz1_x Kz1_y
  go_cut [5, 6] (CutBlk z1 #[.int .i64 N, .int .i64 D] o)
  case first =>
    go_region_held3 (fun w' => Below z1.heap.size z1 w' ∧ w'.cell? ⟨w.heap.size, 0, none⟩ = some (.int .i64 S) ∧ w'.cell? ⟨w.heap.size, 1, none⟩ = some (.int .i64 L) ∧ w'.cell? ⟨w.heap.size + 1, 0, none⟩ = some (.int .i64 S2) ∧ w'.cell? ⟨w.heap.size + 1, 1, none⟩ = some (.int .i64 L2)) ((refine and_keep ?_ (fun hB => ⟨held_cell hB z1_c0_x z1_l_x, held_cell hB z1_c1_x z1_l_x, held_cell hB z1_c0_y z1_l_y, held_cell hB z1_c1_y z1_l_y⟩); (repeat' (first | with_reducible exact Below.refl _ _ | with_reducible refine bl_alloc ?_ _ | with_reducible refine bl_set ?_ ?_ _ | exact (Below.refl _ _).drew | with_reducible refine bl_drew ?_ | with_reducible refine btr ?_ hbC | with_reducible refine btr ?_ hbB | with_reducible refine btr ?_ hbA | omega | (simp; done) | (simp; omega))))) (first | (go_at_call_of 15 (Value.agg #[Value.int IntKind.i64 S, Value.int IntKind.i64 L]); refine (l_toTerm _ _ _).mono ?_; rintro e wA ⟨rfl, hbA⟩; obtain ⟨hcA, hfA⟩ := bcell hbA; have hzA : z1.heap.size ≤ wA.heap.size := (by first | exact hbA.size | exact Nat.le_trans hzA hbA.size | (have h0 := hbA.size; (try simp at h0); omega)); (try (have hyA : z1.heap.size < wA.heap.size := by (have h0 := hbA.size; (try simp at h0); omega)))) | (go_at_call_of 15 (Value.agg #[Value.int IntKind.i64 S2, Value.int IntKind.i64 L2]); refine (l_toTerm _ _ _).mono ?_; rintro e wB ⟨rfl, hbB⟩; obtain ⟨hcB, hfB⟩ := bcell hbB; have hzB : z1.heap.size ≤ wB.heap.size := (by first | exact hbB.size | exact Nat.le_trans hzA hbB.size | (have h0 := hbB.size; (try simp at h0); omega)); (try (have hyB : z1.heap.size < wB.heap.size := by (have h0 := hbB.size; (try simp at h0); omega))); (try (have hxAB : wA.heap.size < wB.heap.size := by (have h0 := hbB.size; (try simp at h0); omega)))) | (go_at_call 18; refine (m_sTot _ _ _ _ _ _ _ _ HX).mono ?_; rintro e wC ⟨rfl, hbC⟩; obtain ⟨hcC, hfC⟩ := bcell hbC; have hzC : z1.heap.size ≤ wC.heap.size := (by first | exact hbC.size | exact Nat.le_trans hzB hbC.size | (have h0 := hbC.size; (try simp at h0); omega)); (try (have hyC : z1.heap.size < wC.heap.size := by (have h0 := hbC.size; (try simp at h0); omega))); (try (have hxAC : wA.heap.size < wC.heap.size := by (have h0 := hbC.size; (try simp at h0); omega))); (try (have hxBC : wB.heap.size < wC.heap.size := by (have h0 := hbC.size; (try simp at h0); omega)))))
    all_goals
      go_wp2_with fail
      go_meet
      exact ⟨_, rfl, rfl, by (first | omega | (simp; omega)), by (repeat' (first | exact blk_new (by simp) | with_reducible refine blk_store2 (x := .int .i64 0) (y := .int .i64 0) ?_ | with_reducible refine blk_store3 (x := .int .i64 0) (y := .int .i64 0) (z := .int .i64 0) ?_ | with_reducible refine blk_drew ?_ | with_reducible refine blk_later hbC ?_ | with_reducible refine blk_later hbB ?_ | with_reducible refine blk_later hbA ?_)), by (repeat' (first | with_reducible exact Below.refl _ _ | with_reducible refine bl_alloc ?_ _ | with_reducible refine bl_set ?_ ?_ _ | exact (Below.refl _ _).drew | with_reducible refine bl_drew ?_ | with_reducible refine btr ?_ hbC | with_reducible refine btr ?_ hbB | with_reducible refine btr ?_ hbA | omega | (simp; done) | (simp; omega)))⟩
  case rest =>
    obtain ⟨g2, rfl, rfl, g2z, Kg2, hb2⟩ := hcut
    obtain ⟨w2, rfl⟩ : ∃ x, x = wc := ⟨_, rfl⟩
    have Kw2_x : Blk w2 (w.heap.size) #[.int .i64 S, .int .i64 L] := blk_later hb2 Kz1_xH.out
    have Kw2_y : Blk w2 (w.heap.size + 1) #[.int .i64 S2, .int .i64 L2] := blk_later hb2 Kz1_yH.out
    obtain ⟨w2_c0_x, w2_c1_x, w2_f0_x, w2_f1_x⟩ := blk2 Kw2_x
    have Kw2_xH := Lib.hid Kw2_x
    have w2_l_x := Kw2_x.lt
    have w2_m_x : w.heap.size < w2.heap.size + 1 := by omega
    obtain ⟨w2_c0_y, w2_c1_y, w2_f0_y, w2_f1_y⟩ := blk2 Kw2_y
    have Kw2_yH := Lib.hid Kw2_y
    have w2_l_y := Kw2_y.lt
    have w2_m_y : w.heap.size + 1 < w2.heap.size + 1 := by omega
    have w2z := hb2.size
    try simp at w2z
    have w2B := Lib.hid hb2
    clear Kw2_x Kw2_y
    clear hb2
    obtain ⟨w2_c0_p, w2_c1_p, w2_f0_p, w2_f1_p⟩ := blk2 Kg2
    have Kg2H := Lib.hid Kg2
    have w2_l_p := Kg2.lt
    clear Kg2
    go_upto_region 2 with fail
    have Kz3_x : Blk w2 (w.heap.size) #[.int .i64 S, .int .i64 L] := Kw2_xH.out
    have Kz3_y : Blk w2 (w.heap.size + 1) #[.int .i64 S2, .int .i64 L2] := Kw2_yH.out
    have Kz3_p : Blk w2 (g2) #[.int .i64 N, .int .i64 D] := Kg2H.out
    have Bz3 : Below w.heap.size w w2 := by (repeat' (first | exact Below.refl _ _ | refine bl_out ?_ (by assumption) | exact (Hid.out (by assumption)) | refine bl_alloc ?_ _ | refine bl_drewN ?_ _ | refine bl_drew ?_ | refine bl_set ?_ ?_ _ | omega | (simp; done) | (simp; omega)))
    generalize w2 = z3 at *
    obtain ⟨z3_c0_x, z3_c1_x, z3_f0_x, z3_f1_x⟩ := blk2 Kz3_x
    have Kz3_xH := Lib.hid Kz3_x
    have z3_l_x := Kz3_x.lt
    obtain ⟨z3_c0_y, z3_c1_y, z3_f0_y, z3_f1_y⟩ := blk2 Kz3_y
    have Kz3_yH := Lib.hid Kz3_y
    have z3_l_y := Kz3_y.lt
    obtain ⟨z3_c0_p, z3_c1_p, z3_f0_p, z3_f1_p⟩ := blk2 Kz3_p
    have Kz3_pH := Lib.hid Kz3_p
    have z3_l_p := Kz3_p.lt
    have z3B := Lib.hid Bz3
    clear Bz3
    clear Kz3_x Kz3_y Kz3_p
    go_cut [7, 8] (CutBlk z3 #[.int .i64 N, .int .i64 D] o)
    case first =>
      go_region_held3 (fun w' => Below z3.heap.size z3 w' ∧ w'.cell? ⟨w.heap.size, 0, none⟩ = some (.int .i64 S) ∧ w'.cell? ⟨w.heap.size, 1, none⟩ = some (.int .i64 L) ∧ w'.cell? ⟨w.heap.size + 1, 0, none⟩ = some (.int .i64 S2) ∧ w'.cell? ⟨w.heap.size + 1, 1, none⟩ = some (.int .i64 L2)) ((refine and_keep ?_ (fun hB => ⟨held_cell hB z3_c0_x z3_l_x, held_cell hB z3_c1_x z3_l_x, held_cell hB z3_c0_y z3_l_y, held_cell hB z3_c1_y z3_l_y⟩); (repeat' (first | with_reducible exact Below.refl _ _ | with_reducible refine bl_alloc ?_ _ | with_reducible refine bl_set ?_ ?_ _ | exact (Below.refl _ _).drew | with_reducible refine bl_drew ?_ | with_reducible refine btr ?_ hbC | with_reducible refine btr ?_ hbB | with_reducible refine btr ?_ hbA | omega | (simp; done) | (simp; omega))))) (first | (go_at_call_of 15 (Value.agg #[Value.int IntKind.i64 S, Value.int IntKind.i64 L]); refine (l_toTerm _ _ _).mono ?_; rintro e wA ⟨rfl, hbA⟩; obtain ⟨hcA, hfA⟩ := bcell hbA; have hzA : z3.heap.size ≤ wA.heap.size := (by first | exact hbA.size | exact Nat.le_trans hzA hbA.size | (have h0 := hbA.size; (try simp at h0); omega)); (try (have hyA : z3.heap.size < wA.heap.size := by (have h0 := hbA.size; (try simp at h0); omega)))) | (go_at_call_of 15 (Value.agg #[Value.int IntKind.i64 S2, Value.int IntKind.i64 L2]); refine (l_toTerm _ _ _).mono ?_; rintro e wB ⟨rfl, hbB⟩; obtain ⟨hcB, hfB⟩ := bcell hbB; have hzB : z3.heap.size ≤ wB.heap.size := (by first | exact hbB.size | exact Nat.le_trans hzA hbB.size | (have h0 := hbB.size; (try simp at h0); omega)); (try (have hyB : z3.heap.size < wB.heap.size := by (have h0 := hbB.size; (try simp at h0); omega))); (try (have hxAB : wA.heap.size < wB.heap.size := by (have h0 := hbB.size; (try simp at h0); omega)))) | (go_at_call 19; refine (n_iTot _ _ _ _ _ _ _ _ HX).mono ?_; rintro e wC ⟨rfl, hbC⟩; obtain ⟨hcC, hfC⟩ := bcell hbC; have hzC : z3.heap.size ≤ wC.heap.size := (by first | exact hbC.size | exact Nat.le_trans hzB hbC.size | (have h0 := hbC.size; (try simp at h0); omega)); (try (have hyC : z3.heap.size < wC.heap.size := by (have h0 := hbC.size; (try simp at h0); omega))); (try (have hxAC : wA.heap.size < wC.heap.size := by (have h0 := hbC.size; (try simp at h0); omega))); (try (have hxBC : wB.heap.size < wC.heap.size := by (have h0 := hbC.size; (try simp at h0); omega)))))
      all_goals
        go_wp2_with fail
        go_meet
        exact ⟨_, rfl, rfl, by (first | omega | (simp; omega)), by (repeat' (first | exact blk_new (by simp) | with_reducible refine blk_store2 (x := .int .i64 0) (y := .int .i64 0) ?_ | with_reducible refine blk_store3 (x := .int .i64 0) (y := .int .i64 0) (z := .int .i64 0) ?_ | with_reducible refine blk_drew ?_ | with_reducible refine blk_later hbC ?_ | with_reducible refine blk_later hbB ?_ | with_reducible refine blk_later hbA ?_)), by (repeat' (first | with_reducible exact Below.refl _ _ | with_reducible refine bl_alloc ?_ _ | with_reducible refine bl_set ?_ ?_ _ | exact (Below.refl _ _).drew | with_reducible refine bl_drew ?_ | with_reducible refine btr ?_ hbC | with_reducible refine btr ?_ hbB | with_reducible refine btr ?_ hbA | omega | (simp; done) | (simp; omega)))⟩
    case rest =>
      obtain ⟨g4, rfl, rfl, g4z, Kg4, hb4⟩ := hcut
      obtain ⟨w4, rfl⟩ : ∃ x, x = wc := ⟨_, rfl⟩
      have Kw4_p : Blk w4 (g2) #[.int .i64 N, .int .i64 D] := blk_later hb4 Kz3_pH.out
      obtain ⟨w4_c0_p, w4_c1_p, w4_f0_p, w4_f1_p⟩ := blk2 Kw4_p
      have Kw4_pH := Lib.hid Kw4_p
      have w4_l_p := Kw4_p.lt
      have w4_m_p : g2 < w4.heap.size + 1 := by omega
      have w4z := hb4.size
      try simp at w4z
      have w4B := Lib.hid hb4
      clear Kw4_p
      clear hb4
      obtain ⟨w4_c0_q, w4_c1_q, w4_f0_q, w4_f1_q⟩ := blk2 Kg4
      have Kg4H := Lib.hid Kg4
      have w4_l_q := Kg4.lt
      clear Kg4
      go_wp2_with fail
      refine (l_eqRat _ _ _).mono ?_
      rintro e w5 ⟨rfl, hb5⟩
      have Kw5_p : Blk w5 (g2) #[.int .i64 N, .int .i64 D] := blk_later hb5 Kw4_pH.out
      have Kw5_q : Blk w5 (g4) #[.int .i64 N, .int .i64 D] := blk_later hb5 Kg4H.out
      obtain ⟨w5_c0_p, w5_c1_p, w5_f0_p, w5_f1_p⟩ := blk2 Kw5_p
      have Kw5_pH := Lib.hid Kw5_p
      have w5_l_p := Kw5_p.lt
      have w5_m_p : g2 < w5.heap.size + 1 := by omega
      obtain ⟨w5_c0_q, w5_c1_q, w5_f0_q, w5_f1_q⟩ := blk2 Kw5_q
      have Kw5_qH := Lib.hid Kw5_q
      have w5_l_q := Kw5_q.lt
      have w5_m_q : g4 < w5.heap.size + 1 := by omega
      have w5z := hb5.size
      try simp at w5z
      have w5B := Lib.hid hb5
      clear Kw5_p Kw5_q
      clear hb5
      cases o
      all_goals
        go_wp2_with fail
        go_ret
        exact ⟨rfl, by (repeat' (first | exact Below.refl _ _ | refine bl_out ?_ (by assumption) | exact (Hid.out (by assumption)) | refine bl_alloc ?_ _ | refine bl_drewN ?_ _ | refine bl_drew ?_ | refine bl_set ?_ ?_ _ | omega | (simp; done) | (simp; omega)))⟩

end Go.Proofs.Ytneihommpncegaa
