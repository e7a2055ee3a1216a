/- Contracts of FactorOf, of the program and of the reference. -/
import Derived.Test.YtneihommpncegaaDoorPfa
import Derived.Test.YtneihommpncegaaDoorTm
import Derived.Test.YtneihommpncegaaDoorCl
import Derived.Test.YtneihommpncegaaDoorLv
import Derived.Test.YtneihommpncegaaDoorDl
namespace Go.Proofs.YtneihommpncegaaDoor
open Go.RowKit
set_option linter.unusedVariables false

/-- The package's errors lie in their variables: no nil. -/
def ErrIn (w : World) : Prop := (∃ t v, w.cell? ⟨0, 0, none⟩ = some (.iface t v)) ∧ (∃ t v, w.cell? ⟨1, 0, none⟩ = some (.iface t v)) ∧ 2 ≤ w.heap.size
theorem ErrIn.below {w w' : World} (h : ErrIn w) (hb : Below w.heap.size w w') : ErrIn w' := by
  obtain ⟨⟨t, v, h0⟩, ⟨t2, v2, h1⟩, hs⟩ := h
  exact ⟨⟨t, v, by rw [hb.cell (p := ⟨0, 0, none⟩) (show 0 < w.heap.size by omega)]; exact h0⟩, ⟨t2, v2, by rw [hb.cell (p := ⟨1, 0, none⟩) (show 1 < w.heap.size by omega)]; exact h1⟩, Nat.le_trans hs hb.size⟩
theorem ErrIn.alloc {w : World} (h : ErrIn w) (o : Obj) : ErrIn (w.alloc o) := h.below (bl_alloc (Below.refl _ _) _)

set_option maxRecDepth 100000 in
set_option maxHeartbeats 1000000 in
theorem i_squareF (S L J j : Int) (w : World) (h0 : 0 ≤ j) (h1 : j ≤ 24) :
    Calls Tryd.prog 33 #[.agg #[.int .i64 S, .int .i64 L, .int .i64 J], .int .i64 j] w fun e w' => e = .returned (.int .i64 (sqF j)) ∧ w.alloc (.cells #[.int .i64 S, .int .i64 L, .int .i64 J] 65) = w' := by
  have hb := sqF_bd h0 h1
  unfold sqF at hb
  go_enter Tryd.func33, Tryd.ntmps33
  go_wp2_with fail
  go_ret
  exact ⟨rfl, rfl⟩

set_option maxRecDepth 100000 in
set_option maxHeartbeats 400000 in
theorem s_l15SquareF (j : Int) (w : World) (h0 : 0 ≤ j) (h1 : j ≤ 24) :
    Calls Tryd.prog 19 #[.int .i64 j] w fun e w' => e = .returned (.int .i64 (sqF j)) ∧ w = w' := by
  have hb := sqF_bd h0 h1
  unfold sqF at hb
  go_enter Tryd.func19, Tryd.ntmps19
  go_wp2_with fail
  go_ret
  exact ⟨rfl, rfl⟩

theorem f_iRatOf (n d N D : Int) (o : Bool) (w : World) (h : Hid (ratOf n d = (N, D, o))) :
    Calls Tryd.prog 28 #[.int .i64 n, .int .i64 d] w fun e w' => e = .returned (.tuple #[.agg #[.int .i64 N, .int .i64 D], .bool o]) ∧ Below w.heap.size w w' :=
  (i_RatOf n d w).mono fun e w' ⟨he, hb⟩ => ⟨by rw [he, h.out]; rfl, hb⟩
theorem f_sRatOf (n d N D : Int) (o : Bool) (w : World) (h : Hid (ratOf n d = (N, D, o))) :
    Calls Tryd.prog 17 #[.int .i64 n, .int .i64 d] w fun e w' => e = .returned (.tuple #[.agg #[.int .i64 N, .int .i64 D], .bool o]) ∧ Below w.heap.size w w' :=
  (s_RatOf n d w).mono fun e w' ⟨he, hb⟩ => ⟨by rw [he, h.out]; rfl, hb⟩
/-- What factorOf leaves. -/
def RFac (w : World) (N D : Int) (o : Bool) (e : Ending) (w' : World) : Prop := (∃ er, e = .returned (.tuple #[.agg #[.int .i64 N, .int .i64 D], er]) ∧ ((o = true ∧ er = .nilIface) ∨ (o = false ∧ ∃ t v, er = .iface t v))) ∧ Below w.heap.size w w'

set_option maxRecDepth 100000 in
set_option maxHeartbeats 4000000 in
theorem i_factorOf (s l j N D : Int) (o : Bool) (w : World) (he : ErrIn w) (h : Hid (facI2 s l j = (N, D, o))) :
    Calls Tryd.prog 15 #[.agg #[.int .i64 s, .int .i64 l, .int .i64 j]] w (RFac w N D o) := by
  have HE := Lib.hid he
  have gw : 2 ≤ w.heap.size := he.2.2
  have h0 := h.out
  cases hv : lvB s l j
  · rw [facI2, if_neg (by simp [hv])] at h0
    simp only [Prod.mk.injEq] at h0
    obtain ⟨rfl, rfl, rfl⟩ := h0
    clear h
    go_enter Tryd.func15, Tryd.ntmps15
    go_wp2_with fail
    refine (i_LevelValid _ _ _ _).mono ?_
    rintro e w1 ⟨rfl, hb1⟩
    have Kw1_x : Blk w1 (w.heap.size) #[.int .i64 s, .int .i64 l, .int .i64 j] := blk_later hb1 (blk_alloc (blk_new (by simp)) (.cells #[.int .i64 0, .int .i64 0] 29))
    have Kw1_r : Blk w1 (w.heap.size + 1) #[.int .i64 0, .int .i64 0] := blk_later hb1 (blk_new (by simp))
    obtain ⟨w1_c0_x, w1_c1_x, w1_c2_x, w1_f0_x, w1_f1_x, w1_f2_x⟩ := blk3 Kw1_x
    have Kw1_xH := Lib.hid Kw1_x
    have w1_l_x := Kw1_x.lt
    have w1_m_x : w.heap.size < w1.heap.size + 1 := by omega
    obtain ⟨w1_c0_r, w1_c1_r, w1_f0_r, w1_f1_r⟩ := blk2 Kw1_r
    have Kw1_rH := Lib.hid Kw1_r
    have w1_l_r := Kw1_r.lt
    have w1_m_r : w.heap.size + 1 < w1.heap.size + 1 := by omega
    have w1z := hb1.size
    try simp at w1z
    have w1B := Lib.hid hb1
    clear Kw1_x Kw1_r
    clear hb1
    have HE1 := Lib.hid (ErrIn.below (ErrIn.alloc (ErrIn.alloc HE.out _) _) w1B.out)
    obtain ⟨⟨t0, v0, g0⟩, ⟨t1, v1, g1⟩, gs⟩ := HE1.out
    rw [hv]
    go_wp2_with fail
    have KQ : Blk _ (w.heap.size + 1) #[.int .i64 0, .int .i64 0] := Kw1_rH.out
    have nz : w.heap.size + 1 ≠ 0 := by omega
    have nz2 : 0 ≠ w.heap.size + 1 := by omega
    have nz3 : w.heap.size ≠ 0 := by omega
    have HKQ := Lib.hid KQ
    clear KQ
    go_region_held3 (fun w' => w'.cell? ⟨0, 0, none⟩ = some (.iface t0 v0)) (first | exact g0 | go_keep) (fail)
    all_goals go_wp2_with fail
    all_goals refine bodyPost_ret (v := .tuple #[.agg #[.int .i64 0, .int .i64 0], .iface t0 v0]) ?_ rfl ?_
    all_goals first
      | (have KR : Blk _ (w.heap.size + 1) #[.int .i64 0, .int .i64 0] := blk_drew (blk_set (blk_set HKQ.out 0 (.int .i64 0)) 1 (.int .i64 0))
         obtain ⟨r0, r1, _, _⟩ := blk2 KR
         (simp [results, Tryd.results15, go_sem, r0, r1]; done))
      | exact ⟨⟨_, rfl, .inr ⟨rfl, _, _, rfl⟩⟩, by (repeat' (first | exact Below.refl _ _ | refine bl_out ?_ (by assumption) | exact (Hid.out (by assumption)) | refine bl_alloc ?_ _ | refine bl_drewN ?_ _ | refine bl_drew ?_ | refine bl_set ?_ ?_ _ | omega | (simp; done) | (simp; omega)))⟩
  by_cases hj : j = 0
  · rw [facI2, if_neg (by simp [hj])] at h0
    simp only [Prod.mk.injEq] at h0
    obtain ⟨rfl, rfl, rfl⟩ := h0
    have hj1 : (j == 0) = true := by simp [hj]
    clear h hj
    go_enter Tryd.func15, Tryd.ntmps15
    go_wp2_with fail
    refine (i_LevelValid _ _ _ _).mono ?_
    rintro e w1 ⟨rfl, hb1⟩
    have Kw1_x : Blk w1 (w.heap.size) #[.int .i64 s, .int .i64 l, .int .i64 j] := blk_later hb1 (blk_alloc (blk_new (by simp)) (.cells #[.int .i64 0, .int .i64 0] 29))
    have Kw1_r : Blk w1 (w.heap.size + 1) #[.int .i64 0, .int .i64 0] := blk_later hb1 (blk_new (by simp))
    obtain ⟨w1_c0_x, w1_c1_x, w1_c2_x, w1_f0_x, w1_f1_x, w1_f2_x⟩ := blk3 Kw1_x
    have Kw1_xH := Lib.hid Kw1_x
    have w1_l_x := Kw1_x.lt
    have w1_m_x : w.heap.size < w1.heap.size + 1 := by omega
    obtain ⟨w1_c0_r, w1_c1_r, w1_f0_r, w1_f1_r⟩ := blk2 Kw1_r
    have Kw1_rH := Lib.hid Kw1_r
    have w1_l_r := Kw1_r.lt
    have w1_m_r : w.heap.size + 1 < w1.heap.size + 1 := by omega
    have w1z := hb1.size
    try simp at w1z
    have w1B := Lib.hid hb1
    clear Kw1_x Kw1_r
    clear hb1
    have HE1 := Lib.hid (ErrIn.below (ErrIn.alloc (ErrIn.alloc HE.out _) _) w1B.out)
    obtain ⟨⟨t0, v0, g0⟩, ⟨t1, v1, g1⟩, gs⟩ := HE1.out
    rw [hv]
    go_wp2_with fail
    have KQ : Blk _ (w.heap.size + 1) #[.int .i64 0, .int .i64 0] := Kw1_rH.out
    have nz : w.heap.size + 1 ≠ 1 := by omega
    have nz2 : 1 ≠ w.heap.size + 1 := by omega
    have nz3 : w.heap.size ≠ 0 := by omega
    have HKQ := Lib.hid KQ
    clear KQ
    go_region_held3 (fun w' => w'.cell? ⟨1, 0, none⟩ = some (.iface t1 v1)) (first | exact g1 | go_keep) (fail)
    all_goals go_wp2_with fail
    all_goals refine bodyPost_ret (v := .tuple #[.agg #[.int .i64 0, .int .i64 0], .iface t1 v1]) ?_ rfl ?_
    all_goals first
      | (have KR : Blk _ (w.heap.size + 1) #[.int .i64 0, .int .i64 0] := blk_drew (blk_set (blk_set HKQ.out 0 (.int .i64 0)) 1 (.int .i64 0))
         obtain ⟨r0, r1, _, _⟩ := blk2 KR
         (simp [results, Tryd.results15, go_sem, r0, r1]; done))
      | exact ⟨⟨_, rfl, .inr ⟨rfl, _, _, rfl⟩⟩, by (repeat' (first | exact Below.refl _ _ | refine bl_out ?_ (by assumption) | exact (Hid.out (by assumption)) | refine bl_alloc ?_ _ | refine bl_drewN ?_ _ | refine bl_drew ?_ | refine bl_set ?_ ?_ _ | omega | (simp; done) | (simp; omega)))⟩
  rw [facI2, if_pos ⟨hv, hj⟩] at h0
  have HX := Lib.hid h0
  clear h h0
  obtain ⟨⟨s0, s1⟩, ⟨l0, l1⟩, j0, j1⟩ := lv_bd2 hv
  obtain ⟨a0, a1⟩ := sqF_bd j0 j1
  obtain ⟨b0, b1⟩ := sqF_bd (j := s) (by omega) (by omega)
  obtain ⟨c0, c1⟩ := sqF_bd (j := 2 * l) (by omega) (by omega)
  have hj1 : (j == 0) = false := by simp [hj]
  clear hj
  go_enter Tryd.func15, Tryd.ntmps15
  go_wp2_with fail
  refine (i_LevelValid _ _ _ _).mono ?_
  rintro e w1 ⟨rfl, hb1⟩
  have Kw1_x : Blk w1 (w.heap.size) #[.int .i64 s, .int .i64 l, .int .i64 j] := blk_later hb1 (blk_alloc (blk_new (by simp)) (.cells #[.int .i64 0, .int .i64 0] 29))
  have Kw1_r : Blk w1 (w.heap.size + 1) #[.int .i64 0, .int .i64 0] := blk_later hb1 (blk_new (by simp))
  obtain ⟨w1_c0_x, w1_c1_x, w1_c2_x, w1_f0_x, w1_f1_x, w1_f2_x⟩ := blk3 Kw1_x
  have Kw1_xH := Lib.hid Kw1_x
  have w1_l_x := Kw1_x.lt
  have w1_m_x : w.heap.size < w1.heap.size + 1 := by omega
  obtain ⟨w1_c0_r, w1_c1_r, w1_f0_r, w1_f1_r⟩ := blk2 Kw1_r
  have Kw1_rH := Lib.hid Kw1_r
  have w1_l_r := Kw1_r.lt
  have w1_m_r : w.heap.size + 1 < w1.heap.size + 1 := by omega
  have w1z := hb1.size
  try simp at w1z
  have w1B := Lib.hid hb1
  clear Kw1_x Kw1_r
  clear hb1
  have HE1 := Lib.hid (ErrIn.below (ErrIn.alloc (ErrIn.alloc HE.out _) _) w1B.out)
  obtain ⟨⟨t0, v0, g0⟩, ⟨t1, v1, g1⟩, gs⟩ := HE1.out
  rw [hv]
  clear hv
  go_wp2_with fail
  refine (i_squareF _ _ _ _ _ (by omega) (by omega)).mono ?_
  rintro e w2 ⟨rfl, rfl⟩
  have u1 : IntKind.i64.wrap (2 * sqF j) = 2 * sqF j := IntWalk.i64_in _ (by omega)
  have u2 : IntKind.i64.wrap (2 * sqF j + sqF j) = 2 * sqF j + sqF j := IntWalk.i64_in _ (by omega)
  have u3 : IntKind.i64.wrap (2 * sqF j + sqF j + sqF s) = 2 * sqF j + sqF j + sqF s := IntWalk.i64_in _ (by omega)
  have u4 : IntKind.i64.wrap (2 * l) = 2 * l := IntWalk.i64_in _ (by omega)
  have u5 : IntKind.i64.wrap (2 * sqF j + sqF j + sqF s - sqF (2 * l)) = 2 * sqF j + sqF j + sqF s - sqF (2 * l) := IntWalk.i64_in _ (by omega)
  go_upto_region 7 with fail
  have Kz2_x : Blk ((w1.alloc (.cells #[.int .i64 s, .int .i64 l, .int .i64 j] 65)).alloc (.cells #[.int .i64 s, .int .i64 l, .int .i64 j] 65)) (w.heap.size) #[.int .i64 s, .int .i64 l, .int .i64 j] := (blk_alloc (blk_alloc Kw1_xH.out (.cells #[.int .i64 s, .int .i64 l, .int .i64 j] 65)) (.cells #[.int .i64 s, .int .i64 l, .int .i64 j] 65))
  have Kz2_r : Blk ((w1.alloc (.cells #[.int .i64 s, .int .i64 l, .int .i64 j] 65)).alloc (.cells #[.int .i64 s, .int .i64 l, .int .i64 j] 65)) (w.heap.size + 1) #[.int .i64 0, .int .i64 0] := (blk_alloc (blk_alloc Kw1_rH.out (.cells #[.int .i64 s, .int .i64 l, .int .i64 j] 65)) (.cells #[.int .i64 s, .int .i64 l, .int .i64 j] 65))
  have Kz2_m : Blk ((w1.alloc (.cells #[.int .i64 s, .int .i64 l, .int .i64 j] 65)).alloc (.cells #[.int .i64 s, .int .i64 l, .int .i64 j] 65)) (w1.heap.size) #[.int .i64 s, .int .i64 l, .int .i64 j] := (blk_alloc (blk_new (by simp)) (.cells #[.int .i64 s, .int .i64 l, .int .i64 j] 65))
  have Bz2 : Below w.heap.size w ((w1.alloc (.cells #[.int .i64 s, .int .i64 l, .int .i64 j] 65)).alloc (.cells #[.int .i64 s, .int .i64 l, .int .i64 j] 65)) := by (repeat' (first | exact Below.refl _ _ | refine bl_out ?_ (by assumption) | exact (Hid.out (by assumption)) | refine bl_alloc ?_ _ | refine bl_drewN ?_ _ | refine bl_drew ?_ | refine bl_set ?_ ?_ _ | omega | (simp; done) | (simp; omega)))
  have Sz2 : ((w1.alloc (.cells #[.int .i64 s, .int .i64 l, .int .i64 j] 65)).alloc (.cells #[.int .i64 s, .int .i64 l, .int .i64 j] 65)).heap.size = w1.heap.size + 2 := by simp
  generalize ((w1.alloc (.cells #[.int .i64 s, .int .i64 l, .int .i64 j] 65)).alloc (.cells #[.int .i64 s, .int .i64 l, .int .i64 j] 65)) = z2 at *
  have Sz2a := Nat.le_of_eq Sz2
  have Sz2b := Nat.le_of_eq Sz2.symm
  clear Sz2
  obtain ⟨z2_c0_x, z2_c1_x, z2_c2_x, z2_f0_x, z2_f1_x, z2_f2_x⟩ := blk3 Kz2_x
  have Kz2_xH := Lib.hid Kz2_x
  have z2_l_x := Kz2_x.lt
  obtain ⟨z2_c0_r, z2_c1_r, z2_f0_r, z2_f1_r⟩ := blk2 Kz2_r
  have Kz2_rH := Lib.hid Kz2_r
  have z2_l_r := Kz2_r.lt
  obtain ⟨z2_c0_m, z2_c1_m, z2_c2_m, z2_f0_m, z2_f1_m, z2_f2_m⟩ := blk3 Kz2_m
  have Kz2_mH := Lib.hid Kz2_m
  have z2_l_m := Kz2_m.lt
  have z2B := Lib.hid Bz2
  clear Bz2
  clear Kz2_x Kz2_r Kz2_m
  have gz : 2 ≤ z2.heap.size := by omega
  go_cut [6, 7] (CutBlk z2 #[.int .i64 N, .int .i64 D] o)
  case first =>
    go_region_held3 (fun w' => Below z2.heap.size z2 w' ∧ w'.cell? ⟨w.heap.size, 0, none⟩ = some (.int .i64 s) ∧ w'.cell? ⟨w.heap.size, 1, none⟩ = some (.int .i64 l) ∧ w'.cell? ⟨w.heap.size, 2, none⟩ = some (.int .i64 j) ∧ w'.cell? ⟨w1.heap.size, 0, none⟩ = some (.int .i64 s) ∧ w'.cell? ⟨w1.heap.size, 1, none⟩ = some (.int .i64 l) ∧ w'.cell? ⟨w1.heap.size, 2, none⟩ = some (.int .i64 j)) ((refine and_keep ?_ (fun hB => ⟨held_cell hB z2_c0_x z2_l_x, held_cell hB z2_c1_x z2_l_x, held_cell hB z2_c2_x z2_l_x, held_cell hB z2_c0_m z2_l_m, held_cell hB z2_c1_m z2_l_m, held_cell hB z2_c2_m z2_l_m⟩); (repeat' (first | with_reducible exact Below.refl _ _ | with_reducible refine bl_alloc ?_ _ | with_reducible refine bl_set ?_ ?_ _ | exact (Below.refl _ _).drew | with_reducible refine bl_drew ?_ | with_reducible refine btr ?_ hbA | omega | (simp; done) | (simp; omega))))) (first | (go_at_call 33; refine (i_squareF _ _ _ _ _ (by omega) (by omega)).mono ?_; rintro e w' ⟨rfl, rfl⟩) | (go_at_call 28; refine (f_iRatOf _ _ _ _ _ _ HX).mono ?_; rintro e wA ⟨rfl, hbA⟩; obtain ⟨hcA, hfA⟩ := bcell hbA; have hzA : z2.heap.size ≤ wA.heap.size := (by have h0 := hbA.size; (try simp at h0); omega); (try (have hyA : z2.heap.size < wA.heap.size := by (have h0 := hbA.size; (try simp at h0); omega)))))
    all_goals
      go_wp2_with fail
      go_meet
      exact ⟨_, rfl, rfl, by (first | omega | (simp; omega)), by (repeat' (first | exact blk_new (by simp) | with_reducible refine blk_alloc ?_ _ | with_reducible refine blk_store2 (x := .int .i64 0) (y := .int .i64 0) ?_ | with_reducible refine blk_store3 (x := .int .i64 0) (y := .int .i64 0) (z := .int .i64 0) ?_ | with_reducible refine blk_drew ?_ | with_reducible refine blk_later hbA ?_)), by (repeat' (first | with_reducible exact Below.refl _ _ | with_reducible refine bl_alloc ?_ _ | with_reducible refine bl_set ?_ ?_ _ | exact (Below.refl _ _).drew | with_reducible refine bl_drew ?_ | with_reducible refine btr ?_ hbA | omega | (simp; done) | (simp; omega)))⟩
  case rest =>
    obtain ⟨g3, rfl, rfl, g3z, K3, hb3⟩ := hcut
    obtain ⟨w3, rfl⟩ : ∃ x, x = wc := ⟨_, rfl⟩
    clear u1 u2 u3 u4 u5
    have Kw3_x : Blk w3 (w.heap.size) #[.int .i64 s, .int .i64 l, .int .i64 j] := blk_later hb3 Kz2_xH.out
    have Kw3_r : Blk w3 (w.heap.size + 1) #[.int .i64 0, .int .i64 0] := blk_later hb3 Kz2_rH.out
    have Kw3_m : Blk w3 (w1.heap.size) #[.int .i64 s, .int .i64 l, .int .i64 j] := blk_later hb3 Kz2_mH.out
    obtain ⟨w3_c0_x, w3_c1_x, w3_c2_x, w3_f0_x, w3_f1_x, w3_f2_x⟩ := blk3 Kw3_x
    have Kw3_xH := Lib.hid Kw3_x
    have w3_l_x := Kw3_x.lt
    have w3_m_x : w.heap.size < w3.heap.size + 1 := by omega
    obtain ⟨w3_c0_r, w3_c1_r, w3_f0_r, w3_f1_r⟩ := blk2 Kw3_r
    have Kw3_rH := Lib.hid Kw3_r
    have w3_l_r := Kw3_r.lt
    have w3_m_r : w.heap.size + 1 < w3.heap.size + 1 := by omega
    obtain ⟨w3_c0_m, w3_c1_m, w3_c2_m, w3_f0_m, w3_f1_m, w3_f2_m⟩ := blk3 Kw3_m
    have Kw3_mH := Lib.hid Kw3_m
    have w3_l_m := Kw3_m.lt
    have w3_m_m : w1.heap.size < w3.heap.size + 1 := by omega
    have w3z := hb3.size
    try simp at w3z
    have w3B := Lib.hid hb3
    clear Kw3_x Kw3_r Kw3_m
    clear hb3
    have HE3 := Lib.hid (ErrIn.below (ErrIn.below HE.out z2B.out) w3B.out)
    have HK3 := Lib.hid K3
    obtain ⟨q0, q1, q2, q3⟩ := blk2 K3
    have q4 := K3.lt
    clear K3
    cases ho : o
    · subst ho
      obtain ⟨rfl, rfl⟩ := ratOf_no HX.out
      obtain ⟨⟨t0, v0, g0⟩, ⟨t1, v1, g1⟩, gs⟩ := HE3.out
      go_wp2_with fail
      have KQ : Blk _ (w.heap.size + 1) #[.int .i64 0, .int .i64 0] := Kw3_rH.out
      have nz : w.heap.size + 1 ≠ 0 := by omega
      have nz2 : 0 ≠ w.heap.size + 1 := by omega
      have nz3 : w.heap.size ≠ 0 := by omega
      have HKQ := Lib.hid KQ
      clear KQ
      go_region_held3 (fun w' => w'.cell? ⟨0, 0, none⟩ = some (.iface t0 v0)) (first | exact g0 | go_keep) (fail)
      all_goals go_wp2_with fail
      all_goals refine bodyPost_ret (v := .tuple #[.agg #[.int .i64 0, .int .i64 0], .iface t0 v0]) ?_ rfl ?_
      all_goals first
        | (have KR : Blk _ (w.heap.size + 1) #[.int .i64 0, .int .i64 0] := blk_drew (blk_set (blk_set HKQ.out 0 (.int .i64 0)) 1 (.int .i64 0))
           obtain ⟨r0, r1, _, _⟩ := blk2 KR
           (simp [results, Tryd.results15, go_sem, r0, r1]; done))
        | exact ⟨⟨_, rfl, .inr ⟨rfl, _, _, rfl⟩⟩, by (repeat' (first | exact Below.refl _ _ | refine bl_out ?_ (by assumption) | exact (Hid.out (by assumption)) | refine bl_alloc ?_ _ | refine bl_drewN ?_ _ | refine bl_drew ?_ | refine bl_set ?_ ?_ _ | omega | (simp; done) | (simp; omega)))⟩
    · subst ho
      go_wp2_with fail
      refine bodyPost_ret (v := .tuple #[.agg #[.int .i64 N, .int .i64 D], .nilIface]) ?_ rfl ?_
      · have KR : Blk _ (w.heap.size + 1) #[.int .i64 N, .int .i64 D] := (blk_set (blk_set Kw3_rH.out 0 (.int .i64 N)) 1 (.int .i64 D))
        obtain ⟨r0, r1, _, _⟩ := blk2 KR
        simp [results, Tryd.results15, go_sem, r0, r1]
      · exact ⟨⟨_, rfl, .inl ⟨rfl, rfl⟩⟩, by (repeat' (first | exact Below.refl _ _ | refine bl_out ?_ (by assumption) | exact (Hid.out (by assumption)) | refine bl_alloc ?_ _ | refine bl_drewN ?_ _ | refine bl_drew ?_ | refine bl_set ?_ ?_ _ | omega | (simp; done) | (simp; omega)))⟩

set_option maxRecDepth 100000 in
set_option maxHeartbeats 2000000 in
theorem i_FactorOf (s l j N D : Int) (o : Bool) (w : World) (he : ErrIn w) (h : Hid (facI2 s l j = (N, D, o))) :
    Calls Tryd.prog 5 #[.agg #[.int .i64 s, .int .i64 l, .int .i64 j]] w (fun e w' => e = .returned (.tuple #[.agg #[.int .i64 N, .int .i64 D], .bool o]) ∧ Below w.heap.size w w') := by
  have HE := Lib.hid he
  go_enter Tryd.func5, Tryd.ntmps5
  go_wp2_with fail
  refine (i_factorOf _ _ _ _ _ _ _ (ErrIn.alloc (ErrIn.alloc HE.out _) _) h).mono ?_
  rintro e w1 ⟨⟨er, rfl, her⟩, hb1⟩
  have Kw1_r : Blk w1 (w.heap.size + 1) #[.int .i64 0, .int .i64 0] := blk_later hb1 (blk_new (by simp))
  obtain ⟨w1_c0_r, w1_c1_r, w1_f0_r, w1_f1_r⟩ := blk2 Kw1_r
  have Kw1_rH := Lib.hid Kw1_r
  have w1_l_r := Kw1_r.lt
  have w1_m_r : w.heap.size + 1 < w1.heap.size + 1 := by omega
  have w1z := hb1.size
  try simp at w1z
  have w1B := Lib.hid hb1
  clear Kw1_r
  clear hb1
  rcases her with ⟨rfl, rfl⟩ | ⟨rfl, t, v, rfl⟩
  · skip
    go_wp2_with fail
    refine bodyPost_ret (v := .tuple #[.agg #[.int .i64 N, .int .i64 D], .bool true]) ?_ rfl ?_
    · have KR : Blk _ (w.heap.size + 1) #[.int .i64 N, .int .i64 D] := (blk_alloc (blk_set (blk_set Kw1_rH.out 0 (.int .i64 N)) 1 (.int .i64 D)) (.cells #[.int .i64 N, .int .i64 D] 29))
      obtain ⟨r0, r1, _, _⟩ := blk2 KR
      simp [results, Tryd.results5, go_sem, r0, r1]
    · exact ⟨rfl, by (repeat' (first | exact Below.refl _ _ | refine bl_out ?_ (by assumption) | exact (Hid.out (by assumption)) | refine bl_alloc ?_ _ | refine bl_drewN ?_ _ | refine bl_drew ?_ | refine bl_set ?_ ?_ _ | omega | (simp; done) | (simp; omega)))⟩
  · obtain ⟨rfl, rfl⟩ := fac_no h.out
    go_wp2_with fail
    refine bodyPost_ret (v := .tuple #[.agg #[.int .i64 0, .int .i64 0], .bool false]) ?_ rfl ?_
    · have KR : Blk _ (w.heap.size + 1) #[.int .i64 0, .int .i64 0] := (blk_alloc (blk_set (blk_set Kw1_rH.out 0 (.int .i64 0)) 1 (.int .i64 0)) (.cells #[.int .i64 0, .int .i64 0] 29))
      obtain ⟨r0, r1, _, _⟩ := blk2 KR
      simp [results, Tryd.results5, go_sem, r0, r1]
    · exact ⟨rfl, by (repeat' (first | exact Below.refl _ _ | refine bl_out ?_ (by assumption) | exact (Hid.out (by assumption)) | refine bl_alloc ?_ _ | refine bl_drewN ?_ _ | refine bl_drew ?_ | refine bl_set ?_ ?_ _ | omega | (simp; done) | (simp; omega)))⟩

set_option maxRecDepth 100000 in
set_option maxHeartbeats 2000000 in
theorem s_l16Twice (s l j : Int) (w : World) (hv : lvB s l j = true) :
    Calls Tryd.prog 18 #[.agg #[.int .i64 s, .int .i64 l, .int .i64 j]] w (fun e w' => e = .returned (.int .i64 (2 * sqF j + sqF j + sqF s - sqF (2 * l))) ∧ Below w.heap.size w w') := by
  obtain ⟨⟨s0, s1⟩, ⟨l0, l1⟩, j0, j1⟩ := lv_bd2 hv
  obtain ⟨a0, a1⟩ := sqF_bd j0 j1
  obtain ⟨b0, b1⟩ := sqF_bd (j := s) (by omega) (by omega)
  obtain ⟨c0, c1⟩ := sqF_bd (j := 2 * l) (by omega) (by omega)
  clear hv
  go_enter Tryd.func18, Tryd.ntmps18
  go_wp2_with (go_at_call 19; refine (s_l15SquareF _ _ (by omega) (by omega)).mono ?_; rintro e w' ⟨rfl, rfl⟩)
  have u1 : IntKind.i64.wrap (2 * sqF j) = 2 * sqF j := IntWalk.i64_in _ (by omega)
  have u2 : IntKind.i64.wrap (2 * sqF j + sqF j) = 2 * sqF j + sqF j := IntWalk.i64_in _ (by omega)
  have u3 : IntKind.i64.wrap (2 * sqF j + sqF j + sqF s) = 2 * sqF j + sqF j + sqF s := IntWalk.i64_in _ (by omega)
  have u4 : IntKind.i64.wrap (2 * l) = 2 * l := IntWalk.i64_in _ (by omega)
  have u5 : IntKind.i64.wrap (2 * sqF j + sqF j + sqF s - sqF (2 * l)) = 2 * sqF j + sqF j + sqF s - sqF (2 * l) := IntWalk.i64_in _ (by omega)
  have Kz1_x : Blk (w.alloc (.cells #[.int .i64 s, .int .i64 l, .int .i64 j] 26)) (w.heap.size) #[.int .i64 s, .int .i64 l, .int .i64 j] := (blk_new (by simp))
  have Bz1 : Below w.heap.size w (w.alloc (.cells #[.int .i64 s, .int .i64 l, .int .i64 j] 26)) := by (repeat' (first | exact Below.refl _ _ | refine bl_out ?_ (by assumption) | exact (Hid.out (by assumption)) | refine bl_alloc ?_ _ | refine bl_drewN ?_ _ | refine bl_drew ?_ | refine bl_set ?_ ?_ _ | omega | (simp; done) | (simp; omega)))
  have Sz1 : (w.alloc (.cells #[.int .i64 s, .int .i64 l, .int .i64 j] 26)).heap.size = w.heap.size + 1 := by simp
  generalize (w.alloc (.cells #[.int .i64 s, .int .i64 l, .int .i64 j] 26)) = z1 at *
  have Sz1a := Nat.le_of_eq Sz1
  have Sz1b := Nat.le_of_eq Sz1.symm
  clear Sz1
  obtain ⟨z1_c0_x, z1_c1_x, z1_c2_x, z1_f0_x, z1_f1_x, z1_f2_x⟩ := blk3 Kz1_x
  have Kz1_xH := Lib.hid Kz1_x
  have z1_l_x := Kz1_x.lt
  have z1B := Lib.hid Bz1
  clear Bz1
  clear Kz1_x
  go_region_held3 (fun w' => Below z1.heap.size z1 w' ∧ w'.cell? ⟨w.heap.size, 0, none⟩ = some (.int .i64 s) ∧ w'.cell? ⟨w.heap.size, 1, none⟩ = some (.int .i64 l) ∧ w'.cell? ⟨w.heap.size, 2, none⟩ = some (.int .i64 j)) ((refine and_keep ?_ (fun hB => ⟨held_cell hB z1_c0_x z1_l_x, held_cell hB z1_c1_x z1_l_x, held_cell hB z1_c2_x z1_l_x⟩); (first | exact (Below.refl _ _).drew | exact Below.refl _ _))) ((go_at_call 19; refine (s_l15SquareF _ _ (by omega) (by omega)).mono ?_; rintro e w' ⟨rfl, rfl⟩))
  go_wp2_with fail
  go_ret
  exact ⟨rfl, btr z1B.out (Below.refl _ _).drew⟩

set_option maxRecDepth 100000 in
set_option maxHeartbeats 4000000 in
theorem s_FactorOf (s l j N D : Int) (o : Bool) (w : World) (h : Hid (facI2 s l j = (N, D, o))) :
    Calls Tryd.prog 6 #[.agg #[.int .i64 s, .int .i64 l, .int .i64 j]] w (fun e w' => e = .returned (.tuple #[.agg #[.int .i64 N, .int .i64 D], .bool o]) ∧ Below w.heap.size w w') := by
  have h0 := h.out
  cases hv : lvB s l j
  · rw [facI2, if_neg (by simp [hv])] at h0
    simp only [Prod.mk.injEq] at h0
    obtain ⟨rfl, rfl, rfl⟩ := h0
    clear h
    go_enter Tryd.func6, Tryd.ntmps6
    go_wp2_with fail
    refine (s_LevelValid _ _ _ _).mono ?_
    rintro e w1 ⟨rfl, hb1⟩
    have Kw1_x : Blk w1 (w.heap.size) #[.int .i64 s, .int .i64 l, .int .i64 j] := blk_later hb1 (blk_alloc (blk_new (by simp)) (.cells #[.int .i64 0, .int .i64 0] 29))
    have Kw1_r : Blk w1 (w.heap.size + 1) #[.int .i64 0, .int .i64 0] := blk_later hb1 (blk_new (by simp))
    obtain ⟨w1_c0_x, w1_c1_x, w1_c2_x, w1_f0_x, w1_f1_x, w1_f2_x⟩ := blk3 Kw1_x
    have Kw1_xH := Lib.hid Kw1_x
    have w1_l_x := Kw1_x.lt
    have w1_m_x : w.heap.size < w1.heap.size + 1 := by omega
    obtain ⟨w1_c0_r, w1_c1_r, w1_f0_r, w1_f1_r⟩ := blk2 Kw1_r
    have Kw1_rH := Lib.hid Kw1_r
    have w1_l_r := Kw1_r.lt
    have w1_m_r : w.heap.size + 1 < w1.heap.size + 1 := by omega
    have w1z := hb1.size
    try simp at w1z
    have w1B := Lib.hid hb1
    clear Kw1_x Kw1_r
    clear hb1
    rw [hv]
    go_wp2_with fail
    refine bodyPost_ret (v := .tuple #[.agg #[.int .i64 0, .int .i64 0], .bool false]) ?_ rfl ?_
    · have KR : Blk _ (w.heap.size + 1) #[.int .i64 0, .int .i64 0] := (blk_set (blk_set Kw1_rH.out 0 (.int .i64 0)) 1 (.int .i64 0))
      obtain ⟨r0, r1, _, _⟩ := blk2 KR
      simp [results, Tryd.results6, go_sem, r0, r1]
    · exact ⟨rfl, by (repeat' (first | exact Below.refl _ _ | refine bl_out ?_ (by assumption) | exact (Hid.out (by assumption)) | refine bl_alloc ?_ _ | refine bl_drewN ?_ _ | refine bl_drew ?_ | refine bl_set ?_ ?_ _ | omega | (simp; done) | (simp; omega)))⟩
  by_cases hj : j = 0
  · rw [facI2, if_neg (by simp [hj])] at h0
    simp only [Prod.mk.injEq] at h0
    obtain ⟨rfl, rfl, rfl⟩ := h0
    have hj1 : (j == 0) = true := by simp [hj]
    clear h hj
    go_enter Tryd.func6, Tryd.ntmps6
    go_wp2_with fail
    refine (s_LevelValid _ _ _ _).mono ?_
    rintro e w1 ⟨rfl, hb1⟩
    have Kw1_x : Blk w1 (w.heap.size) #[.int .i64 s, .int .i64 l, .int .i64 j] := blk_later hb1 (blk_alloc (blk_new (by simp)) (.cells #[.int .i64 0, .int .i64 0] 29))
    have Kw1_r : Blk w1 (w.heap.size + 1) #[.int .i64 0, .int .i64 0] := blk_later hb1 (blk_new (by simp))
    obtain ⟨w1_c0_x, w1_c1_x, w1_c2_x, w1_f0_x, w1_f1_x, w1_f2_x⟩ := blk3 Kw1_x
    have Kw1_xH := Lib.hid Kw1_x
    have w1_l_x := Kw1_x.lt
    have w1_m_x : w.heap.size < w1.heap.size + 1 := by omega
    obtain ⟨w1_c0_r, w1_c1_r, w1_f0_r, w1_f1_r⟩ := blk2 Kw1_r
    have Kw1_rH := Lib.hid Kw1_r
    have w1_l_r := Kw1_r.lt
    have w1_m_r : w.heap.size + 1 < w1.heap.size + 1 := by omega
    have w1z := hb1.size
    try simp at w1z
    have w1B := Lib.hid hb1
    clear Kw1_x Kw1_r
    clear hb1
    rw [hv]
    go_wp2_with fail
    refine bodyPost_ret (v := .tuple #[.agg #[.int .i64 0, .int .i64 0], .bool false]) ?_ rfl ?_
    · have KR : Blk _ (w.heap.size + 1) #[.int .i64 0, .int .i64 0] := (blk_set (blk_set Kw1_rH.out 0 (.int .i64 0)) 1 (.int .i64 0))
      obtain ⟨r0, r1, _, _⟩ := blk2 KR
      simp [results, Tryd.results6, go_sem, r0, r1]
    · exact ⟨rfl, by (repeat' (first | exact Below.refl _ _ | refine bl_out ?_ (by assumption) | exact (Hid.out (by assumption)) | refine bl_alloc ?_ _ | refine bl_drewN ?_ _ | refine bl_drew ?_ | refine bl_set ?_ ?_ _ | omega | (simp; done) | (simp; omega)))⟩
  rw [facI2, if_pos ⟨hv, hj⟩] at h0
  have HX := Lib.hid h0
  clear h h0
  obtain ⟨⟨s0, s1⟩, ⟨l0, l1⟩, j0, j1⟩ := lv_bd2 hv
  obtain ⟨a0, a1⟩ := sqF_bd j0 j1
  obtain ⟨b0, b1⟩ := sqF_bd (j := s) (by omega) (by omega)
  obtain ⟨c0, c1⟩ := sqF_bd (j := 2 * l) (by omega) (by omega)
  have hj1 : (j == 0) = false := by simp [hj]
  have HV := Lib.hid hv
  clear hj
  go_enter Tryd.func6, Tryd.ntmps6
  go_wp2_with fail
  refine (s_LevelValid _ _ _ _).mono ?_
  rintro e w1 ⟨rfl, hb1⟩
  have Kw1_x : Blk w1 (w.heap.size) #[.int .i64 s, .int .i64 l, .int .i64 j] := blk_later hb1 (blk_alloc (blk_new (by simp)) (.cells #[.int .i64 0, .int .i64 0] 29))
  have Kw1_r : Blk w1 (w.heap.size + 1) #[.int .i64 0, .int .i64 0] := blk_later hb1 (blk_new (by simp))
  obtain ⟨w1_c0_x, w1_c1_x, w1_c2_x, w1_f0_x, w1_f1_x, w1_f2_x⟩ := blk3 Kw1_x
  have Kw1_xH := Lib.hid Kw1_x
  have w1_l_x := Kw1_x.lt
  have w1_m_x : w.heap.size < w1.heap.size + 1 := by omega
  obtain ⟨w1_c0_r, w1_c1_r, w1_f0_r, w1_f1_r⟩ := blk2 Kw1_r
  have Kw1_rH := Lib.hid Kw1_r
  have w1_l_r := Kw1_r.lt
  have w1_m_r : w.heap.size + 1 < w1.heap.size + 1 := by omega
  have w1z := hb1.size
  try simp at w1z
  have w1B := Lib.hid hb1
  clear Kw1_x Kw1_r
  clear hb1
  rw [hv]
  clear hv
  have u1 : IntKind.i64.wrap (2 * sqF j) = 2 * sqF j := IntWalk.i64_in _ (by omega)
  go_wp2_with fail
  have Kz2_x : Blk w1 (w.heap.size) #[.int .i64 s, .int .i64 l, .int .i64 j] := Kw1_xH.out
  have Kz2_r : Blk w1 (w.heap.size + 1) #[.int .i64 0, .int .i64 0] := Kw1_rH.out
  have Bz2 : Below w.heap.size w w1 := by (repeat' (first | exact Below.refl _ _ | refine bl_out ?_ (by assumption) | exact (Hid.out (by assumption)) | refine bl_alloc ?_ _ | refine bl_drewN ?_ _ | refine bl_drew ?_ | refine bl_set ?_ ?_ _ | omega | (simp; done) | (simp; omega)))
  generalize w1 = z2 at *
  obtain ⟨z2_c0_x, z2_c1_x, z2_c2_x, z2_f0_x, z2_f1_x, z2_f2_x⟩ := blk3 Kz2_x
  have Kz2_xH := Lib.hid Kz2_x
  have z2_l_x := Kz2_x.lt
  obtain ⟨z2_c0_r, z2_c1_r, z2_f0_r, z2_f1_r⟩ := blk2 Kz2_r
  have Kz2_rH := Lib.hid Kz2_r
  have z2_l_r := Kz2_r.lt
  have z2B := Lib.hid Bz2
  clear Bz2
  clear Kz2_x Kz2_r
  have nx : w.heap.size ≠ w.heap.size + 1 := by omega
  have nx2 : w.heap.size + 1 ≠ w.heap.size := by omega
  go_region_held3 (fun w' => w'.cell? ⟨w.heap.size, 0, none⟩ = some (.int .i64 s) ∧ w'.cell? ⟨w.heap.size, 1, none⟩ = some (.int .i64 l) ∧ w'.cell? ⟨w.heap.size, 2, none⟩ = some (.int .i64 j)) (first | exact ⟨z2_c0_x, z2_c1_x, z2_c2_x⟩ | exact ⟨held_cell hbA z2_c0_x z2_l_x, held_cell hbA z2_c1_x z2_l_x, held_cell hbA z2_c2_x z2_l_x⟩ | exact ⟨y0, y1, y2⟩ | go_keep) (first | (go_at_call 18; refine (s_l16Twice _ _ _ _ HV.out).mono ?_; rintro e wA ⟨rfl, hbA⟩; have e0 := held_cell hbA z2_c0_x z2_l_x; have e1 := held_cell hbA z2_c1_x z2_l_x; have e2 := held_cell hbA z2_c2_x z2_l_x; have eA := Nat.lt_of_lt_of_le z2_l_x hbA.size) | (go_at_call 19; refine (s_l15SquareF _ _ (by omega) (by omega)).mono ?_; rintro e w' ⟨rfl, rfl⟩) | (go_at_call 17; refine (f_sRatOf _ _ _ _ _ _ HX).mono ?_; rintro e wB ⟨rfl, hbB⟩; have y0 := held_cell hbB e0 eA; have y1 := held_cell hbB e1 eA; have y2 := held_cell hbB e2 eA; have KB : Blk wB (w.heap.size + 1) #[.int .i64 0, .int .i64 0] := blk_later hbB (blk_later hbA (blk_drew Kz2_rH.out)); obtain ⟨k0, k1, f0, f1⟩ := blk2 KB; have HKB := Lib.hid KB; clear KB))
  all_goals go_wp2_with fail
  all_goals refine bodyPost_ret (v := .tuple #[.agg #[.int .i64 N, .int .i64 D], .bool o]) ?_ rfl ?_
  all_goals first
    | (have KR : Blk _ (w.heap.size + 1) #[.int .i64 N, .int .i64 D] := blk_set (blk_set HKB.out 0 (.int .i64 N)) 1 (.int .i64 D)
       obtain ⟨r0, r1, _, _⟩ := blk2 KR
       (simp [results, Tryd.results6, go_sem, r0, r1]; done))
    | exact ⟨rfl, bl_set (bl_set (btr (btr (bl_drew z2B.out) hbA) hbB) (by simp) _) (by simp) _⟩

set_option maxRecDepth 100000 in
set_option maxHeartbeats 2000000 in
theorem s_DrawFactorOf (s : Option Addr) (len cap : Nat) (w : World) (h : Code w s len cap) (hl : len ≤ 9223372036854775807) (hc : cap ≤ 9223372036854775807) :
    Calls Tryd.prog 4 #[.slice s len cap] w (RDrawL1 w) := by
  have H := Lib.hid h
  clear h
  go_enter Tryd.func4, Tryd.ntmps4
  go_wp2_with fail
  refine (s_l6Open s len cap _ (code_alloc H.out _) hl hc).mono ?_
  rintro e w1 ⟨rfl, hr, hb1⟩
  have hR := hr.lt
  have w1R := Lib.hid hr
  clear hr
  have Kw1_r : Blk w1 (w.heap.size) #[.int .i64 0, .int .i64 0, .int .i64 0] := blk_later hb1 (blk_new (by simp))
  obtain ⟨w1_c0_r, w1_c1_r, w1_c2_r, w1_f0_r, w1_f1_r, w1_f2_r⟩ := blk3 Kw1_r
  have Kw1_rH := Lib.hid Kw1_r
  have w1_l_r := Kw1_r.lt
  have w1_m_r : w.heap.size < w1.heap.size + 1 := by omega
  have w1z := hb1.size
  try simp at w1z
  have w1B := Lib.hid hb1
  clear Kw1_r
  clear hb1
  try simp at hR
  try simp at w1R
  go_wp2_with fail
  refine (s_l92Level _ _ _ w1R.out (by omega)).mono ?_
  rintro e w2 ⟨s1, l1, j1, zq, rfl, hs1, hl1, hj1, zp, zr, hg2⟩
  have w2R := Lib.hid zr
  clear zr
  have Kw2_r : Blk w2 (w.heap.size) #[.int .i64 0, .int .i64 0, .int .i64 0] := blk_only hg2 (by omega) Kw1_rH.out
  obtain ⟨w2_c0_r, w2_c1_r, w2_c2_r, w2_f0_r, w2_f1_r, w2_f2_r⟩ := blk3 Kw2_r
  have Kw2_rH := Lib.hid Kw2_r
  have w2_l_r := Kw2_r.lt
  have w2_m_r : w.heap.size < w2.heap.size + 1 := by omega
  have w2z := hg2.size
  try simp at w2z
  have w2G := Lib.hid hg2
  clear Kw2_r
  clear hg2
  go_wp2_with fail
  refine bodyPost_ret (v := .agg #[.int .i64 s1, .int .i64 l1, .int .i64 j1]) ?_ rfl ?_
  · have KR : Blk _ (w.heap.size) #[.int .i64 s1, .int .i64 l1, .int .i64 j1] := (blk_set (blk_set (blk_set Kw2_rH.out 0 (.int .i64 s1)) 1 (.int .i64 l1)) 2 (.int .i64 j1))
    obtain ⟨r0, r1, r2, _, _, _⟩ := blk3 KR
    simp [results, Tryd.results4, go_sem, r0, r1, r2]
  · exact ⟨_, _, _, rfl, ⟨hs1, hl1, hj1⟩, (bl_set (bl_set (bl_set (bl_only (bl_out (bl_alloc (Below.refl _ _) _) w1B) w2G (by first | omega | (simp; omega))) (by first | (simp; done) | omega | (simp; omega)) _) (by first | (simp; done) | omega | (simp; omega)) _) (by first | (simp; done) | omega | (simp; omega)) _)⟩

end Go.Proofs.YtneihommpncegaaDoor
