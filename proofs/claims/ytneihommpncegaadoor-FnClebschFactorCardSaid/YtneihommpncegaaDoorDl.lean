/- Contracts of the draws of levels. -/
import Derived.Test.YtneihommpncegaaDoorJ
import Derived.Test.YtneihommpncegaaDoorRk
import Derived.Deep.DeepCutAuto
namespace Go.Proofs.YtneihommpncegaaDoor
open Go.RowKit
set_option linter.unusedVariables false

/-- A slice of the levels of a term lies at block g. -/
def LvAt (w : World) (g : Nat) (S L : Int) (n : Nat) : Prop :=
  g < w.heap.size ∧ ∀ k, k < n → ∃ j : Int, (0 ≤ j ∧ j ≤ 24) ∧ w.cell? ⟨g, k * 3, none⟩ = some (.int .i64 S) ∧ w.cell? ⟨g, k * 3 + 1, none⟩ = some (.int .i64 L) ∧ w.cell? ⟨g, k * 3 + 2, none⟩ = some (.int .i64 j)
theorem LvAt.below {w w' : World} {g n : Nat} {S L : Int} (h : LvAt w g S L n) (hb : Below w.heap.size w w') : LvAt w' g S L n :=
  ⟨Nat.lt_of_lt_of_le h.1 hb.size, fun k hk => by
    obtain ⟨j, hj, h0, h1, h2⟩ := h.2 k hk
    exact ⟨j, hj, by rw [hb.cell (p := ⟨g, k * 3, none⟩) h.1]; exact h0, by rw [hb.cell (p := ⟨g, k * 3 + 1, none⟩) h.1]; exact h1, by rw [hb.cell (p := ⟨g, k * 3 + 2, none⟩) h.1]; exact h2⟩⟩
theorem LvAt.only {w w' : World} {g n R : Nat} {S L : Int} (h : LvAt w g S L n) (hg : w.grownBy w' (some R)) (hne : g ≠ R) : LvAt w' g S L n :=
  ⟨Nat.lt_of_lt_of_le h.1 hg.size, fun k hk => by
    obtain ⟨j, hj, h0, h1, h2⟩ := h.2 k hk
    have hne2 : some R ≠ some g := by intro e; injection e with e; exact hne e.symm
    exact ⟨j, hj, grown_cell hg h0 h.1 hne2, grown_cell hg h1 h.1 hne2, grown_cell hg h2 h.1 hne2⟩⟩
theorem LvAt.alloc {w : World} {g n : Nat} {S L : Int} (h : LvAt w g S L n) (o : Obj) : LvAt (w.alloc o) g S L n :=
  h.below ((Below.refl _ _).alloc (Nat.le_refl _) o)

theorem lvls_at {S L : Int} (h : tmB S L = true) : 1 ≤ (lvlsL S L).length ∧ (lvlsL S L).length ≤ 9 ∧ ∀ k, k < (lvlsL S L).length → ∃ j : Int, (0 ≤ j ∧ j ≤ 24) ∧ (lvlsL S L)[k]? = some (S, L, j) := by
  obtain ⟨⟨h1, h2⟩, h3, h4⟩ := tmB_iff.1 h
  have e : lvlsL S L = (stepL (absI (2 * L - S)) ((min (2 * L) S).toNat + 1)).map (fun j => (S, L, j)) := by
    have : coupledOk (2 * L) S = true := by simp [coupledOk, inB]; omega
    rw [lvlsL, if_pos h, coupledL, if_pos this]
    congr 2
    omega
  rw [e, List.length_map, stepL_length]
  refine ⟨by omega, by omega, fun k hk => ⟨absI (2 * L - S) + 2 * (k : Int), ?_, ?_⟩⟩
  · unfold absI; split <;> omega
  · simp [stepL, List.getElem?_map, List.getElem?_range hk]

theorem lv_of {w : World} {b : Nat} {v : Value} {S L : Int} (hv : Levels w b v (lvlsL S L)) (h : tmB S L = true) : ∃ g cap n, v = .slice (some ⟨g, 0, none⟩) n cap ∧ b ≤ g ∧ 1 ≤ n ∧ n ≤ 9 ∧ LvAt w g S L n := by
  obtain ⟨h1, h2, h3⟩ := lvls_at h
  obtain ⟨a, cap, rfl, _, hc⟩ := SRow.opened lcs_len hv
  rcases hc with hc | ⟨g, rfl, hg1, hg2, hc⟩
  · rw [hc] at h1; simp at h1
  · refine ⟨g, cap, _, rfl, hg1, h1, h2, hg2, fun k hk => ?_⟩
    obtain ⟨j, hj, he⟩ := h3 k hk
    exact ⟨j, hj, hc k 0 _ _ he rfl, hc k 1 _ _ he rfl, hc k 2 _ _ he rfl⟩

/-- A level is drawn with the reader. -/
def InL (x : Int) : Prop := -10 ≤ x ∧ x ≤ 40
def RLev (w : World) (R p : Nat) (e : Ending) (w' : World) : Prop := ∃ (s l j : Int) (q : Nat), e = .returned (.agg #[.int .i64 s, .int .i64 l, .int .i64 j]) ∧ InL s ∧ InL l ∧ InL j ∧ q ≤ p + 10 ∧ Rd w' R q ∧ w.grownBy w' (some R)
def RLev2 (w : World) (R p : Nat) (e : Ending) (w' : World) : Prop := ∃ (s l j s2 l2 j2 : Int) (q : Nat), e = .returned (.tuple #[.agg #[.int .i64 s, .int .i64 l, .int .i64 j], .agg #[.int .i64 s2, .int .i64 l2, .int .i64 j2]]) ∧ (InL s ∧ InL l ∧ InL j) ∧ (InL s2 ∧ InL l2 ∧ InL j2) ∧ q ≤ p + 20 ∧ Rd w' R q ∧ w.grownBy w' (some R)
def RDrawL (w : World) (e : Ending) (w' : World) : Prop := ∃ (s l j s2 l2 j2 : Int), e = .returned (.tuple #[.agg #[.int .i64 s, .int .i64 l, .int .i64 j], .agg #[.int .i64 s2, .int .i64 l2, .int .i64 j2]]) ∧ (InL s ∧ InL l ∧ InL j) ∧ (InL s2 ∧ InL l2 ∧ InL j2) ∧ Below w.heap.size w w'
def RDrawL1 (w : World) (e : Ending) (w' : World) : Prop := ∃ (s l j : Int), e = .returned (.agg #[.int .i64 s, .int .i64 l, .int .i64 j]) ∧ (InL s ∧ InL l ∧ InL j) ∧ Below w.heap.size w w'
def CutN (w : World) (R p : Nat) (n : Value) (wx : World) : Prop := ∃ m : Int, n = .int .i64 m ∧ (0 ≤ m ∧ m ≤ 2) ∧ Rd wx R p ∧ w.grownBy wx (some R)

set_option maxRecDepth 100000 in
set_option maxHeartbeats 1000000 in
theorem s_l92Level (R p : Nat) (w : World) (hr : Rd w R p) (hp : p ≤ 900000) :
    Calls Tryd.prog 13 #[.pointer (some ⟨R, 0, none⟩)] w (RLev w R p) := by
  have HR := Lib.hid hr
  have hR := hr.lt
  clear hr
  go_enter Tryd.func13, Tryd.ntmps13
  go_wp2_with fail
  refine (s_pick _ _ _ _ (rd_alloc HR.out _) (by omega) (by omega)).mono ?_
  rintro e w1 ⟨S, rfl, S0, S1, Sr, hg1⟩
  have S2 := S1 (by omega)
  clear S1
  have w1R := Lib.hid Sr
  clear Sr
  have Kw1_r : Blk w1 (w.heap.size) #[.int .i64 0, .int .i64 0, .int .i64 0] := blk_only hg1 (by omega) (blk_new (by simp))
  obtain ⟨w1_c0_r, w1_c1_r, w1_c2_r, w1_f0_r, w1_f1_r, w1_f2_r⟩ := blk3 Kw1_r
  have Kw1_rH := Lib.hid Kw1_r
  have w1_l_r := Kw1_r.lt
  have w1_m_r : w.heap.size < w1.heap.size + 1 := by omega
  have w1z := hg1.size
  try simp at w1z
  have w1G := Lib.hid hg1
  clear Kw1_r
  clear hg1
  go_wp2_with fail
  refine (s_pick _ _ _ _ w1R.out (by omega) (by omega)).mono ?_
  rintro e w2 ⟨L, rfl, L0, L1, Lr, hg2⟩
  have L2 := L1 (by omega)
  clear L1
  have w2R := Lib.hid Lr
  clear Lr
  have Kw2_r : Blk w2 (w.heap.size) #[.int .i64 0, .int .i64 0, .int .i64 0] := blk_only hg2 (by omega) Kw1_rH.out
  obtain ⟨w2_c0_r, w2_c1_r, w2_c2_r, w2_f0_r, w2_f1_r, w2_f2_r⟩ := blk3 Kw2_r
  have Kw2_rH := Lib.hid Kw2_r
  have w2_l_r := Kw2_r.lt
  have w2_m_r : w.heap.size < w2.heap.size + 1 := by omega
  have w2z := hg2.size
  try simp at w2z
  have w2G := Lib.hid hg2
  clear Kw2_r
  clear hg2
  have ht : tmB S L = true := tmB_iff.2 (by omega)
  go_wp2_with fail
  refine (s_LevelsOf _ _ _).mono ?_
  rintro e w3 ⟨v, rfl, hv, hb3⟩
  have w3R := Lib.hid (rd_later (rd_alloc w2R.out _) hb3)
  have Kw3_r : Blk w3 (w.heap.size) #[.int .i64 0, .int .i64 0, .int .i64 0] := blk_later hb3 (blk_alloc Kw2_rH.out (.cells #[.int .i64 S, .int .i64 L] 24))
  obtain ⟨w3_c0_r, w3_c1_r, w3_c2_r, w3_f0_r, w3_f1_r, w3_f2_r⟩ := blk3 Kw3_r
  have Kw3_rH := Lib.hid Kw3_r
  have w3_l_r := Kw3_r.lt
  have w3_m_r : w.heap.size < w3.heap.size + 1 := by omega
  have w3z := hb3.size
  try simp at w3z
  have w3B := Lib.hid hb3
  clear Kw3_r
  clear hb3
  obtain ⟨g, cap, nn, rfl, hg, hn1, hn2, HL⟩ := lv_of hv ht
  simp at hg
  clear hv ht
  go_wp2_with fail
  refine (s_pick _ _ _ _ w3R.out (by omega) (by omega)).mono ?_
  rintro e w4 ⟨x, rfl, x0, x1, xr, hg4⟩
  have x2 := x1 (by omega)
  clear x1
  have w4R := Lib.hid xr
  clear xr
  have Kw4_r : Blk w4 (w.heap.size) #[.int .i64 0, .int .i64 0, .int .i64 0] := blk_only hg4 (by omega) Kw3_rH.out
  obtain ⟨w4_c0_r, w4_c1_r, w4_c2_r, w4_f0_r, w4_f1_r, w4_f2_r⟩ := blk3 Kw4_r
  have Kw4_rH := Lib.hid Kw4_r
  have w4_l_r := Kw4_r.lt
  have w4_m_r : w.heap.size < w4.heap.size + 1 := by omega
  have w4z := hg4.size
  try simp at w4z
  have w4G := Lib.hid hg4
  clear Kw4_r
  clear hg4
  obtain ⟨k, rfl⟩ := Int.eq_ofNat_of_zero_le x0
  have hk : k < nn := by omega
  obtain ⟨J, ⟨J0, J1⟩, e0, e1, e2⟩ := (LvAt.only HL w4G.out (by omega)).2 k hk
  clear HL
  go_wp2_with fail
  refine (s_pick _ _ _ _ (rd_alloc w4R.out _) (by omega) (by omega)).mono ?_
  rintro e w5 ⟨u, rfl, u0, u1, ur, hg5⟩
  have u2 := u1 (by omega)
  clear u1
  have w5R := Lib.hid ur
  clear ur
  have Kw5_r : Blk w5 (w.heap.size) #[.int .i64 0, .int .i64 0, .int .i64 0] := blk_only hg5 (by omega) (blk_alloc Kw4_rH.out (.cells #[.int .i64 S, .int .i64 L, .int .i64 J] 26))
  have Kw5_x : Blk w5 (w4.heap.size) #[.int .i64 S, .int .i64 L, .int .i64 J] := blk_only hg5 (by omega) (blk_new (by simp))
  obtain ⟨w5_c0_r, w5_c1_r, w5_c2_r, w5_f0_r, w5_f1_r, w5_f2_r⟩ := blk3 Kw5_r
  have Kw5_rH := Lib.hid Kw5_r
  have w5_l_r := Kw5_r.lt
  have w5_m_r : w.heap.size < w5.heap.size + 1 := by omega
  obtain ⟨w5_c0_x, w5_c1_x, w5_c2_x, w5_f0_x, w5_f1_x, w5_f2_x⟩ := blk3 Kw5_x
  have Kw5_xH := Lib.hid Kw5_x
  have w5_l_x := Kw5_x.lt
  have w5_m_x : w4.heap.size < w5.heap.size + 1 := by omega
  have w5z := hg5.size
  try simp at w5z
  have w5G := Lib.hid hg5
  clear Kw5_r Kw5_x
  clear hg5
  clear e0 e1 e2
  by_cases hu0 : u = 0
  · subst hu0
    go_wp2_with fail
    refine bodyPost_ret (v := .agg #[.int .i64 S, .int .i64 L, .int .i64 (J + 1)]) ?_ rfl ?_
    · have KR : Blk _ (w.heap.size) #[.int .i64 S, .int .i64 L, .int .i64 (J + 1)] := (blk_set (blk_set (blk_set (blk_other Kw5_rH.out (p := ⟨w4.heap.size, 2, none⟩) (v := .int .i64 (J + 1)) (by (first | omega | (simp; done) | (simp; omega)))) 0 (.int .i64 S)) 1 (.int .i64 L)) 2 (.int .i64 (J + 1)))
      obtain ⟨r0, r1, r2, _, _, _⟩ := blk3 KR
      simp [results, Tryd.results13, go_sem, r0, r1, r2]
    · exact ⟨_, _, _, _, rfl, by (unfold InL; omega), by (unfold InL; omega), by (unfold InL; omega), by omega, (rd_set (rd_set (rd_set (rd_set w5R.out (q := ⟨w4.heap.size, 2, none⟩) (v := .int .i64 (J + 1)) (by simp; omega)) (q := ⟨w.heap.size, 0, none⟩) (v := .int .i64 S) (by simp; omega)) (q := ⟨w.heap.size, 1, none⟩) (v := .int .i64 L) (by simp; omega)) (q := ⟨w.heap.size, 2, none⟩) (v := .int .i64 (J + 1)) (by simp; omega)), by (repeat' (first | exact on_refl _ _ | refine on_out ?_ (by assumption) | refine on_below ?_ (by assumption) | refine on_alloc ?_ _ | refine on_drewN ?_ _ | refine on_drew ?_ | refine on_set ?_ ?_ _ | omega | (simp; done) | (simp; omega)))⟩
  have hu0b : (u == 0) = false := by simp [hu0]
  clear hu0
  by_cases hu1 : u = 1
  · subst hu1
    go_wp2_with fail
    refine (s_pick _ _ _ _ (rd_alloc w5R.out _) (by omega) (by omega)).mono ?_
    rintro e w6 ⟨y, rfl, y0, y1, yr, hg6⟩
    have y2 := y1 (by omega)
    clear y1
    have w6R := Lib.hid yr
    clear yr
    have Kw6_r : Blk w6 (w.heap.size) #[.int .i64 0, .int .i64 0, .int .i64 0] := blk_only hg6 (by omega) (blk_alloc Kw5_rH.out (.cells #[.int .i64 (-2), .int .i64 30] 3))
    have Kw6_x : Blk w6 (w4.heap.size) #[.int .i64 S, .int .i64 L, .int .i64 J] := blk_only hg6 (by omega) (blk_alloc Kw5_xH.out (.cells #[.int .i64 (-2), .int .i64 30] 3))
    have Kw6_lit : Blk w6 (w5.heap.size) #[.int .i64 (-2), .int .i64 30] := blk_only hg6 (by omega) (blk_new (by simp))
    obtain ⟨w6_c0_r, w6_c1_r, w6_c2_r, w6_f0_r, w6_f1_r, w6_f2_r⟩ := blk3 Kw6_r
    have Kw6_rH := Lib.hid Kw6_r
    have w6_l_r := Kw6_r.lt
    have w6_m_r : w.heap.size < w6.heap.size + 1 := by omega
    obtain ⟨w6_c0_x, w6_c1_x, w6_c2_x, w6_f0_x, w6_f1_x, w6_f2_x⟩ := blk3 Kw6_x
    have Kw6_xH := Lib.hid Kw6_x
    have w6_l_x := Kw6_x.lt
    have w6_m_x : w4.heap.size < w6.heap.size + 1 := by omega
    obtain ⟨w6_c0_lit, w6_c1_lit, w6_f0_lit, w6_f1_lit⟩ := blk2 Kw6_lit
    have Kw6_litH := Lib.hid Kw6_lit
    have w6_l_lit := Kw6_lit.lt
    have w6_m_lit : w5.heap.size < w6.heap.size + 1 := by omega
    have w6z := hg6.size
    try simp at w6z
    have w6G := Lib.hid hg6
    clear Kw6_r Kw6_x Kw6_lit
    clear hg6
    obtain rfl | rfl : y = 0 ∨ y = 1 := by omega
    · skip
      go_wp2_with fail
      refine bodyPost_ret (v := .agg #[.int .i64 S, .int .i64 L, .int .i64 (-2)]) ?_ rfl ?_
      · have KR : Blk _ (w.heap.size) #[.int .i64 S, .int .i64 L, .int .i64 (-2)] := (blk_set (blk_set (blk_set (blk_other Kw6_rH.out (p := ⟨w4.heap.size, 2, none⟩) (v := .int .i64 (-2)) (by (first | omega | (simp; done) | (simp; omega)))) 0 (.int .i64 S)) 1 (.int .i64 L)) 2 (.int .i64 (-2)))
        obtain ⟨r0, r1, r2, _, _, _⟩ := blk3 KR
        simp [results, Tryd.results13, go_sem, r0, r1, r2]
      · exact ⟨_, _, _, _, rfl, by (unfold InL; omega), by (unfold InL; omega), by (unfold InL; omega), by omega, (rd_set (rd_set (rd_set (rd_set w6R.out (q := ⟨w4.heap.size, 2, none⟩) (v := .int .i64 (-2)) (by simp; omega)) (q := ⟨w.heap.size, 0, none⟩) (v := .int .i64 S) (by simp; omega)) (q := ⟨w.heap.size, 1, none⟩) (v := .int .i64 L) (by simp; omega)) (q := ⟨w.heap.size, 2, none⟩) (v := .int .i64 (-2)) (by simp; omega)), by (repeat' (first | exact on_refl _ _ | refine on_out ?_ (by assumption) | refine on_below ?_ (by assumption) | refine on_alloc ?_ _ | refine on_drewN ?_ _ | refine on_drew ?_ | refine on_set ?_ ?_ _ | omega | (simp; done) | (simp; omega)))⟩
    · skip
      go_wp2_with fail
      refine bodyPost_ret (v := .agg #[.int .i64 S, .int .i64 L, .int .i64 30]) ?_ rfl ?_
      · have KR : Blk _ (w.heap.size) #[.int .i64 S, .int .i64 L, .int .i64 30] := (blk_set (blk_set (blk_set (blk_other Kw6_rH.out (p := ⟨w4.heap.size, 2, none⟩) (v := .int .i64 30) (by (first | omega | (simp; done) | (simp; omega)))) 0 (.int .i64 S)) 1 (.int .i64 L)) 2 (.int .i64 30))
        obtain ⟨r0, r1, r2, _, _, _⟩ := blk3 KR
        simp [results, Tryd.results13, go_sem, r0, r1, r2]
      · exact ⟨_, _, _, _, rfl, by (unfold InL; omega), by (unfold InL; omega), by (unfold InL; omega), by omega, (rd_set (rd_set (rd_set (rd_set w6R.out (q := ⟨w4.heap.size, 2, none⟩) (v := .int .i64 30) (by simp; omega)) (q := ⟨w.heap.size, 0, none⟩) (v := .int .i64 S) (by simp; omega)) (q := ⟨w.heap.size, 1, none⟩) (v := .int .i64 L) (by simp; omega)) (q := ⟨w.heap.size, 2, none⟩) (v := .int .i64 30) (by simp; omega)), by (repeat' (first | exact on_refl _ _ | refine on_out ?_ (by assumption) | refine on_below ?_ (by assumption) | refine on_alloc ?_ _ | refine on_drewN ?_ _ | refine on_drew ?_ | refine on_set ?_ ?_ _ | omega | (simp; done) | (simp; omega)))⟩
  have hu1b : (u == 1) = false := by simp [hu1]
  clear hu1
  by_cases hu2 : u = 2
  · subst hu2
    go_wp2_with fail
    refine bodyPost_ret (v := .agg #[.int .i64 9, .int .i64 L, .int .i64 J]) ?_ rfl ?_
    · have KR : Blk _ (w.heap.size) #[.int .i64 9, .int .i64 L, .int .i64 J] := (blk_set (blk_set (blk_set (blk_other Kw5_rH.out (p := ⟨w4.heap.size, 0, none⟩) (v := .int .i64 9) (by (first | omega | (simp; done) | (simp; omega)))) 0 (.int .i64 9)) 1 (.int .i64 L)) 2 (.int .i64 J))
      obtain ⟨r0, r1, r2, _, _, _⟩ := blk3 KR
      simp [results, Tryd.results13, go_sem, r0, r1, r2]
    · exact ⟨_, _, _, _, rfl, by (unfold InL; omega), by (unfold InL; omega), by (unfold InL; omega), by omega, (rd_set (rd_set (rd_set (rd_set w5R.out (q := ⟨w4.heap.size, 0, none⟩) (v := .int .i64 9) (by simp; omega)) (q := ⟨w.heap.size, 0, none⟩) (v := .int .i64 9) (by simp; omega)) (q := ⟨w.heap.size, 1, none⟩) (v := .int .i64 L) (by simp; omega)) (q := ⟨w.heap.size, 2, none⟩) (v := .int .i64 J) (by simp; omega)), by (repeat' (first | exact on_refl _ _ | refine on_out ?_ (by assumption) | refine on_below ?_ (by assumption) | refine on_alloc ?_ _ | refine on_drewN ?_ _ | refine on_drew ?_ | refine on_set ?_ ?_ _ | omega | (simp; done) | (simp; omega)))⟩
  have hu2b : (u == 2) = false := by simp [hu2]
  clear hu2
  go_wp2_with fail
  refine bodyPost_ret (v := .agg #[.int .i64 S, .int .i64 L, .int .i64 J]) ?_ rfl ?_
  · have KR : Blk _ (w.heap.size) #[.int .i64 S, .int .i64 L, .int .i64 J] := (blk_set (blk_set (blk_set Kw5_rH.out 0 (.int .i64 S)) 1 (.int .i64 L)) 2 (.int .i64 J))
    obtain ⟨r0, r1, r2, _, _, _⟩ := blk3 KR
    simp [results, Tryd.results13, go_sem, r0, r1, r2]
  · exact ⟨_, _, _, _, rfl, by (unfold InL; omega), by (unfold InL; omega), by (unfold InL; omega), by omega, (rd_set (rd_set (rd_set w5R.out (q := ⟨w.heap.size, 0, none⟩) (v := .int .i64 S) (by simp; omega)) (q := ⟨w.heap.size, 1, none⟩) (v := .int .i64 L) (by simp; omega)) (q := ⟨w.heap.size, 2, none⟩) (v := .int .i64 J) (by simp; omega)), by (repeat' (first | exact on_refl _ _ | refine on_out ?_ (by assumption) | refine on_below ?_ (by assumption) | refine on_alloc ?_ _ | refine on_drewN ?_ _ | refine on_drew ?_ | refine on_set ?_ ?_ _ | omega | (simp; done) | (simp; omega)))⟩

end Go.Proofs.YtneihommpncegaaDoor
