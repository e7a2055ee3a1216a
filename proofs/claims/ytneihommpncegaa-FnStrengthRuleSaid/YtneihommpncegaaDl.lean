/- Contracts of the draws of levels. -/
import Derived.Test.YtneihommpncegaaJ
import Derived.Test.YtneihommpncegaaRk
import Derived.Deep.DeepCutAuto
namespace Go.Proofs.Ytneihommpncegaa
open Go.RowKit
set_option linter.unusedVariables false

/-- A slice of the levels of a term lies at block g. -/
def LvAt (w : World) (g : Nat) (S L : Int) (n : Nat) : Prop :=
  g < w.heap.size ∧ ∀ k, k < n → ∃ j : Int, (0 ≤ j ∧ j ≤ 24) ∧ w.cell? ⟨g, k * 3, none⟩ = some (.int .i64 S) ∧ w.cell? ⟨g, k * 3 + 1, none⟩ = some (.int .i64 L) ∧ w.cell? ⟨g, k * 3 + 2, none⟩ = some (.int .i64 j)
theorem LvAt.below {w w' : World} {g n : Nat} {S L : Int} (h : LvAt w g S L n) (hb : Below w.heap.size w w') : LvAt w' g S L n :=
  ⟨Nat.lt_of_lt_of_le h.1 hb.size, fun k hk => by
    obtain ⟨j, hj, h0, h1, h2⟩ := h.2 k hk
    exact ⟨j, hj, by rw [hb.cell (p := ⟨g, k * 3, none⟩) h.1]; exact h0, by rw [hb.cell (p := ⟨g, k * 3 + 1, none⟩) h.1]; exact h1, by rw [hb.cell (p := ⟨g, k * 3 + 2, none⟩) h.1]; exact h2⟩⟩
theorem LvAt.only {w w' : World} {g n R : Nat} {S L : Int} (h : LvAt w g S L n) (hg : w.grownBy w' (some R)) (hne : g ≠ R) : LvAt w' g S L n :=
  ⟨Nat.lt_of_lt_of_le h.1 hg.size, fun k hk => by
    obtain ⟨j, hj, h0, h1, h2⟩ := h.2 k hk
    have hne2 : some R ≠ some g := by intro e; injection e with e; exact hne e.symm
    exact ⟨j, hj, grown_cell hg h0 h.1 hne2, grown_cell hg h1 h.1 hne2, grown_cell hg h2 h.1 hne2⟩⟩
theorem LvAt.alloc {w : World} {g n : Nat} {S L : Int} (h : LvAt w g S L n) (o : Obj) : LvAt (w.alloc o) g S L n :=
  h.below ((Below.refl _ _).alloc (Nat.le_refl _) o)

theorem lvls_at {S L : Int} (h : tmB S L = true) : 1 ≤ (lvlsL S L).length ∧ (lvlsL S L).length ≤ 9 ∧ ∀ k, k < (lvlsL S L).length → ∃ j : Int, (0 ≤ j ∧ j ≤ 24) ∧ (lvlsL S L)[k]? = some (S, L, j) := by
  obtain ⟨⟨h1, h2⟩, h3, h4⟩ := tmB_iff.1 h
  have e : lvlsL S L = (stepL (absI (2 * L - S)) ((min (2 * L) S).toNat + 1)).map (fun j => (S, L, j)) := by
    have : coupledOk (2 * L) S = true := by simp [coupledOk, inB]; omega
    rw [lvlsL, if_pos h, coupledL, if_pos this]
    congr 2
    omega
  rw [e, List.length_map, stepL_length]
  refine ⟨by omega, by omega, fun k hk => ⟨absI (2 * L - S) + 2 * (k : Int), ?_, ?_⟩⟩
  · unfold absI; split <;> omega
  · simp [stepL, List.getElem?_map, List.getElem?_range hk]

theorem lv_of {w : World} {b : Nat} {v : Value} {S L : Int} (hv : Levels w b v (lvlsL S L)) (h : tmB S L = true) : ∃ g cap n, v = .slice (some ⟨g, 0, none⟩) n cap ∧ b ≤ g ∧ 1 ≤ n ∧ n ≤ 9 ∧ LvAt w g S L n := by
  obtain ⟨h1, h2, h3⟩ := lvls_at h
  obtain ⟨a, cap, rfl, _, hc⟩ := SRow.opened lcs_len hv
  rcases hc with hc | ⟨g, rfl, hg1, hg2, hc⟩
  · rw [hc] at h1; simp at h1
  · refine ⟨g, cap, _, rfl, hg1, h1, h2, hg2, fun k hk => ?_⟩
    obtain ⟨j, hj, he⟩ := h3 k hk
    exact ⟨j, hj, hc k 0 _ _ he rfl, hc k 1 _ _ he rfl, hc k 2 _ _ he rfl⟩

/-- A level is drawn with the reader. -/
def InL (x : Int) : Prop := -10 ≤ x ∧ x ≤ 40
def RLev (w : World) (R p : Nat) (e : Ending) (w' : World) : Prop := ∃ (s l j : Int) (q : Nat), e = .returned (.agg #[.int .i64 s, .int .i64 l, .int .i64 j]) ∧ InL s ∧ InL l ∧ InL j ∧ q ≤ p + 10 ∧ Rd w' R q ∧ w.grownBy w' (some R)
def RLev2 (w : World) (R p : Nat) (e : Ending) (w' : World) : Prop := ∃ (s l j s2 l2 j2 : Int) (q : Nat), e = .returned (.tuple #[.agg #[.int .i64 s, .int .i64 l, .int .i64 j], .agg #[.int .i64 s2, .int .i64 l2, .int .i64 j2]]) ∧ (InL s ∧ InL l ∧ InL j) ∧ (InL s2 ∧ InL l2 ∧ InL j2) ∧ q ≤ p + 20 ∧ Rd w' R q ∧ w.grownBy w' (some R)
def RDrawL (w : World) (e : Ending) (w' : World) : Prop := ∃ (s l j s2 l2 j2 : Int), e = .returned (.tuple #[.agg #[.int .i64 s, .int .i64 l, .int .i64 j], .agg #[.int .i64 s2, .int .i64 l2, .int .i64 j2]]) ∧ (InL s ∧ InL l ∧ InL j) ∧ (InL s2 ∧ InL l2 ∧ InL j2) ∧ Below w.heap.size w w'
def RDrawL1 (w : World) (e : Ending) (w' : World) : Prop := ∃ (s l j : Int), e = .returned (.agg #[.int .i64 s, .int .i64 l, .int .i64 j]) ∧ (InL s ∧ InL l ∧ InL j) ∧ Below w.heap.size w w'
def CutN (w : World) (R p : Nat) (n : Value) (wx : World) : Prop := ∃ m : Int, n = .int .i64 m ∧ (0 ≤ m ∧ m ≤ 2) ∧ Rd wx R p ∧ w.grownBy wx (some R)

set_option maxRecDepth 100000 in
set_option maxHeartbeats 1000000 in
theorem s_l92Level (R p : Nat) (w : World) (hr : Rd w R p) (hp : p ≤ 900000) :
    Calls Try.prog 40 #[.pointer (some ⟨R, 0, none⟩)] w (RLev w R p) := by
  have HR := Lib.hid hr
  have hR := hr.lt
  clear hr
  go_enter Try.func40, Try.ntmps40
  go_wp2_with fail
  refine (s_pick _ _ _ _ (rd_alloc HR.out _) (by omega) (by omega)).mono ?_
  rintro e w1 ⟨S, rfl, S0, S1, Sr, hg1⟩
  have S2 := S1 (by omega)
  clear S1
  have w1R := Lib.hid Sr
  clear Sr
  have Kw1_r : Blk w1 (w.heap.size) #[.int .i64 0, .int .i64 0, .int .i64 0] := blk_only hg1 (by omega) (blk_new (by simp))
  obtain ⟨w1_c0_r, w1_c1_r, w1_c2_r, w1_f0_r, w1_f1_r, w1_f2_r⟩ := blk3 Kw1_r
  have Kw1_rH := Lib.hid Kw1_r
  have w1_l_r := Kw1_r.lt
  have w1_m_r : w.heap.size < w1.heap.size + 1 := by omega
  have w1z := hg1.size
  try simp at w1z
  have w1G := Lib.hid hg1
  clear Kw1_r
  clear hg1
  go_wp2_with fail
  refine (s_pick _ _ _ _ w1R.out (by omega) (by omega)).mono ?_
  rintro e w2 ⟨L, rfl, L0, L1, Lr, hg2⟩
  have L2 := L1 (by omega)
  clear L1
  have w2R := Lib.hid Lr
  clear Lr
  have Kw2_r : Blk w2 (w.heap.size) #[.int .i64 0, .int .i64 0, .int .i64 0] := blk_only hg2 (by omega) Kw1_rH.out
  obtain ⟨w2_c0_r, w2_c1_r, w2_c2_r, w2_f0_r, w2_f1_r, w2_f2_r⟩ := blk3 Kw2_r
  have Kw2_rH := Lib.hid Kw2_r
  have w2_l_r := Kw2_r.lt
  have w2_m_r : w.heap.size < w2.heap.size + 1 := by omega
  have w2z := hg2.size
  try simp at w2z
  have w2G := Lib.hid hg2
  clear Kw2_r
  clear hg2
  have ht : tmB S L = true := tmB_iff.2 (by omega)
  go_wp2_with fail
  refine (s_LevelsOf _ _ _).mono ?_
  rintro e w3 ⟨v, rfl, hv, hb3⟩
  have w3R := Lib.hid (rd_later (rd_alloc w2R.out _) hb3)
  have Kw3_r : Blk w3 (w.heap.size) #[.int .i64 0, .int .i64 0, .int .i64 0] := blk_later hb3 (blk_alloc Kw2_rH.out (.cells #[.int .i64 S, .int .i64 L] 24))
  obtain ⟨w3_c0_r, w3_c1_r, w3_c2_r, w3_f0_r, w3_f1_r, w3_f2_r⟩ := blk3 Kw3_r
  have Kw3_rH := Lib.hid Kw3_r
  have w3_l_r := Kw3_r.lt
  have w3_m_r : w.heap.size < w3.heap.size + 1 := by omega
  have w3z := hb3.size
  try simp at w3z
  have w3B := Lib.hid hb3
  clear Kw3_r
  clear hb3
  obtain ⟨g, cap, nn, rfl, hg, hn1, hn2, HL⟩ := lv_of hv ht
  simp at hg
  clear hv ht
  go_wp2_with fail
  refine (s_pick _ _ _ _ w3R.out (by omega) (by omega)).mono ?_
  rintro e w4 ⟨x, rfl, x0, x1, xr, hg4⟩
  have x2 := x1 (by omega)
  clear x1
  have w4R := Lib.hid xr
  clear xr
  have Kw4_r : Blk w4 (w.heap.size) #[.int .i64 0, .int .i64 0, .int .i64 0] := blk_only hg4 (by omega) Kw3_rH.out
  obtain ⟨w4_c0_r, w4_c1_r, w4_c2_r, w4_f0_r, w4_f1_r, w4_f2_r⟩ := blk3 Kw4_r
  have Kw4_rH := Lib.hid Kw4_r
  have w4_l_r := Kw4_r.lt
  have w4_m_r : w.heap.size < w4.heap.size + 1 := by omega
  have w4z := hg4.size
  try simp at w4z
  have w4G := Lib.hid hg4
  clear Kw4_r
  clear hg4
  obtain ⟨k, rfl⟩ := Int.eq_ofNat_of_zero_le x0
  have hk : k < nn := by omega
  obtain ⟨J, ⟨J0, J1⟩, e0, e1, e2⟩ := (LvAt.only HL w4G.out (by omega)).2 k hk
  clear HL
  go_wp2_with fail
  refine (s_pick _ _ _ _ (rd_alloc w4R.out _) (by omega) (by omega)).mono ?_
  rintro e w5 ⟨u, rfl, u0, u1, ur, hg5⟩
  have u2 := u1 (by omega)
  clear u1
  have w5R := Lib.hid ur
  clear ur
  have Kw5_r : Blk w5 (w.heap.size) #[.int .i64 0, .int .i64 0, .int .i64 0] := blk_only hg5 (by omega) (blk_alloc Kw4_rH.out (.cells #[.int .i64 S, .int .i64 L, .int .i64 J] 26))
  have Kw5_x : Blk w5 (w4.heap.size) #[.int .i64 S, .int .i64 L, .int .i64 J] := blk_only hg5 (by omega) (blk_new (by simp))
  obtain ⟨w5_c0_r, w5_c1_r, w5_c2_r, w5_f0_r, w5_f1_r, w5_f2_r⟩ := blk3 Kw5_r
  have Kw5_rH := Lib.hid Kw5_r
  have w5_l_r := Kw5_r.lt
  have w5_m_r : w.heap.size < w5.heap.size + 1 := by omega
  obtain ⟨w5_c0_x, w5_c1_x, w5_c2_x, w5_f0_x, w5_f1_x, w5_f2_x⟩ := blk3 Kw5_x
  have Kw5_xH := Lib.hid Kw5_x
  have w5_l_x := Kw5_x.lt
  have w5_m_x : w4.heap.size < w5.heap.size + 1 := by omega
  have w5z := hg5.size
  try simp at w5z
  have w5G := Lib.hid hg5
  clear Kw5_r Kw5_x
  clear hg5
  clear e0 e1 e2
  by_cases hu0 : u = 0
  · subst hu0
    go_wp2_with fail
    refine bodyPost_ret (v := .agg #[.int .i64 S, .int .i64 L, .int .i64 (J + 1)]) ?_ rfl ?_
    · have KR : Blk _ (w.heap.size) #[.int .i64 S, .int .i64 L, .int .i64 (J + 1)] := (blk_set (blk_set (blk_set (blk_other Kw5_rH.out (p := ⟨w4.heap.size, 2, none⟩) (v := .int .i64 (J + 1)) (by (first | omega | (simp; done) | (simp; omega)))) 0 (.int .i64 S)) 1 (.int .i64 L)) 2 (.int .i64 (J + 1)))
      obtain ⟨r0, r1, r2, _, _, _⟩ := blk3 KR
      simp [results, Try.results40, go_sem, r0, r1, r2]
    · exact ⟨_, _, _, _, rfl, by (unfold InL; omega), by (unfold InL; omega), by (unfold InL; omega), by omega, (rd_set (rd_set (rd_set (rd_set w5R.out (q := ⟨w4.heap.size, 2, none⟩) (v := .int .i64 (J + 1)) (by simp; omega)) (q := ⟨w.heap.size, 0, none⟩) (v := .int .i64 S) (by simp; omega)) (q := ⟨w.heap.size, 1, none⟩) (v := .int .i64 L) (by simp; omega)) (q := ⟨w.heap.size, 2, none⟩) (v := .int .i64 (J + 1)) (by simp; omega)), by (repeat' (first | exact on_refl _ _ | refine on_out ?_ (by assumption) | refine on_below ?_ (by assumption) | refine on_alloc ?_ _ | refine on_drewN ?_ _ | refine on_drew ?_ | refine on_set ?_ ?_ _ | omega | (simp; done) | (simp; omega)))⟩
  have hu0b : (u == 0) = false := by simp [hu0]
  clear hu0
  by_cases hu1 : u = 1
  · subst hu1
    go_wp2_with fail
    refine (s_pick _ _ _ _ (rd_alloc w5R.out _) (by omega) (by omega)).mono ?_
    rintro e w6 ⟨y, rfl, y0, y1, yr, hg6⟩
    have y2 := y1 (by omega)
    clear y1
    have w6R := Lib.hid yr
    clear yr
    have Kw6_r : Blk w6 (w.heap.size) #[.int .i64 0, .int .i64 0, .int .i64 0] := blk_only hg6 (by omega) (blk_alloc Kw5_rH.out (.cells #[.int .i64 (-2), .int .i64 30] 3))
    have Kw6_x : Blk w6 (w4.heap.size) #[.int .i64 S, .int .i64 L, .int .i64 J] := blk_only hg6 (by omega) (blk_alloc Kw5_xH.out (.cells #[.int .i64 (-2), .int .i64 30] 3))
    have Kw6_lit : Blk w6 (w5.heap.size) #[.int .i64 (-2), .int .i64 30] := blk_only hg6 (by omega) (blk_new (by simp))
    obtain ⟨w6_c0_r, w6_c1_r, w6_c2_r, w6_f0_r, w6_f1_r, w6_f2_r⟩ := blk3 Kw6_r
    have Kw6_rH := Lib.hid Kw6_r
    have w6_l_r := Kw6_r.lt
    have w6_m_r : w.heap.size < w6.heap.size + 1 := by omega
    obtain ⟨w6_c0_x, w6_c1_x, w6_c2_x, w6_f0_x, w6_f1_x, w6_f2_x⟩ := blk3 Kw6_x
    have Kw6_xH := Lib.hid Kw6_x
    have w6_l_x := Kw6_x.lt
    have w6_m_x : w4.heap.size < w6.heap.size + 1 := by omega
    obtain ⟨w6_c0_lit, w6_c1_lit, w6_f0_lit, w6_f1_lit⟩ := blk2 Kw6_lit
    have Kw6_litH := Lib.hid Kw6_lit
    have w6_l_lit := Kw6_lit.lt
    have w6_m_lit : w5.heap.size < w6.heap.size + 1 := by omega
    have w6z := hg6.size
    try simp at w6z
    have w6G := Lib.hid hg6
    clear Kw6_r Kw6_x Kw6_lit
    clear hg6
    obtain rfl | rfl : y = 0 ∨ y = 1 := by omega
    · skip
      go_wp2_with fail
      refine bodyPost_ret (v := .agg #[.int .i64 S, .int .i64 L, .int .i64 (-2)]) ?_ rfl ?_
      · have KR : Blk _ (w.heap.size) #[.int .i64 S, .int .i64 L, .int .i64 (-2)] := (blk_set (blk_set (blk_set (blk_other Kw6_rH.out (p := ⟨w4.heap.size, 2, none⟩) (v := .int .i64 (-2)) (by (first | omega | (simp; done) | (simp; omega)))) 0 (.int .i64 S)) 1 (.int .i64 L)) 2 (.int .i64 (-2)))
        obtain ⟨r0, r1, r2, _, _, _⟩ := blk3 KR
        simp [results, Try.results40, go_sem, r0, r1, r2]
      · exact ⟨_, _, _, _, rfl, by (unfold InL; omega), by (unfold InL; omega), by (unfold InL; omega), by omega, (rd_set (rd_set (rd_set (rd_set w6R.out (q := ⟨w4.heap.size, 2, none⟩) (v := .int .i64 (-2)) (by simp; omega)) (q := ⟨w.heap.size, 0, none⟩) (v := .int .i64 S) (by simp; omega)) (q := ⟨w.heap.size, 1, none⟩) (v := .int .i64 L) (by simp; omega)) (q := ⟨w.heap.size, 2, none⟩) (v := .int .i64 (-2)) (by simp; omega)), by (repeat' (first | exact on_refl _ _ | refine on_out ?_ (by assumption) | refine on_below ?_ (by assumption) | refine on_alloc ?_ _ | refine on_drewN ?_ _ | refine on_drew ?_ | refine on_set ?_ ?_ _ | omega | (simp; done) | (simp; omega)))⟩
    · skip
      go_wp2_with fail
      refine bodyPost_ret (v := .agg #[.int .i64 S, .int .i64 L, .int .i64 30]) ?_ rfl ?_
      · have KR : Blk _ (w.heap.size) #[.int .i64 S, .int .i64 L, .int .i64 30] := (blk_set (blk_set (blk_set (blk_other Kw6_rH.out (p := ⟨w4.heap.size, 2, none⟩) (v := .int .i64 30) (by (first | omega | (simp; done) | (simp; omega)))) 0 (.int .i64 S)) 1 (.int .i64 L)) 2 (.int .i64 30))
        obtain ⟨r0, r1, r2, _, _, _⟩ := blk3 KR
        simp [results, Try.results40, go_sem, r0, r1, r2]
      · exact ⟨_, _, _, _, rfl, by (unfold InL; omega), by (unfold InL; omega), by (unfold InL; omega), by omega, (rd_set (rd_set (rd_set (rd_set w6R.out (q := ⟨w4.heap.size, 2, none⟩) (v := .int .i64 30) (by simp; omega)) (q := ⟨w.heap.size, 0, none⟩) (v := .int .i64 S) (by simp; omega)) (q := ⟨w.heap.size, 1, none⟩) (v := .int .i64 L) (by simp; omega)) (q := ⟨w.heap.size, 2, none⟩) (v := .int .i64 30) (by simp; omega)), by (repeat' (first | exact on_refl _ _ | refine on_out ?_ (by assumption) | refine on_below ?_ (by assumption) | refine on_alloc ?_ _ | refine on_drewN ?_ _ | refine on_drew ?_ | refine on_set ?_ ?_ _ | omega | (simp; done) | (simp; omega)))⟩
  have hu1b : (u == 1) = false := by simp [hu1]
  clear hu1
  by_cases hu2 : u = 2
  · subst hu2
    go_wp2_with fail
    refine bodyPost_ret (v := .agg #[.int .i64 9, .int .i64 L, .int .i64 J]) ?_ rfl ?_
    · have KR : Blk _ (w.heap.size) #[.int .i64 9, .int .i64 L, .int .i64 J] := (blk_set (blk_set (blk_set (blk_other Kw5_rH.out (p := ⟨w4.heap.size, 0, none⟩) (v := .int .i64 9) (by (first | omega | (simp; done) | (simp; omega)))) 0 (.int .i64 9)) 1 (.int .i64 L)) 2 (.int .i64 J))
      obtain ⟨r0, r1, r2, _, _, _⟩ := blk3 KR
      simp [results, Try.results40, go_sem, r0, r1, r2]
    · exact ⟨_, _, _, _, rfl, by (unfold InL; omega), by (unfold InL; omega), by (unfold InL; omega), by omega, (rd_set (rd_set (rd_set (rd_set w5R.out (q := ⟨w4.heap.size, 0, none⟩) (v := .int .i64 9) (by simp; omega)) (q := ⟨w.heap.size, 0, none⟩) (v := .int .i64 9) (by simp; omega)) (q := ⟨w.heap.size, 1, none⟩) (v := .int .i64 L) (by simp; omega)) (q := ⟨w.heap.size, 2, none⟩) (v := .int .i64 J) (by simp; omega)), by (repeat' (first | exact on_refl _ _ | refine on_out ?_ (by assumption) | refine on_below ?_ (by assumption) | refine on_alloc ?_ _ | refine on_drewN ?_ _ | refine on_drew ?_ | refine on_set ?_ ?_ _ | omega | (simp; done) | (simp; omega)))⟩
  have hu2b : (u == 2) = false := by simp [hu2]
  clear hu2
  go_wp2_with fail
  refine bodyPost_ret (v := .agg #[.int .i64 S, .int .i64 L, .int .i64 J]) ?_ rfl ?_
  · have KR : Blk _ (w.heap.size) #[.int .i64 S, .int .i64 L, .int .i64 J] := (blk_set (blk_set (blk_set Kw5_rH.out 0 (.int .i64 S)) 1 (.int .i64 L)) 2 (.int .i64 J))
    obtain ⟨r0, r1, r2, _, _, _⟩ := blk3 KR
    simp [results, Try.results40, go_sem, r0, r1, r2]
  · exact ⟨_, _, _, _, rfl, by (unfold InL; omega), by (unfold InL; omega), by (unfold InL; omega), by omega, (rd_set (rd_set (rd_set w5R.out (q := ⟨w.heap.size, 0, none⟩) (v := .int .i64 S) (by simp; omega)) (q := ⟨w.heap.size, 1, none⟩) (v := .int .i64 L) (by simp; omega)) (q := ⟨w.heap.size, 2, none⟩) (v := .int .i64 J) (by simp; omega)), by (repeat' (first | exact on_refl _ _ | refine on_out ?_ (by assumption) | refine on_below ?_ (by assumption) | refine on_alloc ?_ _ | refine on_drewN ?_ _ | refine on_drew ?_ | refine on_set ?_ ?_ _ | omega | (simp; done) | (simp; omega)))⟩

set_option maxRecDepth 100000 in
set_option maxHeartbeats 3000000 in
theorem s_l92Near (R p : Nat) (w : World) (hr : Rd w R p) (hp : p ≤ 800000) :
    Calls Try.prog 20 #[.pointer (some ⟨R, 0, none⟩)] w (RLev2 w R p) := by
  have HR := Lib.hid hr
  have hR := hr.lt
  clear hr
  go_enter Try.func20, Try.ntmps20
  go_wp2_with fail
  refine (s_pick _ _ _ _ (rd_alloc (rd_alloc HR.out _) _) (by omega) (by omega)).mono ?_
  rintro e w1 ⟨S, rfl, S0, S1, Sr, hg1⟩
  have S2 := S1 (by omega)
  clear S1
  have w1R := Lib.hid Sr
  clear Sr
  have Kw1_r : Blk w1 (w.heap.size) #[.int .i64 0, .int .i64 0, .int .i64 0] := blk_only hg1 (by omega) (blk_alloc (blk_new (by simp)) (.cells #[.int .i64 0, .int .i64 0, .int .i64 0] 26))
  have Kw1_q : Blk w1 (w.heap.size + 1) #[.int .i64 0, .int .i64 0, .int .i64 0] := blk_only hg1 (by omega) (blk_new (by simp))
  obtain ⟨w1_c0_r, w1_c1_r, w1_c2_r, w1_f0_r, w1_f1_r, w1_f2_r⟩ := blk3 Kw1_r
  have Kw1_rH := Lib.hid Kw1_r
  have w1_l_r := Kw1_r.lt
  have w1_m_r : w.heap.size < w1.heap.size + 1 := by omega
  obtain ⟨w1_c0_q, w1_c1_q, w1_c2_q, w1_f0_q, w1_f1_q, w1_f2_q⟩ := blk3 Kw1_q
  have Kw1_qH := Lib.hid Kw1_q
  have w1_l_q := Kw1_q.lt
  have w1_m_q : w.heap.size + 1 < w1.heap.size + 1 := by omega
  have w1z := hg1.size
  try simp at w1z
  have w1G := Lib.hid hg1
  clear Kw1_r Kw1_q
  clear hg1
  go_wp2_with fail
  refine (s_pick _ _ _ _ w1R.out (by omega) (by omega)).mono ?_
  rintro e w2 ⟨K, rfl, K0, K1, Kr, hg2⟩
  have K2 := K1 (by omega)
  clear K1
  have w2R := Lib.hid Kr
  clear Kr
  have Kw2_r : Blk w2 (w.heap.size) #[.int .i64 0, .int .i64 0, .int .i64 0] := blk_only hg2 (by omega) Kw1_rH.out
  have Kw2_q : Blk w2 (w.heap.size + 1) #[.int .i64 0, .int .i64 0, .int .i64 0] := blk_only hg2 (by omega) Kw1_qH.out
  obtain ⟨w2_c0_r, w2_c1_r, w2_c2_r, w2_f0_r, w2_f1_r, w2_f2_r⟩ := blk3 Kw2_r
  have Kw2_rH := Lib.hid Kw2_r
  have w2_l_r := Kw2_r.lt
  have w2_m_r : w.heap.size < w2.heap.size + 1 := by omega
  obtain ⟨w2_c0_q, w2_c1_q, w2_c2_q, w2_f0_q, w2_f1_q, w2_f2_q⟩ := blk3 Kw2_q
  have Kw2_qH := Lib.hid Kw2_q
  have w2_l_q := Kw2_q.lt
  have w2_m_q : w.heap.size + 1 < w2.heap.size + 1 := by omega
  have w2z := hg2.size
  try simp at w2z
  have w2G := Lib.hid hg2
  clear Kw2_r Kw2_q
  clear hg2
  go_upto_region 3 with fail
  go_cut [6] (CutN w2 R (p + 1 + 1 + 1))
  case first =>
    go_wp2_with fail
    refine (s_pick _ _ _ _ w2R.out (by omega) (by omega)).mono ?_
    rintro e wA ⟨y, rfl, y0, y1, yr, hgA⟩
    have y2 := y1 (by omega)
    clear y1
    have HYR := Lib.hid yr
    have HYG := Lib.hid hgA
    clear yr hgA
    go_wp2_with fail
    all_goals go_meet
    all_goals exact ⟨_, rfl, by omega, HYR.out, HYG.out⟩
  case rest =>
    obtain ⟨n, rfl, ⟨n0, n1⟩, nr, hg3⟩ := hcut
    obtain ⟨w3, rfl⟩ : ∃ x, x = wc := ⟨_, rfl⟩
    have w3R := Lib.hid nr
    clear nr
    have Kw3_r : Blk w3 (w.heap.size) #[.int .i64 0, .int .i64 0, .int .i64 0] := blk_only hg3 (by omega) Kw2_rH.out
    have Kw3_q : Blk w3 (w.heap.size + 1) #[.int .i64 0, .int .i64 0, .int .i64 0] := blk_only hg3 (by omega) Kw2_qH.out
    obtain ⟨w3_c0_r, w3_c1_r, w3_c2_r, w3_f0_r, w3_f1_r, w3_f2_r⟩ := blk3 Kw3_r
    have Kw3_rH := Lib.hid Kw3_r
    have w3_l_r := Kw3_r.lt
    have w3_m_r : w.heap.size < w3.heap.size + 1 := by omega
    obtain ⟨w3_c0_q, w3_c1_q, w3_c2_q, w3_f0_q, w3_f1_q, w3_f2_q⟩ := blk3 Kw3_q
    have Kw3_qH := Lib.hid Kw3_q
    have w3_l_q := Kw3_q.lt
    have w3_m_q : w.heap.size + 1 < w3.heap.size + 1 := by omega
    have w3z := hg3.size
    try simp at w3z
    have w3G := Lib.hid hg3
    clear Kw3_r Kw3_q
    clear hg3
    have hta : tmB S K = true := tmB_iff.2 (by omega)
    have htb : tmB S n = true := tmB_iff.2 (by omega)
    go_wp2_with fail
    refine (s_LevelsOf _ _ _).mono ?_
    rintro e w4 ⟨va, rfl, hva, hb4⟩
    have w4R := Lib.hid (rd_later w3R.out hb4)
    have Kw4_r : Blk w4 (w.heap.size) #[.int .i64 0, .int .i64 0, .int .i64 0] := blk_later hb4 Kw3_rH.out
    have Kw4_q : Blk w4 (w.heap.size + 1) #[.int .i64 0, .int .i64 0, .int .i64 0] := blk_later hb4 Kw3_qH.out
    obtain ⟨w4_c0_r, w4_c1_r, w4_c2_r, w4_f0_r, w4_f1_r, w4_f2_r⟩ := blk3 Kw4_r
    have Kw4_rH := Lib.hid Kw4_r
    have w4_l_r := Kw4_r.lt
    have w4_m_r : w.heap.size < w4.heap.size + 1 := by omega
    obtain ⟨w4_c0_q, w4_c1_q, w4_c2_q, w4_f0_q, w4_f1_q, w4_f2_q⟩ := blk3 Kw4_q
    have Kw4_qH := Lib.hid Kw4_q
    have w4_l_q := Kw4_q.lt
    have w4_m_q : w.heap.size + 1 < w4.heap.size + 1 := by omega
    have w4z := hb4.size
    try simp at w4z
    have w4B := Lib.hid hb4
    clear Kw4_r Kw4_q
    clear hb4
    obtain ⟨ga, capa, na, rfl, hga, hna1, hna2, HLa⟩ := lv_of hva hta
    clear hva hta
    go_wp2_with fail
    refine (s_LevelsOf _ _ _).mono ?_
    rintro e w5 ⟨vb, rfl, hvb, hb5⟩
    have w5R := Lib.hid (rd_later w4R.out hb5)
    have Kw5_r : Blk w5 (w.heap.size) #[.int .i64 0, .int .i64 0, .int .i64 0] := blk_later hb5 Kw4_rH.out
    have Kw5_q : Blk w5 (w.heap.size + 1) #[.int .i64 0, .int .i64 0, .int .i64 0] := blk_later hb5 Kw4_qH.out
    obtain ⟨w5_c0_r, w5_c1_r, w5_c2_r, w5_f0_r, w5_f1_r, w5_f2_r⟩ := blk3 Kw5_r
    have Kw5_rH := Lib.hid Kw5_r
    have w5_l_r := Kw5_r.lt
    have w5_m_r : w.heap.size < w5.heap.size + 1 := by omega
    obtain ⟨w5_c0_q, w5_c1_q, w5_c2_q, w5_f0_q, w5_f1_q, w5_f2_q⟩ := blk3 Kw5_q
    have Kw5_qH := Lib.hid Kw5_q
    have w5_l_q := Kw5_q.lt
    have w5_m_q : w.heap.size + 1 < w5.heap.size + 1 := by omega
    have w5z := hb5.size
    try simp at w5z
    have w5B := Lib.hid hb5
    clear Kw5_r Kw5_q
    clear hb5
    obtain ⟨gb, capb, nb, rfl, hgb, hnb1, hnb2, HLb⟩ := lv_of hvb htb
    clear hvb htb
    have HLa5 := LvAt.below HLa w5B.out
    clear HLa
    go_wp2_with fail
    refine (s_pick _ _ _ _ w5R.out (by omega) (by omega)).mono ?_
    rintro e w6 ⟨x, rfl, x0, x1, xr, hg6⟩
    have x2 := x1 (by omega)
    clear x1
    have w6R := Lib.hid xr
    clear xr
    have Kw6_r : Blk w6 (w.heap.size) #[.int .i64 0, .int .i64 0, .int .i64 0] := blk_only hg6 (by omega) Kw5_rH.out
    have Kw6_q : Blk w6 (w.heap.size + 1) #[.int .i64 0, .int .i64 0, .int .i64 0] := blk_only hg6 (by omega) Kw5_qH.out
    obtain ⟨w6_c0_r, w6_c1_r, w6_c2_r, w6_f0_r, w6_f1_r, w6_f2_r⟩ := blk3 Kw6_r
    have Kw6_rH := Lib.hid Kw6_r
    have w6_l_r := Kw6_r.lt
    have w6_m_r : w.heap.size < w6.heap.size + 1 := by omega
    obtain ⟨w6_c0_q, w6_c1_q, w6_c2_q, w6_f0_q, w6_f1_q, w6_f2_q⟩ := blk3 Kw6_q
    have Kw6_qH := Lib.hid Kw6_q
    have w6_l_q := Kw6_q.lt
    have w6_m_q : w.heap.size + 1 < w6.heap.size + 1 := by omega
    have w6z := hg6.size
    try simp at w6z
    have w6G := Lib.hid hg6
    clear Kw6_r Kw6_q
    clear hg6
    obtain ⟨k, rfl⟩ := Int.eq_ofNat_of_zero_le x0
    have hk : k < na := by omega
    have HLb6 := LvAt.only HLb w6G.out (by omega)
    obtain ⟨J, ⟨J0, J1⟩, e0, e1, e2⟩ := (LvAt.only HLa5 w6G.out (by omega)).2 k hk
    clear HLa5 HLb
    go_wp2_with fail
    refine (s_pick _ _ _ _ (rd_alloc w6R.out _) (by omega) (by omega)).mono ?_
    rintro e w7 ⟨y, rfl, y0, y1, yr, hg7⟩
    have y2 := y1 (by omega)
    clear y1
    have w7R := Lib.hid yr
    clear yr
    have Kw7_r : Blk w7 (w.heap.size) #[.int .i64 0, .int .i64 0, .int .i64 0] := blk_only hg7 (by omega) (blk_alloc Kw6_rH.out (.cells #[.int .i64 S, .int .i64 K, .int .i64 J] 26))
    have Kw7_q : Blk w7 (w.heap.size + 1) #[.int .i64 0, .int .i64 0, .int .i64 0] := blk_only hg7 (by omega) (blk_alloc Kw6_qH.out (.cells #[.int .i64 S, .int .i64 K, .int .i64 J] 26))
    have Kw7_x : Blk w7 (w6.heap.size) #[.int .i64 S, .int .i64 K, .int .i64 J] := blk_only hg7 (by omega) (blk_new (by simp))
    obtain ⟨w7_c0_r, w7_c1_r, w7_c2_r, w7_f0_r, w7_f1_r, w7_f2_r⟩ := blk3 Kw7_r
    have Kw7_rH := Lib.hid Kw7_r
    have w7_l_r := Kw7_r.lt
    have w7_m_r : w.heap.size < w7.heap.size + 1 := by omega
    obtain ⟨w7_c0_q, w7_c1_q, w7_c2_q, w7_f0_q, w7_f1_q, w7_f2_q⟩ := blk3 Kw7_q
    have Kw7_qH := Lib.hid Kw7_q
    have w7_l_q := Kw7_q.lt
    have w7_m_q : w.heap.size + 1 < w7.heap.size + 1 := by omega
    obtain ⟨w7_c0_x, w7_c1_x, w7_c2_x, w7_f0_x, w7_f1_x, w7_f2_x⟩ := blk3 Kw7_x
    have Kw7_xH := Lib.hid Kw7_x
    have w7_l_x := Kw7_x.lt
    have w7_m_x : w6.heap.size < w7.heap.size + 1 := by omega
    have w7z := hg7.size
    try simp at w7z
    have w7G := Lib.hid hg7
    clear Kw7_r Kw7_q Kw7_x
    clear hg7
    obtain ⟨k2, rfl⟩ := Int.eq_ofNat_of_zero_le y0
    have hk2 : k2 < nb := by omega
    obtain ⟨I, ⟨I0, I1⟩, f0, f1, f2⟩ := (LvAt.only (LvAt.alloc HLb6 _) w7G.out (by omega)).2 k2 hk2
    clear HLb6 e0 e1 e2
    go_wp2_with fail
    refine (s_pick _ _ _ _ (rd_alloc w7R.out _) (by omega) (by omega)).mono ?_
    rintro e w8 ⟨u, rfl, u0, u1, ur, hg8⟩
    have u2 := u1 (by omega)
    clear u1
    have w8R := Lib.hid ur
    clear ur
    have Kw8_r : Blk w8 (w.heap.size) #[.int .i64 0, .int .i64 0, .int .i64 0] := blk_only hg8 (by omega) (blk_alloc Kw7_rH.out (.cells #[.int .i64 S, .int .i64 n, .int .i64 I] 26))
    have Kw8_q : Blk w8 (w.heap.size + 1) #[.int .i64 0, .int .i64 0, .int .i64 0] := blk_only hg8 (by omega) (blk_alloc Kw7_qH.out (.cells #[.int .i64 S, .int .i64 n, .int .i64 I] 26))
    have Kw8_x : Blk w8 (w6.heap.size) #[.int .i64 S, .int .i64 K, .int .i64 J] := blk_only hg8 (by omega) (blk_alloc Kw7_xH.out (.cells #[.int .i64 S, .int .i64 n, .int .i64 I] 26))
    have Kw8_y : Blk w8 (w7.heap.size) #[.int .i64 S, .int .i64 n, .int .i64 I] := blk_only hg8 (by omega) (blk_new (by simp))
    obtain ⟨w8_c0_r, w8_c1_r, w8_c2_r, w8_f0_r, w8_f1_r, w8_f2_r⟩ := blk3 Kw8_r
    have Kw8_rH := Lib.hid Kw8_r
    have w8_l_r := Kw8_r.lt
    have w8_m_r : w.heap.size < w8.heap.size + 1 := by omega
    obtain ⟨w8_c0_q, w8_c1_q, w8_c2_q, w8_f0_q, w8_f1_q, w8_f2_q⟩ := blk3 Kw8_q
    have Kw8_qH := Lib.hid Kw8_q
    have w8_l_q := Kw8_q.lt
    have w8_m_q : w.heap.size + 1 < w8.heap.size + 1 := by omega
    obtain ⟨w8_c0_x, w8_c1_x, w8_c2_x, w8_f0_x, w8_f1_x, w8_f2_x⟩ := blk3 Kw8_x
    have Kw8_xH := Lib.hid Kw8_x
    have w8_l_x := Kw8_x.lt
    have w8_m_x : w6.heap.size < w8.heap.size + 1 := by omega
    obtain ⟨w8_c0_y, w8_c1_y, w8_c2_y, w8_f0_y, w8_f1_y, w8_f2_y⟩ := blk3 Kw8_y
    have Kw8_yH := Lib.hid Kw8_y
    have w8_l_y := Kw8_y.lt
    have w8_m_y : w7.heap.size < w8.heap.size + 1 := by omega
    have w8z := hg8.size
    try simp at w8z
    have w8G := Lib.hid hg8
    clear Kw8_r Kw8_q Kw8_x Kw8_y
    clear hg8
    clear f0 f1 f2
    by_cases hu0 : u = 0
    · subst hu0
      go_wp2_with fail
      refine (s_l92Level _ _ _ w8R.out (by omega)).mono ?_
      rintro e w9 ⟨s3, l3, j3, zq, rfl, hs3, hl3, hj3, zp, zr, hg9⟩
      have w9R := Lib.hid zr
      clear zr
      have Kw9_r : Blk w9 (w.heap.size) #[.int .i64 0, .int .i64 0, .int .i64 0] := blk_only hg9 (by omega) Kw8_rH.out
      have Kw9_q : Blk w9 (w.heap.size + 1) #[.int .i64 0, .int .i64 0, .int .i64 0] := blk_only hg9 (by omega) Kw8_qH.out
      have Kw9_x : Blk w9 (w6.heap.size) #[.int .i64 S, .int .i64 K, .int .i64 J] := blk_only hg9 (by omega) Kw8_xH.out
      have Kw9_y : Blk w9 (w7.heap.size) #[.int .i64 S, .int .i64 n, .int .i64 I] := blk_only hg9 (by omega) Kw8_yH.out
      obtain ⟨w9_c0_r, w9_c1_r, w9_c2_r, w9_f0_r, w9_f1_r, w9_f2_r⟩ := blk3 Kw9_r
      have Kw9_rH := Lib.hid Kw9_r
      have w9_l_r := Kw9_r.lt
      have w9_m_r : w.heap.size < w9.heap.size + 1 := by omega
      obtain ⟨w9_c0_q, w9_c1_q, w9_c2_q, w9_f0_q, w9_f1_q, w9_f2_q⟩ := blk3 Kw9_q
      have Kw9_qH := Lib.hid Kw9_q
      have w9_l_q := Kw9_q.lt
      have w9_m_q : w.heap.size + 1 < w9.heap.size + 1 := by omega
      obtain ⟨w9_c0_x, w9_c1_x, w9_c2_x, w9_f0_x, w9_f1_x, w9_f2_x⟩ := blk3 Kw9_x
      have Kw9_xH := Lib.hid Kw9_x
      have w9_l_x := Kw9_x.lt
      have w9_m_x : w6.heap.size < w9.heap.size + 1 := by omega
      obtain ⟨w9_c0_y, w9_c1_y, w9_c2_y, w9_f0_y, w9_f1_y, w9_f2_y⟩ := blk3 Kw9_y
      have Kw9_yH := Lib.hid Kw9_y
      have w9_l_y := Kw9_y.lt
      have w9_m_y : w7.heap.size < w9.heap.size + 1 := by omega
      have w9z := hg9.size
      try simp at w9z
      have w9G := Lib.hid hg9
      clear Kw9_r Kw9_q Kw9_x Kw9_y
      clear hg9
      unfold InL at hs3 hl3 hj3
      go_wp2_with fail
      have Kz10_r : Blk (((w9.setCell ⟨w7.heap.size, 0, none⟩ (.int .i64 s3)).setCell ⟨w7.heap.size, 1, none⟩ (.int .i64 l3)).setCell ⟨w7.heap.size, 2, none⟩ (.int .i64 j3)) (w.heap.size) #[.int .i64 0, .int .i64 0, .int .i64 0] := (blk_other (blk_other (blk_other Kw9_rH.out (p := ⟨w7.heap.size, 0, none⟩) (v := .int .i64 s3) (by (first | omega | (simp; done) | (simp; omega)))) (p := ⟨w7.heap.size, 1, none⟩) (v := .int .i64 l3) (by (first | omega | (simp; done) | (simp; omega)))) (p := ⟨w7.heap.size, 2, none⟩) (v := .int .i64 j3) (by (first | omega | (simp; done) | (simp; omega))))
      have Kz10_q : Blk (((w9.setCell ⟨w7.heap.size, 0, none⟩ (.int .i64 s3)).setCell ⟨w7.heap.size, 1, none⟩ (.int .i64 l3)).setCell ⟨w7.heap.size, 2, none⟩ (.int .i64 j3)) (w.heap.size + 1) #[.int .i64 0, .int .i64 0, .int .i64 0] := (blk_other (blk_other (blk_other Kw9_qH.out (p := ⟨w7.heap.size, 0, none⟩) (v := .int .i64 s3) (by (first | omega | (simp; done) | (simp; omega)))) (p := ⟨w7.heap.size, 1, none⟩) (v := .int .i64 l3) (by (first | omega | (simp; done) | (simp; omega)))) (p := ⟨w7.heap.size, 2, none⟩) (v := .int .i64 j3) (by (first | omega | (simp; done) | (simp; omega))))
      have Kz10_x : Blk (((w9.setCell ⟨w7.heap.size, 0, none⟩ (.int .i64 s3)).setCell ⟨w7.heap.size, 1, none⟩ (.int .i64 l3)).setCell ⟨w7.heap.size, 2, none⟩ (.int .i64 j3)) (w6.heap.size) #[.int .i64 S, .int .i64 K, .int .i64 J] := (blk_other (blk_other (blk_other Kw9_xH.out (p := ⟨w7.heap.size, 0, none⟩) (v := .int .i64 s3) (by (first | omega | (simp; done) | (simp; omega)))) (p := ⟨w7.heap.size, 1, none⟩) (v := .int .i64 l3) (by (first | omega | (simp; done) | (simp; omega)))) (p := ⟨w7.heap.size, 2, none⟩) (v := .int .i64 j3) (by (first | omega | (simp; done) | (simp; omega))))
      have Kz10_y : Blk (((w9.setCell ⟨w7.heap.size, 0, none⟩ (.int .i64 s3)).setCell ⟨w7.heap.size, 1, none⟩ (.int .i64 l3)).setCell ⟨w7.heap.size, 2, none⟩ (.int .i64 j3)) (w7.heap.size) #[.int .i64 s3, .int .i64 l3, .int .i64 j3] := (blk_set (blk_set (blk_set Kw9_yH.out 0 (.int .i64 s3)) 1 (.int .i64 l3)) 2 (.int .i64 j3))
      have Rz10 : Rd (((w9.setCell ⟨w7.heap.size, 0, none⟩ (.int .i64 s3)).setCell ⟨w7.heap.size, 1, none⟩ (.int .i64 l3)).setCell ⟨w7.heap.size, 2, none⟩ (.int .i64 j3)) R _ := (rd_set (rd_set (rd_set w9R.out (q := ⟨w7.heap.size, 0, none⟩) (v := .int .i64 s3) (by simp; omega)) (q := ⟨w7.heap.size, 1, none⟩) (v := .int .i64 l3) (by simp; omega)) (q := ⟨w7.heap.size, 2, none⟩) (v := .int .i64 j3) (by simp; omega))
      have Gz10 : w.grownBy (((w9.setCell ⟨w7.heap.size, 0, none⟩ (.int .i64 s3)).setCell ⟨w7.heap.size, 1, none⟩ (.int .i64 l3)).setCell ⟨w7.heap.size, 2, none⟩ (.int .i64 j3)) (some R) := by (repeat' (first | exact on_refl _ _ | refine on_out ?_ (by assumption) | refine on_below ?_ (by assumption) | refine on_alloc ?_ _ | refine on_drewN ?_ _ | refine on_drew ?_ | refine on_set ?_ ?_ _ | omega | (simp; done) | (simp; omega)))
      have Sz10 : (((w9.setCell ⟨w7.heap.size, 0, none⟩ (.int .i64 s3)).setCell ⟨w7.heap.size, 1, none⟩ (.int .i64 l3)).setCell ⟨w7.heap.size, 2, none⟩ (.int .i64 j3)).heap.size = w9.heap.size := by simp [World.setCell]
      generalize (((w9.setCell ⟨w7.heap.size, 0, none⟩ (.int .i64 s3)).setCell ⟨w7.heap.size, 1, none⟩ (.int .i64 l3)).setCell ⟨w7.heap.size, 2, none⟩ (.int .i64 j3)) = z10 at *
      have HG := Lib.hid Gz10
      have HRD := Lib.hid Rz10
      clear Gz10 Rz10
      obtain ⟨c0_r, c1_r, c2_r, f0_r, f1_r, f2_r⟩ := blk3 Kz10_r
      have HK_r := Lib.hid Kz10_r
      clear Kz10_r
      obtain ⟨c0_q, c1_q, c2_q, f0_q, f1_q, f2_q⟩ := blk3 Kz10_q
      have HK_q := Lib.hid Kz10_q
      clear Kz10_q
      obtain ⟨c0_x, c1_x, c2_x, f0_x, f1_x, f2_x⟩ := blk3 Kz10_x
      have HK_x := Lib.hid Kz10_x
      clear Kz10_x
      obtain ⟨c0_y, c1_y, c2_y, f0_y, f1_y, f2_y⟩ := blk3 Kz10_y
      have HK_y := Lib.hid Kz10_y
      clear Kz10_y
      have ne_r_q : w.heap.size ≠ w.heap.size + 1 := by omega
      have ne_q_r : w.heap.size + 1 ≠ w.heap.size := by omega
      have ne_r_x : w.heap.size ≠ w6.heap.size := by omega
      have ne_x_r : w6.heap.size ≠ w.heap.size := by omega
      have ne_r_y : w.heap.size ≠ w7.heap.size := by omega
      have ne_y_r : w7.heap.size ≠ w.heap.size := by omega
      have ne_q_x : w.heap.size + 1 ≠ w6.heap.size := by omega
      have ne_x_q : w6.heap.size ≠ w.heap.size + 1 := by omega
      have ne_q_y : w.heap.size + 1 ≠ w7.heap.size := by omega
      have ne_y_q : w7.heap.size ≠ w.heap.size + 1 := by omega
      have ne_x_y : w6.heap.size ≠ w7.heap.size := by omega
      have ne_y_x : w7.heap.size ≠ w6.heap.size := by omega
      go_region_held3 (fun w' => w'.cell? ⟨w6.heap.size, 0, none⟩ = some (.int .i64 S) ∧ w'.cell? ⟨w6.heap.size, 1, none⟩ = some (.int .i64 K) ∧ w'.cell? ⟨w6.heap.size, 2, none⟩ = some (.int .i64 J) ∧ w'.cell? ⟨w7.heap.size, 0, none⟩ = some (.int .i64 s3) ∧ w'.cell? ⟨w7.heap.size, 1, none⟩ = some (.int .i64 l3) ∧ w'.cell? ⟨w7.heap.size, 2, none⟩ = some (.int .i64 j3)) (first | (simp only [World.cell?_drew, *]; simp; done) | go_keep) (fail)
      all_goals go_wp2_with fail
      all_goals refine bodyPost_ret (v := .tuple #[.agg #[.int .i64 S, .int .i64 K, .int .i64 J], .agg #[.int .i64 s3, .int .i64 l3, .int .i64 j3]]) ?_ rfl ?_
      all_goals first
        | (have KR : Blk _ (w.heap.size) #[.int .i64 S, .int .i64 K, .int .i64 J] := (blk_drew (blk_other (blk_other (blk_other (blk_set (blk_set (blk_set (HK_r.out) 0 (.int .i64 S)) 1 (.int .i64 K)) 2 (.int .i64 J)) (p := ⟨w.heap.size + 1, 0, none⟩) (v := .int .i64 s3) (by assumption)) (p := ⟨w.heap.size + 1, 1, none⟩) (v := .int .i64 l3) (by assumption)) (p := ⟨w.heap.size + 1, 2, none⟩) (v := .int .i64 j3) (by assumption)))
           have KQ : Blk _ (w.heap.size + 1) #[.int .i64 s3, .int .i64 l3, .int .i64 j3] := (blk_drew (blk_set (blk_set (blk_set (blk_other (blk_other (blk_other (HK_q.out) (p := ⟨w.heap.size, 0, none⟩) (v := .int .i64 S) (by assumption)) (p := ⟨w.heap.size, 1, none⟩) (v := .int .i64 K) (by assumption)) (p := ⟨w.heap.size, 2, none⟩) (v := .int .i64 J) (by assumption)) 0 (.int .i64 s3)) 1 (.int .i64 l3)) 2 (.int .i64 j3)))
           obtain ⟨r0, r1, r2, _, _, _⟩ := blk3 KR
           obtain ⟨q0, q1, q2, _, _, _⟩ := blk3 KQ
           (simp [results, Try.results20, go_sem, r0, r1, r2, q0, q1, q2]; done))
        | (have KR : Blk _ (w.heap.size) #[.int .i64 S, .int .i64 K, .int .i64 J] := (blk_drew (blk_set (blk_set (blk_set (blk_other (blk_other (blk_other (HK_r.out) (p := ⟨w.heap.size + 1, 0, none⟩) (v := .int .i64 s3) (by assumption)) (p := ⟨w.heap.size + 1, 1, none⟩) (v := .int .i64 l3) (by assumption)) (p := ⟨w.heap.size + 1, 2, none⟩) (v := .int .i64 j3) (by assumption)) 0 (.int .i64 S)) 1 (.int .i64 K)) 2 (.int .i64 J)))
           have KQ : Blk _ (w.heap.size + 1) #[.int .i64 s3, .int .i64 l3, .int .i64 j3] := (blk_drew (blk_other (blk_other (blk_other (blk_set (blk_set (blk_set (HK_q.out) 0 (.int .i64 s3)) 1 (.int .i64 l3)) 2 (.int .i64 j3)) (p := ⟨w.heap.size, 0, none⟩) (v := .int .i64 S) (by assumption)) (p := ⟨w.heap.size, 1, none⟩) (v := .int .i64 K) (by assumption)) (p := ⟨w.heap.size, 2, none⟩) (v := .int .i64 J) (by assumption)))
           obtain ⟨r0, r1, r2, _, _, _⟩ := blk3 KR
           obtain ⟨q0, q1, q2, _, _, _⟩ := blk3 KQ
           (simp [results, Try.results20, go_sem, r0, r1, r2, q0, q1, q2]; done))
        | exact ⟨_, _, _, _, _, _, _, rfl, ⟨by (unfold InL; omega), by (unfold InL; omega), by (unfold InL; omega)⟩, ⟨by (unfold InL; omega), by (unfold InL; omega), by (unfold InL; omega)⟩, by omega, rd_drew (rd_set (rd_set (rd_set (rd_set (rd_set (rd_set HRD.out (by first | (show _ < w.heap.size; omega) | (show _ < w.heap.size + 1; omega))) (by first | (show _ < w.heap.size; omega) | (show _ < w.heap.size + 1; omega))) (by first | (show _ < w.heap.size; omega) | (show _ < w.heap.size + 1; omega))) (by first | (show _ < w.heap.size; omega) | (show _ < w.heap.size + 1; omega))) (by first | (show _ < w.heap.size; omega) | (show _ < w.heap.size + 1; omega))) (by first | (show _ < w.heap.size; omega) | (show _ < w.heap.size + 1; omega))), on_drew (on_set (on_set (on_set (on_set (on_set (on_set HG.out (by first | exact Nat.le_refl _ | exact Nat.le_succ _) _) (by first | exact Nat.le_refl _ | exact Nat.le_succ _) _) (by first | exact Nat.le_refl _ | exact Nat.le_succ _) _) (by first | exact Nat.le_refl _ | exact Nat.le_succ _) _) (by first | exact Nat.le_refl _ | exact Nat.le_succ _) _) (by first | exact Nat.le_refl _ | exact Nat.le_succ _) _)⟩
    have hu0b : (u == 0) = false := by simp [hu0]
    clear hu0
    by_cases hu1 : u = 1
    · subst hu1
      go_wp2_with fail
      have Kz9_r : Blk (w8.setCell ⟨w6.heap.size, 2, none⟩ (.int .i64 (J + 1))) (w.heap.size) #[.int .i64 0, .int .i64 0, .int .i64 0] := (blk_other Kw8_rH.out (p := ⟨w6.heap.size, 2, none⟩) (v := .int .i64 (J + 1)) (by (first | omega | (simp; done) | (simp; omega))))
      have Kz9_q : Blk (w8.setCell ⟨w6.heap.size, 2, none⟩ (.int .i64 (J + 1))) (w.heap.size + 1) #[.int .i64 0, .int .i64 0, .int .i64 0] := (blk_other Kw8_qH.out (p := ⟨w6.heap.size, 2, none⟩) (v := .int .i64 (J + 1)) (by (first | omega | (simp; done) | (simp; omega))))
      have Kz9_x : Blk (w8.setCell ⟨w6.heap.size, 2, none⟩ (.int .i64 (J + 1))) (w6.heap.size) #[.int .i64 S, .int .i64 K, .int .i64 (J + 1)] := (blk_set Kw8_xH.out 2 (.int .i64 (J + 1)))
      have Kz9_y : Blk (w8.setCell ⟨w6.heap.size, 2, none⟩ (.int .i64 (J + 1))) (w7.heap.size) #[.int .i64 S, .int .i64 n, .int .i64 I] := (blk_other Kw8_yH.out (p := ⟨w6.heap.size, 2, none⟩) (v := .int .i64 (J + 1)) (by (first | omega | (simp; done) | (simp; omega))))
      have Rz9 : Rd (w8.setCell ⟨w6.heap.size, 2, none⟩ (.int .i64 (J + 1))) R _ := (rd_set w8R.out (q := ⟨w6.heap.size, 2, none⟩) (v := .int .i64 (J + 1)) (by simp; omega))
      have Gz9 : w.grownBy (w8.setCell ⟨w6.heap.size, 2, none⟩ (.int .i64 (J + 1))) (some R) := by (repeat' (first | exact on_refl _ _ | refine on_out ?_ (by assumption) | refine on_below ?_ (by assumption) | refine on_alloc ?_ _ | refine on_drewN ?_ _ | refine on_drew ?_ | refine on_set ?_ ?_ _ | omega | (simp; done) | (simp; omega)))
      have Sz9 : (w8.setCell ⟨w6.heap.size, 2, none⟩ (.int .i64 (J + 1))).heap.size = w8.heap.size := by simp [World.setCell]
      generalize (w8.setCell ⟨w6.heap.size, 2, none⟩ (.int .i64 (J + 1))) = z9 at *
      have HG := Lib.hid Gz9
      have HRD := Lib.hid Rz9
      clear Gz9 Rz9
      obtain ⟨c0_r, c1_r, c2_r, f0_r, f1_r, f2_r⟩ := blk3 Kz9_r
      have HK_r := Lib.hid Kz9_r
      clear Kz9_r
      obtain ⟨c0_q, c1_q, c2_q, f0_q, f1_q, f2_q⟩ := blk3 Kz9_q
      have HK_q := Lib.hid Kz9_q
      clear Kz9_q
      obtain ⟨c0_x, c1_x, c2_x, f0_x, f1_x, f2_x⟩ := blk3 Kz9_x
      have HK_x := Lib.hid Kz9_x
      clear Kz9_x
      obtain ⟨c0_y, c1_y, c2_y, f0_y, f1_y, f2_y⟩ := blk3 Kz9_y
      have HK_y := Lib.hid Kz9_y
      clear Kz9_y
      have ne_r_q : w.heap.size ≠ w.heap.size + 1 := by omega
      have ne_q_r : w.heap.size + 1 ≠ w.heap.size := by omega
      have ne_r_x : w.heap.size ≠ w6.heap.size := by omega
      have ne_x_r : w6.heap.size ≠ w.heap.size := by omega
      have ne_r_y : w.heap.size ≠ w7.heap.size := by omega
      have ne_y_r : w7.heap.size ≠ w.heap.size := by omega
      have ne_q_x : w.heap.size + 1 ≠ w6.heap.size := by omega
      have ne_x_q : w6.heap.size ≠ w.heap.size + 1 := by omega
      have ne_q_y : w.heap.size + 1 ≠ w7.heap.size := by omega
      have ne_y_q : w7.heap.size ≠ w.heap.size + 1 := by omega
      have ne_x_y : w6.heap.size ≠ w7.heap.size := by omega
      have ne_y_x : w7.heap.size ≠ w6.heap.size := by omega
      go_region_held3 (fun w' => w'.cell? ⟨w6.heap.size, 0, none⟩ = some (.int .i64 S) ∧ w'.cell? ⟨w6.heap.size, 1, none⟩ = some (.int .i64 K) ∧ w'.cell? ⟨w6.heap.size, 2, none⟩ = some (.int .i64 (J + 1)) ∧ w'.cell? ⟨w7.heap.size, 0, none⟩ = some (.int .i64 S) ∧ w'.cell? ⟨w7.heap.size, 1, none⟩ = some (.int .i64 n) ∧ w'.cell? ⟨w7.heap.size, 2, none⟩ = some (.int .i64 I)) (first | (simp only [World.cell?_drew, *]; simp; done) | go_keep) (fail)
      all_goals go_wp2_with fail
      all_goals refine bodyPost_ret (v := .tuple #[.agg #[.int .i64 S, .int .i64 K, .int .i64 (J + 1)], .agg #[.int .i64 S, .int .i64 n, .int .i64 I]]) ?_ rfl ?_
      all_goals first
        | (have KR : Blk _ (w.heap.size) #[.int .i64 S, .int .i64 K, .int .i64 (J + 1)] := (blk_drew (blk_other (blk_other (blk_other (blk_set (blk_set (blk_set (HK_r.out) 0 (.int .i64 S)) 1 (.int .i64 K)) 2 (.int .i64 (J + 1))) (p := ⟨w.heap.size + 1, 0, none⟩) (v := .int .i64 S) (by assumption)) (p := ⟨w.heap.size + 1, 1, none⟩) (v := .int .i64 n) (by assumption)) (p := ⟨w.heap.size + 1, 2, none⟩) (v := .int .i64 I) (by assumption)))
           have KQ : Blk _ (w.heap.size + 1) #[.int .i64 S, .int .i64 n, .int .i64 I] := (blk_drew (blk_set (blk_set (blk_set (blk_other (blk_other (blk_other (HK_q.out) (p := ⟨w.heap.size, 0, none⟩) (v := .int .i64 S) (by assumption)) (p := ⟨w.heap.size, 1, none⟩) (v := .int .i64 K) (by assumption)) (p := ⟨w.heap.size, 2, none⟩) (v := .int .i64 (J + 1)) (by assumption)) 0 (.int .i64 S)) 1 (.int .i64 n)) 2 (.int .i64 I)))
           obtain ⟨r0, r1, r2, _, _, _⟩ := blk3 KR
           obtain ⟨q0, q1, q2, _, _, _⟩ := blk3 KQ
           (simp [results, Try.results20, go_sem, r0, r1, r2, q0, q1, q2]; done))
        | (have KR : Blk _ (w.heap.size) #[.int .i64 S, .int .i64 K, .int .i64 (J + 1)] := (blk_drew (blk_set (blk_set (blk_set (blk_other (blk_other (blk_other (HK_r.out) (p := ⟨w.heap.size + 1, 0, none⟩) (v := .int .i64 S) (by assumption)) (p := ⟨w.heap.size + 1, 1, none⟩) (v := .int .i64 n) (by assumption)) (p := ⟨w.heap.size + 1, 2, none⟩) (v := .int .i64 I) (by assumption)) 0 (.int .i64 S)) 1 (.int .i64 K)) 2 (.int .i64 (J + 1))))
           have KQ : Blk _ (w.heap.size + 1) #[.int .i64 S, .int .i64 n, .int .i64 I] := (blk_drew (blk_other (blk_other (blk_other (blk_set (blk_set (blk_set (HK_q.out) 0 (.int .i64 S)) 1 (.int .i64 n)) 2 (.int .i64 I)) (p := ⟨w.heap.size, 0, none⟩) (v := .int .i64 S) (by assumption)) (p := ⟨w.heap.size, 1, none⟩) (v := .int .i64 K) (by assumption)) (p := ⟨w.heap.size, 2, none⟩) (v := .int .i64 (J + 1)) (by assumption)))
           obtain ⟨r0, r1, r2, _, _, _⟩ := blk3 KR
           obtain ⟨q0, q1, q2, _, _, _⟩ := blk3 KQ
           (simp [results, Try.results20, go_sem, r0, r1, r2, q0, q1, q2]; done))
        | exact ⟨_, _, _, _, _, _, _, rfl, ⟨by (unfold InL; omega), by (unfold InL; omega), by (unfold InL; omega)⟩, ⟨by (unfold InL; omega), by (unfold InL; omega), by (unfold InL; omega)⟩, by omega, rd_drew (rd_set (rd_set (rd_set (rd_set (rd_set (rd_set HRD.out (by first | (show _ < w.heap.size; omega) | (show _ < w.heap.size + 1; omega))) (by first | (show _ < w.heap.size; omega) | (show _ < w.heap.size + 1; omega))) (by first | (show _ < w.heap.size; omega) | (show _ < w.heap.size + 1; omega))) (by first | (show _ < w.heap.size; omega) | (show _ < w.heap.size + 1; omega))) (by first | (show _ < w.heap.size; omega) | (show _ < w.heap.size + 1; omega))) (by first | (show _ < w.heap.size; omega) | (show _ < w.heap.size + 1; omega))), on_drew (on_set (on_set (on_set (on_set (on_set (on_set HG.out (by first | exact Nat.le_refl _ | exact Nat.le_succ _) _) (by first | exact Nat.le_refl _ | exact Nat.le_succ _) _) (by first | exact Nat.le_refl _ | exact Nat.le_succ _) _) (by first | exact Nat.le_refl _ | exact Nat.le_succ _) _) (by first | exact Nat.le_refl _ | exact Nat.le_succ _) _) (by first | exact Nat.le_refl _ | exact Nat.le_succ _) _)⟩
    have hu1b : (u == 1) = false := by simp [hu1]
    clear hu1
    go_wp2_with fail
    have Kz9_r : Blk w8 (w.heap.size) #[.int .i64 0, .int .i64 0, .int .i64 0] := Kw8_rH.out
    have Kz9_q : Blk w8 (w.heap.size + 1) #[.int .i64 0, .int .i64 0, .int .i64 0] := Kw8_qH.out
    have Kz9_x : Blk w8 (w6.heap.size) #[.int .i64 S, .int .i64 K, .int .i64 J] := Kw8_xH.out
    have Kz9_y : Blk w8 (w7.heap.size) #[.int .i64 S, .int .i64 n, .int .i64 I] := Kw8_yH.out
    have Rz9 : Rd w8 R _ := w8R.out
    have Gz9 : w.grownBy w8 (some R) := by (repeat' (first | exact on_refl _ _ | refine on_out ?_ (by assumption) | refine on_below ?_ (by assumption) | refine on_alloc ?_ _ | refine on_drewN ?_ _ | refine on_drew ?_ | refine on_set ?_ ?_ _ | omega | (simp; done) | (simp; omega)))
    have Sz9 : w8.heap.size = w8.heap.size := rfl
    generalize w8 = z9 at *
    have HG := Lib.hid Gz9
    have HRD := Lib.hid Rz9
    clear Gz9 Rz9
    obtain ⟨c0_r, c1_r, c2_r, f0_r, f1_r, f2_r⟩ := blk3 Kz9_r
    have HK_r := Lib.hid Kz9_r
    clear Kz9_r
    obtain ⟨c0_q, c1_q, c2_q, f0_q, f1_q, f2_q⟩ := blk3 Kz9_q
    have HK_q := Lib.hid Kz9_q
    clear Kz9_q
    obtain ⟨c0_x, c1_x, c2_x, f0_x, f1_x, f2_x⟩ := blk3 Kz9_x
    have HK_x := Lib.hid Kz9_x
    clear Kz9_x
    obtain ⟨c0_y, c1_y, c2_y, f0_y, f1_y, f2_y⟩ := blk3 Kz9_y
    have HK_y := Lib.hid Kz9_y
    clear Kz9_y
    have ne_r_q : w.heap.size ≠ w.heap.size + 1 := by omega
    have ne_q_r : w.heap.size + 1 ≠ w.heap.size := by omega
    have ne_r_x : w.heap.size ≠ w6.heap.size := by omega
    have ne_x_r : w6.heap.size ≠ w.heap.size := by omega
    have ne_r_y : w.heap.size ≠ w7.heap.size := by omega
    have ne_y_r : w7.heap.size ≠ w.heap.size := by omega
    have ne_q_x : w.heap.size + 1 ≠ w6.heap.size := by omega
    have ne_x_q : w6.heap.size ≠ w.heap.size + 1 := by omega
    have ne_q_y : w.heap.size + 1 ≠ w7.heap.size := by omega
    have ne_y_q : w7.heap.size ≠ w.heap.size + 1 := by omega
    have ne_x_y : w6.heap.size ≠ w7.heap.size := by omega
    have ne_y_x : w7.heap.size ≠ w6.heap.size := by omega
    go_region_held3 (fun w' => w'.cell? ⟨w6.heap.size, 0, none⟩ = some (.int .i64 S) ∧ w'.cell? ⟨w6.heap.size, 1, none⟩ = some (.int .i64 K) ∧ w'.cell? ⟨w6.heap.size, 2, none⟩ = some (.int .i64 J) ∧ w'.cell? ⟨w7.heap.size, 0, none⟩ = some (.int .i64 S) ∧ w'.cell? ⟨w7.heap.size, 1, none⟩ = some (.int .i64 n) ∧ w'.cell? ⟨w7.heap.size, 2, none⟩ = some (.int .i64 I)) (first | (simp only [World.cell?_drew, *]; simp; done) | go_keep) (fail)
    all_goals go_wp2_with fail
    all_goals refine bodyPost_ret (v := .tuple #[.agg #[.int .i64 S, .int .i64 K, .int .i64 J], .agg #[.int .i64 S, .int .i64 n, .int .i64 I]]) ?_ rfl ?_
    all_goals first
      | (have KR : Blk _ (w.heap.size) #[.int .i64 S, .int .i64 K, .int .i64 J] := (blk_drew (blk_other (blk_other (blk_other (blk_set (blk_set (blk_set (HK_r.out) 0 (.int .i64 S)) 1 (.int .i64 K)) 2 (.int .i64 J)) (p := ⟨w.heap.size + 1, 0, none⟩) (v := .int .i64 S) (by assumption)) (p := ⟨w.heap.size + 1, 1, none⟩) (v := .int .i64 n) (by assumption)) (p := ⟨w.heap.size + 1, 2, none⟩) (v := .int .i64 I) (by assumption)))
         have KQ : Blk _ (w.heap.size + 1) #[.int .i64 S, .int .i64 n, .int .i64 I] := (blk_drew (blk_set (blk_set (blk_set (blk_other (blk_other (blk_other (HK_q.out) (p := ⟨w.heap.size, 0, none⟩) (v := .int .i64 S) (by assumption)) (p := ⟨w.heap.size, 1, none⟩) (v := .int .i64 K) (by assumption)) (p := ⟨w.heap.size, 2, none⟩) (v := .int .i64 J) (by assumption)) 0 (.int .i64 S)) 1 (.int .i64 n)) 2 (.int .i64 I)))
         obtain ⟨r0, r1, r2, _, _, _⟩ := blk3 KR
         obtain ⟨q0, q1, q2, _, _, _⟩ := blk3 KQ
         (simp [results, Try.results20, go_sem, r0, r1, r2, q0, q1, q2]; done))
      | (have KR : Blk _ (w.heap.size) #[.int .i64 S, .int .i64 K, .int .i64 J] := (blk_drew (blk_set (blk_set (blk_set (blk_other (blk_other (blk_other (HK_r.out) (p := ⟨w.heap.size + 1, 0, none⟩) (v := .int .i64 S) (by assumption)) (p := ⟨w.heap.size + 1, 1, none⟩) (v := .int .i64 n) (by assumption)) (p := ⟨w.heap.size + 1, 2, none⟩) (v := .int .i64 I) (by assumption)) 0 (.int .i64 S)) 1 (.int .i64 K)) 2 (.int .i64 J)))
         have KQ : Blk _ (w.heap.size + 1) #[.int .i64 S, .int .i64 n, .int .i64 I] := (blk_drew (blk_other (blk_other (blk_other (blk_set (blk_set (blk_set (HK_q.out) 0 (.int .i64 S)) 1 (.int .i64 n)) 2 (.int .i64 I)) (p := ⟨w.heap.size, 0, none⟩) (v := .int .i64 S) (by assumption)) (p := ⟨w.heap.size, 1, none⟩) (v := .int .i64 K) (by assumption)) (p := ⟨w.heap.size, 2, none⟩) (v := .int .i64 J) (by assumption)))
         obtain ⟨r0, r1, r2, _, _, _⟩ := blk3 KR
         obtain ⟨q0, q1, q2, _, _, _⟩ := blk3 KQ
         (simp [results, Try.results20, go_sem, r0, r1, r2, q0, q1, q2]; done))
      | exact ⟨_, _, _, _, _, _, _, rfl, ⟨by (unfold InL; omega), by (unfold InL; omega), by (unfold InL; omega)⟩, ⟨by (unfold InL; omega), by (unfold InL; omega), by (unfold InL; omega)⟩, by omega, rd_drew (rd_set (rd_set (rd_set (rd_set (rd_set (rd_set HRD.out (by first | (show _ < w.heap.size; omega) | (show _ < w.heap.size + 1; omega))) (by first | (show _ < w.heap.size; omega) | (show _ < w.heap.size + 1; omega))) (by first | (show _ < w.heap.size; omega) | (show _ < w.heap.size + 1; omega))) (by first | (show _ < w.heap.size; omega) | (show _ < w.heap.size + 1; omega))) (by first | (show _ < w.heap.size; omega) | (show _ < w.heap.size + 1; omega))) (by first | (show _ < w.heap.size; omega) | (show _ < w.heap.size + 1; omega))), on_drew (on_set (on_set (on_set (on_set (on_set (on_set HG.out (by first | exact Nat.le_refl _ | exact Nat.le_succ _) _) (by first | exact Nat.le_refl _ | exact Nat.le_succ _) _) (by first | exact Nat.le_refl _ | exact Nat.le_succ _) _) (by first | exact Nat.le_refl _ | exact Nat.le_succ _) _) (by first | exact Nat.le_refl _ | exact Nat.le_succ _) _) (by first | exact Nat.le_refl _ | exact Nat.le_succ _) _)⟩

set_option maxRecDepth 100000 in
set_option maxHeartbeats 2000000 in
theorem s_DrawLineStrength (s : Option Addr) (len cap : Nat) (w : World) (h : Code w s len cap) (hl : len ≤ 9223372036854775807) (hc : cap ≤ 9223372036854775807) :
    Calls Try.prog 8 #[.slice s len cap] w (RDrawL w) := by
  have H := Lib.hid h
  clear h
  go_enter Try.func8, Try.ntmps8
  go_wp2_with fail
  refine (s_l6Open s len cap _ (code_alloc (code_alloc H.out _) _) hl hc).mono ?_
  rintro e w1 ⟨rfl, hr, hb1⟩
  have hR := hr.lt
  have w1R := Lib.hid hr
  clear hr
  have Kw1_r : Blk w1 (w.heap.size) #[.int .i64 0, .int .i64 0, .int .i64 0] := blk_later hb1 (blk_alloc (blk_new (by simp)) (.cells #[.int .i64 0, .int .i64 0, .int .i64 0] 26))
  have Kw1_q : Blk w1 (w.heap.size + 1) #[.int .i64 0, .int .i64 0, .int .i64 0] := blk_later hb1 (blk_new (by simp))
  obtain ⟨w1_c0_r, w1_c1_r, w1_c2_r, w1_f0_r, w1_f1_r, w1_f2_r⟩ := blk3 Kw1_r
  have Kw1_rH := Lib.hid Kw1_r
  have w1_l_r := Kw1_r.lt
  have w1_m_r : w.heap.size < w1.heap.size + 1 := by omega
  obtain ⟨w1_c0_q, w1_c1_q, w1_c2_q, w1_f0_q, w1_f1_q, w1_f2_q⟩ := blk3 Kw1_q
  have Kw1_qH := Lib.hid Kw1_q
  have w1_l_q := Kw1_q.lt
  have w1_m_q : w.heap.size + 1 < w1.heap.size + 1 := by omega
  have w1z := hb1.size
  try simp at w1z
  have w1B := Lib.hid hb1
  clear Kw1_r Kw1_q
  clear hb1
  try simp at hR
  try simp at w1R
  go_wp2_with fail
  refine (s_l92Near _ _ _ w1R.out (by omega)).mono ?_
  rintro e w2 ⟨s1, l1, j1, s2, l2, j2, zq, rfl, hx, hy, zp, zr, hg2⟩
  have w2R := Lib.hid zr
  clear zr
  have Kw2_r : Blk w2 (w.heap.size) #[.int .i64 0, .int .i64 0, .int .i64 0] := blk_only hg2 (by omega) Kw1_rH.out
  have Kw2_q : Blk w2 (w.heap.size + 1) #[.int .i64 0, .int .i64 0, .int .i64 0] := blk_only hg2 (by omega) Kw1_qH.out
  obtain ⟨w2_c0_r, w2_c1_r, w2_c2_r, w2_f0_r, w2_f1_r, w2_f2_r⟩ := blk3 Kw2_r
  have Kw2_rH := Lib.hid Kw2_r
  have w2_l_r := Kw2_r.lt
  have w2_m_r : w.heap.size < w2.heap.size + 1 := by omega
  obtain ⟨w2_c0_q, w2_c1_q, w2_c2_q, w2_f0_q, w2_f1_q, w2_f2_q⟩ := blk3 Kw2_q
  have Kw2_qH := Lib.hid Kw2_q
  have w2_l_q := Kw2_q.lt
  have w2_m_q : w.heap.size + 1 < w2.heap.size + 1 := by omega
  have w2z := hg2.size
  try simp at w2z
  have w2G := Lib.hid hg2
  clear Kw2_r Kw2_q
  clear hg2
  go_wp2_with fail
  refine bodyPost_ret (v := .tuple #[.agg #[.int .i64 s1, .int .i64 l1, .int .i64 j1], .agg #[.int .i64 s2, .int .i64 l2, .int .i64 j2]]) ?_ rfl ?_
  · have KR : Blk _ (w.heap.size) #[.int .i64 s1, .int .i64 l1, .int .i64 j1] := (blk_other (blk_other (blk_other (blk_set (blk_set (blk_set Kw2_rH.out 0 (.int .i64 s1)) 1 (.int .i64 l1)) 2 (.int .i64 j1)) (p := ⟨w.heap.size + 1, 0, none⟩) (v := .int .i64 s2) (by (first | omega | (simp; done) | (simp; omega)))) (p := ⟨w.heap.size + 1, 1, none⟩) (v := .int .i64 l2) (by (first | omega | (simp; done) | (simp; omega)))) (p := ⟨w.heap.size + 1, 2, none⟩) (v := .int .i64 j2) (by (first | omega | (simp; done) | (simp; omega))))
    have KQ : Blk _ (w.heap.size + 1) #[.int .i64 s2, .int .i64 l2, .int .i64 j2] := (blk_set (blk_set (blk_set (blk_other (blk_other (blk_other Kw2_qH.out (p := ⟨w.heap.size, 0, none⟩) (v := .int .i64 s1) (by (first | omega | (simp; done) | (simp; omega)))) (p := ⟨w.heap.size, 1, none⟩) (v := .int .i64 l1) (by (first | omega | (simp; done) | (simp; omega)))) (p := ⟨w.heap.size, 2, none⟩) (v := .int .i64 j1) (by (first | omega | (simp; done) | (simp; omega)))) 0 (.int .i64 s2)) 1 (.int .i64 l2)) 2 (.int .i64 j2))
    obtain ⟨r0, r1, r2, _, _, _⟩ := blk3 KR
    obtain ⟨q0, q1, q2, _, _, _⟩ := blk3 KQ
    simp [results, Try.results8, go_sem, r0, r1, r2, q0, q1, q2]
  · exact ⟨_, _, _, _, _, _, rfl, hx, hy, (bl_set (bl_set (bl_set (bl_set (bl_set (bl_set (bl_only (bl_out (bl_alloc (bl_alloc (Below.refl _ _) _) _) w1B) w2G (by first | omega | (simp; omega))) (by first | (simp; done) | omega | (simp; omega)) _) (by first | (simp; done) | omega | (simp; omega)) _) (by first | (simp; done) | omega | (simp; omega)) _) (by first | (simp; done) | omega | (simp; omega)) _) (by first | (simp; done) | omega | (simp; omega)) _) (by first | (simp; done) | omega | (simp; omega)) _)⟩

end Go.Proofs.Ytneihommpncegaa
