/- The draws for Hund's rules, and the walks of FnExactHundTerm and FnHundHoles. -/
import Derived.Test.YtcmbilddlbejgaaDoorY
import Derived.Deep.RegionWith
namespace Go.Proofs.YtcmbilddlbejgaaDoor
open Go.RowKit
set_option linter.unusedVariables false

def RTrueU (w : World) (e : Ending) (w' : World) : Prop := e = .returned (.bool true) ∧ Below w.heap.size w w'

theorem pair3u {A B C : Type} (x : A × B × C) : ∃ a b c, x = (a, b, c) := ⟨x.1, x.2.1, x.2.2, rfl⟩

theorem blk_at {w : World} {g i : Nat} {cs : Array Value} (h : Blk w g cs) : w.cell? ⟨g, i, none⟩ = cs[i]? := by
  obtain ⟨t, h⟩ := h
  simp [World.cell?, h]
def pkI (x y : Int) : Int := if x = 0 then -1 else y
theorem pk_at {x y : Int} (h0 : 0 ≤ x) (h1 : x < 2) : (#[Value.int .i64 (-1), Value.int .i64 y] : Array Value)[x.toNat]? = some (.int .i64 (pkI x y)) := by
  obtain rfl | rfl : x = 0 ∨ x = 1 := by omega
  · rfl
  · rfl
theorem pk_bd (x : Int) {y : Int} (h0 : -1 ≤ y) (h1 : y ≤ 11) : -1 ≤ pkI x y ∧ pkI x y ≤ 11 := by unfold pkI; split <;> omega

theorem hundR_holes {l n S L : Int} (h : hundR l n = (S, L, true)) : hundR l (4 * l + 2 - n) = (S, L, true) := by
  cases he : elecB l n
  · have := (hundR_no he h).2.2
    cases this
  · obtain ⟨hS, hL, _⟩ := hundR_yes he h
    have he2 : elecB l (4 * l + 2 - n) = true := by have := elecB_iff.1 he; exact elecB_iff.2 (by omega)
    unfold hundR
    rw [if_pos he2, hund_holes l n he, hS, hL]

/-- What l92Fill leaves. -/
def RFill (w : World) (R p : Nat) (e : Ending) (w' : World) : Prop := ∃ (l n : Int) (q : Nat), e = .returned (.tuple #[.int .i64 l, .int .i64 n]) ∧ (-1 ≤ l ∧ l ≤ 3) ∧ (-1 ≤ n ∧ n ≤ 12) ∧ q ≤ p + 10 ∧ Rd w' R q ∧ w.grownBy w' (some R)

/-- What the draws leave. -/
def RDrawU (w : World) (e : Ending) (w' : World) : Prop := ∃ (l n : Int), e = .returned (.tuple #[.int .i64 l, .int .i64 n]) ∧ (-1 ≤ l ∧ l ≤ 3) ∧ (-1 ≤ n ∧ n ≤ 12) ∧ Below w.heap.size w w'

set_option maxRecDepth 100000 in
set_option maxHeartbeats 1000000 in
theorem s_l92Fill (R p : Nat) (w : World) (hr : Rd w R p) (hp : p ≤ 900000) :
    Calls Tryd.prog 9 #[.pointer (some ⟨R, 0, none⟩)] w (RFill w R p) := by
  have HR := Lib.hid hr
  have hR := hr.lt
  clear hr
  go_enter Tryd.func9, Tryd.ntmps9
  go_wp2_with fail
  refine (s_pick _ _ _ _ HR.out (by omega) (by omega)).mono ?_
  rintro e w1 ⟨l, rfl, l0, l1, lr, hg1⟩
  have l2 := l1 (by omega)
  clear l1
  have w1R := Lib.hid lr
  clear lr
  have w1z := hg1.size
  try simp at w1z
  have w1G := Lib.hid hg1
  clear hg1
  go_wp2_with fail
  refine (s_pick _ _ _ _ w1R.out (by omega) (by omega)).mono ?_
  rintro e w2 ⟨n, rfl, n0, n1, nr, hg2⟩
  have n2 := n1 (by omega)
  clear n1
  have w2R := Lib.hid nr
  clear nr
  have w2z := hg2.size
  try simp at w2z
  have w2G := Lib.hid hg2
  clear hg2
  go_wp2_with fail
  refine (s_pick _ _ _ _ w2R.out (by omega) (by omega)).mono ?_
  rintro e w3 ⟨t, rfl, t0, t1, tr, hg3⟩
  have t2 := t1 (by omega)
  clear t1
  have w3R := Lib.hid tr
  clear tr
  have w3z := hg3.size
  try simp at w3z
  have w3G := Lib.hid hg3
  clear hg3
  by_cases ht : t = 0
  · subst ht
    go_wp2_with fail
    refine (s_pick _ _ _ _ (rd_alloc w3R.out _) (by omega) (by omega)).mono ?_
    rintro e w4 ⟨x, rfl, x0, x1, xr, hg4⟩
    have x2 := x1 (by omega)
    clear x1
    have w4R := Lib.hid xr
    clear xr
    have Kw4_arr : Blk w4 (w3.heap.size) #[.int .i64 (-1), .int .i64 3] := blk_only hg4 (by omega) (blk_new (by simp))
    obtain ⟨w4_c0_arr, w4_c1_arr, w4_f0_arr, w4_f1_arr⟩ := blk2 Kw4_arr
    have Kw4_arrH := Lib.hid Kw4_arr
    have w4_l_arr := Kw4_arr.lt
    have w4_m_arr : w3.heap.size < w4.heap.size + 1 := by omega
    have w4z := hg4.size
    try simp at w4z
    have w4G := Lib.hid hg4
    clear Kw4_arr
    clear hg4
    obtain rfl | rfl : x = 0 ∨ x = 1 := by omega
    · go_wp2_with fail
      go_ret2
      exact ⟨_, _, _, rfl, by omega, by omega, by omega, w4R.out, by (repeat' (first | exact on_refl _ _ | refine on_out ?_ (by assumption) | refine on_below ?_ (by assumption) | refine on_alloc ?_ _ | refine on_drewN ?_ _ | refine on_drew ?_ | refine on_set ?_ ?_ _ | omega | (simp; done) | (simp; omega)))⟩
    · go_wp2_with fail
      go_ret2
      exact ⟨_, _, _, rfl, by omega, by omega, by omega, w4R.out, by (repeat' (first | exact on_refl _ _ | refine on_out ?_ (by assumption) | refine on_below ?_ (by assumption) | refine on_alloc ?_ _ | refine on_drewN ?_ _ | refine on_drew ?_ | refine on_set ?_ ?_ _ | omega | (simp; done) | (simp; omega)))⟩
  have ht2 : (t == 0) = false := by simp [ht]
  by_cases ht1 : t = 1
  · subst ht1
    go_wp2_with fail
    have x1 : IntKind.i64.wrap (4 * l) = 4 * l := IntWalk.i64_in _ (by omega)
    have x2 : IntKind.i64.wrap (4 * l + 3) = 4 * l + 3 := IntWalk.i64_in _ (by omega)
    go_region_with (go_at_call 15; (refine (s_pick _ _ _ _ (by first | exact w3R.out | exact rd_alloc w3R.out _ | exact rd_drew w3R.out | exact rd_alloc (rd_drew w3R.out) _ | exact rd_drew (rd_alloc w3R.out _)) (by omega) (by omega)).mono ?_); rintro e w' ⟨x, rfl, x0, x1, xr, hg⟩; have x2 := x1 (by omega); clear x1; have q1 : (#[Value.int .i64 (-1), Value.int .i64 (4 * l + 3)] : Array Value)[x.toNat]? = some (.int .i64 (pkI x (4 * l + 3))) := pk_at x0 x2; (try (have q2 : w'.cell? ⟨w3.heap.size, x.toNat, none⟩ = some (.int .i64 (pkI x (4 * l + 3))) := (blk_at (blk_only hg (by omega) (by first | exact blk_new rfl | exact blk_drew (blk_new rfl) | exact blk_new (by simp)))).trans q1)))
    all_goals go_wp2_with fail
    all_goals go_ret2
    all_goals (rcases (show x = 0 ∨ x = 1 by omega) with rfl | rfl)
    all_goals exact ⟨l, _, p + 1 + 1 + 1 + 1, rfl, by omega, by (have := pk_bd 0 (y := 4 * l + 3) (by omega) (by omega); have := pk_bd 1 (y := 4 * l + 3) (by omega) (by omega); omega), by omega, by first | exact xr | exact rd_alloc xr _ | exact rd_drew xr, by (repeat' (first | exact on_refl _ _ | refine on_out ?_ (by assumption) | refine on_trans ?_ (by assumption) | refine on_alloc ?_ _ | refine on_drewN ?_ _ | refine on_drew ?_ | refine on_set ?_ ?_ _ | omega | (simp; done) | (simp; omega)))⟩
  have ht3 : (t == 1) = false := by simp [ht1]
  clear ht ht1
  go_wp2_with fail
  go_ret2
  exact ⟨_, _, _, rfl, by omega, by omega, by omega, w3R.out, by (repeat' (first | exact on_refl _ _ | refine on_out ?_ (by assumption) | refine on_below ?_ (by assumption) | refine on_alloc ?_ _ | refine on_drewN ?_ _ | refine on_drew ?_ | refine on_set ?_ ?_ _ | omega | (simp; done) | (simp; omega)))⟩

set_option maxRecDepth 100000 in
set_option maxHeartbeats 1000000 in
theorem s_DrawHundTerm (a : Option Addr) (len cap : Nat) (w : World) (h : Code w a len cap) (hl : len ≤ 9223372036854775807) (hc : cap ≤ 9223372036854775807) :
    Calls Tryd.prog 4 #[.slice a len cap] w (RDrawU w) := by
  have H := Lib.hid h
  clear h
  go_enter Tryd.func4, Tryd.ntmps4
  go_wp2_with fail
  refine (s_l6Open a len cap _ H.out hl hc).mono ?_
  rintro e w1 ⟨rfl, hr, hb1⟩
  have HR := Lib.hid hr
  have HB := Lib.hid hb1
  clear hr hb1
  go_wp2_with fail
  refine (s_l92Fill _ _ _ HR.out (by omega)).mono ?_
  rintro e w2 ⟨l, n, q, rfl, hl1, hn1, _, _, hg⟩
  have HG := Lib.hid hg
  clear hg
  go_wp2_with fail
  go_ret2
  exact ⟨l, n, rfl, hl1, hn1, bl_only HB.out HG (Nat.le_refl _)⟩

end Go.Proofs.YtcmbilddlbejgaaDoor
