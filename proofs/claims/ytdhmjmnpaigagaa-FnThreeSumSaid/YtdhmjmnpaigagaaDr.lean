/- Contracts of the draws of couplings. -/
import Derived.Test.YtdhmjmnpaigagaaA
import Derived.Test.YtdhmjmnpaigagaaR
import Derived.Test.YtdhmjmnpaigagaaRk
namespace Go.Proofs.Ytdhmjmnpaigagaa
open Go.RowKit

def InR (x : Int) : Prop := -1000 ≤ x ∧ x ≤ 1000
def RRdA (w : World) (R p c : Nat) (e : Ending) (w' : World) : Prop := ∃ (x y z : Int) (q : Nat), e = .returned (.tuple #[.int .i64 x, .int .i64 y, .int .i64 z]) ∧ (0 ≤ x ∧ x ≤ 100) ∧ (0 ≤ y ∧ y ≤ 100) ∧ (0 ≤ z ∧ z ≤ 100) ∧ q ≤ p + c ∧ Rd w' R q ∧ w.grownBy w' (some R)
def RRdB (w : World) (R p c : Nat) (e : Ending) (w' : World) : Prop := ∃ (x y : Int) (q : Nat), e = .returned (.tuple #[.int .i64 x, .int .i64 y]) ∧ (-1000 ≤ x ∧ x ≤ 1000) ∧ (-1000 ≤ y ∧ y ≤ 1000) ∧ q ≤ p + c ∧ Rd w' R q ∧ w.grownBy w' (some R)
def RDraw5 (w : World) (e : Ending) (w' : World) : Prop := ∃ a b c m n : Int, e = .returned (.tuple #[.int .i64 a, .int .i64 b, .int .i64 c, .int .i64 m, .int .i64 n]) ∧ InR a ∧ InR b ∧ InR c ∧ InR m ∧ InR n ∧ Below w.heap.size w w'
def RDraw6 (w : World) (e : Ending) (w' : World) : Prop := ∃ a b c m n k : Int, e = .returned (.tuple #[.int .i64 a, .int .i64 b, .int .i64 c, .int .i64 m, .int .i64 n, .int .i64 k]) ∧ InR a ∧ InR b ∧ InR c ∧ InR m ∧ InR n ∧ (-2000 ≤ k ∧ k ≤ 2000) ∧ Below w.heap.size w w'
def RDrawT (w : World) (e : Ending) (w' : World) : Prop := ∃ a b c : Int, e = .returned (.tuple #[.int .i64 a, .int .i64 b, .int .i64 c]) ∧ InR a ∧ InR b ∧ InR c ∧ Below w.heap.size w w'

set_option maxRecDepth 100000 in
set_option maxHeartbeats 1000000 in
theorem s_l91Three (most : Int) (m0 : 1 ≤ most) (m1 : most ≤ 8) (R p : Nat) (w : World) (hr : Rd w R p) (hp : p ≤ 900000) :
    Calls Try.prog 21 #[.pointer (some ⟨R, 0, none⟩), .int .i64 most] w (RRdA w R p 10) := by
  have HR := Lib.hid hr
  have hR := hr.lt
  clear hr
  go_enter Try.func21, Try.ntmps21
  go_wp2_with fail
  refine (s_pick _ _ _ _ HR.out (by omega) (by omega)).mono ?_
  rintro e w1 ⟨a, rfl, a0, a1, ar, hg1⟩
  have a2 := a1 (by omega)
  clear a1
  have w1R := Lib.hid ar
  clear ar
  have w1z := hg1.size
  try simp at w1z
  have w1G := Lib.hid hg1
  clear hg1
  go_wp2_with fail
  refine (s_pick _ _ _ _ w1R.out (by omega) (by omega)).mono ?_
  rintro e w2 ⟨b, rfl, b0, b1, br, hg2⟩
  have b2 := b1 (by omega)
  clear b1
  have w2R := Lib.hid br
  clear br
  have w2z := hg2.size
  try simp at w2z
  have w2G := Lib.hid hg2
  clear hg2
  go_wp2_with fail
  refine (s_l1Abs _ _ (by omega) (by omega)).mono ?_
  rintro e w' ⟨rfl, rfl⟩
  have q1 : 0 ≤ absI (a - b) := by unfold absI; omega
  have q2 : absI (a - b) ≤ 9 := by unfold absI; omega
  by_cases hmin : a ≤ b
  all_goals
    go_wp2_with fail
    refine (s_pick _ _ _ _ w2R.out (by omega) (by omega)).mono ?_
    rintro e w3 ⟨f, rfl, f0, f1, fr, hg3⟩
    have f2 := f1 (by omega)
    clear f1
    have w3R := Lib.hid fr
    clear fr
    have w3z := hg3.size
    try simp at w3z
    have w3G := Lib.hid hg3
    clear hg3
    go_wp2_with fail
    refine (s_pick _ _ _ _ w3R.out (by omega) (by omega)).mono ?_
    rintro e w4 ⟨t, rfl, t0, t1, tr, hg4⟩
    have t2 := t1 (by omega)
    clear t1
    have w4R := Lib.hid tr
    clear tr
    have w4z := hg4.size
    try simp at w4z
    have w4G := Lib.hid hg4
    clear hg4
    by_cases ht : t = 0
    · subst ht
      go_wp2_with fail
      refine (s_pick _ _ _ _ w4R.out (by omega) (by omega)).mono ?_
      rintro e w5 ⟨u, rfl, u0, u1, ur, hg5⟩
      have u2 := u1 (by omega)
      clear u1
      have w5R := Lib.hid ur
      clear ur
      have w5z := hg5.size
      try simp at w5z
      have w5G := Lib.hid hg5
      clear hg5
      go_wp2_with fail
      go_ret3
      exact ⟨_, _, _, _, rfl, by omega, by omega, by omega, by omega, w5R.out, by (repeat' (first | exact on_refl _ _ | refine on_out ?_ (by assumption) | refine on_below ?_ (by assumption) | refine on_alloc ?_ _ | refine on_drewN ?_ _ | refine on_drew ?_ | refine on_set ?_ ?_ _ | omega | (simp; done) | (simp; omega)))⟩
    have ht' : (t == 0) = false := by simp [ht]
    clear ht
    go_wp2_with fail
    go_ret3
    exact ⟨_, _, _, _, rfl, by omega, by omega, by omega, by omega, w4R.out, by (repeat' (first | exact on_refl _ _ | refine on_out ?_ (by assumption) | refine on_below ?_ (by assumption) | refine on_alloc ?_ _ | refine on_drewN ?_ _ | refine on_drew ?_ | refine on_set ?_ ?_ _ | omega | (simp; done) | (simp; omega)))⟩

set_option maxRecDepth 100000 in
set_option maxHeartbeats 1000000 in
theorem s_DrawThreeSum (s : Option Addr) (len cap : Nat) (w : World) (h : Code w s len cap) (hl : len ≤ 9223372036854775807) (hc : cap ≤ 9223372036854775807) :
    Calls Try.prog 8 #[.slice s len cap] w (RDrawT w) := by
  have H := Lib.hid h
  clear h
  go_enter Try.func8, Try.ntmps8
  go_wp2_with fail
  refine (s_l6Open s len cap _ H.out hl hc).mono ?_
  rintro e w1 ⟨rfl, hr, hb1⟩
  have HR := Lib.hid hr
  have HB := Lib.hid hb1
  clear hr hb1
  go_wp2_with fail
  refine (s_l91Three _ (by omega) (by omega) _ _ _ HR.out (by omega)).mono ?_
  rintro e w2 ⟨a, b, c, q, rfl, ha, hb, hc, _, _, hg⟩
  have HG := Lib.hid hg
  clear hg
  go_wp2_with fail
  go_ret3
  exact ⟨_, _, _, rfl, by unfold InR; omega, by unfold InR; omega, by unfold InR; omega, bl_only HB.out HG (Nat.le_refl _)⟩
end Go.Proofs.Ytdhmjmnpaigagaa
