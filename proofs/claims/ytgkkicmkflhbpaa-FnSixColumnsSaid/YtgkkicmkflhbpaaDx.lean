/- Contracts of the draws of 6j symbols. -/
import Derived.Test.YtgkkicmkflhbpaaDr
namespace Go.Proofs.Ytgkkicmkflhbpaa
open Go.RowKit
set_option linter.unusedVariables false

def RDrawS (w : World) (r : Ending) (w' : World) : Prop := ∃ a b c d e f : Int, r = .returned (.tuple #[.int .i64 a, .int .i64 b, .int .i64 c, .int .i64 d, .int .i64 e, .int .i64 f]) ∧ InR a ∧ InR b ∧ InR c ∧ InR d ∧ InR e ∧ InR f ∧ Below w.heap.size w w'

set_option maxHeartbeats 3000000 in
theorem s_DrawSixSum (s : Option Addr) (len cap : Nat) (w : World) (h : Code w s len cap) (hl : len ≤ 9223372036854775807) (hc : cap ≤ 9223372036854775807) :
    Calls Try.prog 17 #[.slice s len cap] w (RDrawS w) := by
  have H := Lib.hid h
  clear h
  go_enter Try.func17, Try.ntmps17
  go_wp2_with fail
  refine (s_l6Open s len cap _ H.out hl hc).mono ?_
  rintro e w1 ⟨rfl, hr, hb1⟩
  have hR := hr.lt
  have w1R := Lib.hid hr
  clear hr
  have w1z := hb1.size
  try simp at w1z
  have w1B := Lib.hid hb1
  clear hb1
  go_wp2_with fail
  refine (s_l91Three _ (by omega) (by omega) _ _ _ w1R.out (by omega)).mono ?_
  rintro e w2 ⟨a, b, c, qq, rfl, ⟨a0, a1⟩, ⟨b0, b1⟩, ⟨c0, c1⟩, qp, qr, hg2⟩
  have w2R := Lib.hid qr
  clear qr
  have w2z := hg2.size
  try simp at w2z
  have w2G := Lib.hid hg2
  clear hg2
  go_wp2_with fail
  refine (s_pick _ _ _ _ w2R.out (by omega) (by omega)).mono ?_
  rintro e w3 ⟨u, rfl, u0, u1, ur, hg3⟩
  have u2 := u1 (by omega)
  clear u1
  have w3R := Lib.hid ur
  clear ur
  have w3z := hg3.size
  try simp at w3z
  have w3G := Lib.hid hg3
  clear hg3
  go_wp2_with fail
  refine (s_l1Abs _ _ (by omega) (by omega)).mono ?_
  rintro e w' ⟨rfl, rfl⟩
  obtain ⟨v, hv, v0, v1⟩ : ∃ z : Int, absI (a - u) = z ∧ 0 ≤ z ∧ z ≤ 103 := ⟨_, rfl, by unfold absI; omega, by unfold absI; omega⟩
  rw [hv]
  clear hv
  by_cases hmin : a ≤ u
  all_goals
    go_wp2_with fail
    refine (s_pick _ _ _ _ w3R.out (by omega) (by omega)).mono ?_
    rintro e w4 ⟨t, rfl, t0, t1, tr, hg4⟩
    have t2 := t1 (by omega)
    clear t1
    have w4R := Lib.hid tr
    clear tr
    have w4z := hg4.size
    try simp at w4z
    have w4G := Lib.hid hg4
    clear hg4
    obtain ⟨f, hf, f0, f1⟩ : ∃ z : Int, v + 2 * t = z ∧ 0 ≤ z ∧ z ≤ 120 := ⟨_, rfl, by omega, by omega⟩
    go_wp2_with fail
    refine (s_l1Abs _ _ (by omega) (by omega)).mono ?_
    rintro e w' ⟨rfl, rfl⟩
    clear hf
    obtain ⟨x, hx, x0, x1⟩ : ∃ z : Int, absI (b - f) = z ∧ 0 ≤ z ∧ z ≤ 900 := ⟨_, rfl, by unfold absI; omega, by unfold absI; omega⟩
    rw [hx]
    clear hx
    go_wp2_with fail
    refine (s_l1Abs _ _ (by omega) (by omega)).mono ?_
    rintro e w' ⟨rfl, rfl⟩
    obtain ⟨y, hy, y0, y1⟩ : ∃ z : Int, absI (u - c) = z ∧ 0 ≤ z ∧ z ≤ 900 := ⟨_, rfl, by unfold absI; omega, by unfold absI; omega⟩
    rw [hy]
    clear hy
    rcases (by omega : (x < y ∧ b + f ≤ u + c) ∨ (x < y ∧ u + c < b + f) ∨ (y ≤ x ∧ b + f ≤ u + c) ∨ (y ≤ x ∧ u + c < b + f)) with hc1 | hc1 | hc1 | hc1
    · obtain ⟨hc2, hc3⟩ := hc1
      by_cases hhl : y < b + f
      · skip
        go_wp2_with fail
        refine (s_pick _ _ _ _ w4R.out (by omega) (by omega)).mono ?_
        rintro e w5 ⟨o, rfl, o0, o1, or, hg5⟩
        have o2 := o1 (by omega)
        clear o1
        have w5R := Lib.hid or
        clear or
        have w5z := hg5.size
        try simp at w5z
        have w5G := Lib.hid hg5
        clear hg5
        go_wp2_with fail
        refine (s_pick _ _ _ _ w5R.out (by omega) (by omega)).mono ?_
        rintro e w6 ⟨p, rfl, p0, p1, pr, hg6⟩
        have p2 := p1 (by omega)
        clear p1
        have w6R := Lib.hid pr
        clear pr
        have w6z := hg6.size
        try simp at w6z
        have w6G := Lib.hid hg6
        clear hg6
        by_cases hp : p = 0
        · subst hp
          go_wp2_with fail
          refine (s_pick _ _ _ _ w6R.out (by omega) (by omega)).mono ?_
          rintro e w7 ⟨z, rfl, z0, z1, zr, hg7⟩
          have z2 := z1 (by omega)
          clear z1
          have w7R := Lib.hid zr
          clear zr
          have w7z := hg7.size
          try simp at w7z
          have w7G := Lib.hid hg7
          clear hg7
          go_wp2_with fail
          refine bodyPost_ret (v := .tuple #[.int .i64 a, .int .i64 b, .int .i64 c, .int .i64 (z), .int .i64 u, .int .i64 f]) (by simp [results, Try.results17, go_sem]) rfl ⟨_, _, _, _, _, _, rfl, by (unfold InR; omega), by (unfold InR; omega), by (unfold InR; omega), by (unfold InR; omega), by (unfold InR; omega), by (unfold InR; omega), by (repeat' (first | exact Below.refl _ _ | refine bl_out ?_ (by assumption) | refine bl_only ?_ (by assumption) ?_ | exact (Hid.out (by assumption)) | refine bl_alloc ?_ _ | refine bl_drewN ?_ _ | refine bl_drew ?_ | refine bl_set ?_ ?_ _ | omega | (simp; done) | (simp; omega)))⟩
        have hp' : (p == 0) = false := by simp [hp]
        clear hp
        go_wp2_with fail
        refine bodyPost_ret (v := .tuple #[.int .i64 a, .int .i64 b, .int .i64 c, .int .i64 (y + 2 * o), .int .i64 u, .int .i64 f]) (by simp [results, Try.results17, go_sem]) rfl ⟨_, _, _, _, _, _, rfl, by (unfold InR; omega), by (unfold InR; omega), by (unfold InR; omega), by (unfold InR; omega), by (unfold InR; omega), by (unfold InR; omega), by (repeat' (first | exact Below.refl _ _ | refine bl_out ?_ (by assumption) | refine bl_only ?_ (by assumption) ?_ | exact (Hid.out (by assumption)) | refine bl_alloc ?_ _ | refine bl_drewN ?_ _ | refine bl_drew ?_ | refine bl_set ?_ ?_ _ | omega | (simp; done) | (simp; omega)))⟩
      go_wp2_with fail
      refine (s_pick _ _ _ _ w4R.out (by omega) (by omega)).mono ?_
      rintro e w5 ⟨p, rfl, p0, p1, pr, hg5⟩
      have p2 := p1 (by omega)
      clear p1
      have w5R := Lib.hid pr
      clear pr
      have w5z := hg5.size
      try simp at w5z
      have w5G := Lib.hid hg5
      clear hg5
      by_cases hp : p = 0
      · subst hp
        go_wp2_with fail
        refine (s_pick _ _ _ _ w5R.out (by omega) (by omega)).mono ?_
        rintro e w6 ⟨z, rfl, z0, z1, zr, hg6⟩
        have z2 := z1 (by omega)
        clear z1
        have w6R := Lib.hid zr
        clear zr
        have w6z := hg6.size
        try simp at w6z
        have w6G := Lib.hid hg6
        clear hg6
        go_wp2_with fail
        refine bodyPost_ret (v := .tuple #[.int .i64 a, .int .i64 b, .int .i64 c, .int .i64 (z), .int .i64 u, .int .i64 f]) (by simp [results, Try.results17, go_sem]) rfl ⟨_, _, _, _, _, _, rfl, by (unfold InR; omega), by (unfold InR; omega), by (unfold InR; omega), by (unfold InR; omega), by (unfold InR; omega), by (unfold InR; omega), by (repeat' (first | exact Below.refl _ _ | refine bl_out ?_ (by assumption) | refine bl_only ?_ (by assumption) ?_ | exact (Hid.out (by assumption)) | refine bl_alloc ?_ _ | refine bl_drewN ?_ _ | refine bl_drew ?_ | refine bl_set ?_ ?_ _ | omega | (simp; done) | (simp; omega)))⟩
      have hp' : (p == 0) = false := by simp [hp]
      clear hp
      go_wp2_with fail
      refine bodyPost_ret (v := .tuple #[.int .i64 a, .int .i64 b, .int .i64 c, .int .i64 (y), .int .i64 u, .int .i64 f]) (by simp [results, Try.results17, go_sem]) rfl ⟨_, _, _, _, _, _, rfl, by (unfold InR; omega), by (unfold InR; omega), by (unfold InR; omega), by (unfold InR; omega), by (unfold InR; omega), by (unfold InR; omega), by (repeat' (first | exact Below.refl _ _ | refine bl_out ?_ (by assumption) | refine bl_only ?_ (by assumption) ?_ | exact (Hid.out (by assumption)) | refine bl_alloc ?_ _ | refine bl_drewN ?_ _ | refine bl_drew ?_ | refine bl_set ?_ ?_ _ | omega | (simp; done) | (simp; omega)))⟩
    · obtain ⟨hc2, hc3⟩ := hc1
      by_cases hhl : y < u + c
      · skip
        go_wp2_with fail
        refine (s_pick _ _ _ _ w4R.out (by omega) (by omega)).mono ?_
        rintro e w5 ⟨o, rfl, o0, o1, or, hg5⟩
        have o2 := o1 (by omega)
        clear o1
        have w5R := Lib.hid or
        clear or
        have w5z := hg5.size
        try simp at w5z
        have w5G := Lib.hid hg5
        clear hg5
        go_wp2_with fail
        refine (s_pick _ _ _ _ w5R.out (by omega) (by omega)).mono ?_
        rintro e w6 ⟨p, rfl, p0, p1, pr, hg6⟩
        have p2 := p1 (by omega)
        clear p1
        have w6R := Lib.hid pr
        clear pr
        have w6z := hg6.size
        try simp at w6z
        have w6G := Lib.hid hg6
        clear hg6
        by_cases hp : p = 0
        · subst hp
          go_wp2_with fail
          refine (s_pick _ _ _ _ w6R.out (by omega) (by omega)).mono ?_
          rintro e w7 ⟨z, rfl, z0, z1, zr, hg7⟩
          have z2 := z1 (by omega)
          clear z1
          have w7R := Lib.hid zr
          clear zr
          have w7z := hg7.size
          try simp at w7z
          have w7G := Lib.hid hg7
          clear hg7
          go_wp2_with fail
          refine bodyPost_ret (v := .tuple #[.int .i64 a, .int .i64 b, .int .i64 c, .int .i64 (z), .int .i64 u, .int .i64 f]) (by simp [results, Try.results17, go_sem]) rfl ⟨_, _, _, _, _, _, rfl, by (unfold InR; omega), by (unfold InR; omega), by (unfold InR; omega), by (unfold InR; omega), by (unfold InR; omega), by (unfold InR; omega), by (repeat' (first | exact Below.refl _ _ | refine bl_out ?_ (by assumption) | refine bl_only ?_ (by assumption) ?_ | exact (Hid.out (by assumption)) | refine bl_alloc ?_ _ | refine bl_drewN ?_ _ | refine bl_drew ?_ | refine bl_set ?_ ?_ _ | omega | (simp; done) | (simp; omega)))⟩
        have hp' : (p == 0) = false := by simp [hp]
        clear hp
        go_wp2_with fail
        refine bodyPost_ret (v := .tuple #[.int .i64 a, .int .i64 b, .int .i64 c, .int .i64 (y + 2 * o), .int .i64 u, .int .i64 f]) (by simp [results, Try.results17, go_sem]) rfl ⟨_, _, _, _, _, _, rfl, by (unfold InR; omega), by (unfold InR; omega), by (unfold InR; omega), by (unfold InR; omega), by (unfold InR; omega), by (unfold InR; omega), by (repeat' (first | exact Below.refl _ _ | refine bl_out ?_ (by assumption) | refine bl_only ?_ (by assumption) ?_ | exact (Hid.out (by assumption)) | refine bl_alloc ?_ _ | refine bl_drewN ?_ _ | refine bl_drew ?_ | refine bl_set ?_ ?_ _ | omega | (simp; done) | (simp; omega)))⟩
      go_wp2_with fail
      refine (s_pick _ _ _ _ w4R.out (by omega) (by omega)).mono ?_
      rintro e w5 ⟨p, rfl, p0, p1, pr, hg5⟩
      have p2 := p1 (by omega)
      clear p1
      have w5R := Lib.hid pr
      clear pr
      have w5z := hg5.size
      try simp at w5z
      have w5G := Lib.hid hg5
      clear hg5
      by_cases hp : p = 0
      · subst hp
        go_wp2_with fail
        refine (s_pick _ _ _ _ w5R.out (by omega) (by omega)).mono ?_
        rintro e w6 ⟨z, rfl, z0, z1, zr, hg6⟩
        have z2 := z1 (by omega)
        clear z1
        have w6R := Lib.hid zr
        clear zr
        have w6z := hg6.size
        try simp at w6z
        have w6G := Lib.hid hg6
        clear hg6
        go_wp2_with fail
        refine bodyPost_ret (v := .tuple #[.int .i64 a, .int .i64 b, .int .i64 c, .int .i64 (z), .int .i64 u, .int .i64 f]) (by simp [results, Try.results17, go_sem]) rfl ⟨_, _, _, _, _, _, rfl, by (unfold InR; omega), by (unfold InR; omega), by (unfold InR; omega), by (unfold InR; omega), by (unfold InR; omega), by (unfold InR; omega), by (repeat' (first | exact Below.refl _ _ | refine bl_out ?_ (by assumption) | refine bl_only ?_ (by assumption) ?_ | exact (Hid.out (by assumption)) | refine bl_alloc ?_ _ | refine bl_drewN ?_ _ | refine bl_drew ?_ | refine bl_set ?_ ?_ _ | omega | (simp; done) | (simp; omega)))⟩
      have hp' : (p == 0) = false := by simp [hp]
      clear hp
      go_wp2_with fail
      refine bodyPost_ret (v := .tuple #[.int .i64 a, .int .i64 b, .int .i64 c, .int .i64 (y), .int .i64 u, .int .i64 f]) (by simp [results, Try.results17, go_sem]) rfl ⟨_, _, _, _, _, _, rfl, by (unfold InR; omega), by (unfold InR; omega), by (unfold InR; omega), by (unfold InR; omega), by (unfold InR; omega), by (unfold InR; omega), by (repeat' (first | exact Below.refl _ _ | refine bl_out ?_ (by assumption) | refine bl_only ?_ (by assumption) ?_ | exact (Hid.out (by assumption)) | refine bl_alloc ?_ _ | refine bl_drewN ?_ _ | refine bl_drew ?_ | refine bl_set ?_ ?_ _ | omega | (simp; done) | (simp; omega)))⟩
    · obtain ⟨hc2, hc3⟩ := hc1
      by_cases hhl : x < b + f
      · skip
        go_wp2_with fail
        refine (s_pick _ _ _ _ w4R.out (by omega) (by omega)).mono ?_
        rintro e w5 ⟨o, rfl, o0, o1, or, hg5⟩
        have o2 := o1 (by omega)
        clear o1
        have w5R := Lib.hid or
        clear or
        have w5z := hg5.size
        try simp at w5z
        have w5G := Lib.hid hg5
        clear hg5
        go_wp2_with fail
        refine (s_pick _ _ _ _ w5R.out (by omega) (by omega)).mono ?_
        rintro e w6 ⟨p, rfl, p0, p1, pr, hg6⟩
        have p2 := p1 (by omega)
        clear p1
        have w6R := Lib.hid pr
        clear pr
        have w6z := hg6.size
        try simp at w6z
        have w6G := Lib.hid hg6
        clear hg6
        by_cases hp : p = 0
        · subst hp
          go_wp2_with fail
          refine (s_pick _ _ _ _ w6R.out (by omega) (by omega)).mono ?_
          rintro e w7 ⟨z, rfl, z0, z1, zr, hg7⟩
          have z2 := z1 (by omega)
          clear z1
          have w7R := Lib.hid zr
          clear zr
          have w7z := hg7.size
          try simp at w7z
          have w7G := Lib.hid hg7
          clear hg7
          go_wp2_with fail
          refine bodyPost_ret (v := .tuple #[.int .i64 a, .int .i64 b, .int .i64 c, .int .i64 (z), .int .i64 u, .int .i64 f]) (by simp [results, Try.results17, go_sem]) rfl ⟨_, _, _, _, _, _, rfl, by (unfold InR; omega), by (unfold InR; omega), by (unfold InR; omega), by (unfold InR; omega), by (unfold InR; omega), by (unfold InR; omega), by (repeat' (first | exact Below.refl _ _ | refine bl_out ?_ (by assumption) | refine bl_only ?_ (by assumption) ?_ | exact (Hid.out (by assumption)) | refine bl_alloc ?_ _ | refine bl_drewN ?_ _ | refine bl_drew ?_ | refine bl_set ?_ ?_ _ | omega | (simp; done) | (simp; omega)))⟩
        have hp' : (p == 0) = false := by simp [hp]
        clear hp
        go_wp2_with fail
        refine bodyPost_ret (v := .tuple #[.int .i64 a, .int .i64 b, .int .i64 c, .int .i64 (x + 2 * o), .int .i64 u, .int .i64 f]) (by simp [results, Try.results17, go_sem]) rfl ⟨_, _, _, _, _, _, rfl, by (unfold InR; omega), by (unfold InR; omega), by (unfold InR; omega), by (unfold InR; omega), by (unfold InR; omega), by (unfold InR; omega), by (repeat' (first | exact Below.refl _ _ | refine bl_out ?_ (by assumption) | refine bl_only ?_ (by assumption) ?_ | exact (Hid.out (by assumption)) | refine bl_alloc ?_ _ | refine bl_drewN ?_ _ | refine bl_drew ?_ | refine bl_set ?_ ?_ _ | omega | (simp; done) | (simp; omega)))⟩
      go_wp2_with fail
      refine (s_pick _ _ _ _ w4R.out (by omega) (by omega)).mono ?_
      rintro e w5 ⟨p, rfl, p0, p1, pr, hg5⟩
      have p2 := p1 (by omega)
      clear p1
      have w5R := Lib.hid pr
      clear pr
      have w5z := hg5.size
      try simp at w5z
      have w5G := Lib.hid hg5
      clear hg5
      by_cases hp : p = 0
      · subst hp
        go_wp2_with fail
        refine (s_pick _ _ _ _ w5R.out (by omega) (by omega)).mono ?_
        rintro e w6 ⟨z, rfl, z0, z1, zr, hg6⟩
        have z2 := z1 (by omega)
        clear z1
        have w6R := Lib.hid zr
        clear zr
        have w6z := hg6.size
        try simp at w6z
        have w6G := Lib.hid hg6
        clear hg6
        go_wp2_with fail
        refine bodyPost_ret (v := .tuple #[.int .i64 a, .int .i64 b, .int .i64 c, .int .i64 (z), .int .i64 u, .int .i64 f]) (by simp [results, Try.results17, go_sem]) rfl ⟨_, _, _, _, _, _, rfl, by (unfold InR; omega), by (unfold InR; omega), by (unfold InR; omega), by (unfold InR; omega), by (unfold InR; omega), by (unfold InR; omega), by (repeat' (first | exact Below.refl _ _ | refine bl_out ?_ (by assumption) | refine bl_only ?_ (by assumption) ?_ | exact (Hid.out (by assumption)) | refine bl_alloc ?_ _ | refine bl_drewN ?_ _ | refine bl_drew ?_ | refine bl_set ?_ ?_ _ | omega | (simp; done) | (simp; omega)))⟩
      have hp' : (p == 0) = false := by simp [hp]
      clear hp
      go_wp2_with fail
      refine bodyPost_ret (v := .tuple #[.int .i64 a, .int .i64 b, .int .i64 c, .int .i64 (x), .int .i64 u, .int .i64 f]) (by simp [results, Try.results17, go_sem]) rfl ⟨_, _, _, _, _, _, rfl, by (unfold InR; omega), by (unfold InR; omega), by (unfold InR; omega), by (unfold InR; omega), by (unfold InR; omega), by (unfold InR; omega), by (repeat' (first | exact Below.refl _ _ | refine bl_out ?_ (by assumption) | refine bl_only ?_ (by assumption) ?_ | exact (Hid.out (by assumption)) | refine bl_alloc ?_ _ | refine bl_drewN ?_ _ | refine bl_drew ?_ | refine bl_set ?_ ?_ _ | omega | (simp; done) | (simp; omega)))⟩
    · obtain ⟨hc2, hc3⟩ := hc1
      by_cases hhl : x < u + c
      · skip
        go_wp2_with fail
        refine (s_pick _ _ _ _ w4R.out (by omega) (by omega)).mono ?_
        rintro e w5 ⟨o, rfl, o0, o1, or, hg5⟩
        have o2 := o1 (by omega)
        clear o1
        have w5R := Lib.hid or
        clear or
        have w5z := hg5.size
        try simp at w5z
        have w5G := Lib.hid hg5
        clear hg5
        go_wp2_with fail
        refine (s_pick _ _ _ _ w5R.out (by omega) (by omega)).mono ?_
        rintro e w6 ⟨p, rfl, p0, p1, pr, hg6⟩
        have p2 := p1 (by omega)
        clear p1
        have w6R := Lib.hid pr
        clear pr
        have w6z := hg6.size
        try simp at w6z
        have w6G := Lib.hid hg6
        clear hg6
        by_cases hp : p = 0
        · subst hp
          go_wp2_with fail
          refine (s_pick _ _ _ _ w6R.out (by omega) (by omega)).mono ?_
          rintro e w7 ⟨z, rfl, z0, z1, zr, hg7⟩
          have z2 := z1 (by omega)
          clear z1
          have w7R := Lib.hid zr
          clear zr
          have w7z := hg7.size
          try simp at w7z
          have w7G := Lib.hid hg7
          clear hg7
          go_wp2_with fail
          refine bodyPost_ret (v := .tuple #[.int .i64 a, .int .i64 b, .int .i64 c, .int .i64 (z), .int .i64 u, .int .i64 f]) (by simp [results, Try.results17, go_sem]) rfl ⟨_, _, _, _, _, _, rfl, by (unfold InR; omega), by (unfold InR; omega), by (unfold InR; omega), by (unfold InR; omega), by (unfold InR; omega), by (unfold InR; omega), by (repeat' (first | exact Below.refl _ _ | refine bl_out ?_ (by assumption) | refine bl_only ?_ (by assumption) ?_ | exact (Hid.out (by assumption)) | refine bl_alloc ?_ _ | refine bl_drewN ?_ _ | refine bl_drew ?_ | refine bl_set ?_ ?_ _ | omega | (simp; done) | (simp; omega)))⟩
        have hp' : (p == 0) = false := by simp [hp]
        clear hp
        go_wp2_with fail
        refine bodyPost_ret (v := .tuple #[.int .i64 a, .int .i64 b, .int .i64 c, .int .i64 (x + 2 * o), .int .i64 u, .int .i64 f]) (by simp [results, Try.results17, go_sem]) rfl ⟨_, _, _, _, _, _, rfl, by (unfold InR; omega), by (unfold InR; omega), by (unfold InR; omega), by (unfold InR; omega), by (unfold InR; omega), by (unfold InR; omega), by (repeat' (first | exact Below.refl _ _ | refine bl_out ?_ (by assumption) | refine bl_only ?_ (by assumption) ?_ | exact (Hid.out (by assumption)) | refine bl_alloc ?_ _ | refine bl_drewN ?_ _ | refine bl_drew ?_ | refine bl_set ?_ ?_ _ | omega | (simp; done) | (simp; omega)))⟩
      go_wp2_with fail
      refine (s_pick _ _ _ _ w4R.out (by omega) (by omega)).mono ?_
      rintro e w5 ⟨p, rfl, p0, p1, pr, hg5⟩
      have p2 := p1 (by omega)
      clear p1
      have w5R := Lib.hid pr
      clear pr
      have w5z := hg5.size
      try simp at w5z
      have w5G := Lib.hid hg5
      clear hg5
      by_cases hp : p = 0
      · subst hp
        go_wp2_with fail
        refine (s_pick _ _ _ _ w5R.out (by omega) (by omega)).mono ?_
        rintro e w6 ⟨z, rfl, z0, z1, zr, hg6⟩
        have z2 := z1 (by omega)
        clear z1
        have w6R := Lib.hid zr
        clear zr
        have w6z := hg6.size
        try simp at w6z
        have w6G := Lib.hid hg6
        clear hg6
        go_wp2_with fail
        refine bodyPost_ret (v := .tuple #[.int .i64 a, .int .i64 b, .int .i64 c, .int .i64 (z), .int .i64 u, .int .i64 f]) (by simp [results, Try.results17, go_sem]) rfl ⟨_, _, _, _, _, _, rfl, by (unfold InR; omega), by (unfold InR; omega), by (unfold InR; omega), by (unfold InR; omega), by (unfold InR; omega), by (unfold InR; omega), by (repeat' (first | exact Below.refl _ _ | refine bl_out ?_ (by assumption) | refine bl_only ?_ (by assumption) ?_ | exact (Hid.out (by assumption)) | refine bl_alloc ?_ _ | refine bl_drewN ?_ _ | refine bl_drew ?_ | refine bl_set ?_ ?_ _ | omega | (simp; done) | (simp; omega)))⟩
      have hp' : (p == 0) = false := by simp [hp]
      clear hp
      go_wp2_with fail
      refine bodyPost_ret (v := .tuple #[.int .i64 a, .int .i64 b, .int .i64 c, .int .i64 (x), .int .i64 u, .int .i64 f]) (by simp [results, Try.results17, go_sem]) rfl ⟨_, _, _, _, _, _, rfl, by (unfold InR; omega), by (unfold InR; omega), by (unfold InR; omega), by (unfold InR; omega), by (unfold InR; omega), by (unfold InR; omega), by (repeat' (first | exact Below.refl _ _ | refine bl_out ?_ (by assumption) | refine bl_only ?_ (by assumption) ?_ | exact (Hid.out (by assumption)) | refine bl_alloc ?_ _ | refine bl_drewN ?_ _ | refine bl_drew ?_ | refine bl_set ?_ ?_ _ | omega | (simp; done) | (simp; omega)))⟩

set_option maxHeartbeats 1000000 in
theorem s_DrawSixJ (s : Option Addr) (len cap : Nat) (w : World) (h : Code w s len cap) (hl : len ≤ 9223372036854775807) (hc : cap ≤ 9223372036854775807) :
    Calls Try.prog 21 #[.slice s len cap] w (RDrawS w) := by
  have H := Lib.hid h
  clear h
  go_enter Try.func21, Try.ntmps21
  go_wp2_with fail
  refine (s_DrawSixSum s len cap _ H.out hl hc).mono ?_
  rintro r w1 ⟨a, b, c, d, e, f, rfl, ha, hb, hc, hd, he, hf, hB⟩
  go_wp2_with fail
  exact bodyPost_ret (v := .tuple #[.int .i64 a, .int .i64 b, .int .i64 c, .int .i64 d, .int .i64 e, .int .i64 f]) (by simp [results, Try.results21, go_sem]) rfl ⟨_, _, _, _, _, _, rfl, ha, hb, hc, hd, he, hf, hB⟩

end Go.Proofs.Ytgkkicmkflhbpaa
