/- Contracts of HyperShift and what it calls, and of the draws of hyperfine levels. -/
import Derived.Test.YtnpfcifdpmdnlaaA
import Derived.Test.YtnpfcifdpmdnlaaR
import Derived.Test.YtnpfcifdpmdnlaaRk
namespace Go.Proofs.Ytnpfcifdpmdnlaa
open Go.RowKit

/-- Four times the square of a doubled angular momentum. -/
def sq (j : Int) : Int := j * (j + 2)

theorem sq_bd {j b : Int} (h0 : 0 ≤ j) (h1 : j ≤ b) : 0 ≤ j * (j + 2) ∧ j * (j + 2) ≤ b * (b + 2) :=
  ⟨Int.mul_nonneg h0 (by omega), Int.mul_le_mul h1 (by omega) (by omega) (by omega)⟩

/-- The numbers are those of a hyperfine level. -/
def hyB (f j i : Int) : Bool := inB j 0 12 && inB i 0 12 && triB f j i

theorem triB_rot (a b c : Int) : triB b c a = triB a b c := by
  unfold triB
  rw [Bool.eq_iff_iff]
  simp [inB]
  omega

theorem triB_iff {a b c : Int} : triB a b c = true ↔ (0 ≤ a ∧ a ≤ 24) ∧ (0 ≤ b ∧ b ≤ 24) ∧ (0 ≤ c ∧ c ≤ 24) ∧ (a + b + c) % 2 = 0 ∧ a ≤ b + c ∧ b ≤ a + c ∧ c ≤ a + b := by
  unfold triB
  simp [inB, and_assoc]

theorem hyB_iff {f j i : Int} : hyB f j i = true ↔ (0 ≤ j ∧ j ≤ 12) ∧ (0 ≤ i ∧ i ≤ 12) ∧ (0 ≤ f ∧ f ≤ 24) ∧ (f + j + i) % 2 = 0 ∧ f ≤ j + i ∧ j ≤ f + i ∧ i ≤ f + j := by
  unfold hyB
  rw [Bool.and_eq_true, Bool.and_eq_true, triB_iff]
  simp [inB]
  omega

def shiftI (f j i : Int) : Int := if hyB f j i = true then sq f - sq j - sq i else 0

set_option maxHeartbeats 400000 in
theorem i_hyperfine_valid (f j i : Int) (w : World) :
    Calls Try.prog 40 #[.agg #[.int .i64 f, .int .i64 j, .int .i64 i]] w fun e w' => e = .returned (.bool (hyB f j i)) ∧ Below w.heap.size w w' := by
  cases hj : inB j 0 12
  · have e : hyB f j i = false := by simp [hyB, hj]
    have E := Lib.hid e
    clear e
    go_enter Try.func40, Try.ntmps40
    go_wp2_with (go_at_call 35; refine (i_hyperValid _ _).mono ?_; rintro e w' ⟨rfl, rfl⟩)
    go_ret
    exact ⟨ret_bool (by rw [E.out]), (Below.refl _ _).alloc (Nat.le_refl _) _⟩
  cases hi : inB i 0 12
  · have e : hyB f j i = false := by simp [hyB, hi]
    have E := Lib.hid e
    clear e
    go_enter Try.func40, Try.ntmps40
    go_wp2_with (go_at_call 35; refine (i_hyperValid _ _).mono ?_; rintro e w' ⟨rfl, rfl⟩)
    go_ret
    exact ⟨ret_bool (by rw [E.out]), (Below.refl _ _).alloc (Nat.le_refl _) _⟩
  have e : hyB f j i = triB j i f := by rw [triB_rot]; simp [hyB, hj, hi]
  have E := Lib.hid e
  clear e
  go_enter Try.func40, Try.ntmps40
  go_wp2_with (first | (go_at_call 35; refine (i_hyperValid _ _).mono ?_; rintro e w' ⟨rfl, rfl⟩) | (go_at_call 53; refine (i_SpinTriangle _ _ _ _).mono ?_; rintro e w' ⟨rfl, rfl⟩))
  go_ret
  exact ⟨ret_bool (by rw [E.out]), (Below.refl _ _).alloc (Nat.le_refl _) _⟩

set_option maxHeartbeats 400000 in
theorem i_hyperfine_shift (f j i : Int) (w : World) (hf : 0 ≤ f) (hf2 : f ≤ 24) (hj : 0 ≤ j) (hj2 : j ≤ 24) (hi : 0 ≤ i) (hi2 : i ≤ 24) :
    Calls Try.prog 41 #[.agg #[.int .i64 f, .int .i64 j, .int .i64 i]] w fun e w' => e = .returned (.int .i64 (sq f - sq j - sq i)) ∧ Below w.heap.size w w' := by
  obtain ⟨f1, f2⟩ := sq_bd hf hf2
  obtain ⟨j1, j2⟩ := sq_bd hj hj2
  obtain ⟨i1, i2⟩ := sq_bd hi hi2
  go_enter Try.func41, Try.ntmps41
  go_wp2
  go_ret
  exact ⟨rfl, (Below.refl _ _).alloc (Nat.le_refl _) _⟩

set_option maxHeartbeats 400000 in
theorem i_HyperShift (f j i : Int) (w : World) :
    Calls Try.prog 21 #[.int .i64 f, .int .i64 j, .int .i64 i] w fun e w' => e = .returned (.int .i64 (shiftI f j i)) ∧ Below w.heap.size w w' := by
  cases h : hyB f j i
  · have e : shiftI f j i = 0 := by simp [shiftI, h]
    have E := Lib.hid e
    clear e
    go_enter Try.func21, Try.ntmps21
    go_wp2_with (go_at_call 40; refine (i_hyperfine_valid _ _ _ _).mono ?_; rintro e w1 ⟨rfl, hb⟩)
    go_ret
    exact ⟨ret_int (by rw [E.out]), ((Below.refl _ _).alloc (Nat.le_refl _) _).trans (hb.mono (by simp))⟩
  have e : shiftI f j i = sq f - sq j - sq i := by simp [shiftI, h]
  have E := Lib.hid e
  clear e
  have hh := hyB_iff.1 h
  go_enter Try.func21, Try.ntmps21
  go_wp2_with fail
  refine (i_hyperfine_valid _ _ _ _).mono ?_
  rintro e w1 ⟨rfl, hb⟩
  have q0 : w1.cell? ⟨w.heap.size, 0, none⟩ = some (.int .i64 f) := by rw [hb.cell (by simp)]; simp
  have q1 : w1.cell? ⟨w.heap.size, 1, none⟩ = some (.int .i64 j) := by rw [hb.cell (by simp)]; simp
  have q2 : w1.cell? ⟨w.heap.size, 2, none⟩ = some (.int .i64 i) := by rw [hb.cell (by simp)]; simp
  have B1 := Lib.hid hb
  clear hb
  go_wp2_with fail
  refine (i_hyperfine_shift _ _ _ _ (by omega) (by omega) (by omega) (by omega) (by omega) (by omega)).mono ?_
  rintro e w2 ⟨rfl, hb2⟩
  go_wp2
  go_ret
  exact ⟨ret_int (by rw [E.out]), ((Below.refl _ _).alloc (Nat.le_refl _) _).trans ((btr B1.out hb2).mono (by simp))⟩

set_option maxHeartbeats 400000 in
theorem s_l15Square (j : Int) (w : World) (h : 0 ≤ j) (h2 : j ≤ 100) :
    Calls Try.prog 43 #[.int .i64 j] w fun e w' => e = .returned (.int .i64 (sq j)) ∧ w = w' := by
  obtain ⟨j1, j2⟩ := sq_bd h h2
  go_enter Try.func43, Try.ntmps43
  go_wp2
  go_ret
  exact ⟨rfl, rfl⟩

set_option maxHeartbeats 400000 in
theorem s_l17Ok (f j i : Int) (w : World) :
    Calls Try.prog 42 #[.int .i64 f, .int .i64 j, .int .i64 i] w fun e w' => e = .returned (.bool (hyB f j i)) ∧ w = w' := by
  cases hj : inB j 0 12
  · have e : hyB f j i = false := by simp [hyB, hj]
    have E := Lib.hid e
    clear e
    go_enter Try.func42, Try.ntmps42
    go_wp2_with (go_at_call 33; refine (s_l6In _ _ _ _).mono ?_; rintro e w' ⟨rfl, rfl⟩)
    go_ret
    exact ⟨ret_bool (by rw [E.out]), rfl⟩
  cases hi : inB i 0 12
  · have e : hyB f j i = false := by simp [hyB, hi]
    have E := Lib.hid e
    clear e
    go_enter Try.func42, Try.ntmps42
    go_wp2_with (go_at_call 33; refine (s_l6In _ _ _ _).mono ?_; rintro e w' ⟨rfl, rfl⟩)
    go_ret
    exact ⟨ret_bool (by rw [E.out]), rfl⟩
  have e : hyB f j i = triB f j i := by simp [hyB, hj, hi]
  have E := Lib.hid e
  clear e
  go_enter Try.func42, Try.ntmps42
  go_wp2_with (first | (go_at_call 33; refine (s_l6In _ _ _ _).mono ?_; rintro e w' ⟨rfl, rfl⟩) | (go_at_call 54; refine (s_SpinTriangle _ _ _ _).mono ?_; rintro e w' ⟨rfl, rfl⟩))
  go_ret
  exact ⟨ret_bool (by rw [E.out]), rfl⟩

set_option maxHeartbeats 400000 in
theorem s_HyperShift (f j i : Int) (w : World) :
    Calls Try.prog 22 #[.int .i64 f, .int .i64 j, .int .i64 i] w fun e w' => e = .returned (.int .i64 (shiftI f j i)) ∧ w = w' := by
  cases h : hyB f j i
  · have e : shiftI f j i = 0 := by simp [shiftI, h]
    have E := Lib.hid e
    clear e
    go_enter Try.func22, Try.ntmps22
    go_wp2_with (go_at_call 42; refine (s_l17Ok _ _ _ _).mono ?_; rintro e w' ⟨rfl, rfl⟩)
    go_ret
    exact ⟨ret_int (by rw [E.out]), rfl⟩
  have e : shiftI f j i = sq f - sq j - sq i := by simp [shiftI, h]
  have E := Lib.hid e
  clear e
  have hh := hyB_iff.1 h
  obtain ⟨f1, f2⟩ : 0 ≤ sq f ∧ sq f ≤ 24 * (24 + 2) := sq_bd (by omega) (by omega)
  obtain ⟨j1, j2⟩ : 0 ≤ sq j ∧ sq j ≤ 24 * (24 + 2) := sq_bd (by omega) (by omega)
  obtain ⟨i1, i2⟩ : 0 ≤ sq i ∧ sq i ≤ 24 * (24 + 2) := sq_bd (by omega) (by omega)
  go_enter Try.func22, Try.ntmps22
  go_wp2_with (first | (go_at_call 42; refine (s_l17Ok _ _ _ _).mono ?_; rintro e w' ⟨rfl, rfl⟩) | (go_at_call 43; refine (s_l15Square _ _ (by omega) (by omega)).mono ?_; rintro e w' ⟨rfl, rfl⟩))
  go_ret
  exact ⟨ret_int (by rw [E.out]), rfl⟩

/-- Two, three integers are drawn. -/
def RDraw2 (w : World) (e : Ending) (w' : World) : Prop := ∃ x y : Int, e = .returned (.tuple #[.int .i64 x, .int .i64 y]) ∧ (-100 ≤ x ∧ x ≤ 100) ∧ (-100 ≤ y ∧ y ≤ 100) ∧ Below w.heap.size w w'
def RDraw3 (w : World) (e : Ending) (w' : World) : Prop := ∃ x y z : Int, e = .returned (.tuple #[.int .i64 x, .int .i64 y, .int .i64 z]) ∧ (-100 ≤ x ∧ x ≤ 100) ∧ (-100 ≤ y ∧ y ≤ 100) ∧ (-100 ≤ z ∧ z ≤ 100) ∧ Below w.heap.size w w'
/-- Three integers are drawn with a reader. -/
def RRd3 (w : World) (R p c : Nat) (e : Ending) (w' : World) : Prop := ∃ (x y z : Int) (q : Nat), e = .returned (.tuple #[.int .i64 x, .int .i64 y, .int .i64 z]) ∧ (-100 ≤ x ∧ x ≤ 100) ∧ (-100 ≤ y ∧ y ≤ 100) ∧ (-100 ≤ z ∧ z ≤ 100) ∧ q ≤ p + c ∧ Rd w' R q ∧ w.grownBy w' (some R)

theorem below_only {w a b : World} {R : Nat} (h : Below w.heap.size w a) (hR : w.heap.size ≤ R) (g : a.grownBy b (some R)) : Below w.heap.size w b :=
  h.grown g h.size (fun k hk => by cases hk; exact hR)

theorem only_trans {a b c : World} {R : Nat} (h : a.grownBy b (some R)) (g : b.grownBy c (some R)) : a.grownBy c (some R) :=
  ⟨g.os.trans h.os, g.tape.trans h.tape, g.output.trans h.output, Nat.le_trans h.size g.size, fun k hk hne => (g.block k (Nat.lt_of_lt_of_le hk h.size) hne).trans (h.block k hk hne)⟩

theorem only_alloc {a w : World} {row : Option Nat} (h : a.grownBy w row) (o : Obj) : a.grownBy (w.alloc o) row :=
  ⟨h.os, h.tape, h.output, Nat.le_trans h.size (by simp), fun i hi hne => (Below.heap_alloc w o i (Nat.lt_of_lt_of_le hi h.size)).trans (h.block i hi hne)⟩

set_option maxHeartbeats 400000 in
theorem s_DrawHyperLevels (a : Option Addr) (len cap : Nat) (w : World) (h : Code w a len cap) (hl : len ≤ 9223372036854775807) (hc : cap ≤ 9223372036854775807) :
    Calls Try.prog 18 #[.slice a len cap] w (RDraw2 w) := by
  have H := Lib.hid h
  clear h
  go_enter Try.func18, Try.ntmps18
  go_wp2_with fail
  refine (s_l6Open a len cap w H.out hl hc).mono ?_
  rintro e w1 ⟨rfl, hr, hb⟩
  have HR := Lib.hid hr
  have HB := Lib.hid hb
  clear hr hb
  go_wp2_with fail
  refine (s_pick _ _ _ _ HR.out (by omega) (by omega)).mono ?_
  rintro e w2 ⟨x, rfl, x0, x1, hr, hg⟩
  have x2 := x1 (by omega)
  have HR2 := Lib.hid hr
  have HG2 := Lib.hid hg
  clear hr hg x1
  go_wp2_with fail
  refine (s_pick _ _ _ _ HR2.out (by omega) (by omega)).mono ?_
  rintro e w3 ⟨y, rfl, y0, y1, hr, hg⟩
  have y2 := y1 (by omega)
  have HR3 := Lib.hid hr
  have HG3 := Lib.hid hg
  clear hr hg y1
  go_wp2_with fail
  refine (s_pick _ _ _ _ HR3.out (by omega) (by omega)).mono ?_
  rintro e w4 ⟨z, rfl, z0, z1, hr, hg⟩
  have z2 := z1 (by omega)
  have HG4 := Lib.hid hg
  clear hr hg z1
  go_wp2
  go_ret2
  exact ⟨_, _, rfl, by omega, by omega, below_only HB.out (Nat.le_refl _) (only_trans (only_trans HG2.out HG3.out) HG4.out)⟩

end Go.Proofs.Ytnpfcifdpmdnlaa
