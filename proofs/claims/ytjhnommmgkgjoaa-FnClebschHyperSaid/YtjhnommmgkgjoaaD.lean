/- Contracts of HyperShift and what it calls, and of the draws of hyperfine levels. -/
import Derived.Test.YtjhnommmgkgjoaaA
import Derived.Test.YtjhnommmgkgjoaaR
import Derived.Test.YtjhnommmgkgjoaaRk
namespace Go.Proofs.Ytjhnommmgkgjoaa
open Go.RowKit

/-- Four times the square of a doubled angular momentum. -/
def sq (j : Int) : Int := j * (j + 2)

theorem sq_bd {j b : Int} (h0 : 0 ≤ j) (h1 : j ≤ b) : 0 ≤ j * (j + 2) ∧ j * (j + 2) ≤ b * (b + 2) :=
  ⟨Int.mul_nonneg h0 (by omega), Int.mul_le_mul h1 (by omega) (by omega) (by omega)⟩

/-- The numbers are those of a hyperfine level. -/
def hyB (f j i : Int) : Bool := inB j 0 12 && inB i 0 12 && triB f j i

theorem triB_rot (a b c : Int) : triB b c a = triB a b c := by
  unfold triB
  rw [Bool.eq_iff_iff]
  simp [inB]
  omega

theorem triB_iff {a b c : Int} : triB a b c = true ↔ (0 ≤ a ∧ a ≤ 24) ∧ (0 ≤ b ∧ b ≤ 24) ∧ (0 ≤ c ∧ c ≤ 24) ∧ (a + b + c) % 2 = 0 ∧ a ≤ b + c ∧ b ≤ a + c ∧ c ≤ a + b := by
  unfold triB
  simp [inB, and_assoc]

theorem hyB_iff {f j i : Int} : hyB f j i = true ↔ (0 ≤ j ∧ j ≤ 12) ∧ (0 ≤ i ∧ i ≤ 12) ∧ (0 ≤ f ∧ f ≤ 24) ∧ (f + j + i) % 2 = 0 ∧ f ≤ j + i ∧ j ≤ f + i ∧ i ≤ f + j := by
  unfold hyB
  rw [Bool.and_eq_true, Bool.and_eq_true, triB_iff]
  simp [inB]
  omega

def shiftI (f j i : Int) : Int := if hyB f j i = true then sq f - sq j - sq i else 0

set_option maxRecDepth 100000 in
set_option maxHeartbeats 400000 in
theorem i_hyperfine_valid (f j i : Int) (w : World) :
    Calls Try.prog 34 #[.agg #[.int .i64 f, .int .i64 j, .int .i64 i]] w fun e w' => e = .returned (.bool (hyB f j i)) ∧ Below w.heap.size w w' := by
  cases hj : inB j 0 12
  · have e : hyB f j i = false := by simp [hyB, hj]
    have E := Lib.hid e
    clear e
    go_enter Try.func34, Try.ntmps34
    go_wp2_with (go_at_call 66; refine (i_hyperValid _ _).mono ?_; rintro e w' ⟨rfl, rfl⟩)
    go_ret
    exact ⟨ret_bool (by rw [E.out]), (Below.refl _ _).alloc (Nat.le_refl _) _⟩
  cases hi : inB i 0 12
  · have e : hyB f j i = false := by simp [hyB, hi]
    have E := Lib.hid e
    clear e
    go_enter Try.func34, Try.ntmps34
    go_wp2_with (go_at_call 66; refine (i_hyperValid _ _).mono ?_; rintro e w' ⟨rfl, rfl⟩)
    go_ret
    exact ⟨ret_bool (by rw [E.out]), (Below.refl _ _).alloc (Nat.le_refl _) _⟩
  have e : hyB f j i = triB j i f := by rw [triB_rot]; simp [hyB, hj, hi]
  have E := Lib.hid e
  clear e
  go_enter Try.func34, Try.ntmps34
  go_wp2_with (first | (go_at_call 66; refine (i_hyperValid _ _).mono ?_; rintro e w' ⟨rfl, rfl⟩) | (go_at_call 67; refine (i_SpinTriangle _ _ _ _).mono ?_; rintro e w' ⟨rfl, rfl⟩))
  go_ret
  exact ⟨ret_bool (by rw [E.out]), (Below.refl _ _).alloc (Nat.le_refl _) _⟩

set_option maxRecDepth 100000 in
set_option maxHeartbeats 400000 in
theorem s_l15Square (j : Int) (w : World) (h : 0 ≤ j) (h2 : j ≤ 100) :
    Calls Try.prog 39 #[.int .i64 j] w fun e w' => e = .returned (.int .i64 (sq j)) ∧ w = w' := by
  obtain ⟨j1, j2⟩ := sq_bd h h2
  go_enter Try.func39, Try.ntmps39
  go_wp2
  go_ret
  exact ⟨rfl, rfl⟩

set_option maxRecDepth 100000 in
set_option maxHeartbeats 400000 in
theorem s_l17Ok (f j i : Int) (w : World) :
    Calls Try.prog 37 #[.int .i64 f, .int .i64 j, .int .i64 i] w fun e w' => e = .returned (.bool (hyB f j i)) ∧ w = w' := by
  cases hj : inB j 0 12
  · have e : hyB f j i = false := by simp [hyB, hj]
    have E := Lib.hid e
    clear e
    go_enter Try.func37, Try.ntmps37
    go_wp2_with (go_at_call 68; refine (s_l6In _ _ _ _).mono ?_; rintro e w' ⟨rfl, rfl⟩)
    go_ret
    exact ⟨ret_bool (by rw [E.out]), rfl⟩
  cases hi : inB i 0 12
  · have e : hyB f j i = false := by simp [hyB, hi]
    have E := Lib.hid e
    clear e
    go_enter Try.func37, Try.ntmps37
    go_wp2_with (go_at_call 68; refine (s_l6In _ _ _ _).mono ?_; rintro e w' ⟨rfl, rfl⟩)
    go_ret
    exact ⟨ret_bool (by rw [E.out]), rfl⟩
  have e : hyB f j i = triB f j i := by simp [hyB, hj, hi]
  have E := Lib.hid e
  clear e
  go_enter Try.func37, Try.ntmps37
  go_wp2_with (first | (go_at_call 68; refine (s_l6In _ _ _ _).mono ?_; rintro e w' ⟨rfl, rfl⟩) | (go_at_call 70; refine (s_SpinTriangle _ _ _ _).mono ?_; rintro e w' ⟨rfl, rfl⟩))
  go_ret
  exact ⟨ret_bool (by rw [E.out]), rfl⟩

/-- Two, three integers are drawn. -/
def RDraw2 (w : World) (e : Ending) (w' : World) : Prop := ∃ x y : Int, e = .returned (.tuple #[.int .i64 x, .int .i64 y]) ∧ (-100 ≤ x ∧ x ≤ 100) ∧ (-100 ≤ y ∧ y ≤ 100) ∧ Below w.heap.size w w'
def RDraw3 (w : World) (e : Ending) (w' : World) : Prop := ∃ x y z : Int, e = .returned (.tuple #[.int .i64 x, .int .i64 y, .int .i64 z]) ∧ (-100 ≤ x ∧ x ≤ 100) ∧ (-100 ≤ y ∧ y ≤ 100) ∧ (-100 ≤ z ∧ z ≤ 100) ∧ Below w.heap.size w w'
/-- Three integers are drawn with a reader. -/
def RRd3 (w : World) (R p c : Nat) (e : Ending) (w' : World) : Prop := ∃ (x y z : Int) (q : Nat), e = .returned (.tuple #[.int .i64 x, .int .i64 y, .int .i64 z]) ∧ (-100 ≤ x ∧ x ≤ 100) ∧ (-100 ≤ y ∧ y ≤ 100) ∧ (-100 ≤ z ∧ z ≤ 100) ∧ q ≤ p + c ∧ Rd w' R q ∧ w.grownBy w' (some R)

theorem below_only {w a b : World} {R : Nat} (h : Below w.heap.size w a) (hR : w.heap.size ≤ R) (g : a.grownBy b (some R)) : Below w.heap.size w b :=
  h.grown g h.size (fun k hk => by cases hk; exact hR)

theorem only_trans {a b c : World} {R : Nat} (h : a.grownBy b (some R)) (g : b.grownBy c (some R)) : a.grownBy c (some R) :=
  ⟨g.os.trans h.os, g.tape.trans h.tape, g.output.trans h.output, Nat.le_trans h.size g.size, fun k hk hne => (g.block k (Nat.lt_of_lt_of_le hk h.size) hne).trans (h.block k hk hne)⟩

theorem only_alloc {a w : World} {row : Option Nat} (h : a.grownBy w row) (o : Obj) : a.grownBy (w.alloc o) row :=
  ⟨h.os, h.tape, h.output, Nat.le_trans h.size (by simp), fun i hi hne => (Below.heap_alloc w o i (Nat.lt_of_lt_of_le hi h.size)).trans (h.block i hi hne)⟩

end Go.Proofs.Ytjhnommmgkgjoaa
