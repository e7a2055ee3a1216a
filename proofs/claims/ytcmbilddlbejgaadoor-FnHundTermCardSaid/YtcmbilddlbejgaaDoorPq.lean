/- Plain functions on rationals: reduction to lowest terms, sums, products, quotients. -/
import Derived.Test.YtcmbilddlbejgaaDoorPl
namespace Go.Proofs.YtcmbilddlbejgaaDoor
open Go.RowKit

def gcdI (a b : Int) : Int := (Int.gcd a b : Int)

/-- A rational in lowest terms, its terms in range. -/
def ratB (n d : Int) : Bool := inB d 1 1000000000 && inB n (-1000000000) 1000000000 && decide (gcdI n d = 1)

theorem ratB_iff {n d : Int} : ratB n d = true ↔ (1 ≤ d ∧ d ≤ 1000000000) ∧ (-1000000000 ≤ n ∧ n ≤ 1000000000) ∧ gcdI n d = 1 := by
  simp [ratB, inB, and_assoc]

/-- The terms in lowest form, the denominator positive. -/
def mkN (num den : Int) : Int := if den < 0 then -num.tdiv (gcdI num den) else num.tdiv (gcdI num den)
def mkD (num den : Int) : Int := if den < 0 then -den.tdiv (gcdI num den) else den.tdiv (gcdI num den)

/-- The numerator, the denominator, and whether there is such a rational. -/
def mkR (num den : Int) : Int × Int × Bool := if ratB (mkN num den) (mkD num den) = true then (mkN num den, mkD num den, true) else (0, 0, false)

def bigB (num den : Int) : Bool := decide (den ≠ 0) && inB num (-4000000000000000000) 4000000000000000000 && inB den (-4000000000000000000) 4000000000000000000
def ratOf (num den : Int) : Int × Int × Bool := if bigB num den = true then mkR num den else (0, 0, false)

/-- Such a result as a value. -/
def rv (x : Int × Int × Bool) : Value := .tuple #[.agg #[.int .i64 x.1, .int .i64 x.2.1], .bool x.2.2]

def ratMul (a b c d : Int) : Int × Int × Bool := if (ratB a b && ratB c d) = true then ratOf (a * c) (b * d) else (0, 0, false)
def ratAdd (a b c d : Int) : Int × Int × Bool := if (ratB a b && ratB c d) = true then ratOf (a * d + c * b) (b * d) else (0, 0, false)
def ratDiv (a b c d : Int) : Int × Int × Bool := if (ratB a b && ratB c d) = true then ratOf (a * d) (b * c) else (0, 0, false)

theorem gcdI_pos {a b : Int} (h : b ≠ 0) : 1 ≤ gcdI a b := by
  unfold gcdI
  have : 0 < Int.gcd a b := Int.gcd_pos_of_ne_zero_right a h
  omega

theorem gcdI_le {a b : Int} (h : b ≠ 0) : gcdI a b ≤ absI b := by
  unfold gcdI
  have h1 : Int.gcd a b ≤ b.natAbs := by
    unfold Int.gcd
    exact Nat.gcd_le_right _ (by omega)
  unfold absI
  split <;> omega

theorem tdiv_bd {a g M : Int} (h1 : -M ≤ a) (h2 : a ≤ M) : -M ≤ a.tdiv g ∧ a.tdiv g ≤ M := by
  have h : (a.tdiv g).natAbs ≤ a.natAbs := by
    rw [Int.natAbs_tdiv]
    exact Nat.div_le_self _ _
  omega

theorem gcdI_abs (a b : Int) : gcdI (absI a) (absI b) = gcdI a b := by
  have h : ∀ n : Int, (absI n).natAbs = n.natAbs := fun n => by unfold absI; split <;> omega
  unfold gcdI Int.gcd
  rw [h, h]

theorem gcdI_zero {x : Int} (h : 0 ≤ x) : gcdI x 0 = x := by
  unfold gcdI
  rw [Int.gcd_zero_right]
  omega

theorem gcdI_step (x y : Int) : gcdI y (x.tmod y) = gcdI x y := by
  unfold gcdI
  congr 1
  unfold Int.gcd
  rw [Int.natAbs_tmod, Nat.gcd_comm x.natAbs, Nat.gcd_rec y.natAbs x.natAbs, Nat.gcd_comm]

theorem mul_bd {a b A B : Int} (h1 : -A ≤ a) (h2 : a ≤ A) (h3 : -B ≤ b) (h4 : b ≤ B) : -(A * B) ≤ a * b ∧ a * b ≤ A * B := by
  have h : (a * b).natAbs ≤ A.natAbs * B.natAbs := by
    rw [Int.natAbs_mul]
    exact Nat.mul_le_mul (by omega) (by omega)
  have hA : 0 ≤ A := by omega
  have hB : 0 ≤ B := by omega
  have e : ((A.natAbs * B.natAbs : Nat) : Int) = A * B := by rw [Int.natCast_mul, Int.natAbs_of_nonneg hA, Int.natAbs_of_nonneg hB]
  omega

theorem mkR_bd (num den : Int) : (-1000000000 ≤ (mkR num den).1 ∧ (mkR num den).1 ≤ 1000000000) ∧ (0 ≤ (mkR num den).2.1 ∧ (mkR num den).2.1 ≤ 1000000000) := by
  unfold mkR
  split
  · rename_i h; have := ratB_iff.1 h; simp; omega
  · simp

end Go.Proofs.YtcmbilddlbejgaaDoor
