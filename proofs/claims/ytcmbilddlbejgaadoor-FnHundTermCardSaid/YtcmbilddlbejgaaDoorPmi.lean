/- Plain functions for microstates: the sums of a state's bits. -/
import Derived.Test.YtcmbilddlbejgaaDoorBt
import Derived.Test.YtcmbilddlbejgaaDoorU
import Derived.Laws.Bits64b
namespace Go.Proofs.YtcmbilddlbejgaaDoor
open Go.RowKit
set_option linter.unusedVariables false

/-- What is left when the lowest bit is struck. -/
def clr (r : Nat) : Nat := r &&& (r - 1)
def okR (r : Nat) : Bool := decide (r = 0) || (decide (Lib.ctz 64 r < 10) && decide (clr r < r) && decide (popN (clr r) + 1 = popN r))
theorem okR_all : ((List.range 1024).all okR) = true := by decide +kernel
theorem clr_ok {r : Nat} (hr : r < 1024) (h0 : 1 ≤ r) : Lib.ctz 64 r < 10 ∧ clr r < r ∧ popN (clr r) + 1 = popN r := by
  have h := List.all_eq_true.1 okR_all r (List.mem_range.2 hr)
  simp only [okR, Bool.or_eq_true, Bool.and_eq_true, decide_eq_true_eq] at h
  rcases h with h | ⟨⟨h1, h2⟩, h3⟩
  · omega
  · exact ⟨h1, h2, h3⟩
theorem pop_all : ((List.range 1024).all fun r => decide (popN r ≤ 10)) = true := by decide +kernel
theorem pop_le {r : Nat} (hr : r < 1024) : popN r ≤ 10 := by
  have h := List.all_eq_true.1 pop_all r (List.mem_range.2 hr)
  simpa using h
theorem clr_bits {r : Nat} (hr : r < 1024) (h0 : 1 ≤ r) : bits .and .u64 (r : Int) ((r : Int) - 1) = ((clr r : Nat) : Int) := by
  rw [show ((r : Int) - 1) = ((r - 1 : Nat) : Int) by omega]
  exact bits_and_u64_nat r (r - 1) (by omega) (by omega)

/-- The sums over the bits of r, from these on. -/
def sumK (l : Int) : Nat → Nat → Int → Int → Int × Int
  | 0, _, o, s => (o, s)
  | f + 1, r, o, s => if r = 0 then (o, s) else sumK l f (clr r) (o + ((Lib.ctz 64 r : Nat) / 2 - l)) (s + ((Lib.ctz 64 r : Nat) % 2 * 2 - 1))
theorem sumK_zero (l : Int) (f : Nat) (o s : Int) : sumK l f 0 o s = (o, s) := by cases f <;> simp [sumK]
theorem sumK_step (l : Int) (f r : Nat) (o s : Int) (h : 1 ≤ r) : sumK l (f + 1) r o s = sumK l f (clr r) (o + ((Lib.ctz 64 r : Nat) / 2 - l)) (s + ((Lib.ctz 64 r : Nat) % 2 * 2 - 1)) := by
  rw [sumK, if_neg (by omega)]
/-- A state's sums. -/
def micro (l : Int) (k : Nat) : Int × Int := sumK l 10 k 0 0
/-- The microstates below m. -/
def microL (l n : Int) (m : Nat) : List (Int × Int) := (List.range m).flatMap fun k => if ((popN k : Nat) : Int) = n then [micro l k] else []
theorem microL_yes {l n : Int} {m : Nat} (h : ((popN m : Nat) : Int) = n) : microL l n (m + 1) = microL l n m ++ [micro l m] := by
  simp [microL, List.range_succ, h]
theorem microL_no {l n : Int} {m : Nat} (h : ((popN m : Nat) : Int) ≠ n) : microL l n (m + 1) = microL l n m := by
  simp [microL, List.range_succ, h]
theorem microL_len (l n : Int) : ∀ m, (microL l n m).length ≤ m
  | 0 => by simp [microL]
  | m + 1 => by
    have h := microL_len l n m
    by_cases hp : ((popN m : Nat) : Int) = n
    · rw [microL_yes hp]; simp; omega
    · rw [microL_no hp]; omega
/-- How many states a shell has. -/
def statesN (l : Int) : Nat := 2 ^ (4 * l + 2).toNat

end Go.Proofs.YtcmbilddlbejgaaDoor
