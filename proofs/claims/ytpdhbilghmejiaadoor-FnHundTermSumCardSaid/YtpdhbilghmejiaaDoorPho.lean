/- The plain law of FnHundTermSum. -/
import Derived.Test.YtpdhbilghmejiaaDoorMo
import Derived.Test.YtpdhbilghmejiaaDoorY
namespace Go.Proofs.YtpdhbilghmejiaaDoor
open Go.RowKit
set_option linter.unusedVariables false

/-- The electrons, or the holes' turn, that count for the orbital sum. -/
def hlf (l n : Int) : Int := if 2 * l + 1 < n then n - 2 * l - 1 else n
def sumOk (l : Int) (n : Nat) : Bool := decide (orbR l n (hundS l n).1 = (hundS l n).2 ∧ 2 * (hundS l n).2 = hlf l n * (2 * l + 1 - hlf l n))
set_option maxRecDepth 100000 in
theorem sum_all0 : ((List.range 3).all (sumOk 0)) = true := by decide +kernel
set_option maxRecDepth 100000 in
theorem sum_all1 : ((List.range 7).all (sumOk 1)) = true := by decide +kernel
set_option maxRecDepth 100000 in
theorem sum_all2 : ((List.range 11).all (sumOk 2)) = true := by decide +kernel
theorem sum_ok {l n : Int} (he : elecB l n = true) : orbR l n (hundS l n.toNat).1 = (hundS l n.toNat).2 ∧ 2 * (hundS l n.toNat).2 = hlf l n * (2 * l + 1 - hlf l n) := by
  obtain ⟨⟨l1, l2⟩, n1, n2⟩ := elecB_iff.1 he
  obtain ⟨N, rfl⟩ := Int.eq_ofNat_of_zero_le n1
  have h : sumOk l N = true := by
    obtain rfl | rfl | rfl : l = 0 ∨ l = 1 ∨ l = 2 := by omega
    · exact List.all_eq_true.1 sum_all0 N (List.mem_range.2 (by omega))
    · exact List.all_eq_true.1 sum_all1 N (List.mem_range.2 (by omega))
    · exact List.all_eq_true.1 sum_all2 N (List.mem_range.2 (by omega))
  have h := of_decide_eq_true h
  rw [Int.toNat_natCast]
  exact h

end Go.Proofs.YtpdhbilghmejiaaDoor
