/- What is reckoned over all couplings: the laws on CoupleSum, in plain numbers. -/
import Derived.Test.YtnjcbohledafgaaPk
namespace Go.Proofs.Ytnjcbohledafgaa
open Go.RowKit
set_option linter.unusedVariables false

theorem couple_ne {a b c m n : Int} (h : coupleI a b c m n ≠ 0) : cpOk a b c m n = true ∧ hasB c (m + n) = true := by
  unfold coupleI at h
  split at h
  · rename_i h2
    rw [Bool.and_eq_true] at h2
    exact h2
  · exact absurd rfl h

def okSwap (a b c m n : Int) : Bool := if (a + b - c) / 2 % 2 = 0 then decide (coupleI b a c n m = coupleI a b c m n) else decide (coupleI b a c n m + coupleI a b c m n = 0)
theorem okSwap_all : all5 okSwap = true := by decide +kernel
def okTurn (a b c m n : Int) : Bool := if (a + b - c) / 2 % 2 = 0 then decide (coupleI a b c (-m) (-n) = coupleI a b c m n) else decide (coupleI a b c (-m) (-n) + coupleI a b c m n = 0)
theorem okTurn_all : all5 okTurn = true := by decide +kernel
def okTopK (a b c m n : Int) : Bool := decide (6 < a + b) || decide (coupleI a b (a + b) m n = chooseI a ((a - m) / 2) * chooseI b ((b + n) / 2))
theorem okTopK_all : all5 okTopK = true := by decide +kernel

end Go.Proofs.Ytnjcbohledafgaa
