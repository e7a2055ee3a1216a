/- What is reckoned over all 6j symbols, in plain numbers. -/
import Derived.Test.YtgkkicmkflhbpaaPd
namespace Go.Proofs.Ytgkkicmkflhbpaa
open Go.RowKit
set_option linter.unusedVariables false

theorem six_ne {a b c d e f : Int} (h : sixI a b c d e f ≠ 0) : sixOk a b c d e f = true := by
  cases hh : sixOk a b c d e f
  · simp [sixI, hh] at h
  · rfl
def okSix1 (a b c d e f : Int) : Bool := decide (sixI b a c e d f = sixI a b c d e f) && decide (sixI a c b d f e = sixI a b c d e f) && decide (sixI d e c a b f = sixI a b c d e f)
theorem okSix1_all : allS okSix1 = true := by decide +kernel
def okTri (a b c d e f : Int) : Bool := !sixOk a b c (d + 1) e f && triB a b c && triB a e f && triB d b f && triB d e c
theorem okTri_all : allS okTri = true := by decide +kernel

end Go.Proofs.Ytgkkicmkflhbpaa
