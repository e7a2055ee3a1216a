/- Plain functions on strengths of lines. -/
import Derived.Test.YtneihommpncegaaPd
import Derived.Test.YtneihommpncegaaPtm
namespace Go.Proofs.Ytneihommpncegaa
open Go.RowKit
set_option linter.unusedVariables false

def smlB (s l j : Int) : Bool := lvB s l j && decide (2 * l ≤ 6) && decide (j ≤ 6) && decide (s ≤ 6)
theorem smlB_iff {s l j : Int} (h : smlB s l j = true) : (0 ≤ s ∧ s ≤ 6) ∧ (0 ≤ l ∧ l ≤ 3) ∧ (0 ≤ j ∧ j ≤ 6) := by
  simp [smlB, lvB, tmB, triB, inB] at h
  omega
theorem smlB_eq (s l j : Int) : smlB s l j = (lvB s l j && inB (2 * l) 0 6 && inB j 0 6 && inB s 0 6) := by
  rw [Bool.eq_iff_iff]
  simp [smlB, lvB, tmB, triB, inB]
  omega
/-- What LineStrength returns. -/
def lsI (s l j s2 l2 j2 : Int) : Int × Int × Bool :=
  if (smlB s l j && smlB s2 l2 j2 && decide (s = s2)) = true then
    (if sixOk (2 * l) j s j2 (2 * l2) 2 = true then
      (if (sjI (2 * l) j s j2 (2 * l2) 2).2.2.2 = true then ratMul (sjI (2 * l) j s j2 (2 * l2) 2).2.1 (sjI (2 * l) j s j2 (2 * l2) 2).2.2.1 ((j + 1) * (j2 + 1)) 1 else (0, 0, false))
     else (0, 1, true))
  else (0, 0, false)

end Go.Proofs.Ytneihommpncegaa
