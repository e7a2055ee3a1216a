/- What is reckoned over all 6j symbols: symbols with 0, sizes, sums of squares. -/
import Derived.Test.YtgkkicmkflhbpaaPd
namespace Go.Proofs.Ytgkkicmkflhbpaa
open Go.RowKit
set_option linter.unusedVariables false

def okZero6 (a b c : Int) : Bool :=
  let x := sjI a b c 0 c b
  let y := ratOf 1 ((b + 1) * (c + 1))
  x.2.2.2 && y.2.2 && decide (x.2.1 = y.1) && decide (x.2.2.1 = y.2.1) && (decide (x.1 < 0) == decide ((a + b + c) / 2 % 2 ≠ 0))
theorem okZero6_all : all3 okZero6 = true := by decide +kernel
def okSmall (a b c d e f : Int) : Bool :=
  let o := sjI a b c d e f
  let x := ratMul o.2.1 o.2.2.1 ((c + 1) * (f + 1)) 1
  x.2.2 && ratB x.1 x.2.1 && decide (x.1 ≤ x.2.1) && rootOk o.1 o.2.1 o.2.2.1
theorem okSmall_all : allS okSmall = true := by decide +kernel

end Go.Proofs.Ytgkkicmkflhbpaa
