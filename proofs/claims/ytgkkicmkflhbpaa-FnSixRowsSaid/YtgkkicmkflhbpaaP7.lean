/- What is reckoned over all 6j symbols: exchanges. -/
import Derived.Test.YtgkkicmkflhbpaaPd
namespace Go.Proofs.Ytgkkicmkflhbpaa
open Go.RowKit
set_option linter.unusedVariables false

def okCol (a b c d e f : Int) : Bool := decide (sjI b a c e d f = sjI a b c d e f) && decide (sjI c b a f e d = sjI a b c d e f) && decide (sjI b c a e f d = sjI a b c d e f)
theorem okCol_all : allS okCol = true := by decide +kernel
def okRow (a b c d e f : Int) : Bool := decide (sjI d e c a b f = sjI a b c d e f) && decide (sjI a e f d b c = sjI a b c d e f)
theorem okRow_all : allS okRow = true := by decide +kernel

end Go.Proofs.Ytgkkicmkflhbpaa
