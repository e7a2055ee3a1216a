/- What is reckoned over all 6j symbols: squares over one angular momentum add up. -/
import Derived.Test.YtgkkicmkflhbpaaPd
namespace Go.Proofs.Ytgkkicmkflhbpaa
open Go.RowKit
set_option linter.unusedVariables false

def okVal6 (a b c d e f : Int) : Bool := rootOk (sjI a b c d e f).1 (sjI a b c d e f).2.1 (sjI a b c d e f).2.2.1
theorem okVal6_all : allS okVal6 = true := by decide +kernel
/-- The sum of the squares, after k angular momenta. -/
def soSt (a b d e f : Int) : Nat → Int × Int × Bool
  | 0 => (0, 1, true)
  | k + 1 =>
    let t := soSt a b d e f k
    if (triB a b (k : Int) && triB d e (k : Int)) = true then
      (let x := sjI a b (k : Int) d e f
       let z := ratMul x.2.1 x.2.2.1 (((k : Int) + 1) * (f + 1)) 1
       let y := ratAdd t.1 t.2.1 z.1 z.2.1
       (y.1, y.2.1, y.2.2 && (t.2.2 && x.2.2.2 && z.2.2)))
    else t
theorem soSt_no {a b d e f : Int} {k : Nat} (h : (triB a b (k : Int) && triB d e (k : Int)) = false) : soSt a b d e f (k + 1) = soSt a b d e f k := by
  simp only [soSt, h]
  rfl
theorem soSt_yes {a b d e f N D S1 N1 D1 N4 D4 : Int} {k : Nat} {o o1 o4 : Bool} (h : (triB a b (k : Int) && triB d e (k : Int)) = true) (ht : soSt a b d e f k = (N, D, o)) (hx : sjI a b (k : Int) d e f = (S1, N1, D1, o1)) (hz : ratMul N1 D1 (((k : Int) + 1) * (f + 1)) 1 = (N4, D4, o4)) :
    soSt a b d e f (k + 1) = ((ratAdd N D N4 D4).1, (ratAdd N D N4 D4).2.1, (ratAdd N D N4 D4).2.2 && (o && o1 && o4)) := by
  simp only [soSt, h, ht, hx, hz]
  rfl
def okOr6 (a b c d e f : Int) : Bool := (decide (6 < a + b) && decide (6 < d + e)) || decide (soSt a b d e f 7 = (1, 1, true))
theorem okOr6_all : allS okOr6 = true := by decide +kernel

end Go.Proofs.Ytgkkicmkflhbpaa
