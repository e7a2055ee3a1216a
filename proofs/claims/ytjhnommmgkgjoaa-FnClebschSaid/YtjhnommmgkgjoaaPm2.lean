/- What is reckoned over all couplings: the laws FnClebschMoved, FnClebsch, in plain numbers. -/
import Derived.Test.YtjhnommmgkgjoaaPw
namespace Go.Proofs.Ytjhnommmgkgjoaa
open Go.RowKit
set_option linter.unusedVariables false

def okMoved (a b c m n : Int) : Bool :=
  !hasB c (m + n) ||
    (let o := clebI a b c m n
     let x := clebI a c b m (-m - n)
     let y := ratMul o.2.1 o.2.2.1 (b + 1) 1
     let z := ratMul x.2.1 x.2.2.1 (c + 1) 1
     x.2.2.2 && y.2.2 && z.2.2 && decide (y.1 = z.1) && decide (y.2.1 = z.2.1))
theorem okMoved_all : all5 okMoved = true := by decide +kernel

def okCleb (a b c m n : Int) : Bool :=
  let o := clebI a b c m n
  rootOk o.1 o.2.1 o.2.2.1 && decide (o.2.1 ≤ o.2.2.1) && decide (o.1 = sgnI (coupleI a b c m n)) && (hasB c (m + n) || decide (o.1 = 0))
theorem okCleb_all : all5 okCleb = true := by decide +kernel

/-- The sum of the squares over projections, after k of them. -/
def clSt (a b c s : Int) : Nat → Int × Int × Bool
  | 0 => (0, 1, true)
  | k + 1 =>
    let t := clSt a b c s k
    let p := -a + 2 * (k : Int)
    if hasB b (s - p) = true then
      (let x := clebI a b c p (s - p)
       let y := ratAdd t.1 t.2.1 x.2.1 x.2.2.1
       (y.1, y.2.1, y.2.2 && (t.2.2 && x.2.2.2)))
    else t
theorem clSt_no {a b c s : Int} {k : Nat} (h : hasB b (s - (-a + 2 * (k : Int))) = false) : clSt a b c s (k + 1) = clSt a b c s k := by
  simp [clSt, h]
theorem clSt_yes {a b c s N D S1 N1 D1 : Int} {k : Nat} {o o1 : Bool} (h : hasB b (s - (-a + 2 * (k : Int))) = true) (ht : clSt a b c s k = (N, D, o)) (hx : clebI a b c (-a + 2 * (k : Int)) (s - (-a + 2 * (k : Int))) = (S1, N1, D1, o1)) :
    clSt a b c s (k + 1) = ((ratAdd N D N1 D1).1, (ratAdd N D N1 D1).2.1, (ratAdd N D N1 D1).2.2 && (o && o1)) := by
  simp [clSt, h, ht, hx]
def okSumC (a b c m n : Int) : Bool := !hasB c (m + n) || decide (clSt a b c (m + n) (a + 1).toNat = (1, 1, true))
theorem okSumC_all : all5 okSumC = true := by decide +kernel

end Go.Proofs.Ytjhnommmgkgjoaa
