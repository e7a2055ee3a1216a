/- What is reckoned over all couplings: the laws on Clebsch, in plain numbers. -/
import Derived.Test.YtdhmjmnpaigagaaPk
namespace Go.Proofs.Ytdhmjmnpaigagaa
open Go.RowKit
set_option linter.unusedVariables false

theorem clebI_ok {a b c m n S N D : Int} (h : clebI a b c m n = (S, N, D, true)) : cpOk a b c m n = true := by
  cases hh : cpOk a b c m n
  · simp [clebI, hh] at h
  · rfl

/-- The sign is changed if the number is odd. -/
def trn (s n : Int) : Int := if n.tmod 2 = 0 then s else -s

def okHalf (a b c m n : Int) : Bool :=
  let x := clebI a 1 (a + 1) m 1
  let y := ratOf (a + m + 2) (2 * a + 2)
  if a = 6 then !x.2.2.2 else x.2.2.2 && y.2.2 && decide (x.1 = 1) && decide (x.2.1 = y.1) && decide (x.2.2.1 = y.2.1)
theorem okHalf_all : all5 okHalf = true := by decide +kernel

def okNoneC (a b c m n : Int) : Bool :=
  let x := clebI a 0 a m 0
  let y := clebI a b (a + b) a b
  x.2.2.2 && decide (x.1 = 1) && decide (x.2.1 = 1) && decide (x.2.2.1 = 1) && (if 6 < a + b then !y.2.2.2 else y.2.2.2 && decide (y.1 = 1) && decide (y.2.1 = 1) && decide (y.2.2.1 = 1))
theorem okNoneC_all : all5 okNoneC = true := by decide +kernel

def okSwapC (a b c m n : Int) : Bool :=
  let o := clebI a b c m n
  let x := clebI b a c n m
  let y := clebI a b c (-m) (-n)
  x.2.2.2 && y.2.2.2 && decide (trn x.1 ((a + b - c) / 2) = o.1) && decide (o.2.1 = x.2.1) && decide (o.2.2.1 = x.2.2.1) && decide (trn y.1 ((a + b - c) / 2) = o.1) && decide (o.2.1 = y.2.1) && decide (o.2.2.1 = y.2.2.1) &&
    (decide (-1 ≤ x.1) && (decide (x.1 ≤ 1) && (decide (-1 ≤ y.1) && decide (y.1 ≤ 1))))
theorem okSwapC_all : all5 okSwapC = true := by decide +kernel

end Go.Proofs.Ytdhmjmnpaigagaa
