/- What is reckoned over all 3j symbols: sums of squares, signs, sizes. -/
import Derived.Test.YtjhnommmgkgjoaaPt
namespace Go.Proofs.Ytjhnommmgkgjoaa
open Go.RowKit
set_option linter.unusedVariables false

/-- The sum of the squares with one projection, after j of them. -/
def thSt (a b c k : Int) : Nat → Int × Int × Bool
  | 0 => (0, 1, true)
  | j + 1 =>
    let t := thSt a b c k j
    let p := -a + 2 * (j : Int)
    if hasB b (-k - p) = true then
      (let x := thI a b c p (-k - p) k
       let y := ratAdd t.1 t.2.1 x.2.1 x.2.2.1
       (y.1, y.2.1, y.2.2 && (t.2.2 && x.2.2.2)))
    else t
theorem thSt_no {a b c k : Int} {j : Nat} (h : hasB b (-k - (-a + 2 * (j : Int))) = false) : thSt a b c k (j + 1) = thSt a b c k j := by
  simp [thSt, h]
theorem thSt_yes {a b c k N D S1 N1 D1 : Int} {j : Nat} {o o1 : Bool} (h : hasB b (-k - (-a + 2 * (j : Int))) = true) (ht : thSt a b c k j = (N, D, o)) (hx : thI a b c (-a + 2 * (j : Int)) (-k - (-a + 2 * (j : Int))) k = (S1, N1, D1, o1)) :
    thSt a b c k (j + 1) = ((ratAdd N D N1 D1).1, (ratAdd N D N1 D1).2.1, (ratAdd N D N1 D1).2.2 && (o && o1)) := by
  simp [thSt, h, ht, hx]
def okOne (a b c : Int) : Bool := (rangeI (-c) c).all fun k => !hasB c k ||
  (let t := thSt a b c k (a + 1).toNat
   t.2.2 && decide (ratMul t.1 t.2.1 (c + 1) 1 = (1, 1, true)))
theorem okOne_all : all3 okOne = true := by decide +kernel
theorem okOne_of {a b c k : Int} (h : tdB a b c = true) (hk : hasB c k = true) : (thSt a b c k (a + 1).toNat).2.2 = true ∧ ratMul (thSt a b c k (a + 1).toNat).1 (thSt a b c k (a + 1).toNat).2.1 (c + 1) 1 = (1, 1, true) := by
  have h0 := all3_of okOne_all h
  have hb := hasB_iff.1 hk
  simp only [okOne, List.all_eq_true] at h0
  have h4 := h0 k (mem_rangeI (by omega) (by omega))
  rw [hk] at h4
  simpa using h4

def okNeg3 (a b c m n k : Int) : Bool :=
  let o := thI a b c m n k
  let x := thI a b c (-m) (-n) (-k)
  x.2.2.2 && decide (trn x.1 ((a + b + c) / 2) = o.1) && decide (o.2.1 = x.2.1) && decide (o.2.2.1 = x.2.2.1) && (decide ((a + b + c) / 2 % 2 = 0) || decide (m ≠ 0) || decide (n ≠ 0) || decide (k ≠ 0) || decide (o.1 = 0)) && (decide (-1 ≤ x.1) && decide (x.1 ≤ 1))
theorem okNeg3_all : all6 okNeg3 = true := by decide +kernel

def okNone3 (a b c m n k : Int) : Bool :=
  let o := thI a b c m n k
  let x := ratMul o.2.1 o.2.2.1 (c + 1) 1
  x.2.2 && ratB x.1 x.2.1 && decide (x.1 ≤ x.2.1) && rootOk o.1 o.2.1 o.2.2.1 && (decide (m + n + k = 0) || decide (o.1 = 0))
theorem okNone3_all : all6 okNone3 = true := by decide +kernel

end Go.Proofs.Ytjhnommmgkgjoaa
