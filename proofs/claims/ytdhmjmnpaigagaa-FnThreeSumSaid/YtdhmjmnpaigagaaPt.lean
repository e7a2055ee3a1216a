/- Plain functions on 3j symbols, and what is reckoned over all of them. -/
import Derived.Test.YtdhmjmnpaigagaaPm
import Derived.Test.YtdhmjmnpaigagaaPw
namespace Go.Proofs.Ytdhmjmnpaigagaa
open Go.RowKit
set_option linter.unusedVariables false

def odd2 (x : Int) : Bool := decide ((x.tdiv 2).tmod 2 ≠ 0)
def thOk (a b c m n k : Int) : Bool := cpOk a b c m n && hasB c k
theorem thOk_iff {a b c m n k : Int} : thOk a b c m n k = true ↔ cpOk a b c m n = true ∧ hasB c k = true := by simp [thOk]
/-- What ThreeJ returns. -/
def thI (a b c m n k : Int) : Int × Int × Int × Bool :=
  if thOk a b c m n k = true then
    (if m + n + k = 0 then
      (if odd2 (a - b - k) = true then -(clebI a b c m n).1 else (clebI a b c m n).1, (ratDiv (clebI a b c m n).2.1 (clebI a b c m n).2.2.1 (c + 1) 1).1, (ratDiv (clebI a b c m n).2.1 (clebI a b c m n).2.2.1 (c + 1) 1).2.1, true)
     else (0, 0, 1, true))
  else (0, 0, 0, false)
theorem thI_ok {a b c m n k S N D : Int} (h : thI a b c m n k = (S, N, D, true)) : thOk a b c m n k = true := by
  cases hh : thOk a b c m n k
  · simp [thI, hh] at h
  · rfl

def okTh (a b c m n : Int) : Bool := !hasB c (m + n) || ((clebI a b c m n).2.2.2 && (ratDiv (clebI a b c m n).2.1 (clebI a b c m n).2.2.1 (c + 1) 1).2.2 && decide (-1 ≤ (clebI a b c m n).1) && decide ((clebI a b c m n).1 ≤ 1))
theorem okTh_all : all5 okTh = true := by decide +kernel
theorem hasB_neg {j m : Int} : hasB j (-m) = hasB j m := by
  rw [Bool.eq_iff_iff, hasB_iff, hasB_iff]; omega
/-- For valid arguments whose projections add up to 0 the coefficient and the quotient exist. -/
theorem th_parts {a b c m n k : Int} (h : thOk a b c m n k = true) (hs : m + n + k = 0) : (clebI a b c m n).2.2.2 = true ∧ (ratDiv (clebI a b c m n).2.1 (clebI a b c m n).2.2.1 (c + 1) 1).2.2 = true ∧ (-1 ≤ (clebI a b c m n).1 ∧ (clebI a b c m n).1 ≤ 1) := by
  obtain ⟨h1, h2⟩ := thOk_iff.1 h
  have hh : hasB c (m + n) = true := by rw [← h2, ← hasB_neg, show -(m + n) = k by omega]
  have := all5_of okTh_all h1
  simp only [okTh, hh, Bool.not_true, Bool.false_or, Bool.and_eq_true, decide_eq_true_eq] at this
  exact ⟨this.1.1.1, this.1.1.2, this.1.2, this.2⟩

def all6 (P : Int → Int → Int → Int → Int → Int → Bool) : Bool := all5 fun a b c m n => (rangeI (-c) c).all fun k => !hasB c k || P a b c m n k
theorem all6_of {P : Int → Int → Int → Int → Int → Int → Bool} (h : all6 P = true) {a b c m n k : Int} (ok : thOk a b c m n k = true) : P a b c m n k = true := by
  obtain ⟨h1, h2⟩ := thOk_iff.1 ok
  have h3 := all5_of h h1
  rw [List.all_eq_true] at h3
  have hk := hasB_iff.1 h2
  have h4 := h3 k (mem_rangeI (by omega) (by omega))
  rw [h2] at h4
  simpa using h4

def okTurn3 (a b c m n k : Int) : Bool :=
  decide (thI b c a n k m = thI a b c m n k) && decide (thI c a b k m n = thI a b c m n k)
theorem okTurn3_all : all6 okTurn3 = true := by decide +kernel

def okZero3 (a b c m n : Int) : Bool :=
  let x := thI a a 0 m (-m) 0
  let y := ratOf 1 (a + 1)
  x.2.2.2 && y.2.2 && decide (x.2.1 = y.1) && decide (x.2.2.1 = y.2.1) && (decide (x.1 < 0) == decide ((a - m) / 2 % 2 ≠ 0))
theorem okZero3_all : all5 okZero3 = true := by decide +kernel

def okSwap3 (a b c m n k : Int) : Bool :=
  let o := thI a b c m n k
  let x := thI b a c n m k
  let y := thI a c b m k n
  x.2.2.2 && y.2.2.2 && decide (trn x.1 ((a + b + c) / 2) = o.1) && decide (o.2.1 = x.2.1) && decide (o.2.2.1 = x.2.2.1) && decide (trn y.1 ((a + b + c) / 2) = o.1) && decide (o.2.1 = y.2.1) && decide (o.2.2.1 = y.2.2.1) &&
    (decide (-1 ≤ x.1) && (decide (x.1 ≤ 1) && (decide (-1 ≤ y.1) && decide (y.1 ≤ 1))))
theorem okSwap3_all : all6 okSwap3 = true := by decide +kernel

def okCl3 (a b c m n k : Int) : Bool :=
  decide (m + n + k ≠ 0) ||
    (let o := thI a b c m n k
     let x := clebI a b c m n
     let y := ratMul o.2.1 o.2.2.1 (c + 1) 1
     x.2.2.2 && y.2.2 && decide (y.1 = x.2.1) && decide (y.2.1 = x.2.2.1))
theorem okCl3_all : all6 okCl3 = true := by decide +kernel

end Go.Proofs.Ytdhmjmnpaigagaa
