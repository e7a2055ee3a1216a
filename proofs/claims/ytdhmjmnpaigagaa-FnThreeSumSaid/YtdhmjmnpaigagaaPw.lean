/- What is reckoned over all couplings: squares over couplings, in plain numbers. -/
import Derived.Test.YtdhmjmnpaigagaaPm
namespace Go.Proofs.Ytdhmjmnpaigagaa
open Go.RowKit
set_option linter.unusedVariables false

def rootOk (S N D : Int) : Bool := decide (-1 ≤ S) && decide (S ≤ 1) && ratB N D && decide (0 ≤ N) && (decide (N = 0) == decide (S = 0))
theorem rootOk_iff {S N D : Int} (h : rootOk S N D = true) : (-1 ≤ S ∧ S ≤ 1) ∧ ratB N D = true ∧ 0 ≤ N ∧ (N = 0 ↔ S = 0) := by
  simp only [rootOk, Bool.and_eq_true, decide_eq_true_eq, beq_iff_eq, decide_eq_decide] at h
  obtain ⟨⟨⟨⟨h1, h2⟩, h3⟩, h4⟩, h5⟩ := h
  exact ⟨⟨h1, h2⟩, h3, h4, h5⟩

def okValid (a b c m n : Int) : Bool := rootOk (clebI a b c m n).1 (clebI a b c m n).2.1 (clebI a b c m n).2.2.1
theorem okValid_all : all5 okValid = true := by decide +kernel

/-- The sum of the squares over couplings, after k of them. -/
def whSt (a b m n : Int) (L : List Int) : Nat → Int × Int × Bool
  | 0 => (0, 1, true)
  | k + 1 =>
    let t := whSt a b m n L k
    let x := clebI a b (L.getD k 0) m n
    let y := ratAdd t.1 t.2.1 x.2.1 x.2.2.1
    (y.1, y.2.1, y.2.2 && (t.2.2 && x.2.2.2))
theorem whSt_next {a b m n N D S1 N1 D1 : Int} {L : List Int} {k : Nat} {o o1 : Bool} (ht : whSt a b m n L k = (N, D, o)) (hx : clebI a b (L.getD k 0) m n = (S1, N1, D1, o1)) :
    whSt a b m n L (k + 1) = ((ratAdd N D N1 D1).1, (ratAdd N D N1 D1).2.1, (ratAdd N D N1 D1).2.2 && (o && o1)) := by
  simp only [whSt, ht, hx]
def okWhole (a b c m n : Int) : Bool := decide (6 < a + b) || decide (whSt a b m n (coupledL a b) (coupledL a b).length = (1, 1, true))
theorem okWhole_all : all5 okWhole = true := by decide +kernel

/-- The same, each square times L (L + 1). -/
def sqSt (a b m n : Int) (L : List Int) : Nat → Int × Int × Bool
  | 0 => (0, 1, true)
  | k + 1 =>
    let t := sqSt a b m n L k
    let x := clebI a b (L.getD k 0) m n
    let z := ratMul x.2.1 x.2.2.1 (L.getD k 0 * (L.getD k 0 + 2)) 1
    let y := ratAdd t.1 t.2.1 z.1 z.2.1
    (y.1, y.2.1, y.2.2 && (t.2.2 && x.2.2.2 && z.2.2))
theorem sqSt_next {a b m n N D S1 N1 D1 N4 D4 : Int} {L : List Int} {k : Nat} {o o1 o4 : Bool} (ht : sqSt a b m n L k = (N, D, o)) (hx : clebI a b (L.getD k 0) m n = (S1, N1, D1, o1)) (hz : ratMul N1 D1 (L.getD k 0 * (L.getD k 0 + 2)) 1 = (N4, D4, o4)) :
    sqSt a b m n L (k + 1) = ((ratAdd N D N4 D4).1, (ratAdd N D N4 D4).2.1, (ratAdd N D N4 D4).2.2 && (o && o1 && o4)) := by
  simp only [sqSt, ht, hx, hz]
def okSquares (a b c m n : Int) : Bool := decide (6 < a + b) || decide (sqSt a b m n (coupledL a b) (coupledL a b).length = (a * (a + 2) + b * (b + 2) + 2 * m * n, 1, true))
theorem okSquares_all : all5 okSquares = true := by decide +kernel

theorem coupled_bd {a b : Int} (ha : 0 ≤ a ∧ a ≤ 6) (hb : 0 ≤ b ∧ b ≤ 6) {j : Nat} (hj : j < (coupledL a b).length) : 0 ≤ (coupledL a b).getD j 0 ∧ (coupledL a b).getD j 0 ≤ 12 := by
  have hok : coupledOk a b = true := by simp [coupledOk, inB]; omega
  have e : coupledL a b = stepL (absI (a - b)) (min a b + 1).toNat := by simp [coupledL, hok]
  rw [e] at hj ⊢
  rw [stepL_length] at hj
  have : (stepL (absI (a - b)) (min a b + 1).toNat).getD j 0 = absI (a - b) + 2 * (j : Int) := by
    simp [stepL, List.getD_eq_getElem?_getD, List.getElem?_map, List.getElem?_range hj]
  rw [this]
  unfold absI
  split <;> omega
theorem coupled_len {a b : Int} (ha : 0 ≤ a ∧ a ≤ 6) (hb : 0 ≤ b ∧ b ≤ 6) : 0 < (coupledL a b).length ∧ (coupledL a b).length ≤ 7 := by
  have hok : coupledOk a b = true := by simp [coupledOk, inB]; omega
  have e : coupledL a b = stepL (absI (a - b)) (min a b + 1).toNat := by simp [coupledL, hok]
  rw [e, stepL_length]
  omega

end Go.Proofs.Ytdhmjmnpaigagaa
