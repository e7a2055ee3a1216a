/- What is reckoned over all couplings: different sums are orthogonal. -/
import Derived.Test.YtnjcbohledafgaaPn
import Derived.Test.YtnjcbohledafgaaPw
namespace Go.Proofs.Ytnjcbohledafgaa
open Go.RowKit
set_option linter.unusedVariables false

def orX (a b c d p q : Int) : Int × Int × Bool := ratOf (coupleI a b c p q * coupleI a b d p q) (chooseI a ((a - p) / 2) * chooseI b ((b - q) / 2))
/-- The sum of products over projections, after k of them. -/
def orSt (a b c d s : Int) : Nat → Int × Int × Bool
  | 0 => (0, 1, true)
  | k + 1 =>
    let t := orSt a b c d s k
    let p := -a + 2 * (k : Int)
    if hasB b (s - p) = true then
      (let x := orX a b c d p (s - p)
       let y := ratAdd t.1 t.2.1 x.1 x.2.1
       (y.1, y.2.1, y.2.2 && (t.2.2 && x.2.2)))
    else t
theorem orSt_no {a b c d s : Int} {k : Nat} (h : hasB b (s - (-a + 2 * (k : Int))) = false) : orSt a b c d s (k + 1) = orSt a b c d s k := by
  simp [orSt, h]
theorem orSt_yes {a b c d s N D N1 D1 : Int} {k : Nat} {o o1 : Bool} (h : hasB b (s - (-a + 2 * (k : Int))) = true) (ht : orSt a b c d s k = (N, D, o)) (hx : orX a b c d (-a + 2 * (k : Int)) (s - (-a + 2 * (k : Int))) = (N1, D1, o1)) :
    orSt a b c d s (k + 1) = ((ratAdd N D N1 D1).1, (ratAdd N D N1 D1).2.1, (ratAdd N D N1 D1).2.2 && (o && o1)) := by
  simp [orSt, h, ht, hx]
def okOrth (a b c : Int) : Bool := (rangeI (-c) c).all fun s => !hasB c s || (coupledL a b).all fun d => decide (d = c) || decide (6 < d) || !hasB d s || decide (orSt a b c d s (a + 1).toNat = (0, 1, true))
theorem okOrth_all : all3 okOrth = true := by decide +kernel
theorem okOrth_of {a b c s : Int} (h : tdB a b c = true) (hs : hasB c s = true) {j : Nat} (hj : j < (coupledL a b).length) (h1 : (coupledL a b).getD j 0 ≠ c) (h2 : (coupledL a b).getD j 0 ≤ 6) (h3 : hasB ((coupledL a b).getD j 0) s = true) :
    orSt a b c ((coupledL a b).getD j 0) s (a + 1).toNat = (0, 1, true) := by
  have h0 := all3_of okOrth_all h
  have hb := hasB_iff.1 hs
  simp only [okOrth, List.all_eq_true] at h0
  have h4 := h0 s (mem_rangeI (by omega) (by omega))
  rw [hs] at h4
  simp only [Bool.not_true, Bool.false_or, List.all_eq_true] at h4
  have hm : (coupledL a b).getD j 0 ∈ coupledL a b := by
    rw [List.getD_eq_getElem?_getD, List.getElem?_eq_getElem hj]; exact List.getElem_mem _
  have h5 := h4 _ hm
  rw [h3] at h5
  simp only [Bool.or_eq_true, decide_eq_true_eq, Bool.not_true] at h5
  rcases h5 with ((h5 | h5) | h5) | h5
  · exact absurd h5 h1
  · omega
  · simp at h5
  · exact h5
end Go.Proofs.Ytnjcbohledafgaa
