/- Plain facts: the sum of the factors of hyperfine levels. -/
import Derived.Test.YtnpfcifdpmdnlaaPh
namespace Go.Proofs.Ytnpfcifdpmdnlaa
open Go.RowKit
set_option linter.unusedVariables false

def fsSt (j i : Int) (L : List Int) : Nat → Int × Int × Bool
  | 0 => (0, 1, true)
  | k + 1 =>
    let t := fsSt j i L k
    let l := L.getD k 0
    if l = 0 then t else
      (let x := hyFac 1 1 l j i
       let y := ratMul x.1 x.2.1 (l * (l + 2) * (l + 1)) 1
       let z := ratAdd t.1 t.2.1 y.1 y.2.1
       (z.1, z.2.1, t.2.2 && x.2.2 && y.2.2 && z.2.2))
theorem fsSt_no {j i : Int} {L : List Int} {k : Nat} (h : L.getD k 0 = 0) : fsSt j i L (k + 1) = fsSt j i L k := by
  simp only [fsSt, h, if_true]
theorem fsSt_yes {j i l N D N1 D1 N4 D4 : Int} {L : List Int} {k : Nat} {o o1 o4 : Bool} (hl : L.getD k 0 = l) (h : l ≠ 0) (ht : fsSt j i L k = (N, D, o)) (hx : hyFac 1 1 l j i = (N1, D1, o1)) (hz : ratMul N1 D1 (l * (l + 2) * (l + 1)) 1 = (N4, D4, o4)) :
    fsSt j i L (k + 1) = ((ratAdd N D N4 D4).1, (ratAdd N D N4 D4).2.1, o && o1 && o4 && (ratAdd N D N4 D4).2.2) := by
  simp only [fsSt, hl, if_neg h, ht, hx, hz]
def okFs (j i : Int) : Bool := decide (fsSt j i (hyperL j i) (hyperL j i).length = ((j + 1) * (i + 1) * j * (j + 2), 1, true)) && (hyperL j i).all (fun x => decide (0 ≤ x) && decide (x ≤ 24)) && decide (0 < (hyperL j i).length)
theorem okFs_all : (List.range 13).all (fun j => (List.range 13).all (fun i => okFs (j : Int) (i : Int))) = true := by decide +kernel
theorem okFs_of {j i : Int} (hj : 0 ≤ j ∧ j ≤ 12) (hi : 0 ≤ i ∧ i ≤ 12) : fsSt j i (hyperL j i) (hyperL j i).length = ((j + 1) * (i + 1) * j * (j + 2), 1, true) ∧ (∀ k, k < (hyperL j i).length → 0 ≤ (hyperL j i).getD k 0 ∧ (hyperL j i).getD k 0 ≤ 24) ∧ 0 < (hyperL j i).length := by
  have h := okFs_all
  rw [List.all_eq_true] at h
  have h1 := h j.toNat (by simp; omega)
  rw [List.all_eq_true] at h1
  have h2 := h1 i.toNat (by simp; omega)
  rw [Int.toNat_of_nonneg hj.1, Int.toNat_of_nonneg hi.1] at h2
  simp only [okFs, Bool.and_eq_true, decide_eq_true_eq, List.all_eq_true] at h2
  refine ⟨h2.1.1, fun k hk => ?_, h2.2⟩
  exact h2.1.2 _ (by rw [List.getD_eq_getElem?_getD, List.getElem?_eq_getElem hk]; exact List.getElem_mem _)

end Go.Proofs.Ytnpfcifdpmdnlaa
