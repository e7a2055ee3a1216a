/- Plain functions: the splitting factor of a level, and that it is a mean over couplings. -/
import Derived.Test.YtneihommpncegaaDoorPm
import Derived.Test.YtneihommpncegaaDoorPtm
namespace Go.Proofs.YtneihommpncegaaDoor
open Go.RowKit
set_option linter.unusedVariables false

def sqF (j : Int) : Int := j * (j + 2)
theorem sqF_bd {j : Int} (h0 : 0 ≤ j) (h1 : j ≤ 24) : 0 ≤ sqF j ∧ sqF j ≤ 624 := by
  unfold sqF
  exact ⟨Int.mul_nonneg h0 (by omega), Int.le_trans (Int.mul_le_mul h1 (show j + 2 ≤ 26 by omega) (by omega) (by omega)) (by omega)⟩
/-- What FactorOf returns. -/
def facI2 (s l j : Int) : Int × Int × Bool := if lvB s l j = true ∧ j ≠ 0 then ratOf (2 * sqF j + sqF j + sqF s - sqF (2 * l)) (2 * sqF j) else (0, 0, false)
theorem ratOf_yes {n d N D : Int} (h : ratOf n d = (N, D, true)) : ratB N D = true := by
  unfold ratOf mkR at h
  split at h
  · split at h
    · rename_i h2; simp at h; rw [← h.1, ← h.2]; exact h2
    · simp at h
  · simp at h
theorem ratOf_no {n d N D : Int} (h : ratOf n d = (N, D, false)) : N = 0 ∧ D = 0 := by
  unfold ratOf mkR at h
  split at h
  · split at h
    · simp at h
    · simp at h; exact ⟨h.1.symm, h.2.symm⟩
  · simp at h; exact ⟨h.1.symm, h.2.symm⟩
theorem fac_yes {s l j N D : Int} (h : facI2 s l j = (N, D, true)) : lvB s l j = true ∧ j ≠ 0 ∧ ratB N D = true := by
  unfold facI2 at h
  split at h
  · rename_i h2; exact ⟨h2.1, h2.2, ratOf_yes h⟩
  · simp at h
theorem fac_no {s l j N D : Int} (h : facI2 s l j = (N, D, false)) : N = 0 ∧ D = 0 := by
  unfold facI2 at h
  split at h
  · exact ratOf_no h
  · simp at h; exact ⟨h.1.symm, h.2.symm⟩
theorem lv_bd2 {s l j : Int} (h : lvB s l j = true) : (0 ≤ s ∧ s ≤ 8) ∧ (0 ≤ l ∧ l ≤ 8) ∧ (0 ≤ j ∧ j ≤ 24) := by
  simp [lvB, tmB, triB, inB] at h
  omega

/-- The sum of squares times projections, after k of them. -/
def fcSt (l s j m : Int) : Nat → Int × Int × Bool
  | 0 => (0, 1, true)
  | k + 1 =>
    let u := fcSt l s j m k
    let p := -l + 2 * (k : Int)
    if hasB s (m - p) = true then
      (let y := clebI l s j p (m - p)
       let z := ratMul y.2.1 y.2.2.1 (p + 2 * (m - p)) 1
       let t := ratAdd u.1 u.2.1 z.1 z.2.1
       (t.1, t.2.1, t.2.2 && (u.2.2 && y.2.2.2 && z.2.2)))
    else u
theorem fcSt_no {l s j m : Int} {k : Nat} (h : hasB s (m - (-l + 2 * (k : Int))) = false) : fcSt l s j m (k + 1) = fcSt l s j m k := by
  simp [fcSt, h]
theorem fcSt_yes {l s j m N D S1 N1 D1 N4 D4 : Int} {k : Nat} {o o1 o4 : Bool} (h : hasB s (m - (-l + 2 * (k : Int))) = true) (ht : fcSt l s j m k = (N, D, o)) (hx : clebI l s j (-l + 2 * (k : Int)) (m - (-l + 2 * (k : Int))) = (S1, N1, D1, o1)) (hz : ratMul N1 D1 (-l + 2 * (k : Int) + 2 * (m - (-l + 2 * (k : Int)))) 1 = (N4, D4, o4)) :
    fcSt l s j m (k + 1) = ((ratAdd N D N4 D4).1, (ratAdd N D N4 D4).2.1, (ratAdd N D N4 D4).2.2 && (o && o1 && o4)) := by
  simp [fcSt, h, ht, hx, hz]
def okFc (s l j t : Int) : Bool :=
  !(lvB s l j) || decide (j = 0) || !(facI2 s l j).2.2 ||
    (let u := fcSt (2 * l) s j (2 * t - j) (2 * l + 1).toNat
     let x := facI2 s l j
     let y := ratMul x.1 x.2.1 (2 * t - j) 1
     u.2.2 && y.2.2 && decide (u.1 = y.1) && decide (u.2.1 = y.2.1))
theorem okFc_all : ((rangeI 0 6).all fun s => (rangeI 0 3).all fun l => (rangeI 0 6).all fun j => (rangeI 0 j).all fun t => okFc s l j t) = true := by decide +kernel
theorem okFc_of {s l j t N D : Int} (h : facI2 s l j = (N, D, true)) (h1 : s ≤ 6) (h2 : 2 * l ≤ 6) (h3 : j ≤ 6) (h4 : 0 ≤ t ∧ t ≤ j) :
    ratMul N D (2 * t - j) 1 = ((fcSt (2 * l) s j (2 * t - j) (2 * l + 1).toNat).1, (fcSt (2 * l) s j (2 * t - j) (2 * l + 1).toNat).2.1, true) ∧ (fcSt (2 * l) s j (2 * t - j) (2 * l + 1).toNat).2.2 = true := by
  obtain ⟨hv, hj, _⟩ := fac_yes h
  obtain ⟨⟨a, _⟩, ⟨b, _⟩, c, _⟩ := lv_bd2 hv
  have hk := okFc_all
  simp only [List.all_eq_true] at hk
  have k3 := hk s (mem_rangeI (by omega) (by omega)) l (mem_rangeI (by omega) (by omega)) j (mem_rangeI (by omega) (by omega)) t (mem_rangeI (by omega) (by omega))
  simp only [okFc, hv, h, hj, decide_false, Bool.not_true, Bool.false_or, Bool.and_eq_true, decide_eq_true_eq] at k3
  obtain ⟨⟨⟨k4, k6⟩, k7⟩, k8⟩ := k3
  exact ⟨by rw [k7, k8, ← k6], k4⟩

end Go.Proofs.YtneihommpncegaaDoor
