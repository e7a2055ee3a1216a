/- What is reckoned: the hyperfine factor is a mean over couplings. -/
import Derived.Test.YtjhnommmgkgjoaaPh
import Derived.Test.YtjhnommmgkgjoaaPm
namespace Go.Proofs.Ytjhnommmgkgjoaa
open Go.RowKit
set_option linter.unusedVariables false

/-- The sum of squares times projections, after t of them. -/
def chSt (j i f : Int) : Nat → Int × Int × Bool
  | 0 => (0, 1, true)
  | t + 1 =>
    let u := chSt j i f t
    let p := -j + 2 * (t : Int)
    if hasB i (f - p) = true then
      (let y := clebI j i f p (f - p)
       let z := ratMul y.2.1 y.2.2.1 p 1
       let s := ratAdd u.1 u.2.1 z.1 z.2.1
       (s.1, s.2.1, s.2.2 && (u.2.2 && y.2.2.2 && z.2.2)))
    else u
def okHy (f j i : Int) : Bool :=
  !hyB f j i || decide (f = 0) ||
    (let s := chSt j i f (j + 1).toNat
     let x := hyFac 1 1 f j i
     let y := ratMul x.1 x.2.1 f 1
     s.2.2 && x.2.2 && y.2.2 && decide (s.1 = y.1) && decide (s.2.1 = y.2.1))
theorem okHy_all : ((rangeI 0 6).all fun f => (rangeI 0 6).all fun j => (rangeI 0 6).all fun i => okHy f j i) = true := by decide +kernel

theorem chSt_no {j i f : Int} {t : Nat} (h : hasB i (f - (-j + 2 * (t : Int))) = false) : chSt j i f (t + 1) = chSt j i f t := by
  simp [chSt, h]
theorem chSt_yes {j i f N D S1 N1 D1 N4 D4 : Int} {t : Nat} {o o1 o4 : Bool} (h : hasB i (f - (-j + 2 * (t : Int))) = true) (ht : chSt j i f t = (N, D, o)) (hx : clebI j i f (-j + 2 * (t : Int)) (f - (-j + 2 * (t : Int))) = (S1, N1, D1, o1)) (hz : ratMul N1 D1 (-j + 2 * (t : Int)) 1 = (N4, D4, o4)) :
    chSt j i f (t + 1) = ((ratAdd N D N4 D4).1, (ratAdd N D N4 D4).2.1, (ratAdd N D N4 D4).2.2 && (o && o1 && o4)) := by
  simp [chSt, h, ht, hx, hz]
theorem okHy_of {f j i : Int} (h : hyB f j i = true) (hf : f ≠ 0) (h1 : 0 ≤ f ∧ f ≤ 6) (h2 : 0 ≤ j ∧ j ≤ 6) (h3 : 0 ≤ i ∧ i ≤ 6) :
    ∃ N5 D5, hyFac 1 1 f j i = (N5, D5, true) ∧ ratMul N5 D5 f 1 = ((chSt j i f (j + 1).toNat).1, (chSt j i f (j + 1).toNat).2.1, true) ∧ (chSt j i f (j + 1).toNat).2.2 = true := by
  have hk := okHy_all
  rw [List.all_eq_true] at hk
  have k1 := hk f (mem_rangeI (by omega) (by omega))
  rw [List.all_eq_true] at k1
  have k2 := k1 j (mem_rangeI (by omega) (by omega))
  rw [List.all_eq_true] at k2
  have k3 := k2 i (mem_rangeI (by omega) (by omega))
  simp only [okHy, h, hf, decide_false, Bool.not_true, Bool.false_or, Bool.and_eq_true, decide_eq_true_eq] at k3
  obtain ⟨⟨⟨⟨k4, k5⟩, k6⟩, k7⟩, k8⟩ := k3
  refine ⟨(hyFac 1 1 f j i).1, (hyFac 1 1 f j i).2.1, ?_, ?_, k4⟩
  · rw [← k5]
  · rw [k7, k8, ← k6]

end Go.Proofs.Ytjhnommmgkgjoaa
