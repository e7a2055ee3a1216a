/- Plain facts on the factors of hyperfine levels. -/
import Derived.Test.YtjhnommmgkgjoaaG
namespace Go.Proofs.Ytjhnommmgkgjoaa
open Go.RowKit

theorem ratOf_id {p q : Int} (h : ratB p q = true) : ratOf p q = (p, q, true) := by
  obtain ⟨⟨q0, q1⟩, ⟨p0, p1⟩, hg⟩ := ratB_iff.1 h
  have hb : bigB p q = true := by simp [bigB, inB]; omega
  have hn : ¬ q < 0 := by omega
  simp [ratOf, hb, mkR, mkN, mkD, hg, hn, h]

theorem ratMul_one {p q : Int} (h : ratB p q = true) : ratMul p q 1 1 = (p, q, true) := by
  have : ratB 1 1 = true := by decide
  simp [ratMul, h, this, ratOf_id h]

theorem ratOf_ok {n d N D : Int} (h : ratOf n d = (N, D, true)) : ratB N D = true := by
  unfold ratOf mkR at h
  split at h
  · split at h
    · rename_i h2; simp at h; rw [← h.1, ← h.2]; exact h2
    · simp at h
  · simp at h

theorem ratMul_ok {a b c d N D : Int} (h : ratMul a b c d = (N, D, true)) : ratB N D = true := by
  unfold ratMul at h
  split at h
  · exact ratOf_ok h
  · simp at h

theorem hyFac_ok {p q f j i N D : Int} (h : hyFac p q f j i = (N, D, true)) : ratB p q = true ∧ hyB f j i = true ∧ f ≠ 0 ∧ ratMul p q (ratOf (sq f + sq j - sq i) (2 * sq f)).1 (ratOf (sq f + sq j - sq i) (2 * sq f)).2.1 = (N, D, true) := by
  unfold hyFac at h
  split at h
  · rename_i h2
    rw [Bool.and_eq_true, Bool.and_eq_true, decide_eq_true_eq] at h2
    exact ⟨h2.1.1, h2.1.2, h2.2, h⟩
  · simp at h

def okNone (j : Int) : Bool := decide (ratOf (sq j + sq j - sq 0) (2 * sq j) = (1, 1, true))
theorem okNone_all : (List.range 12).all (fun j => okNone ((j : Int) + 1)) = true := by decide +kernel

theorem hyFac_none {p q j : Int} (h : ratB p q = true) (h1 : 1 ≤ j) (h2 : j ≤ 12) : hyFac p q j j 0 = (p, q, true) := by
  have hk := okNone_all
  rw [List.all_eq_true] at hk
  have h3 := hk (j.toNat - 1) (by simp; omega)
  rw [show (((j.toNat - 1 : Nat) : Int) + 1) = j by omega] at h3
  simp only [okNone, decide_eq_true_eq] at h3
  have hy : hyB j j 0 = true := hyB_iff.2 (by omega)
  have hj : j ≠ 0 := by omega
  have e : hyFac p q j j 0 = ratMul p q (ratOf (sq j + sq j - sq 0) (2 * sq j)).1 (ratOf (sq j + sq j - sq 0) (2 * sq j)).2.1 := by simp [hyFac, h, hy, hj]
  rw [e, h3]
  exact ratMul_one h

theorem hyFac_zero (p q i j : Int) : hyFac p q 0 i j = (0, 0, false) := by simp [hyFac]

def okTop (j i : Int) : Bool := decide (ratOf (sq (j + i) + sq j - sq i) (2 * sq (j + i)) = ratOf j (j + i)) && (ratOf j (j + i)).2.2
theorem okTop_all : (List.range 13).all (fun j => (List.range 13).all (fun i => decide (j + i = 0) || okTop (j : Int) (i : Int))) = true := by decide +kernel
theorem okTop_of {j i : Int} (hj : 0 ≤ j ∧ j ≤ 12) (hi : 0 ≤ i ∧ i ≤ 12) (h : j + i ≠ 0) : ratOf (sq (j + i) + sq j - sq i) (2 * sq (j + i)) = ratOf j (j + i) ∧ (ratOf j (j + i)).2.2 = true := by
  have hk := okTop_all
  rw [List.all_eq_true] at hk
  have h1 := hk j.toNat (by simp; omega)
  rw [List.all_eq_true] at h1
  have h2 := h1 i.toNat (by simp; omega)
  rw [Bool.or_eq_true, decide_eq_true_eq, Int.toNat_of_nonneg hj.1, Int.toNat_of_nonneg hi.1] at h2
  rcases h2 with h2 | h2
  · omega
  · simp only [okTop, Bool.and_eq_true, decide_eq_true_eq] at h2
    exact h2

def okBoth (f j i : Int) : Bool :=
  let x := hyFac 1 1 f j i
  let y := hyFac 1 1 f i j
  x.2.2 && y.2.2 && decide (ratAdd x.1 x.2.1 y.1 y.2.1 = (1, 1, true))
theorem okBoth_all : (List.range 13).all (fun j => (List.range 13).all (fun i => (List.range 25).all (fun f => !hyB (f : Int) (j : Int) (i : Int) || decide (f = 0) || okBoth (f : Int) (j : Int) (i : Int)))) = true := by decide +kernel
theorem okBoth_of {f j i : Int} (h : hyB f j i = true) (hf : f ≠ 0) : (hyFac 1 1 f j i).2.2 = true ∧ (hyFac 1 1 f i j).2.2 = true ∧ ratAdd (hyFac 1 1 f j i).1 (hyFac 1 1 f j i).2.1 (hyFac 1 1 f i j).1 (hyFac 1 1 f i j).2.1 = (1, 1, true) := by
  have hh := hyB_iff.1 h
  have hk := okBoth_all
  rw [List.all_eq_true] at hk
  have h1 := hk j.toNat (by simp; omega)
  rw [List.all_eq_true] at h1
  have h2 := h1 i.toNat (by simp; omega)
  rw [List.all_eq_true] at h2
  have h3 := h2 f.toNat (by simp; omega)
  rw [Int.toNat_of_nonneg (by omega), Int.toNat_of_nonneg (by omega), Int.toNat_of_nonneg (by omega), Bool.or_eq_true, Bool.or_eq_true, decide_eq_true_eq, h] at h3
  rcases h3 with (h3 | h3) | h3
  · simp at h3
  · omega
  · simp only [okBoth, Bool.and_eq_true, decide_eq_true_eq] at h3
    exact ⟨h3.1.1, h3.1.2, h3.2⟩

end Go.Proofs.Ytjhnommmgkgjoaa
