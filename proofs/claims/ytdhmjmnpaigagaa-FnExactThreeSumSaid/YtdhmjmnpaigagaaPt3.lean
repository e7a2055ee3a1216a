/- The sum of the squares of all 3j symbols of three angular momenta, in plain numbers. -/
import Derived.Test.YtdhmjmnpaigagaaPt
namespace Go.Proofs.Ytdhmjmnpaigagaa
open Go.RowKit
set_option linter.unusedVariables false

/-- One pair of projections. -/
def thN (a b c m : Int) (t : Int × Int × Bool) (n : Int) : Int × Int × Bool :=
  if hasB c (m + n) = true then
    (let x := thI a b c m n (-m - n)
     let y := ratAdd t.1 t.2.1 x.2.1 x.2.2.1
     (y.1, y.2.1, y.2.2 && t.2.2))
  else t
/-- All pairs with one first projection. -/
def thM (a b c : Int) (t : Int × Int × Bool) (m : Int) : Int × Int × Bool := (stepL (-b) (b + 1).toNat).foldl (thN a b c m) t
def thSum (a b c : Int) : Int × Int × Bool := (stepL (-a) (a + 1).toNat).foldl (thM a b c) (0, 1, true)
def okSum3 (a b c : Int) : Bool := decide (thSum a b c = (1, 1, true))
theorem okSum3_all : all3 okSum3 = true := by decide +kernel
theorem thSum_one {a b c : Int} (h : tdB a b c = true) : thSum a b c = (1, 1, true) := by
  have := all3_of okSum3_all h
  simpa [okSum3] using this

theorem thN_no {a b c m n : Int} {t : Int × Int × Bool} (h : hasB c (m + n) = false) : thN a b c m t n = t := by simp [thN, h]
theorem thN_yes {a b c m n N D S1 N1 D1 : Int} {o o1 : Bool} (h : hasB c (m + n) = true) (hx : thI a b c m n (-m - n) = (S1, N1, D1, o1)) :
    thN a b c m (N, D, o) n = ((ratAdd N D N1 D1).1, (ratAdd N D N1 D1).2.1, (ratAdd N D N1 D1).2.2 && o) := by
  simp [thN, h, hx]
theorem thN_fail (a b c m n : Int) (t : Int × Int × Bool) (h : t.2.2 = false) : (thN a b c m t n).2.2 = false := by
  unfold thN; split
  · simp [h]
  · exact h
theorem foldl_fail {f : Int × Int × Bool → Int → Int × Int × Bool} (hf : ∀ t n, t.2.2 = false → (f t n).2.2 = false) : ∀ (L : List Int) (t : Int × Int × Bool), t.2.2 = false → (L.foldl f t).2.2 = false
  | [], _, h => h
  | x :: L, t, h => foldl_fail hf L (f t x) (hf t x h)
theorem thM_fail (a b c m : Int) (t : Int × Int × Bool) (h : t.2.2 = false) : (thM a b c t m).2.2 = false := foldl_fail (fun t n => thN_fail a b c m n t) _ _ h
theorem prefix_ok {f : Int × Int × Bool → Int → Int × Int × Bool} (hf : ∀ t n, t.2.2 = false → (f t n).2.2 = false) {p L : List Int} (hp : p <+: L) {t : Int × Int × Bool} (h : (L.foldl f t).2.2 = true) : (p.foldl f t).2.2 = true := by
  obtain ⟨r, rfl⟩ := hp
  rw [List.foldl_append] at h
  cases hh : (p.foldl f t).2.2
  · rw [foldl_fail hf r _ hh] at h; cases h
  · rfl
theorem fail_prefix {f : Int × Int × Bool → Int → Int × Int × Bool} (hf : ∀ t n, t.2.2 = false → (f t n).2.2 = false) {p L : List Int} (hp : p <+: L) {t : Int × Int × Bool} (h : (p.foldl f t).2.2 = false) : (L.foldl f t).2.2 = false := by
  cases hh : (L.foldl f t).2.2
  · rfl
  · rw [prefix_ok hf hp hh] at h; cases h

end Go.Proofs.Ytdhmjmnpaigagaa
