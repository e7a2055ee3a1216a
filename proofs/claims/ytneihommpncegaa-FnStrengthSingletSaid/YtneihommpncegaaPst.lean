/- What is reckoned over all lines between small levels. -/
import Derived.Test.YtneihommpncegaaPs
namespace Go.Proofs.Ytneihommpncegaa
open Go.RowKit
set_option linter.unusedVariables false

def allLv (p : Int → Int → Int → Int → Int → Bool) : Bool :=
  (rangeI 0 6).all fun s => (rangeI 0 3).all fun l => (rangeI 0 6).all fun j => (rangeI 0 3).all fun l2 => (rangeI 0 6).all fun j2 => !(smlB s l j && smlB s l2 j2) || p s l j l2 j2
theorem allLv_of {p : Int → Int → Int → Int → Int → Bool} (h : allLv p = true) {s l j l2 j2 : Int} (h1 : smlB s l j = true) (h2 : smlB s l2 j2 = true) : p s l j l2 j2 = true := by
  obtain ⟨a, b, c⟩ := smlB_iff h1
  obtain ⟨_, b2, c2⟩ := smlB_iff h2
  unfold allLv at h
  simp only [List.all_eq_true] at h
  have h3 := h s (mem_rangeI a.1 a.2) l (mem_rangeI b.1 b.2) j (mem_rangeI c.1 c.2) l2 (mem_rangeI b2.1 b2.2) j2 (mem_rangeI c2.1 c2.2)
  simpa [h1, h2] using h3
theorem lsI_ok {s l j s2 l2 j2 N D : Int} (h : lsI s l j s2 l2 j2 = (N, D, true)) : smlB s l j = true ∧ smlB s2 l2 j2 = true ∧ s = s2 := by
  unfold lsI at h
  split at h
  · rename_i h2
    rw [Bool.and_eq_true, Bool.and_eq_true, decide_eq_true_eq] at h2
    exact ⟨h2.1.1, h2.1.2, h2.2⟩
  · simp at h
def okStr (s l j l2 j2 : Int) : Bool :=
  let x := lsI s l j s l2 j2
  let y := lsI s l2 j2 s l j
  !x.2.2 || (decide (y = x) && ratB x.1 x.2.1 && decide (0 ≤ x.1) && decide (x.1 ≤ (j + 1) * x.2.1) && decide (x.1 ≤ (j2 + 1) * x.2.1))
theorem okStr_all : allLv okStr = true := by decide +kernel
def okRule (s l j l2 j2 : Int) : Bool :=
  let x := lsI s l j s l2 j2
  !x.2.2 || (if x.1 = 0 then decide (x.2.1 = 1) else decide (-1 ≤ l - l2) && decide (l - l2 ≤ 1) && decide (-2 ≤ j - j2) && decide (j - j2 ≤ 2) && decide (0 < l + l2) && decide (0 < j + j2))
theorem okRule_all : allLv okRule = true := by decide +kernel
def okSing (s l j l2 j2 : Int) : Bool :=
  let x := lsI s l j s l2 j2
  !x.2.2 || (decide (0 ≤ x.1) && (decide (0 < s) || (if l - l2 < -1 ∨ 1 < l - l2 ∨ l + l2 = 0 then decide (x.1 = 0) && decide (x.2.1 = 1) else decide (x.1 = 1) && decide (x.2.1 = 1))))
theorem okSing_all : allLv okSing = true := by decide +kernel

theorem str_of {s l j l2 j2 N D : Int} (h : lsI s l j s l2 j2 = (N, D, true)) : lsI s l2 j2 s l j = (N, D, true) ∧ ratB N D = true ∧ 0 ≤ N ∧ N ≤ (j + 1) * D ∧ N ≤ (j2 + 1) * D := by
  obtain ⟨h1, h2, _⟩ := lsI_ok h
  have P := allLv_of okStr_all h1 h2
  simp only [okStr, h] at P
  simpa [and_assoc] using P
theorem rule_of {s l j l2 j2 N D : Int} (h : lsI s l j s l2 j2 = (N, D, true)) : (N = 0 ∧ D = 1) ∨ (N ≠ 0 ∧ (-1 ≤ l - l2 ∧ l - l2 ≤ 1) ∧ (-2 ≤ j - j2 ∧ j - j2 ≤ 2) ∧ 0 < l + l2 ∧ 0 < j + j2) := by
  obtain ⟨h1, h2, _⟩ := lsI_ok h
  have P := allLv_of okRule_all h1 h2
  simp only [okRule, h] at P
  by_cases hN : N = 0
  · exact .inl ⟨hN, by simpa [hN] using P⟩
  · refine .inr ⟨hN, ?_⟩
    simp [hN] at P
    omega
theorem sing_of {s l j l2 j2 N D : Int} (h : lsI s l j s l2 j2 = (N, D, true)) : 0 ≤ N ∧ (0 < s ∨ ((l - l2 < -1 ∨ 1 < l - l2 ∨ l + l2 = 0) ∧ N = 0 ∧ D = 1) ∨ ((-1 ≤ l - l2 ∧ l - l2 ≤ 1 ∧ l + l2 ≠ 0) ∧ N = 1 ∧ D = 1)) := by
  obtain ⟨h1, h2, _⟩ := lsI_ok h
  have P := allLv_of okSing_all h1 h2
  simp only [okSing, h] at P
  by_cases hs : 0 < s
  · exact ⟨by simp [hs] at P; exact P, .inl hs⟩
  · by_cases hc : l - l2 < -1 ∨ 1 < l - l2 ∨ l + l2 = 0
    · rw [if_pos hc] at P
      simp [hs] at P
      exact ⟨P.1, .inr (.inl ⟨hc, P.2⟩)⟩
    · rw [if_neg hc] at P
      simp [hs] at P
      exact ⟨P.1, .inr (.inr ⟨by omega, P.2⟩)⟩

end Go.Proofs.Ytneihommpncegaa
