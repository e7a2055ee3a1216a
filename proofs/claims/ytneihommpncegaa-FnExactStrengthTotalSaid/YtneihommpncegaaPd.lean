/- Plain functions: Delta and SixJ, and what is reckoned over all symbols. -/
import Derived.Test.YtneihommpncegaaPx
import Derived.Test.YtneihommpncegaaPw
namespace Go.Proofs.Ytneihommpncegaa
open Go.RowKit
set_option linter.unusedVariables false

theorem facI_bd6 {n : Int} (h : n ≤ 6) : 1 ≤ facI n ∧ facI n ≤ 720 := by
  have h1 := fa_pos n.toNat
  have h2 : fa n.toNat ≤ fa 6 := fa_le (by omega)
  have h3 : fa 6 = 720 := by decide +kernel
  unfold facI
  omega
/-- What Delta returns. -/
def dl (a b c : Int) : Int := facI ((a + b + c) / 2 + 1) / (facI ((a + b - c) / 2) * facI ((a - b + c) / 2) * facI ((b + c - a) / 2))
def okDl (a b c : Int) : Bool := decide (((a + b + c) / 2 + 1) * chooseI ((a + b + c) / 2) ((a + b - c) / 2) * chooseI ((a + b + c) / 2 - (a + b - c) / 2) ((a - b + c) / 2) = dl a b c) && decide (1 ≤ dl a b c) && decide (dl a b c ≤ 20000)
theorem okDl_all : all3 okDl = true := by decide +kernel
theorem dl_bd {a b c : Int} (h : tdB a b c = true) : 1 ≤ dl a b c ∧ dl a b c ≤ 20000 := by
  have := all3_of okDl_all h
  simp only [okDl, Bool.and_eq_true, decide_eq_true_eq] at this
  exact ⟨this.1.2, this.2⟩
theorem dl_eq {a b c : Int} (h : tdB a b c = true) : ((a + b + c) / 2 + 1) * chooseI ((a + b + c) / 2) ((a + b - c) / 2) * chooseI ((a + b + c) / 2 - (a + b - c) / 2) ((a - b + c) / 2) = dl a b c := by
  have := all3_of okDl_all h
  simp only [okDl, Bool.and_eq_true, decide_eq_true_eq] at this
  exact this.1.1
/-- What SixJ returns. -/
def sjI (a b c d e f : Int) : Int × Int × Int × Bool := if sixOk a b c d e f = true then rootOf (sixI a b c d e f) 1 (dl a b c * dl a e f * dl d b f * dl d e c) else (0, 0, 0, false)
theorem sjI_ok {a b c d e f S N D : Int} (h : sjI a b c d e f = (S, N, D, true)) : sixOk a b c d e f = true := by
  cases hh : sixOk a b c d e f
  · simp [sjI, hh] at h
  · rfl
theorem mul_le1 {a b A B : Int} (h1 : 1 ≤ a ∧ a ≤ A) (h2 : 1 ≤ b ∧ b ≤ B) : 1 ≤ a * b ∧ a * b ≤ A * B := by
  have p : 0 < a * b := Int.mul_pos (by omega) (by omega)
  exact ⟨by omega, Int.mul_le_mul h1.2 h2.2 (by omega) (by omega)⟩
theorem dl_prod {a b c d e f : Int} (h : sixOk a b c d e f = true) : (1 ≤ dl a b c * dl a e f ∧ dl a b c * dl a e f ≤ 400000000) ∧ (1 ≤ dl a b c * dl a e f * dl d b f ∧ dl a b c * dl a e f * dl d b f ≤ 8000000000000) ∧ (1 ≤ dl a b c * dl a e f * dl d b f * dl d e c ∧ dl a b c * dl a e f * dl d b f * dl d e c ≤ 160000000000000000) := by
  obtain ⟨o1, o2, o3, o4⟩ := sixOk_iff.1 h
  have b1 := dl_bd o1
  have b2 := dl_bd o2
  have b3 := dl_bd o3
  have b4 := dl_bd o4
  have p1 := mul_le1 b1 b2
  have p2 := mul_le1 p1 b3
  have p3 := mul_le1 p2 b4
  exact ⟨p1, p2, p3⟩

end Go.Proofs.Ytneihommpncegaa
