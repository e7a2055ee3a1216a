/- Hund's rules hold for all numbers of electrons (by the kernel). -/
import Derived.Test.YtcmbilddlbejgaaDoorPu
namespace Go.Proofs.YtcmbilddlbejgaaDoor
open Go.RowKit

def hundOk (l n : Int) : Bool := (termsU l n 42).head? == some (hundS l n.toNat) && decide (0 ≤ (hundS l n.toNat).1 ∧ (hundS l n.toNat).1 ≤ 5 ∧ 0 ≤ (hundS l n.toNat).2 ∧ (hundS l n.toNat).2 ≤ 6) && (hundS l (4 * l + 2 - n).toNat == hundS l n.toNat)
set_option maxRecDepth 100000 in
theorem hundAll : allE hundOk = true := by decide +kernel

theorem hund_first (l n : Int) (he : elecB l n = true) : (termsU l n 42).head? = some (hundS l n.toNat) := by
  have h := allE_at hundAll l n he
  simp only [hundOk, Bool.and_eq_true, beq_iff_eq] at h
  exact h.1.1
theorem hund_bd (l n : Int) (he : elecB l n = true) : 0 ≤ (hundS l n.toNat).1 ∧ (hundS l n.toNat).1 ≤ 5 ∧ 0 ≤ (hundS l n.toNat).2 ∧ (hundS l n.toNat).2 ≤ 6 := by
  have h := allE_at hundAll l n he
  simp only [hundOk, Bool.and_eq_true, beq_iff_eq, decide_eq_true_eq] at h
  exact h.1.2
theorem hund_holes (l n : Int) (he : elecB l n = true) : hundS l (4 * l + 2 - n).toNat = hundS l n.toNat := by
  have h := allE_at hundAll l n he
  simp only [hundOk, Bool.and_eq_true, beq_iff_eq, decide_eq_true_eq] at h
  exact h.2

end Go.Proofs.YtcmbilddlbejgaaDoor
