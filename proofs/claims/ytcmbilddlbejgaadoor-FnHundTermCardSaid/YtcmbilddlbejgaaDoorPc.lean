/- Plain facts on binomial coefficients and factorials. -/
import Derived.Test.YtcmbilddlbejgaaDoorPl
namespace Go.Proofs.YtcmbilddlbejgaaDoor
open Go.RowKit
set_option linter.unusedVariables false

/-- Pascal's triangle. -/
def ch : Nat → Nat → Nat
  | _, 0 => 1
  | 0, _ + 1 => 0
  | n + 1, k + 1 => ch n k + ch n (k + 1)

def fa : Nat → Nat
  | 0 => 1
  | n + 1 => (n + 1) * fa n

theorem ch_zero (n : Nat) : ch n 0 = 1 := by cases n <;> rfl
theorem ch_succ (n k : Nat) : ch (n + 1) (k + 1) = ch n k + ch n (k + 1) := rfl

theorem ch_gt : ∀ (n k : Nat), n < k → ch n k = 0
  | 0, 0, h => by omega
  | 0, k + 1, _ => rfl
  | n + 1, 0, h => by omega
  | n + 1, k + 1, h => by rw [ch_succ, ch_gt n k (by omega), ch_gt n (k + 1) (by omega)]

theorem ch_self : ∀ n : Nat, ch n n = 1
  | 0 => rfl
  | n + 1 => by rw [ch_succ, ch_self n, ch_gt n (n + 1) (by omega)]

theorem ch_mul : ∀ (n k : Nat), (k + 1) * ch n (k + 1) + k * ch n k = n * ch n k
  | 0, 0 => rfl
  | 0, k + 1 => by show (k + 2) * 0 + (k + 1) * 0 = 0 * 0; omega
  | n + 1, 0 => by
    have h := ch_mul n 0
    rw [ch_zero] at h
    rw [ch_succ, ch_zero, ch_zero]
    omega
  | n + 1, k + 1 => by
    have h1 := ch_mul n k
    have h2 := ch_mul n (k + 1)
    rw [ch_succ, ch_succ]
    generalize ch n k = y at *
    generalize ch n (k + 1) = x at *
    generalize ch n (k + 1 + 1) = z at *
    have a1 : (k + 1 + 1) * (x + z) = (k + 1) * x + x + (k + 1 + 1) * z := by rw [Nat.mul_add, Nat.succ_mul]
    have a2 : (k + 1) * (y + x) = k * y + y + (k + 1) * x := by rw [Nat.mul_add, Nat.succ_mul k y]
    have a3 : (n + 1) * (y + x) = n * y + y + (n * x + x) := by rw [Nat.mul_add, Nat.succ_mul, Nat.succ_mul]
    rw [a1, a2, a3]
    omega

/-- One step of the reference's loop. -/
theorem ch_step (n k : Nat) (h : k < n) : ch n k * (n - k) = ch n (k + 1) * (k + 1) := by
  have e := ch_mul n k
  have a : ch n k * (n - k) + k * ch n k = n * ch n k := by
    rw [Nat.mul_comm k, ← Nat.mul_add, show n - k + k = n by omega, Nat.mul_comm]
  have b : (k + 1) * ch n (k + 1) = ch n (k + 1) * (k + 1) := Nat.mul_comm _ _
  omega

theorem fa_pos : ∀ n : Nat, 0 < fa n
  | 0 => by decide
  | n + 1 => Nat.mul_pos (by omega) (fa_pos n)

theorem ch_fa : ∀ (n k : Nat), k ≤ n → ch n k * fa k * fa (n - k) = fa n
  | n, 0, _ => by rw [ch_zero]; show 1 * 1 * fa (n - 0) = fa n; rw [Nat.sub_zero]; omega
  | n, k + 1, h => by
    have ih := ch_fa n k (by omega)
    have s := ch_step n k (by omega)
    have e : fa (n - k) = (n - k) * fa (n - (k + 1)) := by
      rw [show n - k = (n - (k + 1)) + 1 by omega]; rfl
    have e2 : fa (k + 1) = (k + 1) * fa k := rfl
    rw [e2, ← Nat.mul_assoc, ← s]
    rw [e] at ih
    rw [← ih]
    rw [Nat.mul_assoc, Nat.mul_assoc, Nat.mul_assoc, ← Nat.mul_assoc (n - k) (fa k), Nat.mul_comm (n - k) (fa k), Nat.mul_assoc (fa k)]

theorem ch_le : ∀ (n k : Nat), ch n k ≤ 2 ^ n
  | 0, 0 => by decide
  | 0, k + 1 => by show 0 ≤ _; omega
  | n + 1, 0 => by rw [ch_zero]; exact Nat.one_le_two_pow
  | n + 1, k + 1 => by
    have h1 := ch_le n k
    have h2 := ch_le n (k + 1)
    rw [ch_succ, Nat.pow_succ]
    omega

theorem ch_pos : ∀ (n k : Nat), k ≤ n → 0 < ch n k
  | n, 0, _ => by rw [ch_zero]; omega
  | 0, k + 1, h => by omega
  | n + 1, k + 1, h => by have := ch_pos n k (by omega); rw [ch_succ]; omega

/-- The same for the kernel's reckoning: by factorials. -/
def chF (n k : Nat) : Nat := if k ≤ n then fa n / (fa k * fa (n - k)) else 0

theorem ch_eq (n k : Nat) : ch n k = chF n k := by
  unfold chF
  split
  · rename_i h
    have e := ch_fa n k h
    rw [← e, Nat.mul_assoc, Nat.mul_div_cancel _ (Nat.mul_pos (fa_pos _) (fa_pos _))]
  · exact ch_gt _ _ (by omega)

/-- The binomial coefficient as the program tells it. -/
def chooseI (n k : Int) : Int := if inB n 0 40 = true then (if 0 ≤ k then (chF n.toNat k.toNat : Int) else 0) else -1

theorem chooseI_in {n k : Nat} (h : n ≤ 40) : chooseI (n : Int) (k : Int) = (ch n k : Int) := by
  have : inB (n : Int) 0 40 = true := inB_true (by omega) (by omega)
  simp [chooseI, this, ch_eq]

theorem chooseI_bd {n k : Int} (N : Nat) (h0 : 0 ≤ n) (h1 : n ≤ N) (hN : N ≤ 40) : 0 ≤ chooseI n k ∧ chooseI n k ≤ ((2 ^ N : Nat) : Int) := by
  have : inB n 0 40 = true := inB_true (by omega) (by omega)
  simp only [chooseI, this, if_true]
  split
  · rw [← ch_eq]
    have h2 := ch_le n.toNat k.toNat
    have h3 : 2 ^ n.toNat ≤ 2 ^ N := Nat.pow_le_pow_right (by omega) (by omega)
    omega
  · exact ⟨by omega, Int.natCast_nonneg _⟩

/-- One step of the reference's loop, on integers. -/
theorem choose_step {N c : Nat} (h : c < N) (hN : N ≤ 40) : 0 ≤ (ch N c : Int) * ((N : Int) - (c : Int)) ∧ (ch N c : Int) * ((N : Int) - (c : Int)) ≤ 1000000000000000 ∧ (ch N c : Int) * ((N : Int) - (c : Int)) / ((c : Int) + 1) = (ch N (c + 1) : Int) := by
  have s := ch_step N c h
  have l := ch_le N c
  have l2 : 2 ^ N ≤ 2 ^ 40 := Nat.pow_le_pow_right (by omega) hN
  have m : ch N c * (N - c) ≤ 2 ^ 40 * 40 := Nat.mul_le_mul (by omega) (by omega)
  have e : (ch N c : Int) * ((N : Int) - (c : Int)) = ((ch N c * (N - c) : Nat) : Int) := by
    rw [Int.natCast_mul, Int.natCast_sub (by omega)]
  rw [e]
  refine ⟨by omega, by omega, ?_⟩
  rw [s, show ((c : Int) + 1) = ((c + 1 : Nat) : Int) by omega, Int.natCast_mul, Int.mul_ediv_cancel _ (by omega)]

/-- The n-th row of the triangle. -/
def rowL (n : Nat) : List Int := (List.range (n + 1)).map (fun k => (ch n k : Int))

/-- The row while it is renewed from the right: what stands from place i on is new. -/
def midL (n i : Nat) : List Int := (List.range (n + 2)).map (fun k => if i ≤ k then (ch (n + 1) k : Int) else (ch n k : Int))

theorem rowL_length (n : Nat) : (rowL n).length = n + 1 := by simp [rowL]
theorem midL_length (n i : Nat) : (midL n i).length = n + 2 := by simp [midL]
theorem rowL_get (n k : Nat) (h : k ≤ n) : (rowL n).getD k 0 = (ch n k : Int) := by
  simp [rowL, List.getD_eq_getElem?_getD, List.getElem?_map, List.getElem?_range (show k < n + 1 by omega)]
theorem midL_get (n i k : Nat) (h : k < n + 2) : (midL n i).getD k 0 = if i ≤ k then (ch (n + 1) k : Int) else (ch n k : Int) := by
  simp [midL, List.getD_eq_getElem?_getD, List.getElem?_map, List.getElem?_range h]
theorem midL_start (n : Nat) : midL n (n + 2) = rowL n ++ [0] := by
  unfold midL rowL
  rw [List.range_succ (n := n + 1), List.map_append]
  congr 1
  · apply List.map_congr_left
    intro k hk
    rw [List.mem_range] at hk
    rw [if_neg (by omega)]
  · simp [ch_gt n (n + 1) (by omega)]
theorem midL_end (n : Nat) : midL n 1 = rowL (n + 1) := by
  unfold midL rowL
  apply List.map_congr_left
  intro k hk
  split
  · rfl
  · obtain rfl : k = 0 := by omega
    rw [ch_zero, ch_zero]
theorem midL_set (n i : Nat) (h : i + 1 < n + 2) : (midL n (i + 2)).set (i + 1) ((ch n (i + 1) : Int) + (ch n i : Int)) = midL n (i + 1) := by
  apply List.ext_getElem
  · simp [midL]
  · intro k h1 h2
    simp [midL] at h1
    rw [List.getElem_set]
    simp only [midL, List.getElem_map, List.getElem_range]
    split
    · rename_i e
      subst e
      rw [if_pos (by omega), ch_succ]
      omega
    · split <;> split <;> first | rfl | omega

end Go.Proofs.YtcmbilddlbejgaaDoor
