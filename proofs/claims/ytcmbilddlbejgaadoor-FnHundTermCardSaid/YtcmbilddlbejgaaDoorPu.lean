/- Plain functions for Hund's rules: microstates, terms, levels; no program is in sight here. -/
import Derived.Test.YtcmbilddlbejgaaDoorPl
namespace Go.Proofs.YtcmbilddlbejgaaDoor
open Go.RowKit

/-- The ways to put n electrons into k orbitals from m on, with these sums. -/
def waysF : Nat → Int → Int → Int → Int → Int
  | 0, _, n, o, s => if n = 0 ∧ o = 0 ∧ s = 0 then 1 else 0
  | k + 1, m, n, o, s => if n < 0 ∨ 2 * ((k : Int) + 1) < n then 0 else
      waysF k (m + 1) n o s + waysF k (m + 1) (n - 1) (o - m) (s - 1) + waysF k (m + 1) (n - 1) (o - m) (s + 1) + waysF k (m + 1) (n - 2) (o - 2 * m) s

theorem waysF_bd : ∀ (k : Nat) (m n o s : Int), 0 ≤ waysF k m n o s ∧ waysF k m n o s ≤ ((4 ^ k : Nat) : Int)
  | 0, m, n, o, s => by unfold waysF; split <;> simp
  | k + 1, m, n, o, s => by
    unfold waysF
    have h1 := waysF_bd k (m + 1) n o s
    have h2 := waysF_bd k (m + 1) (n - 1) (o - m) (s - 1)
    have h3 := waysF_bd k (m + 1) (n - 1) (o - m) (s + 1)
    have h4 := waysF_bd k (m + 1) (n - 2) (o - 2 * m) s
    rw [Nat.pow_succ]
    generalize 4 ^ k = q at *
    split <;> omega

theorem waysF_1024 (k : Nat) (m n o s : Int) (h : k ≤ 5) : 0 ≤ waysF k m n o s ∧ waysF k m n o s ≤ 1024 := by
  have h1 := waysF_bd k m n o s
  have h2 : 4 ^ k ≤ 4 ^ 5 := Nat.pow_le_pow_right (by omega) h
  omega

/-- An orbital number and a number of electrons. -/
def elecB (l n : Int) : Bool := inB l 0 2 && inB n 0 (4 * l + 2)
theorem elecB_iff {l n : Int} : elecB l n = true ↔ (0 ≤ l ∧ l ≤ 2) ∧ 0 ≤ n ∧ n ≤ 4 * l + 2 := by simp [elecB, inB_iff]

def microF (l n o s : Int) : Int := if (inB o (-20) 20 && inB s (-20) 20) = true then waysF (2 * l + 1).toNat (-l) n o s else 0
theorem microF_bd (l n o s : Int) (h : l ≤ 2) : 0 ≤ microF l n o s ∧ microF l n o s ≤ 1024 := by
  unfold microF
  split
  · exact waysF_1024 _ _ _ _ _ (by omega)
  · omega

def tcountF (l n S L : Int) : Int := microF l n L S - microF l n (L + 1) S - microF l n L (S + 2) + microF l n (L + 1) (S + 2)
theorem tcountF_bd (l n S L : Int) (h : l ≤ 2) : -2048 ≤ tcountF l n S L ∧ tcountF l n S L ≤ 2048 := by
  have h1 := microF_bd l n L S h
  have h2 := microF_bd l n (L + 1) S h
  have h3 := microF_bd l n L (S + 2) h
  have h4 := microF_bd l n (L + 1) (S + 2) h
  unfold tcountF
  omega

/-- The terms that were met behind i of the 42 pairs. -/
def termsU (l n : Int) (i : Nat) : List (Int × Int) :=
  (List.range i).flatMap fun j : Nat => List.replicate (tcountF l n (5 - (j : Int) / 7) (6 - (j : Int) % 7)).toNat (5 - (j : Int) / 7, 6 - (j : Int) % 7)

theorem termsU_succ (l n : Int) (i : Nat) : termsU l n (i + 1) = termsU l n i ++ List.replicate (tcountF l n (5 - (i : Int) / 7) (6 - (i : Int) % 7)).toNat (5 - (i : Int) / 7, 6 - (i : Int) % 7) := by
  simp [termsU, List.range_succ]

theorem termsU_len (l n : Int) (h : l ≤ 2) : ∀ i : Nat, (termsU l n i).length ≤ i * 2048
  | 0 => by simp [termsU]
  | i + 1 => by
    have h1 := termsU_len l n h i
    have h2 := tcountF_bd l n (5 - (i : Int) / 7) (6 - (i : Int) % 7) h
    rw [termsU_succ, List.length_append, List.length_replicate]
    omega

/-- The sums of the first k electrons. -/
def hundS (l : Int) : Nat → Int × Int
  | 0 => (0, 0)
  | k + 1 => ((hundS l k).1 + (if (k : Int) ≤ 2 * l then 1 else -1), (hundS l k).2 + (l - (k : Int) % (2 * l + 1)))

theorem hundS_bd (l : Int) (h0 : 0 ≤ l) (h : l ≤ 2) : ∀ k : Nat, -(k : Int) ≤ (hundS l k).1 ∧ (hundS l k).1 ≤ k ∧ -4 * (k : Int) ≤ (hundS l k).2 ∧ (hundS l k).2 ≤ 4 * k
  | 0 => by simp [hundS]
  | k + 1 => by
    have h1 := hundS_bd l h0 h k
    have h2 : 0 ≤ (k : Int) % (2 * l + 1) := Int.emod_nonneg _ (by omega)
    have h3 : (k : Int) % (2 * l + 1) < 2 * l + 1 := Int.emod_lt_of_pos _ (by omega)
    simp only [hundS]
    split <;> omega

/-- All numbers of electrons. -/
def allE (p : Int → Int → Bool) : Bool := (List.range 3).all fun l : Nat => (List.range (4 * l + 3)).all fun n : Nat => p l n
theorem allE_at {p : Int → Int → Bool} (h : allE p = true) (l n : Int) (he : elecB l n = true) : p l n = true := by
  obtain ⟨⟨h1, h2⟩, h3, h4⟩ := elecB_iff.1 he
  obtain ⟨a, rfl⟩ := Int.eq_ofNat_of_zero_le h1
  obtain ⟨b, rfl⟩ := Int.eq_ofNat_of_zero_le h3
  unfold allE at h
  rw [List.all_eq_true] at h
  have := h a (List.mem_range.2 (by omega))
  rw [List.all_eq_true] at this
  exact this b (List.mem_range.2 (by omega))

end Go.Proofs.YtcmbilddlbejgaaDoor
