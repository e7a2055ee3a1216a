/- Plain functions for the list of terms: a table of counts, terms struck off one by one. -/
import Derived.Test.YtcmbilddlbejgaaDoorPmi
import Derived.Test.YtcmbilddlbejgaaDoorPv
import Derived.Test.YtcmbilddlbejgaaDoorPk
namespace Go.Proofs.YtcmbilddlbejgaaDoor
open Go.RowKit
set_option linter.unusedVariables false

/-- How often two sums occur. -/
def cntM (xs : List (Int × Int)) (x y : Int) : Int := ((xs.countP fun p => decide (p.1 = x) && decide (p.2 = y) : Nat) : Int)
/-- A term has this pair of projections. -/
def inT (S L x y : Int) : Bool := inB x (-L) L && hasB S y
/-- How many of these terms have it. -/
def strk (P : List (Int × Int)) (x y : Int) : Int := ((P.countP fun t => inT t.1 t.2 x y : Nat) : Int)
/-- What is left in the table behind these terms. -/
def fT (xs P : List (Int × Int)) (x y : Int) : Int := cntM xs x y - strk P x y

def cell81 (i : Nat) : Int × Int := (8 - ((i / 9 : Nat) : Int), 8 - ((i % 9 : Nat) : Int))
/-- The list behind i pairs of spin and orbit. -/
def termsI (xs : List (Int × Int)) : Nat → List (Int × Int)
  | 0 => []
  | i + 1 => termsI xs i ++ List.replicate (fT xs (termsI xs i) (cell81 i).2 (cell81 i).1).toNat (cell81 i)

def okTI (l n : Int) : Bool :=
  let T := termsI (microL l n (statesN l)) 81
  let h := hundS l n.toNat
  (T.all fun t => decide (t.1 ≠ h.1) || decide (t.2 ≤ h.2)) && decide (h.1 = min n (4 * l + 2 - n)) && decide (T.countP (fun t => decide (t = h)) = 1) && decide (T.length ≤ 30)
set_option maxRecDepth 100000 in
theorem okTI_all : allE okTI = true := by decide +kernel

theorem okTI_of {l n : Int} (he : elecB l n = true) : okTI l n = true := allE_at okTI_all l n he

def okMB (l : Int) : Bool := (List.range 1024).all fun k => decide (-100 ≤ (micro l k).1 ∧ (micro l k).1 ≤ 100 ∧ -100 ≤ (micro l k).2 ∧ (micro l k).2 ≤ 100)
set_option maxRecDepth 100000 in
theorem okMB_0 : okMB 0 = true := by decide +kernel
set_option maxRecDepth 100000 in
theorem okMB_1 : okMB 1 = true := by decide +kernel
set_option maxRecDepth 100000 in
theorem okMB_2 : okMB 2 = true := by decide +kernel
theorem statesN_le {l : Int} (h2 : l ≤ 2) : statesN l ≤ 1024 := by
  unfold statesN
  exact Nat.pow_le_pow_right (by omega) (show (4 * l + 2).toNat ≤ 10 by omega)
theorem micro_bd {l : Int} (h1 : 0 ≤ l) (h2 : l ≤ 2) {k : Nat} (hk : k < 1024) : -100 ≤ (micro l k).1 ∧ (micro l k).1 ≤ 100 ∧ -100 ≤ (micro l k).2 ∧ (micro l k).2 ≤ 100 := by
  have h : okMB l = true := by
    obtain rfl | rfl | rfl : l = 0 ∨ l = 1 ∨ l = 2 := by omega
    · exact okMB_0
    · exact okMB_1
    · exact okMB_2
  have := List.all_eq_true.1 h k (List.mem_range.2 hk)
  simpa using this
theorem microL_bd {l n : Int} (h1 : 0 ≤ l) (h2 : l ≤ 2) {k : Nat} {x y : Int} (h : (microL l n (statesN l))[k]? = some (x, y)) : (-100 ≤ x ∧ x ≤ 100) ∧ -100 ≤ y ∧ y ≤ 100 := by
  have hm := List.mem_of_getElem? h
  unfold microL at hm
  obtain ⟨j, hj, hp⟩ := List.mem_flatMap.1 hm
  have hj2 := List.mem_range.1 hj
  split at hp
  · obtain hp := List.mem_singleton.1 hp
    have := micro_bd h1 h2 (Nat.lt_of_lt_of_le hj2 (statesN_le h2))
    rw [← hp] at this
    exact ⟨⟨this.1, this.2.1⟩, this.2.2⟩
  · cases hp
theorem microL_len2 {l n : Int} (h2 : l ≤ 2) : (microL l n (statesN l)).length ≤ 1024 := Nat.le_trans (microL_len l n _) (statesN_le h2)
theorem cntM_succ {xs : List (Int × Int)} {k : Nat} {x y : Int} (h : xs[k]? = some (x, y)) (a b : Int) : cntM (xs.take (k + 1)) a b = (if a = x ∧ b = y then cntM (xs.take k) x y + 1 else cntM (xs.take k) a b) := by
  obtain ⟨hk, he⟩ := List.getElem?_eq_some_iff.1 h
  unfold cntM
  rw [List.take_succ_eq_append_getElem hk, he]
  by_cases hab : a = x ∧ b = y
  · obtain ⟨rfl, rfl⟩ := hab
    simp
  · rw [if_neg hab]
    simp only [List.countP_append, List.countP_singleton]
    rw [if_neg]
    · simp
    · simp only [Bool.and_eq_true, decide_eq_true_eq]
      rintro ⟨rfl, rfl⟩
      exact hab ⟨rfl, rfl⟩
theorem cntM_bd (xs : List (Int × Int)) (k : Nat) (x y : Int) : 0 ≤ cntM (xs.take k) x y ∧ cntM (xs.take k) x y ≤ k := by
  unfold cntM
  have h1 := List.countP_le_length (p := fun p : Int × Int => decide (p.1 = x) && decide (p.2 = y)) (l := xs.take k)
  have h2 := List.length_take_le k xs
  omega
theorem strk_bd (P : List (Int × Int)) (x y : Int) : 0 ≤ strk P x y ∧ strk P x y ≤ P.length := by
  unfold strk
  have h1 := List.countP_le_length (p := fun t : Int × Int => inT t.1 t.2 x y) (l := P)
  omega
theorem fT_bd {l n : Int} (h2 : l ≤ 2) (P : List (Int × Int)) (x y : Int) : -P.length ≤ fT (microL l n (statesN l)) P x y ∧ fT (microL l n (statesN l)) P x y ≤ 1024 := by
  unfold fT
  have h1 := strk_bd P x y
  have h3 := cntM_bd (microL l n (statesN l)) (microL l n (statesN l)).length x y
  rw [List.take_length] at h3
  have h4 := microL_len2 (n := n) h2
  omega
theorem strk_snoc (P : List (Int × Int)) (S L x y : Int) : strk (P ++ [(S, L)]) x y = strk P x y + (if inT S L x y = true then 1 else 0) := by
  unfold strk
  simp only [List.countP_append, List.countP_singleton]
  split <;> simp
theorem fT_snoc (xs P : List (Int × Int)) (S L x y : Int) : fT xs (P ++ [(S, L)]) x y = fT xs P x y - (if inT S L x y = true then 1 else 0) := by
  unfold fT
  rw [strk_snoc]
  omega

end Go.Proofs.YtcmbilddlbejgaaDoor
