/- Plain laws on configurations with at most one open shell. -/
import Derived.Test.YtpdhbilghmejiaaS6
namespace Go.Proofs.Ytpdhbilghmejiaa
open Go.RowKit
set_option linter.unusedVariables false

theorem mem_sh {xs : List Sh} {p : Sh} (h : p ∈ xs) : ∃ k, k < xs.length ∧ shAt xs k = p := by
  obtain ⟨k, hk, he⟩ := List.getElem_of_mem h
  refine ⟨k, hk, ?_⟩
  rw [shAt, List.getD_eq_getElem?_getD, List.getElem?_eq_getElem hk, he]
  rfl
theorem cfg_mem {xs : List Sh} {p : Sh} (hc : cfgB xs = true) (h : p ∈ xs) : shOk p = true := by
  obtain ⟨k, hk, he⟩ := mem_sh h
  have h1 := (cfg_at hc).1 k hk
  unfold okAt at h1
  rw [Bool.and_eq_true, he] at h1
  exact h1.1
theorem openL_cfg {xs : List Sh} (hc : cfgB xs = true) : openL xs = xs.filter isOpen := by simp [openL, hc]
theorem cfg_single {p : Sh} (h : shOk p = true) : cfgB [p] = true := by
  simp [cfgB, okAt, shAt, h]
theorem open_single {xs : List Sh} {p : Sh} (hc : cfgB xs = true) (he : openL xs = [p]) : cfgB [p] = true ∧ openL [p] = [p] := by
  rw [openL_cfg hc] at he
  have hm : p ∈ xs.filter isOpen := by rw [he]; simp
  obtain ⟨h1, h2⟩ := List.mem_filter.1 hm
  have h3 := cfg_single (cfg_mem hc h1)
  exact ⟨h3, by rw [openL_cfg h3]; simp [h2]⟩
theorem hcf_single {xs : List Sh} {p : Sh} {S L J : Int} {o : Bool} (h : hcfR xs = (S, L, J, o)) (hc : cfgB xs = true) (he : openL xs = [p]) : hcfR [p] = (S, L, J, o) := by
  obtain ⟨h1, h2⟩ := open_single hc he
  have h3 := hcf_one h hc he
  unfold hcfR
  rw [if_pos ⟨h1, by rw [h2]; simp⟩, h2]
  exact h3
theorem hcf_cfg {xs : List Sh} {S L J : Int} (h : hcfR xs = (S, L, J, true)) : cfgB xs = true ∧ (openL xs = [] ∨ ∃ p, openL xs = [p]) := by
  unfold hcfR at h
  split at h
  · rename_i hc
    refine ⟨hc.1, ?_⟩
    cases ho : openL xs with
    | nil => exact .inl rfl
    | cons p t =>
      have := hc.2
      rw [ho] at this
      simp at this
      exact .inr ⟨p, by rw [this]⟩
  · simp at h

/-- The number of electrons. -/
def sumC : List Sh → Int
  | [] => 0
  | p :: ps => p.2.2 + sumC ps
theorem sumC_app (xs ys : List Sh) : sumC (xs ++ ys) = sumC xs + sumC ys := by
  induction xs with
  | nil => simp [sumC]
  | cons p ps ih => simp only [List.cons_append, sumC, ih]; omega
theorem sumC_bd {xs : List Sh} (h : ∀ p, p ∈ xs → shOk p = true) : 0 ≤ sumC xs ∧ sumC xs ≤ 14 * (xs.length : Int) := by
  induction xs with
  | nil => simp [sumC]
  | cons p ps ih =>
    have h1 := shB_iff.1 (h p (List.mem_cons_self))
    have h2 := ih (fun q hq => h q (List.mem_cons_of_mem _ hq))
    simp only [sumC, List.length_cons]
    omega
theorem sumC_par {xs : List Sh} (h : ∀ p, p ∈ xs → shOk p = true) : (sumC xs - sumC (xs.filter isOpen)) % 2 = 0 := by
  induction xs with
  | nil => simp [sumC]
  | cons p ps ih =>
    have h1 := shB_iff.1 (h p (List.mem_cons_self))
    have h2 := ih (fun q hq => h q (List.mem_cons_of_mem _ hq))
    by_cases ho : isOpen p = true
    · rw [List.filter_cons_of_pos ho]
      simp only [sumC]
      omega
    · rw [List.filter_cons_of_neg ho]
      simp only [isOpen, decide_eq_true_eq] at ho
      simp only [sumC]
      omega
theorem sumC_take {xs : List Sh} {k : Nat} {p : Sh} (h : k < xs.length) (hp : shAt xs k = p) : sumC (xs.take (k + 1)) = sumC (xs.take k) + p.2.2 := by
  rw [shAt_take h, sumC_app, hp]
  simp [sumC]
theorem sumC_take_bd {xs : List Sh} (hc : cfgB xs = true) (k : Nat) : 0 ≤ sumC (xs.take k) ∧ sumC (xs.take k) ≤ 14 * (xs.length : Int) := by
  have h1 := sumC_bd (xs := xs.take k) (fun p hp => cfg_mem hc (List.mem_of_mem_take hp))
  have h2 : (xs.take k).length ≤ xs.length := by rw [List.length_take]; omega
  omega

def okLv (l n : Int) : Bool :=
  let r := hlvR l n
  decide ((r.1 + n) % 2 = 0) && decide ((r.2.2.1 + n) % 2 = 0) && lvB r.1 r.2.1 r.2.2.1
theorem okLv_all : allE okLv = true := by decide +kernel
theorem hlv_ok {l n S L J : Int} (h : hlvR l n = (S, L, J, true)) : (S + n) % 2 = 0 ∧ (J + n) % 2 = 0 ∧ lvB S L J = true := by
  have he : elecB l n = true := by
    cases he : elecB l n
    · have := (hlvR_no he h).2.2.2.1; cases this
    · rfl
  have h1 := allE_at okLv_all l n he
  simp only [okLv, h, Bool.and_eq_true, decide_eq_true_eq] at h1
  exact ⟨h1.1.1, h1.1.2, h1.2⟩
theorem lv_bd {S L J : Int} (h : lvB S L J = true) : (0 ≤ S ∧ S ≤ 8) ∧ (0 ≤ J ∧ J ≤ 24) := by
  simp [lvB, tmB, triB, inB] at h
  omega
theorem hcf_num {xs : List Sh} {S L J : Int} (h : hcfR xs = (S, L, J, true)) : (S + sumC xs) % 2 = 0 ∧ (J + sumC xs) % 2 = 0 ∧ lvB S L J = true := by
  obtain ⟨hc, ho⟩ := hcf_cfg h
  have hp := sumC_par (xs := xs) (fun p hp => cfg_mem hc hp)
  rw [← openL_cfg hc] at hp
  rcases ho with ho | ⟨p, ho⟩
  · obtain ⟨rfl, rfl, rfl, _⟩ := hcf_none h hc ho
    rw [ho] at hp
    simp only [sumC] at hp
    exact ⟨by omega, by omega, by decide⟩
  · obtain ⟨h1, h2, h3⟩ := hlv_ok (hcf_one h hc ho)
    rw [ho] at hp
    simp only [sumC] at hp
    exact ⟨by omega, by omega, h3⟩

theorem shAt_left {xs ys : List Sh} {k : Nat} (h : k < xs.length) : shAt (xs ++ ys) k = shAt xs k := by
  rw [shAt, shAt, List.getD_eq_getElem?_getD, List.getD_eq_getElem?_getD, List.getElem?_append_left h]
theorem shAt_last (xs : List Sh) (q : Sh) : shAt (xs ++ [q]) xs.length = q := by
  rw [shAt, List.getD_eq_getElem?_getD, List.getElem?_append_right (Nat.le_refl _)]
  simp
theorem cfg_more {xs : List Sh} (hc : cfgB xs = true) (hl : (shAt xs (xs.length - 1)).1 ≠ 7) : cfgB (xs ++ [(7, 0, 1)]) = true := by
  obtain ⟨h1, h2⟩ := cfg_at hc
  have hlast := h1 (xs.length - 1) (by omega)
  have : ∀ i, i < (xs ++ [(7, 0, 1)]).length → okAt (xs ++ [((7, 0, 1) : Sh)]) i = true := by
    intro i hi
    rw [List.length_append, List.length_singleton] at hi
    by_cases hx : i < xs.length
    · have h3 := h1 i hx
      unfold okAt at h3 ⊢
      rw [shAt_left hx, shAt_left (by omega)]
      exact h3
    · obtain rfl : i = xs.length := by omega
      unfold okAt
      rw [shAt_last, shAt_left (by omega)]
      unfold okAt at hlast
      rw [Bool.and_eq_true] at hlast
      have h4 := shB_iff.1 hlast.1
      have h5 : shLess (shAt xs (xs.length - 1)) (7, 0, 1) = true := lessB_iff.2 (.inl (by show (shAt xs (xs.length - 1)).1 < 7; omega))
      rw [h5]
      simp only [Bool.or_true, Bool.and_true]
      decide
  rw [cfg_true this]
  simp
theorem hcf_more {xs : List Sh} (hc : cfgB xs = true) (ho : openL xs = []) (hl : (shAt xs (xs.length - 1)).1 ≠ 7) : hcfR (xs ++ [(7, 0, 1)]) = (1, 0, 1, true) := by
  have h1 := cfg_more hc hl
  have h2 : openL (xs ++ [((7, 0, 1) : Sh)]) = [(7, 0, 1)] := by
    rw [openL_cfg h1, List.filter_append, ← openL_cfg hc, ho]
    decide
  unfold hcfR
  rw [if_pos ⟨h1, by rw [h2]; simp⟩, h2]
  decide +kernel

end Go.Proofs.Ytpdhbilghmejiaa
