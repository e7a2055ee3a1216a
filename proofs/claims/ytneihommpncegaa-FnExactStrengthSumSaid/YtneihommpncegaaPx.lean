/- Plain functions on 6j symbols: both ways of reckoning the sum, and that they agree. -/
import Derived.Test.YtneihommpncegaaPk
namespace Go.Proofs.Ytneihommpncegaa
open Go.RowKit
set_option linter.unusedVariables false

def facI (n : Int) : Int := (fa n.toNat : Int)
theorem fa_le : ∀ {n m : Nat}, n ≤ m → fa n ≤ fa m := by
  intro n m h
  induction h with
  | refl => exact Nat.le_refl _
  | step h ih => exact Nat.le_trans ih (Nat.le_mul_of_pos_left _ (by omega))
theorem facI_bd {n : Int} (h : n ≤ 20) : 1 ≤ facI n ∧ facI n ≤ 2432902008176640000 := by
  have h1 := fa_pos n.toNat
  have h2 : fa n.toNat ≤ fa 20 := fa_le (by omega)
  have h3 : fa 20 = 2432902008176640000 := by decide +kernel
  unfold facI
  omega
theorem facI_bd13 {n : Int} (h : n ≤ 13) : 1 ≤ facI n ∧ facI n ≤ 6227020800 := by
  have h1 := fa_pos n.toNat
  have h2 : fa n.toNat ≤ fa 13 := fa_le (by omega)
  have h3 : fa 13 = 6227020800 := by decide +kernel
  unfold facI
  omega

/-- Six angular momenta of a symbol. -/
def sixOk (a b c d e f : Int) : Bool := tdB a b c && tdB a e f && tdB d b f && tdB d e c
theorem sixOk_iff {a b c d e f : Int} : sixOk a b c d e f = true ↔ tdB a b c = true ∧ tdB a e f = true ∧ tdB d b f = true ∧ tdB d e c = true := by
  simp [sixOk, and_assoc]

def sxLo (a b c d e f : Int) : Int := max (max (max (max 0 ((a + b + c) / 2)) ((a + e + f) / 2)) ((d + b + f) / 2)) ((d + e + c) / 2)
def sxHi (a b c d e f : Int) : Int := min (min ((a + b + d + e) / 2) ((b + c + e + f) / 2)) ((a + c + d + f) / 2)
/-- The program's summand: quotients of factorials, one after the other. -/
def sxT (a b c d e f t : Int) : Int :=
  facI (t + 1) / facI (t - (a + b + c) / 2) / facI (t - (a + e + f) / 2) / facI (t - (d + b + f) / 2) / facI (t - (d + e + c) / 2) / facI ((a + b + d + e) / 2 - t) / facI ((b + c + e + f) / 2 - t) / facI ((a + c + d + f) / 2 - t)
def sgT (t x : Int) : Int := if t % 2 = 1 then -x else x
/-- The sum from lo on, k summands. -/
def sxS (a b c d e f : Int) : Nat → Int
  | 0 => 0
  | k + 1 => sxS a b c d e f k + sgT (sxLo a b c d e f + (k : Int)) (sxT a b c d e f (sxLo a b c d e f + (k : Int)))
def sixI (a b c d e f : Int) : Int := if sixOk a b c d e f = true then sxS a b c d e f (sxHi a b c d e f + 1 - sxLo a b c d e f).toNat else 0

/-- The reference's groups and ways. -/
def grL (a b c d e f t : Int) : List Int := [t - (a + b + c) / 2, t - (a + e + f) / 2, t - (d + b + f) / 2, t - (d + e + c) / 2, (a + b + d + e) / 2 - t, (b + c + e + f) / 2 - t, (a + c + d + f) / 2 - t]
def wySt (gs : List Int) : Nat → Int × Int
  | 0 => (1, gs.sum)
  | k + 1 => ((wySt gs k).1 * chooseI (wySt gs k).2 (gs.getD k 0), (wySt gs k).2 - gs.getD k 0)
def wyI (gs : List Int) : Int := if gs.all (fun g => decide (0 ≤ g)) = true then (wySt gs gs.length).1 else 0
def s2T (a b c d e f t : Int) : Int := (t + 1) * wyI (grL a b c d e f t)
def s2S (a b c d e f : Int) : Nat → Int
  | 0 => 0
  | k + 1 => s2S a b c d e f k + sgT (k : Int) (s2T a b c d e f (k : Int))

/-- What holds for all symbols. -/
def allS (P : Int → Int → Int → Int → Int → Int → Bool) : Bool :=
  all3 fun a b c => (rangeI 0 6).all fun e => (rangeI 0 6).all fun f => !tdB a e f || (rangeI 0 6).all fun d => !tdB d b f || !tdB d e c || P a b c d e f
theorem allS_of {P : Int → Int → Int → Int → Int → Int → Bool} (h : allS P = true) {a b c d e f : Int} (ok : sixOk a b c d e f = true) : P a b c d e f = true := by
  obtain ⟨o1, o2, o3, o4⟩ := sixOk_iff.1 ok
  have h1 := all3_of h o1
  have t2 := tdB_iff.1 o2
  have t3 := tdB_iff.1 o3
  rw [List.all_eq_true] at h1
  have h2 := h1 e (mem_rangeI (by omega) (by omega))
  rw [List.all_eq_true] at h2
  have h3 := h2 f (mem_rangeI (by omega) (by omega))
  rw [o2] at h3
  simp only [Bool.not_true, Bool.false_or, List.all_eq_true] at h3
  have h4 := h3 d (mem_rangeI (by omega) (by omega))
  rw [o3, o4] at h4
  simpa using h4

theorem sum_nn : ∀ {gs : List Int}, gs.all (fun g => decide (0 ≤ g)) = true → 0 ≤ gs.sum
  | [], _ => by simp
  | x :: xs, h => by
    simp only [List.all_cons, Bool.and_eq_true, decide_eq_true_eq] at h
    have := sum_nn h.2
    rw [List.sum_cons]
    omega

def okSame (a b c d e f : Int) : Bool := decide (s2S a b c d e f 13 = sixI a b c d e f)
theorem okSame_all : allS okSame = true := by decide +kernel

theorem wy_bd {gs : List Int} (h : gs.all (fun g => decide (0 ≤ g)) = true) (hs : gs.sum ≤ 12) : ∀ k : Nat, k ≤ gs.length →
    (wySt gs k).2 = (gs.drop k).sum ∧ 0 ≤ (wySt gs k).2 ∧ (wySt gs k).2 ≤ 12 ∧ 0 ≤ (wySt gs k).1 ∧ (wySt gs k).1 * facI (wySt gs k).2 ≤ facI gs.sum
  | 0, _ => by
    have hp : 0 ≤ gs.sum := sum_nn h
    simp [wySt]
    omega
  | k + 1, hk => by
    obtain ⟨i1, i2, i3, i4, i5⟩ := wy_bd h hs k (by omega)
    have hd : gs.drop k = gs.getD k 0 :: gs.drop (k + 1) := by
      rw [List.drop_eq_getElem_cons (by omega)]
      simp [List.getD_eq_getElem?_getD, List.getElem?_eq_getElem (show k < gs.length by omega)]
    have hg : 0 ≤ gs.getD k 0 := by
      rw [List.all_eq_true] at h
      have := h (gs.getD k 0) (by rw [List.getD_eq_getElem?_getD, List.getElem?_eq_getElem (show k < gs.length by omega)]; exact List.getElem_mem _)
      simpa using this
    have hr : 0 ≤ (gs.drop (k + 1)).sum := sum_nn (by
      rw [List.all_eq_true] at h ⊢
      exact fun x hx => h x (List.mem_of_mem_drop hx))
    rw [hd, List.sum_cons] at i1
    have e1 : (wySt gs (k + 1)).1 = (wySt gs k).1 * chooseI (wySt gs k).2 (gs.getD k 0) := rfl
    have e2 : (wySt gs (k + 1)).2 = (wySt gs k).2 - gs.getD k 0 := rfl
    rw [e1, e2]
    generalize (wySt gs k).1 = o at *
    generalize (wySt gs k).2 = l at *
    generalize gs.getD k 0 = g at *
    have hl : l - g = (gs.drop (k + 1)).sum := by omega
    obtain ⟨L, rfl⟩ := Int.eq_ofNat_of_zero_le i2
    obtain ⟨G, rfl⟩ := Int.eq_ofNat_of_zero_le hg
    have hGL : G ≤ L := by omega
    have ec : chooseI (L : Int) (G : Int) = (ch L G : Int) := chooseI_in (by omega)
    have ef := ch_fa L G hGL
    have fg := fa_pos G
    have hle : (ch L G : Int) * (fa (L - G) : Int) ≤ (fa L : Int) := by
      have : ch L G * fa (L - G) ≤ fa L := by
        rw [← ef, Nat.mul_assoc, Nat.mul_comm (fa G), ← Nat.mul_assoc]
        exact Nat.le_mul_of_pos_right _ fg
      exact_mod_cast this
    have efl : facI ((L : Int) - (G : Int)) = (fa (L - G) : Int) := by
      unfold facI
      rw [show ((L : Int) - (G : Int)).toNat = L - G by omega]
    have efl2 : facI (L : Int) = (fa L : Int) := by unfold facI; rw [Int.toNat_natCast]
    rw [ec, efl]
    refine ⟨hl, by omega, by omega, Int.mul_nonneg i4 (Int.natCast_nonneg _), ?_⟩
    rw [efl2] at i5
    refine Int.le_trans ?_ i5
    rw [Int.mul_assoc]
    exact Int.mul_le_mul_of_nonneg_left hle i4

theorem wy_le {gs : List Int} (h : gs.all (fun g => decide (0 ≤ g)) = true) (hs : gs.sum ≤ 12) (k : Nat) (hk : k ≤ gs.length) : (0 ≤ (wySt gs k).2 ∧ (wySt gs k).2 ≤ 12) ∧ (0 ≤ (wySt gs k).1 ∧ (wySt gs k).1 ≤ 6227020800) := by
  obtain ⟨i1, i2, i3, i4, i5⟩ := wy_bd h hs k hk
  refine ⟨⟨i2, i3⟩, i4, ?_⟩
  have f1 := facI_bd13 (n := (wySt gs k).2) (by omega)
  have f2 := facI_bd13 (n := gs.sum) (by omega)
  have h1 : (wySt gs k).1 * 1 ≤ (wySt gs k).1 * facI (wySt gs k).2 := Int.mul_le_mul_of_nonneg_left f1.1 i4
  omega

end Go.Proofs.Ytneihommpncegaa
