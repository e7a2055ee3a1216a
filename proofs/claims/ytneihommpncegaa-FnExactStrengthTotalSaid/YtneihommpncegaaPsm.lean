/- Plain functions: sums of strengths of lines. -/
import Derived.Test.YtneihommpncegaaPs
import Derived.Test.YtneihommpncegaaPq
import Derived.Test.YtneihommpncegaaJ
namespace Go.Proofs.Ytneihommpncegaa
open Go.RowKit
set_option linter.unusedVariables false

/-- The sum of what is told for all of a list, from a sum on; nothing if one of it is not told or too great. -/
def sumL (F : Int → Int → Int → Int × Int × Bool) : List (Int × Int × Int) → Int → Int → Int × Int × Bool
  | [], N, D => (N, D, true)
  | p :: ps, N, D =>
    if (F p.1 p.2.1 p.2.2).2.2 = true then
      (if (ratAdd N D (F p.1 p.2.1 p.2.2).1 (F p.1 p.2.1 p.2.2).2.1).2.2 = true then sumL F ps (ratAdd N D (F p.1 p.2.1 p.2.2).1 (F p.1 p.2.1 p.2.2).2.1).1 (ratAdd N D (F p.1 p.2.1 p.2.2).1 (F p.1 p.2.1 p.2.2).2.1).2.1 else (0, 0, false))
    else (0, 0, false)
/-- What StrengthSum returns. -/
def strS (s l j S L : Int) : Int × Int × Bool := if tmB S L = true then sumL (lsI s l j) (lvlsL S L) 0 1 else (0, 0, false)
/-- What StrengthTotal returns. -/
def strT (S L S2 L2 : Int) : Int × Int × Bool := if tmB S L = true then sumL (fun s l j => strS s l j S2 L2) (lvlsL S L) 0 1 else (0, 0, false)

theorem drop_at {xs : List (Int × Int × Int)} {k : Nat} {p : Int × Int × Int} (h : xs[k]? = some p) : xs.drop k = p :: xs.drop (k + 1) := by
  obtain ⟨hk, he⟩ := List.getElem?_eq_some_iff.1 h
  rw [List.drop_eq_getElem_cons hk, he]
theorem sumL_no {F : Int → Int → Int → Int × Int × Bool} {xs : List (Int × Int × Int)} {k : Nat} {a b c N D N1 D1 : Int} {T : Int × Int × Bool} (h : xs[k]? = some (a, b, c)) (hF : F a b c = (N1, D1, false)) (hT : sumL F (xs.drop k) N D = T) : T = (0, 0, false) := by
  rw [drop_at h] at hT
  simp [sumL, hF] at hT
  exact hT.symm
theorem sumL_big {F : Int → Int → Int → Int × Int × Bool} {xs : List (Int × Int × Int)} {k : Nat} {a b c N D N1 D1 N3 D3 : Int} {T : Int × Int × Bool} (h : xs[k]? = some (a, b, c)) (hF : F a b c = (N1, D1, true)) (hA : ratAdd N D N1 D1 = (N3, D3, false)) (hT : sumL F (xs.drop k) N D = T) : T = (0, 0, false) := by
  rw [drop_at h] at hT
  simp [sumL, hF, hA] at hT
  exact hT.symm
theorem sumL_step {F : Int → Int → Int → Int × Int × Bool} {xs : List (Int × Int × Int)} {k : Nat} {a b c N D N1 D1 N3 D3 : Int} {T : Int × Int × Bool} (h : xs[k]? = some (a, b, c)) (hF : F a b c = (N1, D1, true)) (hA : ratAdd N D N1 D1 = (N3, D3, true)) (hT : sumL F (xs.drop k) N D = T) : sumL F (xs.drop (k + 1)) N3 D3 = T := by
  rw [drop_at h] at hT
  simp [sumL, hF, hA] at hT
  exact hT
theorem sumL_end {F : Int → Int → Int → Int × Int × Bool} {xs : List (Int × Int × Int)} {N D : Int} {T : Int × Int × Bool} (hT : sumL F (xs.drop xs.length) N D = T) : T = (N, D, true) := by
  rw [List.drop_length] at hT
  exact hT.symm
theorem lvls_one {S L : Int} (h : tmB S L = true) : 1 ≤ (lvlsL S L).length ∧ (lvlsL S L).length ≤ 9 := by
  obtain ⟨⟨h1, h2⟩, h3, h4⟩ := tmB_iff.1 h
  have e : lvlsL S L = (stepL (absI (2 * L - S)) ((min (2 * L) S).toNat + 1)).map (fun j => (S, L, j)) := by
    have : coupledOk (2 * L) S = true := by simp [coupledOk, inB]; omega
    rw [lvlsL, if_pos h, coupledL, if_pos this]
    congr 2
    omega
  rw [e, List.length_map, stepL_length]
  omega
theorem strT_no {S L S2 L2 : Int} (h : tmB S2 L2 = false) : strT S L S2 L2 = (0, 0, false) := by
  unfold strT
  split
  · rename_i ht
    have h1 := (lvls_one ht).1
    cases hx : lvlsL S L with
    | nil => rw [hx] at h1; simp at h1
    | cons p ps => simp [sumL, strS, h]
  · rfl

theorem on_setR {a w : World} {R : Nat} (h : a.grownBy w (some R)) {p : Addr} (hp : p.block = R) (u : Value) : a.grownBy (w.setCell p u) (some R) :=
  ⟨h.os, h.tape, h.output, by simpa [World.setCell] using h.size, fun i hi hne => (Below.heap_setCell w p u i (fun e => hne (by rw [← hp, e]))).trans (h.block i hi hne)⟩

end Go.Proofs.Ytneihommpncegaa
