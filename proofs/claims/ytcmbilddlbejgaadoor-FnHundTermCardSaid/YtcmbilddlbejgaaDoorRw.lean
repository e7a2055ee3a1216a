/- Slices of structs: what they hold, as a list. -/
import Derived.Test.YtcmbilddlbejgaaDoorA
import Derived.Deep.AppendLies
namespace Go.Proofs.YtcmbilddlbejgaaDoor
open Go.RowKit

/-- A slice of the call's own that holds these structs; f gives an element's cells. -/
def SRow {α : Type} (ty size : Nat) (f : α → List Value) (w : World) (base : Nat) (v : Value) (xs : List α) : Prop := w.ownsRow base ty size v xs.length (xs.flatMap f)

theorem flat_at {α : Type} {f : α → List Value} {size : Nat} (hf : ∀ x, (f x).length = size) : ∀ (xs : List α) (j i : Nat) (x : α) (u : Value), xs[j]? = some x → (f x)[i]? = some u → (xs.flatMap f)[j * size + i]? = some u
  | [], j, i, x, u, h, _ => by simp at h
  | y :: ys, 0, i, x, u, h, h2 => by
    simp only [List.getElem?_cons_zero, Option.some.injEq] at h
    subst h
    have hi : i < (f y).length := by
      rcases Nat.lt_or_ge i (f y).length with h | h
      · exact h
      · rw [List.getElem?_eq_none h] at h2; cases h2
    rw [List.flatMap_cons, Nat.zero_mul, Nat.zero_add, List.getElem?_append_left hi]
    exact h2
  | y :: ys, j + 1, i, x, u, h, h2 => by
    rw [List.getElem?_cons_succ] at h
    have := flat_at hf ys j i x u h h2
    rw [List.flatMap_cons, List.getElem?_append_right (by rw [hf, Nat.succ_mul]; omega), hf, ← this]
    congr 1
    rw [Nat.succ_mul]
    omega

theorem flat_len {α : Type} {f : α → List Value} {size : Nat} (hf : ∀ x, (f x).length = size) (xs : List α) : (xs.flatMap f).length = xs.length * size := by
  induction xs with
  | nil => simp
  | cons x xs ih => rw [List.flatMap_cons, List.length_append, ih, hf, List.length_cons, Nat.succ_mul]; omega

section
variable {α : Type} {ty size : Nat} {f : α → List Value} {w w' : World} {b b1 : Nat} {v : Value} {xs : List α}
theorem SRow.kept (h : SRow ty size f w b v xs) (hb : Below w.heap.size w w') : SRow ty size f w' b v xs := own_kept h hb
theorem SRow.lower (h : SRow ty size f w b v xs) (hb : b1 ≤ b) : SRow ty size f w b1 v xs := own_base h hb
theorem SRow.alloc (h : SRow ty size f w b v xs) (o : Obj) : SRow ty size f (w.alloc o) b v xs := World.ownsRow.alloc h o
theorem SRow.nil (w : World) (b : Nat) : SRow ty size f w b (.slice none 0 0) [] := World.ownsRow_nil _ _ _ _
theorem SRow.empty (w : World) : SRow ty size f (w.alloc (.cells #[] ty)) w.heap.size (.slice (some ⟨w.heap.size, 0, none⟩) 0 0) [] := by
  refine ⟨by simp, .inr ⟨w.heap.size, 0, #[], rfl, Nat.le_refl _, ?_, Nat.le_refl _, Nat.zero_le _, by simp, by simp⟩⟩
  show (w.heap.push _)[w.heap.size]? = _
  rw [Array.getElem?_push, if_pos rfl]
theorem SRow.emptyAt {g : Nat} (hg : g = w.heap.size) (hb : b ≤ g) : SRow ty size f (w.alloc (.cells #[] ty)) b (.slice (some ⟨g, 0, none⟩) 0 0) [] := by
  subst hg; exact SRow.lower (SRow.empty w) hb
theorem SRow.app {x : α} (h : w.ownsRow b ty size v (xs.length + 1) (xs.flatMap f ++ f x)) : SRow ty size f w b v (xs ++ [x]) := by
  unfold SRow; simpa using h
theorem SRow.opened (hf : ∀ x, (f x).length = size) (h : SRow ty size f w b v xs) :
    ∃ a cap, v = .slice a xs.length cap ∧ xs.length ≤ maxLen ∧ (xs = [] ∨ ∃ g, a = some ⟨g, 0, none⟩ ∧ b ≤ g ∧ g < w.heap.size ∧ ∀ j i x u, xs[j]? = some x → (f x)[i]? = some u → w.cell? ⟨g, j * size + i, none⟩ = some u) := by
  have h0 := h
  unfold SRow at h
  rcases h.2 with ⟨h1, h2⟩ | ⟨g, cap, cur, hv, hg, hh, hn, hm, _⟩
  · exact ⟨none, 0, by rw [h1, h2], by unfold maxLen; omega, .inl (List.length_eq_zero_iff.1 h2)⟩
  · refine ⟨_, cap, hv, Nat.le_trans hn hm, .inr ⟨g, rfl, hg, ?_, fun j i x u hx hu => ?_⟩⟩
    · rcases Nat.lt_or_ge g w.heap.size with h | h
      · exact h
      · rw [Array.getElem?_eq_none h] at hh; cases hh
    · have h3 := World.ownsRow.cells h (g := g) (by rw [hv]; rfl) (j * size + i) u (flat_at hf xs j i x u hx hu)
      have e : (⟨g, 0, none⟩ : Addr).add (j * size + i) = ⟨g, j * size + i, none⟩ := by unfold Addr.add; split <;> simp_all
      rwa [e] at h3
end

/-- The cells of a block of two, of three. -/
theorem cells_new2 (w : World) (x y : Value) (t : TypeId) : ∀ j u, [x, y][j]? = some u → (w.alloc (.cells #[x, y] t)).cell? ((⟨w.heap.size, 0, none⟩ : Addr).add j) = some u :=
  World.news_of_block (cs := #[x, y]) (heap_alloc_new w _)
theorem cells_new3 (w : World) (x y z : Value) (t : TypeId) : ∀ j u, [x, y, z][j]? = some u → (w.alloc (.cells #[x, y, z] t)).cell? ((⟨w.heap.size, 0, none⟩ : Addr).add j) = some u :=
  World.news_of_block (cs := #[x, y, z]) (heap_alloc_new w _)

end Go.Proofs.YtcmbilddlbejgaaDoor
