/- What walks through regions with calls share. -/
import Derived.Test.YtcmbilddlbejgaaDoorPl
import Derived.Deep.RegionHeld3
import Derived.Deep.DeepCutAuto
namespace Go.Proofs.YtcmbilddlbejgaaDoor
open Go.RowKit

theorem blk_store2 {w : World} {g : Nat} {x y a b : Value} (h : Blk w g #[x, y]) : Blk ((w.setCell ⟨g, 0, none⟩ a).setCell ⟨g, 1, none⟩ b) g #[a, b] := blk_set (blk_set h 0 a) 1 b
theorem blk_store3 {w : World} {g : Nat} {x y z a b c : Value} (h : Blk w g #[x, y, z]) : Blk (((w.setCell ⟨g, 0, none⟩ a).setCell ⟨g, 1, none⟩ b).setCell ⟨g, 2, none⟩ c) g #[a, b, c] := blk_set (blk_set (blk_set h 0 a) 1 b) 2 c
/-- What a statement 'y, ok := f(..)' leaves, in whatever order. -/
def CutBlk (z : World) (cs : Array Value) (o : Bool) (p q : Value) (wx : World) : Prop := ∃ g : Nat, p = .pointer (some ⟨g, 0, none⟩) ∧ q = .bool o ∧ z.heap.size ≤ g ∧ Blk wx g cs ∧ Below z.heap.size z wx
theorem and_keep {A B : Prop} (a : A) (f : A → B) : A ∧ B := ⟨a, f a⟩
theorem held_cell {z w' : World} (hB : Below z.heap.size z w') {g i : Nat} {v : Value} (hz : z.cell? ⟨g, i, none⟩ = some v) (hl : g < z.heap.size) : w'.cell? ⟨g, i, none⟩ = some v := by
  rw [hB.cell (p := ⟨g, i, none⟩) hl]; exact hz
end Go.Proofs.YtcmbilddlbejgaaDoor
