/- Blocks of six cells. -/
import Derived.Test.YtneihommpncegaaPl
namespace Go.Proofs.Ytneihommpncegaa
open Go.RowKit

theorem blk6 {w : World} {g : Nat} {x0 x1 x2 x3 x4 x5 : Value} (h : Blk w g #[x0, x1, x2, x3, x4, x5]) : w.cell? ⟨g, 0, none⟩ = some x0 ∧ w.cell? ⟨g, 1, none⟩ = some x1 ∧ w.cell? ⟨g, 2, none⟩ = some x2 ∧ w.cell? ⟨g, 3, none⟩ = some x3 ∧ w.cell? ⟨g, 4, none⟩ = some x4 ∧ w.cell? ⟨g, 5, none⟩ = some x5 ∧ w.frozen? ⟨g, 0, none⟩ = false ∧ w.frozen? ⟨g, 1, none⟩ = false ∧ w.frozen? ⟨g, 2, none⟩ = false ∧ w.frozen? ⟨g, 3, none⟩ = false ∧ w.frozen? ⟨g, 4, none⟩ = false ∧ w.frozen? ⟨g, 5, none⟩ = false := by
  obtain ⟨t, h⟩ := h
  simp [World.cell?, World.frozen?, h]

end Go.Proofs.Ytneihommpncegaa
