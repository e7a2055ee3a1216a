/- Contracts of RootValid and RatLess; contracts with known results. -/
import Derived.Test.YtdhmjmnpaigagaaLu
namespace Go.Proofs.Ytdhmjmnpaigagaa
open Go.RowKit
set_option linter.unusedVariables false

theorem i_RatDiv2 (a b c d N D : Int) (o : Bool) (w : World) (h : Hid (ratDiv a b c d = (N, D, o))) :
    Calls Try.prog 36 #[.agg #[.int .i64 a, .int .i64 b], .agg #[.int .i64 c, .int .i64 d]] w fun e w' => e = .returned (.tuple #[.agg #[.int .i64 N, .int .i64 D], .bool o]) ∧ Below w.heap.size w w' :=
  (i_RatDiv a b c d w).mono fun e w' ⟨he, hb⟩ => ⟨by rw [he, h.out]; rfl, hb⟩

theorem i_RatAdd2 (a b c d N D : Int) (o : Bool) (w : World) (h : Hid (ratAdd a b c d = (N, D, o))) :
    Calls Try.prog 20 #[.agg #[.int .i64 a, .int .i64 b], .agg #[.int .i64 c, .int .i64 d]] w fun e w' => e = .returned (.tuple #[.agg #[.int .i64 N, .int .i64 D], .bool o]) ∧ Below w.heap.size w w' :=
  (i_RatAdd a b c d w).mono fun e w' ⟨he, hb⟩ => ⟨by rw [he, h.out]; rfl, hb⟩

theorem pair3 {A B C : Type} (x : A × B × C) : ∃ a b c, x = (a, b, c) := ⟨x.1, x.2.1, x.2.2, rfl⟩

end Go.Proofs.Ytdhmjmnpaigagaa
