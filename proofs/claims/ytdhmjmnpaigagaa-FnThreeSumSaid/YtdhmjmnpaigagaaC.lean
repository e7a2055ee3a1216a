/- Contracts of the functions of the laws that compare, mark and look at slices of integers. -/
import Derived.Test.YtdhmjmnpaigagaaA
import Derived.Deep.QuietTactic
import Derived.BigQuiet
namespace Go.Proofs.Ytdhmjmnpaigagaa
open Go.RowKit

theorem below_drewN {B : Nat} {a w : World} (h : Below B a w) (n : Nat) : Below B a (w.drewN n) := ⟨h.os, h.tape, h.output, h.size, h.block⟩





end Go.Proofs.Ytdhmjmnpaigagaa
