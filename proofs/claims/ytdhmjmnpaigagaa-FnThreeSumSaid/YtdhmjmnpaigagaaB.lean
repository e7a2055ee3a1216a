/- Contracts of SpinCoupled and HyperLevels, of the program and of the reference. -/
import Derived.Test.YtdhmjmnpaigagaaA
namespace Go.Proofs.Ytdhmjmnpaigagaa
open Go.RowKit

theorem infoInt : (Try.prog.info? 3).map (fun i => (i.zero, i.size, i.bytes)) = some (some (.int .i64 0), 1, 8) := by kernel_rfl

end Go.Proofs.Ytdhmjmnpaigagaa
