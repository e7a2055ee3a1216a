/- Plain functions on terms and levels. -/
import Derived.Test.YtcmbilddlbejgaaDoorPl
namespace Go.Proofs.YtcmbilddlbejgaaDoor
open Go.RowKit

def tmB (s l : Int) : Bool := inB s 0 8 && inB l 0 8
def lvB (s l j : Int) : Bool := tmB s l && triB (2 * l) s j
theorem tmB_iff {S L : Int} : tmB S L = true ↔ (0 ≤ S ∧ S ≤ 8) ∧ 0 ≤ L ∧ L ≤ 8 := by simp [tmB, inB_iff]

end Go.Proofs.YtcmbilddlbejgaaDoor
