/- Contracts of bits.OnesCount for numbers below 1024. -/
import Derived.Test.YtcmbilddlbejgaaDoorA
import Derived.Test.YtcmbilddlbejgaaDoorPu
namespace Go.Proofs.YtcmbilddlbejgaaDoor
open Go.RowKit
set_option linter.unusedVariables false

/-- How many bits are set, of the lowest ten. -/
def popN (k : Nat) : Nat := (List.range 10).foldl (fun a i => a + (k / 2 ^ i) % 2) 0
/-- The lowest bit that is set. -/
def ntzN (k : Nat) : Nat := ((List.range 10).find? (fun i => (k / 2 ^ i) % 2 == 1)).getD 64

set_option maxRecDepth 100000 in
set_option maxHeartbeats 2000000 in
theorem x_OnesCount64 (k : Nat) (w : World) (hk : k < 1024) :
    Calls Tryd.prog 29 #[.int .u64 (k : Int)] w fun e w' => e = .returned (.int .i64 (popN k : Nat)) ∧ w = w' := by
  go_enter Tryd.func29, Tryd.ntmps29
  go_wp2
  go_ret
  refine ⟨ret_int ?_, rfl⟩
  clear w
  revert k
  decide +kernel

set_option maxRecDepth 100000 in
set_option maxHeartbeats 1000000 in
theorem x_OnesCount (k : Nat) (w : World) (hk : k < 1024) :
    Calls Tryd.prog 24 #[.int .u64 (k : Int)] w fun e w' => e = .returned (.int .i64 (popN k : Nat)) ∧ w = w' := by
  go_enter Tryd.func24, Tryd.ntmps24
  go_wp2_with fail
  refine (x_OnesCount64 k _ hk).mono ?_
  rintro e w1 ⟨rfl, rfl⟩
  go_wp2_with fail
  go_ret
  exact ⟨rfl, rfl⟩


end Go.Proofs.YtcmbilddlbejgaaDoor
