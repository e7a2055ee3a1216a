/- The shelf's contract of bits.TrailingZeros laid at this program (wip/tools/laytext.py printed the laying). -/
import Derived.Shelf.Spec.TrailingZeros
import Derived.Test.YtcmbilddlbejgaaDoorBo
namespace Go.Proofs.YtcmbilddlbejgaaDoor
open Go.RowKit Go.Shelf
set_option linter.unusedVariables false

def lays27_ren : Go.Shelf.Ren := ⟨fun | 27 => 25 | 28 => 30 | 29 => 31 | n => n, fun | 25 => 57 | 3 => 3 | 27 => 62 | 22 => 64 | 4 => 4 | 53 => 65 | 0 => 0 | 5 => 5 | 54 => 66 | n => n, fun | 0 => 0 | 1 => 1 | n => n⟩
theorem lays27 : Go.Proofs.Lays7.n27 Tryd.prog lays27_ren := {
  mixed := by kernel_rfl
  f27 := Tryd.func25.trans (congrArg some (by kernel_rfl))
  f28 := Tryd.func30.trans (congrArg some (by kernel_rfl))
  f29 := Tryd.func31.trans (congrArg some (by kernel_rfl))
  t0 := Tryd.underlying0
  a0 := Tryd.isAgg0
  z0 := Tryd.sizeOf0
  v0 := Tryd.zeroValue0
  i0 := by kernel_rfl
  t3 := Tryd.underlying3
  a3 := Tryd.isAgg3
  z3 := Tryd.sizeOf3
  v3 := Tryd.zeroValue3
  i3 := by kernel_rfl
  t4 := Tryd.underlying4
  a4 := Tryd.isAgg4
  z4 := Tryd.sizeOf4
  v4 := Tryd.zeroValue4
  i4 := by kernel_rfl
  t5 := Tryd.underlying5
  a5 := Tryd.isAgg5
  z5 := Tryd.sizeOf5
  v5 := Tryd.zeroValue5
  i5 := by kernel_rfl
  t22 := Tryd.underlying64
  a22 := Tryd.isAgg64
  z22 := Tryd.sizeOf64
  v22 := Tryd.zeroValue64
  i22 := by kernel_rfl
  t25 := Tryd.underlying57
  a25 := Tryd.isAgg57
  z25 := Tryd.sizeOf57
  v25 := Tryd.zeroValue57
  i25 := by kernel_rfl
  t27 := Tryd.underlying62
  a27 := Tryd.isAgg62
  z27 := Tryd.sizeOf62
  v27 := Tryd.zeroValue62
  i27 := by kernel_rfl
  t53 := Tryd.underlying65
  a53 := Tryd.isAgg65
  z53 := Tryd.sizeOf65
  v53 := Tryd.zeroValue65
  i53 := by kernel_rfl
  t54 := Tryd.underlying66
  a54 := Tryd.isAgg66
  z54 := Tryd.sizeOf66
  g0 := by kernel_rfl
  g1 := by kernel_rfl }

/-- The library's table lies in its variable. -/
def Tab (w : World) : Prop := TabAt 1 Lib.deBruijn64tab w ∧ 2 ≤ w.heap.size
theorem Tab.below {w w' : World} (h : Tab w) (hb : Below w.heap.size w w') : Tab w' :=
  ⟨fun j hj => by rw [hb.cell (p := ⟨1, j, none⟩) (show 1 < w.heap.size from h.2)]; exact h.1 j hj, Nat.le_trans h.2 hb.size⟩

theorem x_TrailingZeros (k : Nat) (w : World) (hk : k < 18446744073709551616) (ht : Tab w) :
    Calls Tryd.prog 25 #[.int .u64 (k : Int)] w fun e w' => e = .returned (.int .i64 (Lib.ctz 64 k)) ∧ w' = w :=
  Any7.bits_TrailingZeros lays27 k hk w (fun _ => ht.1)

theorem x_TrailingZeros64 (k : Nat) (w : World) (hk : k < 18446744073709551616) (ht : Tab w) :
    Calls Tryd.prog 31 #[.int .u64 (k : Int)] w fun e w' => e = .returned (.int .i64 (Lib.ctz 64 k)) ∧ w' = w :=
  Any7.bits_TrailingZeros64 { lays27 with } k hk w (fun _ => ht.1)

end Go.Proofs.YtcmbilddlbejgaaDoor
