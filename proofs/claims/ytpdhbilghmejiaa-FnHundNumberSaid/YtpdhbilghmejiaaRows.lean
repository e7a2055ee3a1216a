/-
  No cell of these rows narrows 'for every input' (looked for: loops, veiled, ifaces, maps, wideKeys, modest, calm, conditions, laid).
  DERIVED. THE GIVEN ROWS OF THIS SEAT. 9 by the template 'for every input the law returns true; each argument reads behind the call as it read before'; 0 by the template 'total and deterministic' (their statements: YtpdhbilghmejiaaTotals.lean).
  GIVEN WITH THE SEED: the statements are not yours to turn. If you find one false, say at which input.
  Laid BY PROGRAM, IN A SANDBOX (cutbox-rows.mjs): the forced cells as the released guide's own fill.sh prints them over the translation bc31bda2967b73f1… (all of the seat's roots in one cut). By AI agents, Wed Nov 11 2026. No macro, syntax, notation, axiom, sorry.
-/
import Derived.Test.YtpdhbilghmejiaaChecked
import GoSem.Claim
import GoSem.ClaimJoined
import GoSem.ClaimMapViews
import Derived.JoinedTies
import Derived.KernelRfl
namespace Go.Proofs.Ytpdhbilghmejiaa
/- THE CELL 'sum', in the pinned program and in every row, IS THE sha256 OF THE DUMP (.gsa) THAT YtpdhbilghmejiaaProg.lean LOADS. Nothing in Lean hashes anything: it is a label: what it is worth is what the hold of that sum in a sandbox is worth. -/
noncomputable def Try.pinned : Pinned := { name := "ytpdhbilghmejiaa", sum := "bc31bda2967b73f176384ab62872319da1a58f8cfa27f04478a1477f4d53d296", checked := Try.checked }
namespace Rows
def none {H : Type} : Left H := { results := [], args := [] }

/-- 'laws.FnExactHundTerm': WHATEVER THE INPUT: true; the input reads as it did. -/
def fnExactHundTermSpec : ChangeSpec := { name := "fnExactHundTerm", fn := fun _ => fun
  | [d1, d2] => { results := [.lit (.bool true)], args := [d1, d2] }
  | _ => none }
def fnExactHundTermRow : OpenClaim := { program := "ytpdhbilghmejiaa", sum := "bc31bda2967b73f176384ab62872319da1a58f8cfa27f04478a1477f4d53d296", func := "loop.example/atomicspectra/laws.FnExactHundTerm", spec := "fnExactHundTerm", recurses := true, apart := false }
def FnExactHundTermSaid : Prop := fnExactHundTermRow.holds Try.pinned (OpenSpec.ofChange fnExactHundTermSpec)

/-- ITS FALSE NEIGHBOUR: 'it returns false'. Refute it at one input. -/
def fnExactHundTermWrong : ChangeSpec := { name := "fnExactHundTerm", fn := fun _ => fun
  | [d1, d2] => { results := [.lit (.bool false)], args := [d1, d2] }
  | _ => none }
def FnExactHundTermWrongFalsely : Prop := fnExactHundTermRow.holds Try.pinned (OpenSpec.ofChange fnExactHundTermWrong)

/-- 'laws.FnHundHoles': WHATEVER THE INPUT: true; the input reads as it did. -/
def fnHundHolesSpec : ChangeSpec := { name := "fnHundHoles", fn := fun _ => fun
  | [d] => { results := [.lit (.bool true)], args := [d] }
  | _ => none }
def fnHundHolesRow : OpenClaim := { program := "ytpdhbilghmejiaa", sum := "bc31bda2967b73f176384ab62872319da1a58f8cfa27f04478a1477f4d53d296", func := "loop.example/atomicspectra/laws.FnHundHoles", spec := "fnHundHoles", recurses := true, apart := false }
def FnHundHolesSaid : Prop := fnHundHolesRow.holds Try.pinned (OpenSpec.ofChange fnHundHolesSpec)

/-- ITS FALSE NEIGHBOUR: 'it returns false'. Refute it at one input. -/
def fnHundHolesWrong : ChangeSpec := { name := "fnHundHoles", fn := fun _ => fun
  | [d] => { results := [.lit (.bool false)], args := [d] }
  | _ => none }
def FnHundHolesWrongFalsely : Prop := fnHundHolesRow.holds Try.pinned (OpenSpec.ofChange fnHundHolesWrong)

/-- 'laws.FnExactHundLevel': WHATEVER THE INPUT: true; the input reads as it did. -/
def fnExactHundLevelSpec : ChangeSpec := { name := "fnExactHundLevel", fn := fun _ => fun
  | [d1, d2] => { results := [.lit (.bool true)], args := [d1, d2] }
  | _ => none }
def fnExactHundLevelRow : OpenClaim := { program := "ytpdhbilghmejiaa", sum := "bc31bda2967b73f176384ab62872319da1a58f8cfa27f04478a1477f4d53d296", func := "loop.example/atomicspectra/laws.FnExactHundLevel", spec := "fnExactHundLevel", recurses := true, apart := false }
def FnExactHundLevelSaid : Prop := fnExactHundLevelRow.holds Try.pinned (OpenSpec.ofChange fnExactHundLevelSpec)

/-- ITS FALSE NEIGHBOUR: 'it returns false'. Refute it at one input. -/
def fnExactHundLevelWrong : ChangeSpec := { name := "fnExactHundLevel", fn := fun _ => fun
  | [d1, d2] => { results := [.lit (.bool false)], args := [d1, d2] }
  | _ => none }
def FnExactHundLevelWrongFalsely : Prop := fnExactHundLevelRow.holds Try.pinned (OpenSpec.ofChange fnExactHundLevelWrong)

/-- 'laws.FnHundLevel': WHATEVER THE INPUT: true; the input reads as it did. -/
def fnHundLevelSpec : ChangeSpec := { name := "fnHundLevel", fn := fun _ => fun
  | [d] => { results := [.lit (.bool true)], args := [d] }
  | _ => none }
def fnHundLevelRow : OpenClaim := { program := "ytpdhbilghmejiaa", sum := "bc31bda2967b73f176384ab62872319da1a58f8cfa27f04478a1477f4d53d296", func := "loop.example/atomicspectra/laws.FnHundLevel", spec := "fnHundLevel", recurses := true, apart := false }
def FnHundLevelSaid : Prop := fnHundLevelRow.holds Try.pinned (OpenSpec.ofChange fnHundLevelSpec)

/-- ITS FALSE NEIGHBOUR: 'it returns false'. Refute it at one input. -/
def fnHundLevelWrong : ChangeSpec := { name := "fnHundLevel", fn := fun _ => fun
  | [d] => { results := [.lit (.bool false)], args := [d] }
  | _ => none }
def FnHundLevelWrongFalsely : Prop := fnHundLevelRow.holds Try.pinned (OpenSpec.ofChange fnHundLevelWrong)

/-- 'laws.FnHundShift': WHATEVER THE INPUT: true; the input reads as it did. -/
def fnHundShiftSpec : ChangeSpec := { name := "fnHundShift", fn := fun _ => fun
  | [d] => { results := [.lit (.bool true)], args := [d] }
  | _ => none }
def fnHundShiftRow : OpenClaim := { program := "ytpdhbilghmejiaa", sum := "bc31bda2967b73f176384ab62872319da1a58f8cfa27f04478a1477f4d53d296", func := "loop.example/atomicspectra/laws.FnHundShift", spec := "fnHundShift", recurses := true, apart := false }
def FnHundShiftSaid : Prop := fnHundShiftRow.holds Try.pinned (OpenSpec.ofChange fnHundShiftSpec)

/-- ITS FALSE NEIGHBOUR: 'it returns false'. Refute it at one input. -/
def fnHundShiftWrong : ChangeSpec := { name := "fnHundShift", fn := fun _ => fun
  | [d] => { results := [.lit (.bool false)], args := [d] }
  | _ => none }
def FnHundShiftWrongFalsely : Prop := fnHundShiftRow.holds Try.pinned (OpenSpec.ofChange fnHundShiftWrong)

/-- 'laws.FnExactHundConfig': WHATEVER THE INPUT: true; the input reads as it did. -/
def fnExactHundConfigSpec : ChangeSpec := { name := "fnExactHundConfig", fn := fun _ => fun
  | [d] => { results := [.lit (.bool true)], args := [d] }
  | _ => none }
def fnExactHundConfigRow : OpenClaim := { program := "ytpdhbilghmejiaa", sum := "bc31bda2967b73f176384ab62872319da1a58f8cfa27f04478a1477f4d53d296", func := "loop.example/atomicspectra/laws.FnExactHundConfig", spec := "fnExactHundConfig", recurses := true, apart := false }
def FnExactHundConfigSaid : Prop := fnExactHundConfigRow.holds Try.pinned (OpenSpec.ofChange fnExactHundConfigSpec)

/-- ITS FALSE NEIGHBOUR: 'it returns false'. Refute it at one input. -/
def fnExactHundConfigWrong : ChangeSpec := { name := "fnExactHundConfig", fn := fun _ => fun
  | [d] => { results := [.lit (.bool false)], args := [d] }
  | _ => none }
def FnExactHundConfigWrongFalsely : Prop := fnExactHundConfigRow.holds Try.pinned (OpenSpec.ofChange fnExactHundConfigWrong)

/-- 'laws.FnHundConfig': WHATEVER THE INPUT: true; the input reads as it did. -/
def fnHundConfigSpec : ChangeSpec := { name := "fnHundConfig", fn := fun _ => fun
  | [d] => { results := [.lit (.bool true)], args := [d] }
  | _ => none }
def fnHundConfigRow : OpenClaim := { program := "ytpdhbilghmejiaa", sum := "bc31bda2967b73f176384ab62872319da1a58f8cfa27f04478a1477f4d53d296", func := "loop.example/atomicspectra/laws.FnHundConfig", spec := "fnHundConfig", recurses := true, apart := false }
def FnHundConfigSaid : Prop := fnHundConfigRow.holds Try.pinned (OpenSpec.ofChange fnHundConfigSpec)

/-- ITS FALSE NEIGHBOUR: 'it returns false'. Refute it at one input. -/
def fnHundConfigWrong : ChangeSpec := { name := "fnHundConfig", fn := fun _ => fun
  | [d] => { results := [.lit (.bool false)], args := [d] }
  | _ => none }
def FnHundConfigWrongFalsely : Prop := fnHundConfigRow.holds Try.pinned (OpenSpec.ofChange fnHundConfigWrong)

/-- 'laws.FnHundNumber': WHATEVER THE INPUT: true; the input reads as it did. -/
def fnHundNumberSpec : ChangeSpec := { name := "fnHundNumber", fn := fun _ => fun
  | [d] => { results := [.lit (.bool true)], args := [d] }
  | _ => none }
def fnHundNumberRow : OpenClaim := { program := "ytpdhbilghmejiaa", sum := "bc31bda2967b73f176384ab62872319da1a58f8cfa27f04478a1477f4d53d296", func := "loop.example/atomicspectra/laws.FnHundNumber", spec := "fnHundNumber", recurses := true, apart := false }
def FnHundNumberSaid : Prop := fnHundNumberRow.holds Try.pinned (OpenSpec.ofChange fnHundNumberSpec)

/-- ITS FALSE NEIGHBOUR: 'it returns false'. Refute it at one input. -/
def fnHundNumberWrong : ChangeSpec := { name := "fnHundNumber", fn := fun _ => fun
  | [d] => { results := [.lit (.bool false)], args := [d] }
  | _ => none }
def FnHundNumberWrongFalsely : Prop := fnHundNumberRow.holds Try.pinned (OpenSpec.ofChange fnHundNumberWrong)

/-- 'laws.FnHundFull': WHATEVER THE INPUT: true; the input reads as it did. -/
def fnHundFullSpec : ChangeSpec := { name := "fnHundFull", fn := fun _ => fun
  | [d] => { results := [.lit (.bool true)], args := [d] }
  | _ => none }
def fnHundFullRow : OpenClaim := { program := "ytpdhbilghmejiaa", sum := "bc31bda2967b73f176384ab62872319da1a58f8cfa27f04478a1477f4d53d296", func := "loop.example/atomicspectra/laws.FnHundFull", spec := "fnHundFull", recurses := true, apart := false }
def FnHundFullSaid : Prop := fnHundFullRow.holds Try.pinned (OpenSpec.ofChange fnHundFullSpec)

/-- ITS FALSE NEIGHBOUR: 'it returns false'. Refute it at one input. -/
def fnHundFullWrong : ChangeSpec := { name := "fnHundFull", fn := fun _ => fun
  | [d] => { results := [.lit (.bool false)], args := [d] }
  | _ => none }
def FnHundFullWrongFalsely : Prop := fnHundFullRow.holds Try.pinned (OpenSpec.ofChange fnHundFullWrong)

/- THE SECOND FORM. 'bulk': how many values and letters a reading holds, each counted each time it is reached (what is shared counts as often as it is met; a slice's spare places count too). A statement '..UptoSaid' is the law's where the arguments, and the package variables that the reading takes, are together of bulk at most 1048576: NARROWER than '..Said'. Prove '..Said' where nothing that the law and all that it calls make is longer than what came in: it says more and counts as full. Else prove '..UptoSaid'. A law counts once. -/
mutual
def uptoBulk {H : Type} : DataW H → Nat
  | .lit (.string bytes) => bytes.length + 1
  | .lit _ => 1
  | .nil => 1
  | .ptr d => uptoBulk d + 1
  | .slice elems spare => uptoBulkAll elems + uptoBulkAll spare + 1
  | .agg parts => uptoBulkAll parts + 1
  | .iface _ d => uptoBulk d + 1
  | .map entries => uptoBulkEntries entries + 1
  | .held _ => 1
def uptoBulkAll {H : Type} : List (DataW H) → Nat
  | [] => 0
  | d :: r => uptoBulk d + uptoBulkAll r
def uptoBulkEntries {H : Type} : List (Lit × DataW H) → Nat
  | [] => 0
  | x :: r => uptoBulkEntry x + uptoBulkEntries r
def uptoBulkEntry {H : Type} : Lit × DataW H → Nat
  | (.string bytes, d) => bytes.length + uptoBulk d + 1
  | (_, d) => uptoBulk d + 1
 end
def uptoSmall : (H : Type) → List (DataW H) → Bool := fun _ ds => decide (uptoBulkAll ds ≤ 1048576)
def OpenSpec.upto (s : _root_.Go.ChangeSpec) : _root_.Go.OpenSpec := { _root_.Go.OpenSpec.ofChange s with cond := some uptoSmall }

/-- 'laws.FnExactHundTerm', WHERE WHAT IT READS IS OF BULK AT MOST 1048576: true; the input reads as it did. -/
def fnExactHundTermUptoRow : OpenClaim := { program := "ytpdhbilghmejiaa", sum := "bc31bda2967b73f176384ab62872319da1a58f8cfa27f04478a1477f4d53d296", func := "loop.example/atomicspectra/laws.FnExactHundTerm", spec := "fnExactHundTerm", recurses := true, apart := false, narrowed := true }
def FnExactHundTermUptoSaid : Prop := fnExactHundTermUptoRow.holds Try.pinned (OpenSpec.upto fnExactHundTermSpec)

/-- 'laws.FnHundHoles', WHERE WHAT IT READS IS OF BULK AT MOST 1048576: true; the input reads as it did. -/
def fnHundHolesUptoRow : OpenClaim := { program := "ytpdhbilghmejiaa", sum := "bc31bda2967b73f176384ab62872319da1a58f8cfa27f04478a1477f4d53d296", func := "loop.example/atomicspectra/laws.FnHundHoles", spec := "fnHundHoles", recurses := true, apart := false, narrowed := true }
def FnHundHolesUptoSaid : Prop := fnHundHolesUptoRow.holds Try.pinned (OpenSpec.upto fnHundHolesSpec)

/-- 'laws.FnExactHundLevel', WHERE WHAT IT READS IS OF BULK AT MOST 1048576: true; the input reads as it did. -/
def fnExactHundLevelUptoRow : OpenClaim := { program := "ytpdhbilghmejiaa", sum := "bc31bda2967b73f176384ab62872319da1a58f8cfa27f04478a1477f4d53d296", func := "loop.example/atomicspectra/laws.FnExactHundLevel", spec := "fnExactHundLevel", recurses := true, apart := false, narrowed := true }
def FnExactHundLevelUptoSaid : Prop := fnExactHundLevelUptoRow.holds Try.pinned (OpenSpec.upto fnExactHundLevelSpec)

/-- 'laws.FnHundLevel', WHERE WHAT IT READS IS OF BULK AT MOST 1048576: true; the input reads as it did. -/
def fnHundLevelUptoRow : OpenClaim := { program := "ytpdhbilghmejiaa", sum := "bc31bda2967b73f176384ab62872319da1a58f8cfa27f04478a1477f4d53d296", func := "loop.example/atomicspectra/laws.FnHundLevel", spec := "fnHundLevel", recurses := true, apart := false, narrowed := true }
def FnHundLevelUptoSaid : Prop := fnHundLevelUptoRow.holds Try.pinned (OpenSpec.upto fnHundLevelSpec)

/-- 'laws.FnHundShift', WHERE WHAT IT READS IS OF BULK AT MOST 1048576: true; the input reads as it did. -/
def fnHundShiftUptoRow : OpenClaim := { program := "ytpdhbilghmejiaa", sum := "bc31bda2967b73f176384ab62872319da1a58f8cfa27f04478a1477f4d53d296", func := "loop.example/atomicspectra/laws.FnHundShift", spec := "fnHundShift", recurses := true, apart := false, narrowed := true }
def FnHundShiftUptoSaid : Prop := fnHundShiftUptoRow.holds Try.pinned (OpenSpec.upto fnHundShiftSpec)

/-- 'laws.FnExactHundConfig', WHERE WHAT IT READS IS OF BULK AT MOST 1048576: true; the input reads as it did. -/
def fnExactHundConfigUptoRow : OpenClaim := { program := "ytpdhbilghmejiaa", sum := "bc31bda2967b73f176384ab62872319da1a58f8cfa27f04478a1477f4d53d296", func := "loop.example/atomicspectra/laws.FnExactHundConfig", spec := "fnExactHundConfig", recurses := true, apart := false, narrowed := true }
def FnExactHundConfigUptoSaid : Prop := fnExactHundConfigUptoRow.holds Try.pinned (OpenSpec.upto fnExactHundConfigSpec)

/-- 'laws.FnHundConfig', WHERE WHAT IT READS IS OF BULK AT MOST 1048576: true; the input reads as it did. -/
def fnHundConfigUptoRow : OpenClaim := { program := "ytpdhbilghmejiaa", sum := "bc31bda2967b73f176384ab62872319da1a58f8cfa27f04478a1477f4d53d296", func := "loop.example/atomicspectra/laws.FnHundConfig", spec := "fnHundConfig", recurses := true, apart := false, narrowed := true }
def FnHundConfigUptoSaid : Prop := fnHundConfigUptoRow.holds Try.pinned (OpenSpec.upto fnHundConfigSpec)

/-- 'laws.FnHundNumber', WHERE WHAT IT READS IS OF BULK AT MOST 1048576: true; the input reads as it did. -/
def fnHundNumberUptoRow : OpenClaim := { program := "ytpdhbilghmejiaa", sum := "bc31bda2967b73f176384ab62872319da1a58f8cfa27f04478a1477f4d53d296", func := "loop.example/atomicspectra/laws.FnHundNumber", spec := "fnHundNumber", recurses := true, apart := false, narrowed := true }
def FnHundNumberUptoSaid : Prop := fnHundNumberUptoRow.holds Try.pinned (OpenSpec.upto fnHundNumberSpec)

/-- 'laws.FnHundFull', WHERE WHAT IT READS IS OF BULK AT MOST 1048576: true; the input reads as it did. -/
def fnHundFullUptoRow : OpenClaim := { program := "ytpdhbilghmejiaa", sum := "bc31bda2967b73f176384ab62872319da1a58f8cfa27f04478a1477f4d53d296", func := "loop.example/atomicspectra/laws.FnHundFull", spec := "fnHundFull", recurses := true, apart := false, narrowed := true }
def FnHundFullUptoSaid : Prop := fnHundFullUptoRow.holds Try.pinned (OpenSpec.upto fnHundFullSpec)

end Rows
end Go.Proofs.Ytpdhbilghmejiaa
