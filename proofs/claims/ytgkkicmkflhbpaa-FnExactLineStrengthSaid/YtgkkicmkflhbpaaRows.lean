/-
  No cell of these rows narrows 'for every input' (looked for: loops, veiled, ifaces, maps, wideKeys, modest, calm, conditions, laid).
  DERIVED. THE GIVEN ROWS OF THIS SEAT. 12 by the template 'for every input the law returns true; each argument reads behind the call as it read before'; 0 by the template 'total and deterministic' (their statements: YtgkkicmkflhbpaaTotals.lean).
  GIVEN WITH THE SEED: the statements are not yours to turn. If you find one false, say at which input.
  Laid BY PROGRAM, IN A SANDBOX (cutbox-rows.mjs): the forced cells as the released guide's own fill.sh prints them over the translation 70a296bba02164b6… (all of the seat's roots in one cut). By AI agents, Wed Nov 11 2026. No macro, syntax, notation, axiom, sorry.
-/
import Derived.Test.YtgkkicmkflhbpaaChecked
import GoSem.Claim
import GoSem.ClaimJoined
import GoSem.ClaimMapViews
import Derived.JoinedTies
import Derived.KernelRfl
namespace Go.Proofs.Ytgkkicmkflhbpaa
/- THE CELL 'sum', in the pinned program and in every row, IS THE sha256 OF THE DUMP (.gsa) THAT YtgkkicmkflhbpaaProg.lean LOADS. Nothing in Lean hashes anything: it is a label: what it is worth is what the hold of that sum in a sandbox is worth. -/
noncomputable def Try.pinned : Pinned := { name := "ytgkkicmkflhbpaa", sum := "70a296bba02164b606458a80ce1f16a9a8095c00822aea49a7c569e868a2835e", checked := Try.checked }
namespace Rows
def none {H : Type} : Left H := { results := [], args := [] }

/-- 'laws.FnExactSixSum': WHATEVER THE INPUT: true; the input reads as it did. -/
def fnExactSixSumSpec : ChangeSpec := { name := "fnExactSixSum", fn := fun _ => fun
  | [d1, d2, d3, d4, d5, d6] => { results := [.lit (.bool true)], args := [d1, d2, d3, d4, d5, d6] }
  | _ => none }
def fnExactSixSumRow : OpenClaim := { program := "ytgkkicmkflhbpaa", sum := "70a296bba02164b606458a80ce1f16a9a8095c00822aea49a7c569e868a2835e", func := "loop.example/atomicspectra/laws.FnExactSixSum", spec := "fnExactSixSum", apart := false }
def FnExactSixSumSaid : Prop := fnExactSixSumRow.holds Try.pinned (OpenSpec.ofChange fnExactSixSumSpec)

/-- ITS FALSE NEIGHBOUR: 'it returns false'. Refute it at one input. -/
def fnExactSixSumWrong : ChangeSpec := { name := "fnExactSixSum", fn := fun _ => fun
  | [d1, d2, d3, d4, d5, d6] => { results := [.lit (.bool false)], args := [d1, d2, d3, d4, d5, d6] }
  | _ => none }
def FnExactSixSumWrongFalsely : Prop := fnExactSixSumRow.holds Try.pinned (OpenSpec.ofChange fnExactSixSumWrong)

/-- 'laws.FnSixSum': WHATEVER THE INPUT: true; the input reads as it did. -/
def fnSixSumSpec : ChangeSpec := { name := "fnSixSum", fn := fun _ => fun
  | [d] => { results := [.lit (.bool true)], args := [d] }
  | _ => none }
def fnSixSumRow : OpenClaim := { program := "ytgkkicmkflhbpaa", sum := "70a296bba02164b606458a80ce1f16a9a8095c00822aea49a7c569e868a2835e", func := "loop.example/atomicspectra/laws.FnSixSum", spec := "fnSixSum", apart := false }
def FnSixSumSaid : Prop := fnSixSumRow.holds Try.pinned (OpenSpec.ofChange fnSixSumSpec)

/-- ITS FALSE NEIGHBOUR: 'it returns false'. Refute it at one input. -/
def fnSixSumWrong : ChangeSpec := { name := "fnSixSum", fn := fun _ => fun
  | [d] => { results := [.lit (.bool false)], args := [d] }
  | _ => none }
def FnSixSumWrongFalsely : Prop := fnSixSumRow.holds Try.pinned (OpenSpec.ofChange fnSixSumWrong)

/-- 'laws.FnExactSixJ': WHATEVER THE INPUT: true; the input reads as it did. -/
def fnExactSixJSpec : ChangeSpec := { name := "fnExactSixJ", fn := fun _ => fun
  | [d1, d2, d3, d4, d5, d6] => { results := [.lit (.bool true)], args := [d1, d2, d3, d4, d5, d6] }
  | _ => none }
def fnExactSixJRow : OpenClaim := { program := "ytgkkicmkflhbpaa", sum := "70a296bba02164b606458a80ce1f16a9a8095c00822aea49a7c569e868a2835e", func := "loop.example/atomicspectra/laws.FnExactSixJ", spec := "fnExactSixJ", apart := false }
def FnExactSixJSaid : Prop := fnExactSixJRow.holds Try.pinned (OpenSpec.ofChange fnExactSixJSpec)

/-- ITS FALSE NEIGHBOUR: 'it returns false'. Refute it at one input. -/
def fnExactSixJWrong : ChangeSpec := { name := "fnExactSixJ", fn := fun _ => fun
  | [d1, d2, d3, d4, d5, d6] => { results := [.lit (.bool false)], args := [d1, d2, d3, d4, d5, d6] }
  | _ => none }
def FnExactSixJWrongFalsely : Prop := fnExactSixJRow.holds Try.pinned (OpenSpec.ofChange fnExactSixJWrong)

/-- 'laws.FnSixColumns': WHATEVER THE INPUT: true; the input reads as it did. -/
def fnSixColumnsSpec : ChangeSpec := { name := "fnSixColumns", fn := fun _ => fun
  | [d] => { results := [.lit (.bool true)], args := [d] }
  | _ => none }
def fnSixColumnsRow : OpenClaim := { program := "ytgkkicmkflhbpaa", sum := "70a296bba02164b606458a80ce1f16a9a8095c00822aea49a7c569e868a2835e", func := "loop.example/atomicspectra/laws.FnSixColumns", spec := "fnSixColumns", apart := false }
def FnSixColumnsSaid : Prop := fnSixColumnsRow.holds Try.pinned (OpenSpec.ofChange fnSixColumnsSpec)

/-- ITS FALSE NEIGHBOUR: 'it returns false'. Refute it at one input. -/
def fnSixColumnsWrong : ChangeSpec := { name := "fnSixColumns", fn := fun _ => fun
  | [d] => { results := [.lit (.bool false)], args := [d] }
  | _ => none }
def FnSixColumnsWrongFalsely : Prop := fnSixColumnsRow.holds Try.pinned (OpenSpec.ofChange fnSixColumnsWrong)

/-- 'laws.FnSixRows': WHATEVER THE INPUT: true; the input reads as it did. -/
def fnSixRowsSpec : ChangeSpec := { name := "fnSixRows", fn := fun _ => fun
  | [d] => { results := [.lit (.bool true)], args := [d] }
  | _ => none }
def fnSixRowsRow : OpenClaim := { program := "ytgkkicmkflhbpaa", sum := "70a296bba02164b606458a80ce1f16a9a8095c00822aea49a7c569e868a2835e", func := "loop.example/atomicspectra/laws.FnSixRows", spec := "fnSixRows", apart := false }
def FnSixRowsSaid : Prop := fnSixRowsRow.holds Try.pinned (OpenSpec.ofChange fnSixRowsSpec)

/-- ITS FALSE NEIGHBOUR: 'it returns false'. Refute it at one input. -/
def fnSixRowsWrong : ChangeSpec := { name := "fnSixRows", fn := fun _ => fun
  | [d] => { results := [.lit (.bool false)], args := [d] }
  | _ => none }
def FnSixRowsWrongFalsely : Prop := fnSixRowsRow.holds Try.pinned (OpenSpec.ofChange fnSixRowsWrong)

/-- 'laws.FnSixTriads': WHATEVER THE INPUT: true; the input reads as it did. -/
def fnSixTriadsSpec : ChangeSpec := { name := "fnSixTriads", fn := fun _ => fun
  | [d] => { results := [.lit (.bool true)], args := [d] }
  | _ => none }
def fnSixTriadsRow : OpenClaim := { program := "ytgkkicmkflhbpaa", sum := "70a296bba02164b606458a80ce1f16a9a8095c00822aea49a7c569e868a2835e", func := "loop.example/atomicspectra/laws.FnSixTriads", spec := "fnSixTriads", apart := false }
def FnSixTriadsSaid : Prop := fnSixTriadsRow.holds Try.pinned (OpenSpec.ofChange fnSixTriadsSpec)

/-- ITS FALSE NEIGHBOUR: 'it returns false'. Refute it at one input. -/
def fnSixTriadsWrong : ChangeSpec := { name := "fnSixTriads", fn := fun _ => fun
  | [d] => { results := [.lit (.bool false)], args := [d] }
  | _ => none }
def FnSixTriadsWrongFalsely : Prop := fnSixTriadsRow.holds Try.pinned (OpenSpec.ofChange fnSixTriadsWrong)

/-- 'laws.FnSixZero': WHATEVER THE INPUT: true; the input reads as it did. -/
def fnSixZeroSpec : ChangeSpec := { name := "fnSixZero", fn := fun _ => fun
  | [d] => { results := [.lit (.bool true)], args := [d] }
  | _ => none }
def fnSixZeroRow : OpenClaim := { program := "ytgkkicmkflhbpaa", sum := "70a296bba02164b606458a80ce1f16a9a8095c00822aea49a7c569e868a2835e", func := "loop.example/atomicspectra/laws.FnSixZero", spec := "fnSixZero", apart := false }
def FnSixZeroSaid : Prop := fnSixZeroRow.holds Try.pinned (OpenSpec.ofChange fnSixZeroSpec)

/-- ITS FALSE NEIGHBOUR: 'it returns false'. Refute it at one input. -/
def fnSixZeroWrong : ChangeSpec := { name := "fnSixZero", fn := fun _ => fun
  | [d] => { results := [.lit (.bool false)], args := [d] }
  | _ => none }
def FnSixZeroWrongFalsely : Prop := fnSixZeroRow.holds Try.pinned (OpenSpec.ofChange fnSixZeroWrong)

/-- 'laws.FnSixSmall': WHATEVER THE INPUT: true; the input reads as it did. -/
def fnSixSmallSpec : ChangeSpec := { name := "fnSixSmall", fn := fun _ => fun
  | [d] => { results := [.lit (.bool true)], args := [d] }
  | _ => none }
def fnSixSmallRow : OpenClaim := { program := "ytgkkicmkflhbpaa", sum := "70a296bba02164b606458a80ce1f16a9a8095c00822aea49a7c569e868a2835e", func := "loop.example/atomicspectra/laws.FnSixSmall", spec := "fnSixSmall", apart := false }
def FnSixSmallSaid : Prop := fnSixSmallRow.holds Try.pinned (OpenSpec.ofChange fnSixSmallSpec)

/-- ITS FALSE NEIGHBOUR: 'it returns false'. Refute it at one input. -/
def fnSixSmallWrong : ChangeSpec := { name := "fnSixSmall", fn := fun _ => fun
  | [d] => { results := [.lit (.bool false)], args := [d] }
  | _ => none }
def FnSixSmallWrongFalsely : Prop := fnSixSmallRow.holds Try.pinned (OpenSpec.ofChange fnSixSmallWrong)

/-- 'laws.FnSixOrthogonal': WHATEVER THE INPUT: true; the input reads as it did. -/
def fnSixOrthogonalSpec : ChangeSpec := { name := "fnSixOrthogonal", fn := fun _ => fun
  | [d] => { results := [.lit (.bool true)], args := [d] }
  | _ => none }
def fnSixOrthogonalRow : OpenClaim := { program := "ytgkkicmkflhbpaa", sum := "70a296bba02164b606458a80ce1f16a9a8095c00822aea49a7c569e868a2835e", func := "loop.example/atomicspectra/laws.FnSixOrthogonal", spec := "fnSixOrthogonal", apart := false }
def FnSixOrthogonalSaid : Prop := fnSixOrthogonalRow.holds Try.pinned (OpenSpec.ofChange fnSixOrthogonalSpec)

/-- ITS FALSE NEIGHBOUR: 'it returns false'. Refute it at one input. -/
def fnSixOrthogonalWrong : ChangeSpec := { name := "fnSixOrthogonal", fn := fun _ => fun
  | [d] => { results := [.lit (.bool false)], args := [d] }
  | _ => none }
def FnSixOrthogonalWrongFalsely : Prop := fnSixOrthogonalRow.holds Try.pinned (OpenSpec.ofChange fnSixOrthogonalWrong)

/-- 'laws.FnExactLineStrength': WHATEVER THE INPUT: true; the input reads as it did. -/
def fnExactLineStrengthSpec : ChangeSpec := { name := "fnExactLineStrength", fn := fun _ => fun
  | [d1, d2] => { results := [.lit (.bool true)], args := [d1, d2] }
  | _ => none }
def fnExactLineStrengthRow : OpenClaim := { program := "ytgkkicmkflhbpaa", sum := "70a296bba02164b606458a80ce1f16a9a8095c00822aea49a7c569e868a2835e", func := "loop.example/atomicspectra/laws.FnExactLineStrength", spec := "fnExactLineStrength", apart := false }
def FnExactLineStrengthSaid : Prop := fnExactLineStrengthRow.holds Try.pinned (OpenSpec.ofChange fnExactLineStrengthSpec)

/-- ITS FALSE NEIGHBOUR: 'it returns false'. Refute it at one input. -/
def fnExactLineStrengthWrong : ChangeSpec := { name := "fnExactLineStrength", fn := fun _ => fun
  | [d1, d2] => { results := [.lit (.bool false)], args := [d1, d2] }
  | _ => none }
def FnExactLineStrengthWrongFalsely : Prop := fnExactLineStrengthRow.holds Try.pinned (OpenSpec.ofChange fnExactLineStrengthWrong)

/-- 'laws.FnStrengthRule': WHATEVER THE INPUT: true; the input reads as it did. -/
def fnStrengthRuleSpec : ChangeSpec := { name := "fnStrengthRule", fn := fun _ => fun
  | [d] => { results := [.lit (.bool true)], args := [d] }
  | _ => none }
def fnStrengthRuleRow : OpenClaim := { program := "ytgkkicmkflhbpaa", sum := "70a296bba02164b606458a80ce1f16a9a8095c00822aea49a7c569e868a2835e", func := "loop.example/atomicspectra/laws.FnStrengthRule", spec := "fnStrengthRule", apart := false }
def FnStrengthRuleSaid : Prop := fnStrengthRuleRow.holds Try.pinned (OpenSpec.ofChange fnStrengthRuleSpec)

/-- ITS FALSE NEIGHBOUR: 'it returns false'. Refute it at one input. -/
def fnStrengthRuleWrong : ChangeSpec := { name := "fnStrengthRule", fn := fun _ => fun
  | [d] => { results := [.lit (.bool false)], args := [d] }
  | _ => none }
def FnStrengthRuleWrongFalsely : Prop := fnStrengthRuleRow.holds Try.pinned (OpenSpec.ofChange fnStrengthRuleWrong)

/-- 'laws.FnStrengthSinglet': WHATEVER THE INPUT: true; the input reads as it did. -/
def fnStrengthSingletSpec : ChangeSpec := { name := "fnStrengthSinglet", fn := fun _ => fun
  | [d] => { results := [.lit (.bool true)], args := [d] }
  | _ => none }
def fnStrengthSingletRow : OpenClaim := { program := "ytgkkicmkflhbpaa", sum := "70a296bba02164b606458a80ce1f16a9a8095c00822aea49a7c569e868a2835e", func := "loop.example/atomicspectra/laws.FnStrengthSinglet", spec := "fnStrengthSinglet", apart := false }
def FnStrengthSingletSaid : Prop := fnStrengthSingletRow.holds Try.pinned (OpenSpec.ofChange fnStrengthSingletSpec)

/-- ITS FALSE NEIGHBOUR: 'it returns false'. Refute it at one input. -/
def fnStrengthSingletWrong : ChangeSpec := { name := "fnStrengthSinglet", fn := fun _ => fun
  | [d] => { results := [.lit (.bool false)], args := [d] }
  | _ => none }
def FnStrengthSingletWrongFalsely : Prop := fnStrengthSingletRow.holds Try.pinned (OpenSpec.ofChange fnStrengthSingletWrong)

/- THE SECOND FORM. 'bulk': how many values and letters a reading holds, each counted each time it is reached (what is shared counts as often as it is met; a slice's spare places count too). A statement '..UptoSaid' is the law's where the arguments, and the package variables that the reading takes, are together of bulk at most 1048576: NARROWER than '..Said'. Prove '..Said' where nothing that the law and all that it calls make is longer than what came in: it says more and counts as full. Else prove '..UptoSaid'. A law counts once. -/
mutual
def uptoBulk {H : Type} : DataW H → Nat
  | .lit (.string bytes) => bytes.length + 1
  | .lit _ => 1
  | .nil => 1
  | .ptr d => uptoBulk d + 1
  | .slice elems spare => uptoBulkAll elems + uptoBulkAll spare + 1
  | .agg parts => uptoBulkAll parts + 1
  | .iface _ d => uptoBulk d + 1
  | .map entries => uptoBulkEntries entries + 1
  | .held _ => 1
def uptoBulkAll {H : Type} : List (DataW H) → Nat
  | [] => 0
  | d :: r => uptoBulk d + uptoBulkAll r
def uptoBulkEntries {H : Type} : List (Lit × DataW H) → Nat
  | [] => 0
  | x :: r => uptoBulkEntry x + uptoBulkEntries r
def uptoBulkEntry {H : Type} : Lit × DataW H → Nat
  | (.string bytes, d) => bytes.length + uptoBulk d + 1
  | (_, d) => uptoBulk d + 1
 end
def uptoSmall : (H : Type) → List (DataW H) → Bool := fun _ ds => decide (uptoBulkAll ds ≤ 1048576)
def OpenSpec.upto (s : _root_.Go.ChangeSpec) : _root_.Go.OpenSpec := { _root_.Go.OpenSpec.ofChange s with cond := some uptoSmall }

/-- 'laws.FnExactSixSum', WHERE WHAT IT READS IS OF BULK AT MOST 1048576: true; the input reads as it did. -/
def fnExactSixSumUptoRow : OpenClaim := { program := "ytgkkicmkflhbpaa", sum := "70a296bba02164b606458a80ce1f16a9a8095c00822aea49a7c569e868a2835e", func := "loop.example/atomicspectra/laws.FnExactSixSum", spec := "fnExactSixSum", apart := false, narrowed := true }
def FnExactSixSumUptoSaid : Prop := fnExactSixSumUptoRow.holds Try.pinned (OpenSpec.upto fnExactSixSumSpec)

/-- 'laws.FnSixSum', WHERE WHAT IT READS IS OF BULK AT MOST 1048576: true; the input reads as it did. -/
def fnSixSumUptoRow : OpenClaim := { program := "ytgkkicmkflhbpaa", sum := "70a296bba02164b606458a80ce1f16a9a8095c00822aea49a7c569e868a2835e", func := "loop.example/atomicspectra/laws.FnSixSum", spec := "fnSixSum", apart := false, narrowed := true }
def FnSixSumUptoSaid : Prop := fnSixSumUptoRow.holds Try.pinned (OpenSpec.upto fnSixSumSpec)

/-- 'laws.FnExactSixJ', WHERE WHAT IT READS IS OF BULK AT MOST 1048576: true; the input reads as it did. -/
def fnExactSixJUptoRow : OpenClaim := { program := "ytgkkicmkflhbpaa", sum := "70a296bba02164b606458a80ce1f16a9a8095c00822aea49a7c569e868a2835e", func := "loop.example/atomicspectra/laws.FnExactSixJ", spec := "fnExactSixJ", apart := false, narrowed := true }
def FnExactSixJUptoSaid : Prop := fnExactSixJUptoRow.holds Try.pinned (OpenSpec.upto fnExactSixJSpec)

/-- 'laws.FnSixColumns', WHERE WHAT IT READS IS OF BULK AT MOST 1048576: true; the input reads as it did. -/
def fnSixColumnsUptoRow : OpenClaim := { program := "ytgkkicmkflhbpaa", sum := "70a296bba02164b606458a80ce1f16a9a8095c00822aea49a7c569e868a2835e", func := "loop.example/atomicspectra/laws.FnSixColumns", spec := "fnSixColumns", apart := false, narrowed := true }
def FnSixColumnsUptoSaid : Prop := fnSixColumnsUptoRow.holds Try.pinned (OpenSpec.upto fnSixColumnsSpec)

/-- 'laws.FnSixRows', WHERE WHAT IT READS IS OF BULK AT MOST 1048576: true; the input reads as it did. -/
def fnSixRowsUptoRow : OpenClaim := { program := "ytgkkicmkflhbpaa", sum := "70a296bba02164b606458a80ce1f16a9a8095c00822aea49a7c569e868a2835e", func := "loop.example/atomicspectra/laws.FnSixRows", spec := "fnSixRows", apart := false, narrowed := true }
def FnSixRowsUptoSaid : Prop := fnSixRowsUptoRow.holds Try.pinned (OpenSpec.upto fnSixRowsSpec)

/-- 'laws.FnSixTriads', WHERE WHAT IT READS IS OF BULK AT MOST 1048576: true; the input reads as it did. -/
def fnSixTriadsUptoRow : OpenClaim := { program := "ytgkkicmkflhbpaa", sum := "70a296bba02164b606458a80ce1f16a9a8095c00822aea49a7c569e868a2835e", func := "loop.example/atomicspectra/laws.FnSixTriads", spec := "fnSixTriads", apart := false, narrowed := true }
def FnSixTriadsUptoSaid : Prop := fnSixTriadsUptoRow.holds Try.pinned (OpenSpec.upto fnSixTriadsSpec)

/-- 'laws.FnSixZero', WHERE WHAT IT READS IS OF BULK AT MOST 1048576: true; the input reads as it did. -/
def fnSixZeroUptoRow : OpenClaim := { program := "ytgkkicmkflhbpaa", sum := "70a296bba02164b606458a80ce1f16a9a8095c00822aea49a7c569e868a2835e", func := "loop.example/atomicspectra/laws.FnSixZero", spec := "fnSixZero", apart := false, narrowed := true }
def FnSixZeroUptoSaid : Prop := fnSixZeroUptoRow.holds Try.pinned (OpenSpec.upto fnSixZeroSpec)

/-- 'laws.FnSixSmall', WHERE WHAT IT READS IS OF BULK AT MOST 1048576: true; the input reads as it did. -/
def fnSixSmallUptoRow : OpenClaim := { program := "ytgkkicmkflhbpaa", sum := "70a296bba02164b606458a80ce1f16a9a8095c00822aea49a7c569e868a2835e", func := "loop.example/atomicspectra/laws.FnSixSmall", spec := "fnSixSmall", apart := false, narrowed := true }
def FnSixSmallUptoSaid : Prop := fnSixSmallUptoRow.holds Try.pinned (OpenSpec.upto fnSixSmallSpec)

/-- 'laws.FnSixOrthogonal', WHERE WHAT IT READS IS OF BULK AT MOST 1048576: true; the input reads as it did. -/
def fnSixOrthogonalUptoRow : OpenClaim := { program := "ytgkkicmkflhbpaa", sum := "70a296bba02164b606458a80ce1f16a9a8095c00822aea49a7c569e868a2835e", func := "loop.example/atomicspectra/laws.FnSixOrthogonal", spec := "fnSixOrthogonal", apart := false, narrowed := true }
def FnSixOrthogonalUptoSaid : Prop := fnSixOrthogonalUptoRow.holds Try.pinned (OpenSpec.upto fnSixOrthogonalSpec)

/-- 'laws.FnExactLineStrength', WHERE WHAT IT READS IS OF BULK AT MOST 1048576: true; the input reads as it did. -/
def fnExactLineStrengthUptoRow : OpenClaim := { program := "ytgkkicmkflhbpaa", sum := "70a296bba02164b606458a80ce1f16a9a8095c00822aea49a7c569e868a2835e", func := "loop.example/atomicspectra/laws.FnExactLineStrength", spec := "fnExactLineStrength", apart := false, narrowed := true }
def FnExactLineStrengthUptoSaid : Prop := fnExactLineStrengthUptoRow.holds Try.pinned (OpenSpec.upto fnExactLineStrengthSpec)

/-- 'laws.FnStrengthRule', WHERE WHAT IT READS IS OF BULK AT MOST 1048576: true; the input reads as it did. -/
def fnStrengthRuleUptoRow : OpenClaim := { program := "ytgkkicmkflhbpaa", sum := "70a296bba02164b606458a80ce1f16a9a8095c00822aea49a7c569e868a2835e", func := "loop.example/atomicspectra/laws.FnStrengthRule", spec := "fnStrengthRule", apart := false, narrowed := true }
def FnStrengthRuleUptoSaid : Prop := fnStrengthRuleUptoRow.holds Try.pinned (OpenSpec.upto fnStrengthRuleSpec)

/-- 'laws.FnStrengthSinglet', WHERE WHAT IT READS IS OF BULK AT MOST 1048576: true; the input reads as it did. -/
def fnStrengthSingletUptoRow : OpenClaim := { program := "ytgkkicmkflhbpaa", sum := "70a296bba02164b606458a80ce1f16a9a8095c00822aea49a7c569e868a2835e", func := "loop.example/atomicspectra/laws.FnStrengthSinglet", spec := "fnStrengthSinglet", apart := false, narrowed := true }
def FnStrengthSingletUptoSaid : Prop := fnStrengthSingletUptoRow.holds Try.pinned (OpenSpec.upto fnStrengthSingletSpec)

end Rows
end Go.Proofs.Ytgkkicmkflhbpaa
