/-
  No cell of these rows narrows 'for every input' (looked for: loops, veiled, ifaces, maps, wideKeys, modest, calm, conditions, laid).
  DERIVED. THE GIVEN ROWS OF THIS SEAT. 5 by the template 'for every input the law returns true; each argument reads behind the call as it read before'; 0 by the template 'total and deterministic' (their statements: YtneihommpncegaaTotals.lean).
  GIVEN WITH THE SEED: the statements are not yours to turn. If you find one false, say at which input.
  Laid BY PROGRAM, IN A SANDBOX (cutbox-rows.mjs): the forced cells as the released guide's own fill.sh prints them over the translation 9dca02646e0d5560… (all of the seat's roots in one cut). By AI agents, Wed Nov 11 2026. No macro, syntax, notation, axiom, sorry.
-/
import Derived.Test.YtneihommpncegaaChecked
import GoSem.Claim
import GoSem.ClaimJoined
import GoSem.ClaimMapViews
import Derived.JoinedTies
import Derived.KernelRfl
namespace Go.Proofs.Ytneihommpncegaa
/- THE CELL 'sum', in the pinned program and in every row, IS THE sha256 OF THE DUMP (.gsa) THAT YtneihommpncegaaProg.lean LOADS. Nothing in Lean hashes anything: it is a label: what it is worth is what the hold of that sum in a sandbox is worth. -/
noncomputable def Try.pinned : Pinned := { name := "ytneihommpncegaa", sum := "9dca02646e0d55606b4950d34070b0d9c7f0c004893f9f03b307c7b8ec40b49c", checked := Try.checked }
namespace Rows
def none {H : Type} : Left H := { results := [], args := [] }

/-- 'laws.FnStrength': WHATEVER THE INPUT: true; the input reads as it did. -/
def fnStrengthSpec : ChangeSpec := { name := "fnStrength", fn := fun _ => fun
  | [d] => { results := [.lit (.bool true)], args := [d] }
  | _ => none }
def fnStrengthRow : OpenClaim := { program := "ytneihommpncegaa", sum := "9dca02646e0d55606b4950d34070b0d9c7f0c004893f9f03b307c7b8ec40b49c", func := "loop.example/atomicspectra/laws.FnStrength", spec := "fnStrength", apart := false }
def FnStrengthSaid : Prop := fnStrengthRow.holds Try.pinned (OpenSpec.ofChange fnStrengthSpec)

/-- ITS FALSE NEIGHBOUR: 'it returns false'. Refute it at one input. -/
def fnStrengthWrong : ChangeSpec := { name := "fnStrength", fn := fun _ => fun
  | [d] => { results := [.lit (.bool false)], args := [d] }
  | _ => none }
def FnStrengthWrongFalsely : Prop := fnStrengthRow.holds Try.pinned (OpenSpec.ofChange fnStrengthWrong)

/-- 'laws.FnExactStrengthSum': WHATEVER THE INPUT: true; the input reads as it did. -/
def fnExactStrengthSumSpec : ChangeSpec := { name := "fnExactStrengthSum", fn := fun _ => fun
  | [d1, d2] => { results := [.lit (.bool true)], args := [d1, d2] }
  | _ => none }
def fnExactStrengthSumRow : OpenClaim := { program := "ytneihommpncegaa", sum := "9dca02646e0d55606b4950d34070b0d9c7f0c004893f9f03b307c7b8ec40b49c", func := "loop.example/atomicspectra/laws.FnExactStrengthSum", spec := "fnExactStrengthSum", unfollowed := true, recurses := true, apart := false }
def FnExactStrengthSumSaid : Prop := fnExactStrengthSumRow.holds Try.pinned (OpenSpec.ofChange fnExactStrengthSumSpec)

/-- ITS FALSE NEIGHBOUR: 'it returns false'. Refute it at one input. -/
def fnExactStrengthSumWrong : ChangeSpec := { name := "fnExactStrengthSum", fn := fun _ => fun
  | [d1, d2] => { results := [.lit (.bool false)], args := [d1, d2] }
  | _ => none }
def FnExactStrengthSumWrongFalsely : Prop := fnExactStrengthSumRow.holds Try.pinned (OpenSpec.ofChange fnExactStrengthSumWrong)

/-- 'laws.FnExactStrengthTotal': WHATEVER THE INPUT: true; the input reads as it did. -/
def fnExactStrengthTotalSpec : ChangeSpec := { name := "fnExactStrengthTotal", fn := fun _ => fun
  | [d1, d2] => { results := [.lit (.bool true)], args := [d1, d2] }
  | _ => none }
def fnExactStrengthTotalRow : OpenClaim := { program := "ytneihommpncegaa", sum := "9dca02646e0d55606b4950d34070b0d9c7f0c004893f9f03b307c7b8ec40b49c", func := "loop.example/atomicspectra/laws.FnExactStrengthTotal", spec := "fnExactStrengthTotal", unfollowed := true, recurses := true, apart := false }
def FnExactStrengthTotalSaid : Prop := fnExactStrengthTotalRow.holds Try.pinned (OpenSpec.ofChange fnExactStrengthTotalSpec)

/-- ITS FALSE NEIGHBOUR: 'it returns false'. Refute it at one input. -/
def fnExactStrengthTotalWrong : ChangeSpec := { name := "fnExactStrengthTotal", fn := fun _ => fun
  | [d1, d2] => { results := [.lit (.bool false)], args := [d1, d2] }
  | _ => none }
def FnExactStrengthTotalWrongFalsely : Prop := fnExactStrengthTotalRow.holds Try.pinned (OpenSpec.ofChange fnExactStrengthTotalWrong)

/-- 'laws.FnStrengthRule': WHATEVER THE INPUT: true; the input reads as it did. -/
def fnStrengthRuleSpec : ChangeSpec := { name := "fnStrengthRule", fn := fun _ => fun
  | [d] => { results := [.lit (.bool true)], args := [d] }
  | _ => none }
def fnStrengthRuleRow : OpenClaim := { program := "ytneihommpncegaa", sum := "9dca02646e0d55606b4950d34070b0d9c7f0c004893f9f03b307c7b8ec40b49c", func := "loop.example/atomicspectra/laws.FnStrengthRule", spec := "fnStrengthRule", apart := false }
def FnStrengthRuleSaid : Prop := fnStrengthRuleRow.holds Try.pinned (OpenSpec.ofChange fnStrengthRuleSpec)

/-- ITS FALSE NEIGHBOUR: 'it returns false'. Refute it at one input. -/
def fnStrengthRuleWrong : ChangeSpec := { name := "fnStrengthRule", fn := fun _ => fun
  | [d] => { results := [.lit (.bool false)], args := [d] }
  | _ => none }
def FnStrengthRuleWrongFalsely : Prop := fnStrengthRuleRow.holds Try.pinned (OpenSpec.ofChange fnStrengthRuleWrong)

/-- 'laws.FnStrengthSinglet': WHATEVER THE INPUT: true; the input reads as it did. -/
def fnStrengthSingletSpec : ChangeSpec := { name := "fnStrengthSinglet", fn := fun _ => fun
  | [d] => { results := [.lit (.bool true)], args := [d] }
  | _ => none }
def fnStrengthSingletRow : OpenClaim := { program := "ytneihommpncegaa", sum := "9dca02646e0d55606b4950d34070b0d9c7f0c004893f9f03b307c7b8ec40b49c", func := "loop.example/atomicspectra/laws.FnStrengthSinglet", spec := "fnStrengthSinglet", apart := false }
def FnStrengthSingletSaid : Prop := fnStrengthSingletRow.holds Try.pinned (OpenSpec.ofChange fnStrengthSingletSpec)

/-- ITS FALSE NEIGHBOUR: 'it returns false'. Refute it at one input. -/
def fnStrengthSingletWrong : ChangeSpec := { name := "fnStrengthSinglet", fn := fun _ => fun
  | [d] => { results := [.lit (.bool false)], args := [d] }
  | _ => none }
def FnStrengthSingletWrongFalsely : Prop := fnStrengthSingletRow.holds Try.pinned (OpenSpec.ofChange fnStrengthSingletWrong)

/- THE SECOND FORM. 'bulk': how many values and letters a reading holds, each counted each time it is reached (what is shared counts as often as it is met; a slice's spare places count too). A statement '..UptoSaid' is the law's where the arguments, and the package variables that the reading takes, are together of bulk at most 1048576: NARROWER than '..Said'. Prove '..Said' where nothing that the law and all that it calls make is longer than what came in: it says more and counts as full. Else prove '..UptoSaid'. A law counts once. -/
mutual
def uptoBulk {H : Type} : DataW H → Nat
  | .lit (.string bytes) => bytes.length + 1
  | .lit _ => 1
  | .nil => 1
  | .ptr d => uptoBulk d + 1
  | .slice elems spare => uptoBulkAll elems + uptoBulkAll spare + 1
  | .agg parts => uptoBulkAll parts + 1
  | .iface _ d => uptoBulk d + 1
  | .map entries => uptoBulkEntries entries + 1
  | .held _ => 1
def uptoBulkAll {H : Type} : List (DataW H) → Nat
  | [] => 0
  | d :: r => uptoBulk d + uptoBulkAll r
def uptoBulkEntries {H : Type} : List (Lit × DataW H) → Nat
  | [] => 0
  | x :: r => uptoBulkEntry x + uptoBulkEntries r
def uptoBulkEntry {H : Type} : Lit × DataW H → Nat
  | (.string bytes, d) => bytes.length + uptoBulk d + 1
  | (_, d) => uptoBulk d + 1
 end
def uptoSmall : (H : Type) → List (DataW H) → Bool := fun _ ds => decide (uptoBulkAll ds ≤ 1048576)
def OpenSpec.upto (s : _root_.Go.ChangeSpec) : _root_.Go.OpenSpec := { _root_.Go.OpenSpec.ofChange s with cond := some uptoSmall }

/-- 'laws.FnStrength', WHERE WHAT IT READS IS OF BULK AT MOST 1048576: true; the input reads as it did. -/
def fnStrengthUptoRow : OpenClaim := { program := "ytneihommpncegaa", sum := "9dca02646e0d55606b4950d34070b0d9c7f0c004893f9f03b307c7b8ec40b49c", func := "loop.example/atomicspectra/laws.FnStrength", spec := "fnStrength", apart := false, narrowed := true }
def FnStrengthUptoSaid : Prop := fnStrengthUptoRow.holds Try.pinned (OpenSpec.upto fnStrengthSpec)

/-- 'laws.FnExactStrengthSum', WHERE WHAT IT READS IS OF BULK AT MOST 1048576: true; the input reads as it did. -/
def fnExactStrengthSumUptoRow : OpenClaim := { program := "ytneihommpncegaa", sum := "9dca02646e0d55606b4950d34070b0d9c7f0c004893f9f03b307c7b8ec40b49c", func := "loop.example/atomicspectra/laws.FnExactStrengthSum", spec := "fnExactStrengthSum", unfollowed := true, recurses := true, apart := false, narrowed := true }
def FnExactStrengthSumUptoSaid : Prop := fnExactStrengthSumUptoRow.holds Try.pinned (OpenSpec.upto fnExactStrengthSumSpec)

/-- 'laws.FnExactStrengthTotal', WHERE WHAT IT READS IS OF BULK AT MOST 1048576: true; the input reads as it did. -/
def fnExactStrengthTotalUptoRow : OpenClaim := { program := "ytneihommpncegaa", sum := "9dca02646e0d55606b4950d34070b0d9c7f0c004893f9f03b307c7b8ec40b49c", func := "loop.example/atomicspectra/laws.FnExactStrengthTotal", spec := "fnExactStrengthTotal", unfollowed := true, recurses := true, apart := false, narrowed := true }
def FnExactStrengthTotalUptoSaid : Prop := fnExactStrengthTotalUptoRow.holds Try.pinned (OpenSpec.upto fnExactStrengthTotalSpec)

/-- 'laws.FnStrengthRule', WHERE WHAT IT READS IS OF BULK AT MOST 1048576: true; the input reads as it did. -/
def fnStrengthRuleUptoRow : OpenClaim := { program := "ytneihommpncegaa", sum := "9dca02646e0d55606b4950d34070b0d9c7f0c004893f9f03b307c7b8ec40b49c", func := "loop.example/atomicspectra/laws.FnStrengthRule", spec := "fnStrengthRule", apart := false, narrowed := true }
def FnStrengthRuleUptoSaid : Prop := fnStrengthRuleUptoRow.holds Try.pinned (OpenSpec.upto fnStrengthRuleSpec)

/-- 'laws.FnStrengthSinglet', WHERE WHAT IT READS IS OF BULK AT MOST 1048576: true; the input reads as it did. -/
def fnStrengthSingletUptoRow : OpenClaim := { program := "ytneihommpncegaa", sum := "9dca02646e0d55606b4950d34070b0d9c7f0c004893f9f03b307c7b8ec40b49c", func := "loop.example/atomicspectra/laws.FnStrengthSinglet", spec := "fnStrengthSinglet", apart := false, narrowed := true }
def FnStrengthSingletUptoSaid : Prop := fnStrengthSingletUptoRow.holds Try.pinned (OpenSpec.upto fnStrengthSingletSpec)

end Rows
end Go.Proofs.Ytneihommpncegaa
