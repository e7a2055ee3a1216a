/-
  No cell of these rows narrows 'for every input' (looked for: loops, veiled, ifaces, maps, wideKeys, modest, calm, conditions, laid).
  DERIVED. THE GIVEN ROWS OF THIS SEAT. 10 by the template 'for every input the law returns true; each argument reads behind the call as it read before'; 0 by the template 'total and deterministic' (their statements: YtnpfcifdpmdnlaaTotals.lean).
  GIVEN WITH THE SEED: the statements are not yours to turn. If you find one false, say at which input.
  Laid BY PROGRAM, IN A SANDBOX (cutbox-rows.mjs): the forced cells as the released guide's own fill.sh prints them over the translation f501521a5f51b935… (all of the seat's roots in one cut). By AI agents, Wed Nov 11 2026. No macro, syntax, notation, axiom, sorry.
-/
import Derived.Test.YtnpfcifdpmdnlaaChecked
import GoSem.Claim
import GoSem.ClaimJoined
import GoSem.ClaimMapViews
import Derived.JoinedTies
import Derived.KernelRfl
namespace Go.Proofs.Ytnpfcifdpmdnlaa
/- THE CELL 'sum', in the pinned program and in every row, IS THE sha256 OF THE DUMP (.gsa) THAT YtnpfcifdpmdnlaaProg.lean LOADS. Nothing in Lean hashes anything: it is a label: what it is worth is what the hold of that sum in a sandbox is worth. -/
noncomputable def Try.pinned : Pinned := { name := "ytnpfcifdpmdnlaa", sum := "f501521a5f51b935af6214bcdd4c5d147864a8d62da6aaf3cca94a7ca3479169", checked := Try.checked }
namespace Rows
def none {H : Type} : Left H := { results := [], args := [] }

/-- 'laws.FnExactHyperLevels': WHATEVER THE INPUT: true; the input reads as it did. -/
def fnExactHyperLevelsSpec : ChangeSpec := { name := "fnExactHyperLevels", fn := fun _ => fun
  | [d1, d2] => { results := [.lit (.bool true)], args := [d1, d2] }
  | _ => none }
def fnExactHyperLevelsRow : OpenClaim := { program := "ytnpfcifdpmdnlaa", sum := "f501521a5f51b935af6214bcdd4c5d147864a8d62da6aaf3cca94a7ca3479169", func := "loop.example/atomicspectra/laws.FnExactHyperLevels", spec := "fnExactHyperLevels", apart := false }
def FnExactHyperLevelsSaid : Prop := fnExactHyperLevelsRow.holds Try.pinned (OpenSpec.ofChange fnExactHyperLevelsSpec)

/-- ITS FALSE NEIGHBOUR: 'it returns false'. Refute it at one input. -/
def fnExactHyperLevelsWrong : ChangeSpec := { name := "fnExactHyperLevels", fn := fun _ => fun
  | [d1, d2] => { results := [.lit (.bool false)], args := [d1, d2] }
  | _ => none }
def FnExactHyperLevelsWrongFalsely : Prop := fnExactHyperLevelsRow.holds Try.pinned (OpenSpec.ofChange fnExactHyperLevelsWrong)

/-- 'laws.FnHyperNumber': WHATEVER THE INPUT: true; the input reads as it did. -/
def fnHyperNumberSpec : ChangeSpec := { name := "fnHyperNumber", fn := fun _ => fun
  | [d] => { results := [.lit (.bool true)], args := [d] }
  | _ => none }
def fnHyperNumberRow : OpenClaim := { program := "ytnpfcifdpmdnlaa", sum := "f501521a5f51b935af6214bcdd4c5d147864a8d62da6aaf3cca94a7ca3479169", func := "loop.example/atomicspectra/laws.FnHyperNumber", spec := "fnHyperNumber", apart := false }
def FnHyperNumberSaid : Prop := fnHyperNumberRow.holds Try.pinned (OpenSpec.ofChange fnHyperNumberSpec)

/-- ITS FALSE NEIGHBOUR: 'it returns false'. Refute it at one input. -/
def fnHyperNumberWrong : ChangeSpec := { name := "fnHyperNumber", fn := fun _ => fun
  | [d] => { results := [.lit (.bool false)], args := [d] }
  | _ => none }
def FnHyperNumberWrongFalsely : Prop := fnHyperNumberRow.holds Try.pinned (OpenSpec.ofChange fnHyperNumberWrong)

/-- 'laws.FnHyperRule': WHATEVER THE INPUT: true; the input reads as it did. -/
def fnHyperRuleSpec : ChangeSpec := { name := "fnHyperRule", fn := fun _ => fun
  | [d] => { results := [.lit (.bool true)], args := [d] }
  | _ => none }
def fnHyperRuleRow : OpenClaim := { program := "ytnpfcifdpmdnlaa", sum := "f501521a5f51b935af6214bcdd4c5d147864a8d62da6aaf3cca94a7ca3479169", func := "loop.example/atomicspectra/laws.FnHyperRule", spec := "fnHyperRule", apart := false }
def FnHyperRuleSaid : Prop := fnHyperRuleRow.holds Try.pinned (OpenSpec.ofChange fnHyperRuleSpec)

/-- ITS FALSE NEIGHBOUR: 'it returns false'. Refute it at one input. -/
def fnHyperRuleWrong : ChangeSpec := { name := "fnHyperRule", fn := fun _ => fun
  | [d] => { results := [.lit (.bool false)], args := [d] }
  | _ => none }
def FnHyperRuleWrongFalsely : Prop := fnHyperRuleRow.holds Try.pinned (OpenSpec.ofChange fnHyperRuleWrong)

/-- 'laws.FnHyperSwap': WHATEVER THE INPUT: true; the input reads as it did. -/
def fnHyperSwapSpec : ChangeSpec := { name := "fnHyperSwap", fn := fun _ => fun
  | [d] => { results := [.lit (.bool true)], args := [d] }
  | _ => none }
def fnHyperSwapRow : OpenClaim := { program := "ytnpfcifdpmdnlaa", sum := "f501521a5f51b935af6214bcdd4c5d147864a8d62da6aaf3cca94a7ca3479169", func := "loop.example/atomicspectra/laws.FnHyperSwap", spec := "fnHyperSwap", apart := false }
def FnHyperSwapSaid : Prop := fnHyperSwapRow.holds Try.pinned (OpenSpec.ofChange fnHyperSwapSpec)

/-- ITS FALSE NEIGHBOUR: 'it returns false'. Refute it at one input. -/
def fnHyperSwapWrong : ChangeSpec := { name := "fnHyperSwap", fn := fun _ => fun
  | [d] => { results := [.lit (.bool false)], args := [d] }
  | _ => none }
def FnHyperSwapWrongFalsely : Prop := fnHyperSwapRow.holds Try.pinned (OpenSpec.ofChange fnHyperSwapWrong)

/-- 'laws.FnHyperLevels': WHATEVER THE INPUT: true; the input reads as it did. -/
def fnHyperLevelsSpec : ChangeSpec := { name := "fnHyperLevels", fn := fun _ => fun
  | [d] => { results := [.lit (.bool true)], args := [d] }
  | _ => none }
def fnHyperLevelsRow : OpenClaim := { program := "ytnpfcifdpmdnlaa", sum := "f501521a5f51b935af6214bcdd4c5d147864a8d62da6aaf3cca94a7ca3479169", func := "loop.example/atomicspectra/laws.FnHyperLevels", spec := "fnHyperLevels", apart := false }
def FnHyperLevelsSaid : Prop := fnHyperLevelsRow.holds Try.pinned (OpenSpec.ofChange fnHyperLevelsSpec)

/-- ITS FALSE NEIGHBOUR: 'it returns false'. Refute it at one input. -/
def fnHyperLevelsWrong : ChangeSpec := { name := "fnHyperLevels", fn := fun _ => fun
  | [d] => { results := [.lit (.bool false)], args := [d] }
  | _ => none }
def FnHyperLevelsWrongFalsely : Prop := fnHyperLevelsRow.holds Try.pinned (OpenSpec.ofChange fnHyperLevelsWrong)

/-- 'laws.FnExactHyperFactor': WHATEVER THE INPUT: true; the input reads as it did. -/
def fnExactHyperFactorSpec : ChangeSpec := { name := "fnExactHyperFactor", fn := fun _ => fun
  | [d1, d2, d3, d4] => { results := [.lit (.bool true)], args := [d1, d2, d3, d4] }
  | _ => none }
def fnExactHyperFactorRow : OpenClaim := { program := "ytnpfcifdpmdnlaa", sum := "f501521a5f51b935af6214bcdd4c5d147864a8d62da6aaf3cca94a7ca3479169", func := "loop.example/atomicspectra/laws.FnExactHyperFactor", spec := "fnExactHyperFactor", apart := false }
def FnExactHyperFactorSaid : Prop := fnExactHyperFactorRow.holds Try.pinned (OpenSpec.ofChange fnExactHyperFactorSpec)

/-- ITS FALSE NEIGHBOUR: 'it returns false'. Refute it at one input. -/
def fnExactHyperFactorWrong : ChangeSpec := { name := "fnExactHyperFactor", fn := fun _ => fun
  | [d1, d2, d3, d4] => { results := [.lit (.bool false)], args := [d1, d2, d3, d4] }
  | _ => none }
def FnExactHyperFactorWrongFalsely : Prop := fnExactHyperFactorRow.holds Try.pinned (OpenSpec.ofChange fnExactHyperFactorWrong)

/-- 'laws.FnHyperFactorNone': WHATEVER THE INPUT: true; the input reads as it did. -/
def fnHyperFactorNoneSpec : ChangeSpec := { name := "fnHyperFactorNone", fn := fun _ => fun
  | [d] => { results := [.lit (.bool true)], args := [d] }
  | _ => none }
def fnHyperFactorNoneRow : OpenClaim := { program := "ytnpfcifdpmdnlaa", sum := "f501521a5f51b935af6214bcdd4c5d147864a8d62da6aaf3cca94a7ca3479169", func := "loop.example/atomicspectra/laws.FnHyperFactorNone", spec := "fnHyperFactorNone", apart := false }
def FnHyperFactorNoneSaid : Prop := fnHyperFactorNoneRow.holds Try.pinned (OpenSpec.ofChange fnHyperFactorNoneSpec)

/-- ITS FALSE NEIGHBOUR: 'it returns false'. Refute it at one input. -/
def fnHyperFactorNoneWrong : ChangeSpec := { name := "fnHyperFactorNone", fn := fun _ => fun
  | [d] => { results := [.lit (.bool false)], args := [d] }
  | _ => none }
def FnHyperFactorNoneWrongFalsely : Prop := fnHyperFactorNoneRow.holds Try.pinned (OpenSpec.ofChange fnHyperFactorNoneWrong)

/-- 'laws.FnHyperFactorTop': WHATEVER THE INPUT: true; the input reads as it did. -/
def fnHyperFactorTopSpec : ChangeSpec := { name := "fnHyperFactorTop", fn := fun _ => fun
  | [d] => { results := [.lit (.bool true)], args := [d] }
  | _ => none }
def fnHyperFactorTopRow : OpenClaim := { program := "ytnpfcifdpmdnlaa", sum := "f501521a5f51b935af6214bcdd4c5d147864a8d62da6aaf3cca94a7ca3479169", func := "loop.example/atomicspectra/laws.FnHyperFactorTop", spec := "fnHyperFactorTop", apart := false }
def FnHyperFactorTopSaid : Prop := fnHyperFactorTopRow.holds Try.pinned (OpenSpec.ofChange fnHyperFactorTopSpec)

/-- ITS FALSE NEIGHBOUR: 'it returns false'. Refute it at one input. -/
def fnHyperFactorTopWrong : ChangeSpec := { name := "fnHyperFactorTop", fn := fun _ => fun
  | [d] => { results := [.lit (.bool false)], args := [d] }
  | _ => none }
def FnHyperFactorTopWrongFalsely : Prop := fnHyperFactorTopRow.holds Try.pinned (OpenSpec.ofChange fnHyperFactorTopWrong)

/-- 'laws.FnHyperFactorBoth': WHATEVER THE INPUT: true; the input reads as it did. -/
def fnHyperFactorBothSpec : ChangeSpec := { name := "fnHyperFactorBoth", fn := fun _ => fun
  | [d] => { results := [.lit (.bool true)], args := [d] }
  | _ => none }
def fnHyperFactorBothRow : OpenClaim := { program := "ytnpfcifdpmdnlaa", sum := "f501521a5f51b935af6214bcdd4c5d147864a8d62da6aaf3cca94a7ca3479169", func := "loop.example/atomicspectra/laws.FnHyperFactorBoth", spec := "fnHyperFactorBoth", apart := false }
def FnHyperFactorBothSaid : Prop := fnHyperFactorBothRow.holds Try.pinned (OpenSpec.ofChange fnHyperFactorBothSpec)

/-- ITS FALSE NEIGHBOUR: 'it returns false'. Refute it at one input. -/
def fnHyperFactorBothWrong : ChangeSpec := { name := "fnHyperFactorBoth", fn := fun _ => fun
  | [d] => { results := [.lit (.bool false)], args := [d] }
  | _ => none }
def FnHyperFactorBothWrongFalsely : Prop := fnHyperFactorBothRow.holds Try.pinned (OpenSpec.ofChange fnHyperFactorBothWrong)

/-- 'laws.FnHyperFactorSum': WHATEVER THE INPUT: true; the input reads as it did. -/
def fnHyperFactorSumSpec : ChangeSpec := { name := "fnHyperFactorSum", fn := fun _ => fun
  | [d] => { results := [.lit (.bool true)], args := [d] }
  | _ => none }
def fnHyperFactorSumRow : OpenClaim := { program := "ytnpfcifdpmdnlaa", sum := "f501521a5f51b935af6214bcdd4c5d147864a8d62da6aaf3cca94a7ca3479169", func := "loop.example/atomicspectra/laws.FnHyperFactorSum", spec := "fnHyperFactorSum", apart := false }
def FnHyperFactorSumSaid : Prop := fnHyperFactorSumRow.holds Try.pinned (OpenSpec.ofChange fnHyperFactorSumSpec)

/-- ITS FALSE NEIGHBOUR: 'it returns false'. Refute it at one input. -/
def fnHyperFactorSumWrong : ChangeSpec := { name := "fnHyperFactorSum", fn := fun _ => fun
  | [d] => { results := [.lit (.bool false)], args := [d] }
  | _ => none }
def FnHyperFactorSumWrongFalsely : Prop := fnHyperFactorSumRow.holds Try.pinned (OpenSpec.ofChange fnHyperFactorSumWrong)

/- THE SECOND FORM. 'bulk': how many values and letters a reading holds, each counted each time it is reached (what is shared counts as often as it is met; a slice's spare places count too). A statement '..UptoSaid' is the law's where the arguments, and the package variables that the reading takes, are together of bulk at most 1048576: NARROWER than '..Said'. Prove '..Said' where nothing that the law and all that it calls make is longer than what came in: it says more and counts as full. Else prove '..UptoSaid'. A law counts once. -/
mutual
def uptoBulk {H : Type} : DataW H → Nat
  | .lit (.string bytes) => bytes.length + 1
  | .lit _ => 1
  | .nil => 1
  | .ptr d => uptoBulk d + 1
  | .slice elems spare => uptoBulkAll elems + uptoBulkAll spare + 1
  | .agg parts => uptoBulkAll parts + 1
  | .iface _ d => uptoBulk d + 1
  | .map entries => uptoBulkEntries entries + 1
  | .held _ => 1
def uptoBulkAll {H : Type} : List (DataW H) → Nat
  | [] => 0
  | d :: r => uptoBulk d + uptoBulkAll r
def uptoBulkEntries {H : Type} : List (Lit × DataW H) → Nat
  | [] => 0
  | x :: r => uptoBulkEntry x + uptoBulkEntries r
def uptoBulkEntry {H : Type} : Lit × DataW H → Nat
  | (.string bytes, d) => bytes.length + uptoBulk d + 1
  | (_, d) => uptoBulk d + 1
 end
def uptoSmall : (H : Type) → List (DataW H) → Bool := fun _ ds => decide (uptoBulkAll ds ≤ 1048576)
def OpenSpec.upto (s : _root_.Go.ChangeSpec) : _root_.Go.OpenSpec := { _root_.Go.OpenSpec.ofChange s with cond := some uptoSmall }

/-- 'laws.FnExactHyperLevels', WHERE WHAT IT READS IS OF BULK AT MOST 1048576: true; the input reads as it did. -/
def fnExactHyperLevelsUptoRow : OpenClaim := { program := "ytnpfcifdpmdnlaa", sum := "f501521a5f51b935af6214bcdd4c5d147864a8d62da6aaf3cca94a7ca3479169", func := "loop.example/atomicspectra/laws.FnExactHyperLevels", spec := "fnExactHyperLevels", apart := false, narrowed := true }
def FnExactHyperLevelsUptoSaid : Prop := fnExactHyperLevelsUptoRow.holds Try.pinned (OpenSpec.upto fnExactHyperLevelsSpec)

/-- 'laws.FnHyperNumber', WHERE WHAT IT READS IS OF BULK AT MOST 1048576: true; the input reads as it did. -/
def fnHyperNumberUptoRow : OpenClaim := { program := "ytnpfcifdpmdnlaa", sum := "f501521a5f51b935af6214bcdd4c5d147864a8d62da6aaf3cca94a7ca3479169", func := "loop.example/atomicspectra/laws.FnHyperNumber", spec := "fnHyperNumber", apart := false, narrowed := true }
def FnHyperNumberUptoSaid : Prop := fnHyperNumberUptoRow.holds Try.pinned (OpenSpec.upto fnHyperNumberSpec)

/-- 'laws.FnHyperRule', WHERE WHAT IT READS IS OF BULK AT MOST 1048576: true; the input reads as it did. -/
def fnHyperRuleUptoRow : OpenClaim := { program := "ytnpfcifdpmdnlaa", sum := "f501521a5f51b935af6214bcdd4c5d147864a8d62da6aaf3cca94a7ca3479169", func := "loop.example/atomicspectra/laws.FnHyperRule", spec := "fnHyperRule", apart := false, narrowed := true }
def FnHyperRuleUptoSaid : Prop := fnHyperRuleUptoRow.holds Try.pinned (OpenSpec.upto fnHyperRuleSpec)

/-- 'laws.FnHyperSwap', WHERE WHAT IT READS IS OF BULK AT MOST 1048576: true; the input reads as it did. -/
def fnHyperSwapUptoRow : OpenClaim := { program := "ytnpfcifdpmdnlaa", sum := "f501521a5f51b935af6214bcdd4c5d147864a8d62da6aaf3cca94a7ca3479169", func := "loop.example/atomicspectra/laws.FnHyperSwap", spec := "fnHyperSwap", apart := false, narrowed := true }
def FnHyperSwapUptoSaid : Prop := fnHyperSwapUptoRow.holds Try.pinned (OpenSpec.upto fnHyperSwapSpec)

/-- 'laws.FnHyperLevels', WHERE WHAT IT READS IS OF BULK AT MOST 1048576: true; the input reads as it did. -/
def fnHyperLevelsUptoRow : OpenClaim := { program := "ytnpfcifdpmdnlaa", sum := "f501521a5f51b935af6214bcdd4c5d147864a8d62da6aaf3cca94a7ca3479169", func := "loop.example/atomicspectra/laws.FnHyperLevels", spec := "fnHyperLevels", apart := false, narrowed := true }
def FnHyperLevelsUptoSaid : Prop := fnHyperLevelsUptoRow.holds Try.pinned (OpenSpec.upto fnHyperLevelsSpec)

/-- 'laws.FnExactHyperFactor', WHERE WHAT IT READS IS OF BULK AT MOST 1048576: true; the input reads as it did. -/
def fnExactHyperFactorUptoRow : OpenClaim := { program := "ytnpfcifdpmdnlaa", sum := "f501521a5f51b935af6214bcdd4c5d147864a8d62da6aaf3cca94a7ca3479169", func := "loop.example/atomicspectra/laws.FnExactHyperFactor", spec := "fnExactHyperFactor", apart := false, narrowed := true }
def FnExactHyperFactorUptoSaid : Prop := fnExactHyperFactorUptoRow.holds Try.pinned (OpenSpec.upto fnExactHyperFactorSpec)

/-- 'laws.FnHyperFactorNone', WHERE WHAT IT READS IS OF BULK AT MOST 1048576: true; the input reads as it did. -/
def fnHyperFactorNoneUptoRow : OpenClaim := { program := "ytnpfcifdpmdnlaa", sum := "f501521a5f51b935af6214bcdd4c5d147864a8d62da6aaf3cca94a7ca3479169", func := "loop.example/atomicspectra/laws.FnHyperFactorNone", spec := "fnHyperFactorNone", apart := false, narrowed := true }
def FnHyperFactorNoneUptoSaid : Prop := fnHyperFactorNoneUptoRow.holds Try.pinned (OpenSpec.upto fnHyperFactorNoneSpec)

/-- 'laws.FnHyperFactorTop', WHERE WHAT IT READS IS OF BULK AT MOST 1048576: true; the input reads as it did. -/
def fnHyperFactorTopUptoRow : OpenClaim := { program := "ytnpfcifdpmdnlaa", sum := "f501521a5f51b935af6214bcdd4c5d147864a8d62da6aaf3cca94a7ca3479169", func := "loop.example/atomicspectra/laws.FnHyperFactorTop", spec := "fnHyperFactorTop", apart := false, narrowed := true }
def FnHyperFactorTopUptoSaid : Prop := fnHyperFactorTopUptoRow.holds Try.pinned (OpenSpec.upto fnHyperFactorTopSpec)

/-- 'laws.FnHyperFactorBoth', WHERE WHAT IT READS IS OF BULK AT MOST 1048576: true; the input reads as it did. -/
def fnHyperFactorBothUptoRow : OpenClaim := { program := "ytnpfcifdpmdnlaa", sum := "f501521a5f51b935af6214bcdd4c5d147864a8d62da6aaf3cca94a7ca3479169", func := "loop.example/atomicspectra/laws.FnHyperFactorBoth", spec := "fnHyperFactorBoth", apart := false, narrowed := true }
def FnHyperFactorBothUptoSaid : Prop := fnHyperFactorBothUptoRow.holds Try.pinned (OpenSpec.upto fnHyperFactorBothSpec)

/-- 'laws.FnHyperFactorSum', WHERE WHAT IT READS IS OF BULK AT MOST 1048576: true; the input reads as it did. -/
def fnHyperFactorSumUptoRow : OpenClaim := { program := "ytnpfcifdpmdnlaa", sum := "f501521a5f51b935af6214bcdd4c5d147864a8d62da6aaf3cca94a7ca3479169", func := "loop.example/atomicspectra/laws.FnHyperFactorSum", spec := "fnHyperFactorSum", apart := false, narrowed := true }
def FnHyperFactorSumUptoSaid : Prop := fnHyperFactorSumUptoRow.holds Try.pinned (OpenSpec.upto fnHyperFactorSumSpec)

end Rows
end Go.Proofs.Ytnpfcifdpmdnlaa
