/-
  No cell of these rows narrows 'for every input' (looked for: loops, veiled, ifaces, maps, wideKeys, modest, calm, conditions, laid).
  DERIVED. THE GIVEN ROWS OF THIS SEAT. 12 by the template 'for every input the law returns true; each argument reads behind the call as it read before'; 0 by the template 'total and deterministic' (their statements: YtnjcbohledafgaaTotals.lean).
  GIVEN WITH THE SEED: the statements are not yours to turn. If you find one false, say at which input.
  Laid BY PROGRAM, IN A SANDBOX (cutbox-rows.mjs): the forced cells as the released guide's own fill.sh prints them over the translation 7789ab5e9bb97e3d… (all of the seat's roots in one cut). By AI agents, Wed Nov 11 2026. No macro, syntax, notation, axiom, sorry.
-/
import Derived.Test.YtnjcbohledafgaaChecked
import GoSem.Claim
import GoSem.ClaimJoined
import GoSem.ClaimMapViews
import Derived.JoinedTies
import Derived.KernelRfl
namespace Go.Proofs.Ytnjcbohledafgaa
/- THE CELL 'sum', in the pinned program and in every row, IS THE sha256 OF THE DUMP (.gsa) THAT YtnjcbohledafgaaProg.lean LOADS. Nothing in Lean hashes anything: it is a label: what it is worth is what the hold of that sum in a sandbox is worth. -/
noncomputable def Try.pinned : Pinned := { name := "ytnjcbohledafgaa", sum := "7789ab5e9bb97e3da69b58d4cc2672525c4c1ba90d47bb0ab2f021160052d576", checked := Try.checked }
namespace Rows
def none {H : Type} : Left H := { results := [], args := [] }

/-- 'laws.FnExactCoupleSum': WHATEVER THE INPUT: true; the input reads as it did. -/
def fnExactCoupleSumSpec : ChangeSpec := { name := "fnExactCoupleSum", fn := fun _ => fun
  | [d1, d2, d3, d4, d5] => { results := [.lit (.bool true)], args := [d1, d2, d3, d4, d5] }
  | _ => none }
def fnExactCoupleSumRow : OpenClaim := { program := "ytnjcbohledafgaa", sum := "7789ab5e9bb97e3da69b58d4cc2672525c4c1ba90d47bb0ab2f021160052d576", func := "loop.example/atomicspectra/laws.FnExactCoupleSum", spec := "fnExactCoupleSum", apart := false }
def FnExactCoupleSumSaid : Prop := fnExactCoupleSumRow.holds Try.pinned (OpenSpec.ofChange fnExactCoupleSumSpec)

/-- ITS FALSE NEIGHBOUR: 'it returns false'. Refute it at one input. -/
def fnExactCoupleSumWrong : ChangeSpec := { name := "fnExactCoupleSum", fn := fun _ => fun
  | [d1, d2, d3, d4, d5] => { results := [.lit (.bool false)], args := [d1, d2, d3, d4, d5] }
  | _ => none }
def FnExactCoupleSumWrongFalsely : Prop := fnExactCoupleSumRow.holds Try.pinned (OpenSpec.ofChange fnExactCoupleSumWrong)

/-- 'laws.FnCoupleSwap': WHATEVER THE INPUT: true; the input reads as it did. -/
def fnCoupleSwapSpec : ChangeSpec := { name := "fnCoupleSwap", fn := fun _ => fun
  | [d] => { results := [.lit (.bool true)], args := [d] }
  | _ => none }
def fnCoupleSwapRow : OpenClaim := { program := "ytnjcbohledafgaa", sum := "7789ab5e9bb97e3da69b58d4cc2672525c4c1ba90d47bb0ab2f021160052d576", func := "loop.example/atomicspectra/laws.FnCoupleSwap", spec := "fnCoupleSwap", apart := false }
def FnCoupleSwapSaid : Prop := fnCoupleSwapRow.holds Try.pinned (OpenSpec.ofChange fnCoupleSwapSpec)

/-- ITS FALSE NEIGHBOUR: 'it returns false'. Refute it at one input. -/
def fnCoupleSwapWrong : ChangeSpec := { name := "fnCoupleSwap", fn := fun _ => fun
  | [d] => { results := [.lit (.bool false)], args := [d] }
  | _ => none }
def FnCoupleSwapWrongFalsely : Prop := fnCoupleSwapRow.holds Try.pinned (OpenSpec.ofChange fnCoupleSwapWrong)

/-- 'laws.FnCoupleTop': WHATEVER THE INPUT: true; the input reads as it did. -/
def fnCoupleTopSpec : ChangeSpec := { name := "fnCoupleTop", fn := fun _ => fun
  | [d] => { results := [.lit (.bool true)], args := [d] }
  | _ => none }
def fnCoupleTopRow : OpenClaim := { program := "ytnjcbohledafgaa", sum := "7789ab5e9bb97e3da69b58d4cc2672525c4c1ba90d47bb0ab2f021160052d576", func := "loop.example/atomicspectra/laws.FnCoupleTop", spec := "fnCoupleTop", apart := false }
def FnCoupleTopSaid : Prop := fnCoupleTopRow.holds Try.pinned (OpenSpec.ofChange fnCoupleTopSpec)

/-- ITS FALSE NEIGHBOUR: 'it returns false'. Refute it at one input. -/
def fnCoupleTopWrong : ChangeSpec := { name := "fnCoupleTop", fn := fun _ => fun
  | [d] => { results := [.lit (.bool false)], args := [d] }
  | _ => none }
def FnCoupleTopWrongFalsely : Prop := fnCoupleTopRow.holds Try.pinned (OpenSpec.ofChange fnCoupleTopWrong)

/-- 'laws.FnCoupleTurn': WHATEVER THE INPUT: true; the input reads as it did. -/
def fnCoupleTurnSpec : ChangeSpec := { name := "fnCoupleTurn", fn := fun _ => fun
  | [d] => { results := [.lit (.bool true)], args := [d] }
  | _ => none }
def fnCoupleTurnRow : OpenClaim := { program := "ytnjcbohledafgaa", sum := "7789ab5e9bb97e3da69b58d4cc2672525c4c1ba90d47bb0ab2f021160052d576", func := "loop.example/atomicspectra/laws.FnCoupleTurn", spec := "fnCoupleTurn", apart := false }
def FnCoupleTurnSaid : Prop := fnCoupleTurnRow.holds Try.pinned (OpenSpec.ofChange fnCoupleTurnSpec)

/-- ITS FALSE NEIGHBOUR: 'it returns false'. Refute it at one input. -/
def fnCoupleTurnWrong : ChangeSpec := { name := "fnCoupleTurn", fn := fun _ => fun
  | [d] => { results := [.lit (.bool false)], args := [d] }
  | _ => none }
def FnCoupleTurnWrongFalsely : Prop := fnCoupleTurnRow.holds Try.pinned (OpenSpec.ofChange fnCoupleTurnWrong)

/-- 'laws.FnCoupleOrthogonal': WHATEVER THE INPUT: true; the input reads as it did. -/
def fnCoupleOrthogonalSpec : ChangeSpec := { name := "fnCoupleOrthogonal", fn := fun _ => fun
  | [d] => { results := [.lit (.bool true)], args := [d] }
  | _ => none }
def fnCoupleOrthogonalRow : OpenClaim := { program := "ytnjcbohledafgaa", sum := "7789ab5e9bb97e3da69b58d4cc2672525c4c1ba90d47bb0ab2f021160052d576", func := "loop.example/atomicspectra/laws.FnCoupleOrthogonal", spec := "fnCoupleOrthogonal", apart := false }
def FnCoupleOrthogonalSaid : Prop := fnCoupleOrthogonalRow.holds Try.pinned (OpenSpec.ofChange fnCoupleOrthogonalSpec)

/-- ITS FALSE NEIGHBOUR: 'it returns false'. Refute it at one input. -/
def fnCoupleOrthogonalWrong : ChangeSpec := { name := "fnCoupleOrthogonal", fn := fun _ => fun
  | [d] => { results := [.lit (.bool false)], args := [d] }
  | _ => none }
def FnCoupleOrthogonalWrongFalsely : Prop := fnCoupleOrthogonalRow.holds Try.pinned (OpenSpec.ofChange fnCoupleOrthogonalWrong)

/-- 'laws.FnExactClebsch': WHATEVER THE INPUT: true; the input reads as it did. -/
def fnExactClebschSpec : ChangeSpec := { name := "fnExactClebsch", fn := fun _ => fun
  | [d1, d2, d3, d4, d5] => { results := [.lit (.bool true)], args := [d1, d2, d3, d4, d5] }
  | _ => none }
def fnExactClebschRow : OpenClaim := { program := "ytnjcbohledafgaa", sum := "7789ab5e9bb97e3da69b58d4cc2672525c4c1ba90d47bb0ab2f021160052d576", func := "loop.example/atomicspectra/laws.FnExactClebsch", spec := "fnExactClebsch", apart := false }
def FnExactClebschSaid : Prop := fnExactClebschRow.holds Try.pinned (OpenSpec.ofChange fnExactClebschSpec)

/-- ITS FALSE NEIGHBOUR: 'it returns false'. Refute it at one input. -/
def fnExactClebschWrong : ChangeSpec := { name := "fnExactClebsch", fn := fun _ => fun
  | [d1, d2, d3, d4, d5] => { results := [.lit (.bool false)], args := [d1, d2, d3, d4, d5] }
  | _ => none }
def FnExactClebschWrongFalsely : Prop := fnExactClebschRow.holds Try.pinned (OpenSpec.ofChange fnExactClebschWrong)

/-- 'laws.FnClebschHalf': WHATEVER THE INPUT: true; the input reads as it did. -/
def fnClebschHalfSpec : ChangeSpec := { name := "fnClebschHalf", fn := fun _ => fun
  | [d] => { results := [.lit (.bool true)], args := [d] }
  | _ => none }
def fnClebschHalfRow : OpenClaim := { program := "ytnjcbohledafgaa", sum := "7789ab5e9bb97e3da69b58d4cc2672525c4c1ba90d47bb0ab2f021160052d576", func := "loop.example/atomicspectra/laws.FnClebschHalf", spec := "fnClebschHalf", apart := false }
def FnClebschHalfSaid : Prop := fnClebschHalfRow.holds Try.pinned (OpenSpec.ofChange fnClebschHalfSpec)

/-- ITS FALSE NEIGHBOUR: 'it returns false'. Refute it at one input. -/
def fnClebschHalfWrong : ChangeSpec := { name := "fnClebschHalf", fn := fun _ => fun
  | [d] => { results := [.lit (.bool false)], args := [d] }
  | _ => none }
def FnClebschHalfWrongFalsely : Prop := fnClebschHalfRow.holds Try.pinned (OpenSpec.ofChange fnClebschHalfWrong)

/-- 'laws.FnClebschNone': WHATEVER THE INPUT: true; the input reads as it did. -/
def fnClebschNoneSpec : ChangeSpec := { name := "fnClebschNone", fn := fun _ => fun
  | [d] => { results := [.lit (.bool true)], args := [d] }
  | _ => none }
def fnClebschNoneRow : OpenClaim := { program := "ytnjcbohledafgaa", sum := "7789ab5e9bb97e3da69b58d4cc2672525c4c1ba90d47bb0ab2f021160052d576", func := "loop.example/atomicspectra/laws.FnClebschNone", spec := "fnClebschNone", apart := false }
def FnClebschNoneSaid : Prop := fnClebschNoneRow.holds Try.pinned (OpenSpec.ofChange fnClebschNoneSpec)

/-- ITS FALSE NEIGHBOUR: 'it returns false'. Refute it at one input. -/
def fnClebschNoneWrong : ChangeSpec := { name := "fnClebschNone", fn := fun _ => fun
  | [d] => { results := [.lit (.bool false)], args := [d] }
  | _ => none }
def FnClebschNoneWrongFalsely : Prop := fnClebschNoneRow.holds Try.pinned (OpenSpec.ofChange fnClebschNoneWrong)

/-- 'laws.FnClebschSwap': WHATEVER THE INPUT: true; the input reads as it did. -/
def fnClebschSwapSpec : ChangeSpec := { name := "fnClebschSwap", fn := fun _ => fun
  | [d] => { results := [.lit (.bool true)], args := [d] }
  | _ => none }
def fnClebschSwapRow : OpenClaim := { program := "ytnjcbohledafgaa", sum := "7789ab5e9bb97e3da69b58d4cc2672525c4c1ba90d47bb0ab2f021160052d576", func := "loop.example/atomicspectra/laws.FnClebschSwap", spec := "fnClebschSwap", apart := false }
def FnClebschSwapSaid : Prop := fnClebschSwapRow.holds Try.pinned (OpenSpec.ofChange fnClebschSwapSpec)

/-- ITS FALSE NEIGHBOUR: 'it returns false'. Refute it at one input. -/
def fnClebschSwapWrong : ChangeSpec := { name := "fnClebschSwap", fn := fun _ => fun
  | [d] => { results := [.lit (.bool false)], args := [d] }
  | _ => none }
def FnClebschSwapWrongFalsely : Prop := fnClebschSwapRow.holds Try.pinned (OpenSpec.ofChange fnClebschSwapWrong)

/-- 'laws.FnClebschMoved': WHATEVER THE INPUT: true; the input reads as it did. -/
def fnClebschMovedSpec : ChangeSpec := { name := "fnClebschMoved", fn := fun _ => fun
  | [d] => { results := [.lit (.bool true)], args := [d] }
  | _ => none }
def fnClebschMovedRow : OpenClaim := { program := "ytnjcbohledafgaa", sum := "7789ab5e9bb97e3da69b58d4cc2672525c4c1ba90d47bb0ab2f021160052d576", func := "loop.example/atomicspectra/laws.FnClebschMoved", spec := "fnClebschMoved", apart := false }
def FnClebschMovedSaid : Prop := fnClebschMovedRow.holds Try.pinned (OpenSpec.ofChange fnClebschMovedSpec)

/-- ITS FALSE NEIGHBOUR: 'it returns false'. Refute it at one input. -/
def fnClebschMovedWrong : ChangeSpec := { name := "fnClebschMoved", fn := fun _ => fun
  | [d] => { results := [.lit (.bool false)], args := [d] }
  | _ => none }
def FnClebschMovedWrongFalsely : Prop := fnClebschMovedRow.holds Try.pinned (OpenSpec.ofChange fnClebschMovedWrong)

/-- 'laws.FnClebsch': WHATEVER THE INPUT: true; the input reads as it did. -/
def fnClebschSpec : ChangeSpec := { name := "fnClebsch", fn := fun _ => fun
  | [d] => { results := [.lit (.bool true)], args := [d] }
  | _ => none }
def fnClebschRow : OpenClaim := { program := "ytnjcbohledafgaa", sum := "7789ab5e9bb97e3da69b58d4cc2672525c4c1ba90d47bb0ab2f021160052d576", func := "loop.example/atomicspectra/laws.FnClebsch", spec := "fnClebsch", apart := false }
def FnClebschSaid : Prop := fnClebschRow.holds Try.pinned (OpenSpec.ofChange fnClebschSpec)

/-- ITS FALSE NEIGHBOUR: 'it returns false'. Refute it at one input. -/
def fnClebschWrong : ChangeSpec := { name := "fnClebsch", fn := fun _ => fun
  | [d] => { results := [.lit (.bool false)], args := [d] }
  | _ => none }
def FnClebschWrongFalsely : Prop := fnClebschRow.holds Try.pinned (OpenSpec.ofChange fnClebschWrong)

/-- 'laws.FnClebschSum': WHATEVER THE INPUT: true; the input reads as it did. -/
def fnClebschSumSpec : ChangeSpec := { name := "fnClebschSum", fn := fun _ => fun
  | [d] => { results := [.lit (.bool true)], args := [d] }
  | _ => none }
def fnClebschSumRow : OpenClaim := { program := "ytnjcbohledafgaa", sum := "7789ab5e9bb97e3da69b58d4cc2672525c4c1ba90d47bb0ab2f021160052d576", func := "loop.example/atomicspectra/laws.FnClebschSum", spec := "fnClebschSum", apart := false }
def FnClebschSumSaid : Prop := fnClebschSumRow.holds Try.pinned (OpenSpec.ofChange fnClebschSumSpec)

/-- ITS FALSE NEIGHBOUR: 'it returns false'. Refute it at one input. -/
def fnClebschSumWrong : ChangeSpec := { name := "fnClebschSum", fn := fun _ => fun
  | [d] => { results := [.lit (.bool false)], args := [d] }
  | _ => none }
def FnClebschSumWrongFalsely : Prop := fnClebschSumRow.holds Try.pinned (OpenSpec.ofChange fnClebschSumWrong)

/- THE SECOND FORM. 'bulk': how many values and letters a reading holds, each counted each time it is reached (what is shared counts as often as it is met; a slice's spare places count too). A statement '..UptoSaid' is the law's where the arguments, and the package variables that the reading takes, are together of bulk at most 1048576: NARROWER than '..Said'. Prove '..Said' where nothing that the law and all that it calls make is longer than what came in: it says more and counts as full. Else prove '..UptoSaid'. A law counts once. -/
mutual
def uptoBulk {H : Type} : DataW H → Nat
  | .lit (.string bytes) => bytes.length + 1
  | .lit _ => 1
  | .nil => 1
  | .ptr d => uptoBulk d + 1
  | .slice elems spare => uptoBulkAll elems + uptoBulkAll spare + 1
  | .agg parts => uptoBulkAll parts + 1
  | .iface _ d => uptoBulk d + 1
  | .map entries => uptoBulkEntries entries + 1
  | .held _ => 1
def uptoBulkAll {H : Type} : List (DataW H) → Nat
  | [] => 0
  | d :: r => uptoBulk d + uptoBulkAll r
def uptoBulkEntries {H : Type} : List (Lit × DataW H) → Nat
  | [] => 0
  | x :: r => uptoBulkEntry x + uptoBulkEntries r
def uptoBulkEntry {H : Type} : Lit × DataW H → Nat
  | (.string bytes, d) => bytes.length + uptoBulk d + 1
  | (_, d) => uptoBulk d + 1
 end
def uptoSmall : (H : Type) → List (DataW H) → Bool := fun _ ds => decide (uptoBulkAll ds ≤ 1048576)
def OpenSpec.upto (s : _root_.Go.ChangeSpec) : _root_.Go.OpenSpec := { _root_.Go.OpenSpec.ofChange s with cond := some uptoSmall }

/-- 'laws.FnExactCoupleSum', WHERE WHAT IT READS IS OF BULK AT MOST 1048576: true; the input reads as it did. -/
def fnExactCoupleSumUptoRow : OpenClaim := { program := "ytnjcbohledafgaa", sum := "7789ab5e9bb97e3da69b58d4cc2672525c4c1ba90d47bb0ab2f021160052d576", func := "loop.example/atomicspectra/laws.FnExactCoupleSum", spec := "fnExactCoupleSum", apart := false, narrowed := true }
def FnExactCoupleSumUptoSaid : Prop := fnExactCoupleSumUptoRow.holds Try.pinned (OpenSpec.upto fnExactCoupleSumSpec)

/-- 'laws.FnCoupleSwap', WHERE WHAT IT READS IS OF BULK AT MOST 1048576: true; the input reads as it did. -/
def fnCoupleSwapUptoRow : OpenClaim := { program := "ytnjcbohledafgaa", sum := "7789ab5e9bb97e3da69b58d4cc2672525c4c1ba90d47bb0ab2f021160052d576", func := "loop.example/atomicspectra/laws.FnCoupleSwap", spec := "fnCoupleSwap", apart := false, narrowed := true }
def FnCoupleSwapUptoSaid : Prop := fnCoupleSwapUptoRow.holds Try.pinned (OpenSpec.upto fnCoupleSwapSpec)

/-- 'laws.FnCoupleTop', WHERE WHAT IT READS IS OF BULK AT MOST 1048576: true; the input reads as it did. -/
def fnCoupleTopUptoRow : OpenClaim := { program := "ytnjcbohledafgaa", sum := "7789ab5e9bb97e3da69b58d4cc2672525c4c1ba90d47bb0ab2f021160052d576", func := "loop.example/atomicspectra/laws.FnCoupleTop", spec := "fnCoupleTop", apart := false, narrowed := true }
def FnCoupleTopUptoSaid : Prop := fnCoupleTopUptoRow.holds Try.pinned (OpenSpec.upto fnCoupleTopSpec)

/-- 'laws.FnCoupleTurn', WHERE WHAT IT READS IS OF BULK AT MOST 1048576: true; the input reads as it did. -/
def fnCoupleTurnUptoRow : OpenClaim := { program := "ytnjcbohledafgaa", sum := "7789ab5e9bb97e3da69b58d4cc2672525c4c1ba90d47bb0ab2f021160052d576", func := "loop.example/atomicspectra/laws.FnCoupleTurn", spec := "fnCoupleTurn", apart := false, narrowed := true }
def FnCoupleTurnUptoSaid : Prop := fnCoupleTurnUptoRow.holds Try.pinned (OpenSpec.upto fnCoupleTurnSpec)

/-- 'laws.FnCoupleOrthogonal', WHERE WHAT IT READS IS OF BULK AT MOST 1048576: true; the input reads as it did. -/
def fnCoupleOrthogonalUptoRow : OpenClaim := { program := "ytnjcbohledafgaa", sum := "7789ab5e9bb97e3da69b58d4cc2672525c4c1ba90d47bb0ab2f021160052d576", func := "loop.example/atomicspectra/laws.FnCoupleOrthogonal", spec := "fnCoupleOrthogonal", apart := false, narrowed := true }
def FnCoupleOrthogonalUptoSaid : Prop := fnCoupleOrthogonalUptoRow.holds Try.pinned (OpenSpec.upto fnCoupleOrthogonalSpec)

/-- 'laws.FnExactClebsch', WHERE WHAT IT READS IS OF BULK AT MOST 1048576: true; the input reads as it did. -/
def fnExactClebschUptoRow : OpenClaim := { program := "ytnjcbohledafgaa", sum := "7789ab5e9bb97e3da69b58d4cc2672525c4c1ba90d47bb0ab2f021160052d576", func := "loop.example/atomicspectra/laws.FnExactClebsch", spec := "fnExactClebsch", apart := false, narrowed := true }
def FnExactClebschUptoSaid : Prop := fnExactClebschUptoRow.holds Try.pinned (OpenSpec.upto fnExactClebschSpec)

/-- 'laws.FnClebschHalf', WHERE WHAT IT READS IS OF BULK AT MOST 1048576: true; the input reads as it did. -/
def fnClebschHalfUptoRow : OpenClaim := { program := "ytnjcbohledafgaa", sum := "7789ab5e9bb97e3da69b58d4cc2672525c4c1ba90d47bb0ab2f021160052d576", func := "loop.example/atomicspectra/laws.FnClebschHalf", spec := "fnClebschHalf", apart := false, narrowed := true }
def FnClebschHalfUptoSaid : Prop := fnClebschHalfUptoRow.holds Try.pinned (OpenSpec.upto fnClebschHalfSpec)

/-- 'laws.FnClebschNone', WHERE WHAT IT READS IS OF BULK AT MOST 1048576: true; the input reads as it did. -/
def fnClebschNoneUptoRow : OpenClaim := { program := "ytnjcbohledafgaa", sum := "7789ab5e9bb97e3da69b58d4cc2672525c4c1ba90d47bb0ab2f021160052d576", func := "loop.example/atomicspectra/laws.FnClebschNone", spec := "fnClebschNone", apart := false, narrowed := true }
def FnClebschNoneUptoSaid : Prop := fnClebschNoneUptoRow.holds Try.pinned (OpenSpec.upto fnClebschNoneSpec)

/-- 'laws.FnClebschSwap', WHERE WHAT IT READS IS OF BULK AT MOST 1048576: true; the input reads as it did. -/
def fnClebschSwapUptoRow : OpenClaim := { program := "ytnjcbohledafgaa", sum := "7789ab5e9bb97e3da69b58d4cc2672525c4c1ba90d47bb0ab2f021160052d576", func := "loop.example/atomicspectra/laws.FnClebschSwap", spec := "fnClebschSwap", apart := false, narrowed := true }
def FnClebschSwapUptoSaid : Prop := fnClebschSwapUptoRow.holds Try.pinned (OpenSpec.upto fnClebschSwapSpec)

/-- 'laws.FnClebschMoved', WHERE WHAT IT READS IS OF BULK AT MOST 1048576: true; the input reads as it did. -/
def fnClebschMovedUptoRow : OpenClaim := { program := "ytnjcbohledafgaa", sum := "7789ab5e9bb97e3da69b58d4cc2672525c4c1ba90d47bb0ab2f021160052d576", func := "loop.example/atomicspectra/laws.FnClebschMoved", spec := "fnClebschMoved", apart := false, narrowed := true }
def FnClebschMovedUptoSaid : Prop := fnClebschMovedUptoRow.holds Try.pinned (OpenSpec.upto fnClebschMovedSpec)

/-- 'laws.FnClebsch', WHERE WHAT IT READS IS OF BULK AT MOST 1048576: true; the input reads as it did. -/
def fnClebschUptoRow : OpenClaim := { program := "ytnjcbohledafgaa", sum := "7789ab5e9bb97e3da69b58d4cc2672525c4c1ba90d47bb0ab2f021160052d576", func := "loop.example/atomicspectra/laws.FnClebsch", spec := "fnClebsch", apart := false, narrowed := true }
def FnClebschUptoSaid : Prop := fnClebschUptoRow.holds Try.pinned (OpenSpec.upto fnClebschSpec)

/-- 'laws.FnClebschSum', WHERE WHAT IT READS IS OF BULK AT MOST 1048576: true; the input reads as it did. -/
def fnClebschSumUptoRow : OpenClaim := { program := "ytnjcbohledafgaa", sum := "7789ab5e9bb97e3da69b58d4cc2672525c4c1ba90d47bb0ab2f021160052d576", func := "loop.example/atomicspectra/laws.FnClebschSum", spec := "fnClebschSum", apart := false, narrowed := true }
def FnClebschSumUptoSaid : Prop := fnClebschSumUptoRow.holds Try.pinned (OpenSpec.upto fnClebschSumSpec)

end Rows
end Go.Proofs.Ytnjcbohledafgaa
