/-
  No cell of these rows narrows 'for every input' (looked for: loops, veiled, ifaces, maps, wideKeys, modest, calm, conditions, laid).
  DERIVED. THE GIVEN ROWS OF THIS SEAT. 12 by the template 'for every input the law returns true; each argument reads behind the call as it read before'; 0 by the template 'total and deterministic' (their statements: YtbidmnbnnkjgoaaTotals.lean).
  GIVEN WITH THE SEED: the statements are not yours to turn. If you find one false, say at which input.
  Laid BY PROGRAM, IN A SANDBOX (cutbox-rows.mjs): the forced cells as the released guide's own fill.sh prints them over the translation 8a47b25443e21cc3… (all of the seat's roots in one cut). By AI agents, Wed Nov 11 2026. No macro, syntax, notation, axiom, sorry.
-/
import Derived.Test.YtbidmnbnnkjgoaaChecked
import GoSem.Claim
import GoSem.ClaimJoined
import GoSem.ClaimMapViews
import Derived.JoinedTies
import Derived.KernelRfl
namespace Go.Proofs.Ytbidmnbnnkjgoaa
/- THE CELL 'sum', in the pinned program and in every row, IS THE sha256 OF THE DUMP (.gsa) THAT YtbidmnbnnkjgoaaProg.lean LOADS. Nothing in Lean hashes anything: it is a label: what it is worth is what the hold of that sum in a sandbox is worth. -/
noncomputable def Try.pinned : Pinned := { name := "ytbidmnbnnkjgoaa", sum := "8a47b25443e21cc31587fb4971b9ced636a9889e9f9a8af6ea455d1a9cc901cf", checked := Try.checked }
namespace Rows
def none {H : Type} : Left H := { results := [], args := [] }

/-- 'laws.FnClebschWhole': WHATEVER THE INPUT: true; the input reads as it did. -/
def fnClebschWholeSpec : ChangeSpec := { name := "fnClebschWhole", fn := fun _ => fun
  | [d] => { results := [.lit (.bool true)], args := [d] }
  | _ => none }
def fnClebschWholeRow : OpenClaim := { program := "ytbidmnbnnkjgoaa", sum := "8a47b25443e21cc31587fb4971b9ced636a9889e9f9a8af6ea455d1a9cc901cf", func := "loop.example/atomicspectra/laws.FnClebschWhole", spec := "fnClebschWhole", apart := false }
def FnClebschWholeSaid : Prop := fnClebschWholeRow.holds Try.pinned (OpenSpec.ofChange fnClebschWholeSpec)

/-- ITS FALSE NEIGHBOUR: 'it returns false'. Refute it at one input. -/
def fnClebschWholeWrong : ChangeSpec := { name := "fnClebschWhole", fn := fun _ => fun
  | [d] => { results := [.lit (.bool false)], args := [d] }
  | _ => none }
def FnClebschWholeWrongFalsely : Prop := fnClebschWholeRow.holds Try.pinned (OpenSpec.ofChange fnClebschWholeWrong)

/-- 'laws.FnClebschSquares': WHATEVER THE INPUT: true; the input reads as it did. -/
def fnClebschSquaresSpec : ChangeSpec := { name := "fnClebschSquares", fn := fun _ => fun
  | [d] => { results := [.lit (.bool true)], args := [d] }
  | _ => none }
def fnClebschSquaresRow : OpenClaim := { program := "ytbidmnbnnkjgoaa", sum := "8a47b25443e21cc31587fb4971b9ced636a9889e9f9a8af6ea455d1a9cc901cf", func := "loop.example/atomicspectra/laws.FnClebschSquares", spec := "fnClebschSquares", apart := false }
def FnClebschSquaresSaid : Prop := fnClebschSquaresRow.holds Try.pinned (OpenSpec.ofChange fnClebschSquaresSpec)

/-- ITS FALSE NEIGHBOUR: 'it returns false'. Refute it at one input. -/
def fnClebschSquaresWrong : ChangeSpec := { name := "fnClebschSquares", fn := fun _ => fun
  | [d] => { results := [.lit (.bool false)], args := [d] }
  | _ => none }
def FnClebschSquaresWrongFalsely : Prop := fnClebschSquaresRow.holds Try.pinned (OpenSpec.ofChange fnClebschSquaresWrong)

/-- 'laws.FnExactThreeJ': WHATEVER THE INPUT: true; the input reads as it did. -/
def fnExactThreeJSpec : ChangeSpec := { name := "fnExactThreeJ", fn := fun _ => fun
  | [d1, d2, d3, d4, d5, d6] => { results := [.lit (.bool true)], args := [d1, d2, d3, d4, d5, d6] }
  | _ => none }
def fnExactThreeJRow : OpenClaim := { program := "ytbidmnbnnkjgoaa", sum := "8a47b25443e21cc31587fb4971b9ced636a9889e9f9a8af6ea455d1a9cc901cf", func := "loop.example/atomicspectra/laws.FnExactThreeJ", spec := "fnExactThreeJ", apart := false }
def FnExactThreeJSaid : Prop := fnExactThreeJRow.holds Try.pinned (OpenSpec.ofChange fnExactThreeJSpec)

/-- ITS FALSE NEIGHBOUR: 'it returns false'. Refute it at one input. -/
def fnExactThreeJWrong : ChangeSpec := { name := "fnExactThreeJ", fn := fun _ => fun
  | [d1, d2, d3, d4, d5, d6] => { results := [.lit (.bool false)], args := [d1, d2, d3, d4, d5, d6] }
  | _ => none }
def FnExactThreeJWrongFalsely : Prop := fnExactThreeJRow.holds Try.pinned (OpenSpec.ofChange fnExactThreeJWrong)

/-- 'laws.FnThreeTurn': WHATEVER THE INPUT: true; the input reads as it did. -/
def fnThreeTurnSpec : ChangeSpec := { name := "fnThreeTurn", fn := fun _ => fun
  | [d] => { results := [.lit (.bool true)], args := [d] }
  | _ => none }
def fnThreeTurnRow : OpenClaim := { program := "ytbidmnbnnkjgoaa", sum := "8a47b25443e21cc31587fb4971b9ced636a9889e9f9a8af6ea455d1a9cc901cf", func := "loop.example/atomicspectra/laws.FnThreeTurn", spec := "fnThreeTurn", apart := false }
def FnThreeTurnSaid : Prop := fnThreeTurnRow.holds Try.pinned (OpenSpec.ofChange fnThreeTurnSpec)

/-- ITS FALSE NEIGHBOUR: 'it returns false'. Refute it at one input. -/
def fnThreeTurnWrong : ChangeSpec := { name := "fnThreeTurn", fn := fun _ => fun
  | [d] => { results := [.lit (.bool false)], args := [d] }
  | _ => none }
def FnThreeTurnWrongFalsely : Prop := fnThreeTurnRow.holds Try.pinned (OpenSpec.ofChange fnThreeTurnWrong)

/-- 'laws.FnThreeZero': WHATEVER THE INPUT: true; the input reads as it did. -/
def fnThreeZeroSpec : ChangeSpec := { name := "fnThreeZero", fn := fun _ => fun
  | [d] => { results := [.lit (.bool true)], args := [d] }
  | _ => none }
def fnThreeZeroRow : OpenClaim := { program := "ytbidmnbnnkjgoaa", sum := "8a47b25443e21cc31587fb4971b9ced636a9889e9f9a8af6ea455d1a9cc901cf", func := "loop.example/atomicspectra/laws.FnThreeZero", spec := "fnThreeZero", apart := false }
def FnThreeZeroSaid : Prop := fnThreeZeroRow.holds Try.pinned (OpenSpec.ofChange fnThreeZeroSpec)

/-- ITS FALSE NEIGHBOUR: 'it returns false'. Refute it at one input. -/
def fnThreeZeroWrong : ChangeSpec := { name := "fnThreeZero", fn := fun _ => fun
  | [d] => { results := [.lit (.bool false)], args := [d] }
  | _ => none }
def FnThreeZeroWrongFalsely : Prop := fnThreeZeroRow.holds Try.pinned (OpenSpec.ofChange fnThreeZeroWrong)

/-- 'laws.FnThreeNeg': WHATEVER THE INPUT: true; the input reads as it did. -/
def fnThreeNegSpec : ChangeSpec := { name := "fnThreeNeg", fn := fun _ => fun
  | [d] => { results := [.lit (.bool true)], args := [d] }
  | _ => none }
def fnThreeNegRow : OpenClaim := { program := "ytbidmnbnnkjgoaa", sum := "8a47b25443e21cc31587fb4971b9ced636a9889e9f9a8af6ea455d1a9cc901cf", func := "loop.example/atomicspectra/laws.FnThreeNeg", spec := "fnThreeNeg", apart := false }
def FnThreeNegSaid : Prop := fnThreeNegRow.holds Try.pinned (OpenSpec.ofChange fnThreeNegSpec)

/-- ITS FALSE NEIGHBOUR: 'it returns false'. Refute it at one input. -/
def fnThreeNegWrong : ChangeSpec := { name := "fnThreeNeg", fn := fun _ => fun
  | [d] => { results := [.lit (.bool false)], args := [d] }
  | _ => none }
def FnThreeNegWrongFalsely : Prop := fnThreeNegRow.holds Try.pinned (OpenSpec.ofChange fnThreeNegWrong)

/-- 'laws.FnThreeSwap': WHATEVER THE INPUT: true; the input reads as it did. -/
def fnThreeSwapSpec : ChangeSpec := { name := "fnThreeSwap", fn := fun _ => fun
  | [d] => { results := [.lit (.bool true)], args := [d] }
  | _ => none }
def fnThreeSwapRow : OpenClaim := { program := "ytbidmnbnnkjgoaa", sum := "8a47b25443e21cc31587fb4971b9ced636a9889e9f9a8af6ea455d1a9cc901cf", func := "loop.example/atomicspectra/laws.FnThreeSwap", spec := "fnThreeSwap", apart := false }
def FnThreeSwapSaid : Prop := fnThreeSwapRow.holds Try.pinned (OpenSpec.ofChange fnThreeSwapSpec)

/-- ITS FALSE NEIGHBOUR: 'it returns false'. Refute it at one input. -/
def fnThreeSwapWrong : ChangeSpec := { name := "fnThreeSwap", fn := fun _ => fun
  | [d] => { results := [.lit (.bool false)], args := [d] }
  | _ => none }
def FnThreeSwapWrongFalsely : Prop := fnThreeSwapRow.holds Try.pinned (OpenSpec.ofChange fnThreeSwapWrong)

/-- 'laws.FnThreeClebsch': WHATEVER THE INPUT: true; the input reads as it did. -/
def fnThreeClebschSpec : ChangeSpec := { name := "fnThreeClebsch", fn := fun _ => fun
  | [d] => { results := [.lit (.bool true)], args := [d] }
  | _ => none }
def fnThreeClebschRow : OpenClaim := { program := "ytbidmnbnnkjgoaa", sum := "8a47b25443e21cc31587fb4971b9ced636a9889e9f9a8af6ea455d1a9cc901cf", func := "loop.example/atomicspectra/laws.FnThreeClebsch", spec := "fnThreeClebsch", apart := false }
def FnThreeClebschSaid : Prop := fnThreeClebschRow.holds Try.pinned (OpenSpec.ofChange fnThreeClebschSpec)

/-- ITS FALSE NEIGHBOUR: 'it returns false'. Refute it at one input. -/
def fnThreeClebschWrong : ChangeSpec := { name := "fnThreeClebsch", fn := fun _ => fun
  | [d] => { results := [.lit (.bool false)], args := [d] }
  | _ => none }
def FnThreeClebschWrongFalsely : Prop := fnThreeClebschRow.holds Try.pinned (OpenSpec.ofChange fnThreeClebschWrong)

/-- 'laws.FnThreeNone': WHATEVER THE INPUT: true; the input reads as it did. -/
def fnThreeNoneSpec : ChangeSpec := { name := "fnThreeNone", fn := fun _ => fun
  | [d] => { results := [.lit (.bool true)], args := [d] }
  | _ => none }
def fnThreeNoneRow : OpenClaim := { program := "ytbidmnbnnkjgoaa", sum := "8a47b25443e21cc31587fb4971b9ced636a9889e9f9a8af6ea455d1a9cc901cf", func := "loop.example/atomicspectra/laws.FnThreeNone", spec := "fnThreeNone", apart := false }
def FnThreeNoneSaid : Prop := fnThreeNoneRow.holds Try.pinned (OpenSpec.ofChange fnThreeNoneSpec)

/-- ITS FALSE NEIGHBOUR: 'it returns false'. Refute it at one input. -/
def fnThreeNoneWrong : ChangeSpec := { name := "fnThreeNone", fn := fun _ => fun
  | [d] => { results := [.lit (.bool false)], args := [d] }
  | _ => none }
def FnThreeNoneWrongFalsely : Prop := fnThreeNoneRow.holds Try.pinned (OpenSpec.ofChange fnThreeNoneWrong)

/-- 'laws.FnThreeSumOne': WHATEVER THE INPUT: true; the input reads as it did. -/
def fnThreeSumOneSpec : ChangeSpec := { name := "fnThreeSumOne", fn := fun _ => fun
  | [d] => { results := [.lit (.bool true)], args := [d] }
  | _ => none }
def fnThreeSumOneRow : OpenClaim := { program := "ytbidmnbnnkjgoaa", sum := "8a47b25443e21cc31587fb4971b9ced636a9889e9f9a8af6ea455d1a9cc901cf", func := "loop.example/atomicspectra/laws.FnThreeSumOne", spec := "fnThreeSumOne", apart := false }
def FnThreeSumOneSaid : Prop := fnThreeSumOneRow.holds Try.pinned (OpenSpec.ofChange fnThreeSumOneSpec)

/-- ITS FALSE NEIGHBOUR: 'it returns false'. Refute it at one input. -/
def fnThreeSumOneWrong : ChangeSpec := { name := "fnThreeSumOne", fn := fun _ => fun
  | [d] => { results := [.lit (.bool false)], args := [d] }
  | _ => none }
def FnThreeSumOneWrongFalsely : Prop := fnThreeSumOneRow.holds Try.pinned (OpenSpec.ofChange fnThreeSumOneWrong)

/-- 'laws.FnExactThreeSum': WHATEVER THE INPUT: true; the input reads as it did. -/
def fnExactThreeSumSpec : ChangeSpec := { name := "fnExactThreeSum", fn := fun _ => fun
  | [d1, d2, d3] => { results := [.lit (.bool true)], args := [d1, d2, d3] }
  | _ => none }
def fnExactThreeSumRow : OpenClaim := { program := "ytbidmnbnnkjgoaa", sum := "8a47b25443e21cc31587fb4971b9ced636a9889e9f9a8af6ea455d1a9cc901cf", func := "loop.example/atomicspectra/laws.FnExactThreeSum", spec := "fnExactThreeSum", unfollowed := true, recurses := true, apart := false }
def FnExactThreeSumSaid : Prop := fnExactThreeSumRow.holds Try.pinned (OpenSpec.ofChange fnExactThreeSumSpec)

/-- ITS FALSE NEIGHBOUR: 'it returns false'. Refute it at one input. -/
def fnExactThreeSumWrong : ChangeSpec := { name := "fnExactThreeSum", fn := fun _ => fun
  | [d1, d2, d3] => { results := [.lit (.bool false)], args := [d1, d2, d3] }
  | _ => none }
def FnExactThreeSumWrongFalsely : Prop := fnExactThreeSumRow.holds Try.pinned (OpenSpec.ofChange fnExactThreeSumWrong)

/-- 'laws.FnThreeSum': WHATEVER THE INPUT: true; the input reads as it did. -/
def fnThreeSumSpec : ChangeSpec := { name := "fnThreeSum", fn := fun _ => fun
  | [d] => { results := [.lit (.bool true)], args := [d] }
  | _ => none }
def fnThreeSumRow : OpenClaim := { program := "ytbidmnbnnkjgoaa", sum := "8a47b25443e21cc31587fb4971b9ced636a9889e9f9a8af6ea455d1a9cc901cf", func := "loop.example/atomicspectra/laws.FnThreeSum", spec := "fnThreeSum", unfollowed := true, recurses := true, apart := false }
def FnThreeSumSaid : Prop := fnThreeSumRow.holds Try.pinned (OpenSpec.ofChange fnThreeSumSpec)

/-- ITS FALSE NEIGHBOUR: 'it returns false'. Refute it at one input. -/
def fnThreeSumWrong : ChangeSpec := { name := "fnThreeSum", fn := fun _ => fun
  | [d] => { results := [.lit (.bool false)], args := [d] }
  | _ => none }
def FnThreeSumWrongFalsely : Prop := fnThreeSumRow.holds Try.pinned (OpenSpec.ofChange fnThreeSumWrong)

/- THE SECOND FORM. 'bulk': how many values and letters a reading holds, each counted each time it is reached (what is shared counts as often as it is met; a slice's spare places count too). A statement '..UptoSaid' is the law's where the arguments, and the package variables that the reading takes, are together of bulk at most 1048576: NARROWER than '..Said'. Prove '..Said' where nothing that the law and all that it calls make is longer than what came in: it says more and counts as full. Else prove '..UptoSaid'. A law counts once. -/
mutual
def uptoBulk {H : Type} : DataW H → Nat
  | .lit (.string bytes) => bytes.length + 1
  | .lit _ => 1
  | .nil => 1
  | .ptr d => uptoBulk d + 1
  | .slice elems spare => uptoBulkAll elems + uptoBulkAll spare + 1
  | .agg parts => uptoBulkAll parts + 1
  | .iface _ d => uptoBulk d + 1
  | .map entries => uptoBulkEntries entries + 1
  | .held _ => 1
def uptoBulkAll {H : Type} : List (DataW H) → Nat
  | [] => 0
  | d :: r => uptoBulk d + uptoBulkAll r
def uptoBulkEntries {H : Type} : List (Lit × DataW H) → Nat
  | [] => 0
  | x :: r => uptoBulkEntry x + uptoBulkEntries r
def uptoBulkEntry {H : Type} : Lit × DataW H → Nat
  | (.string bytes, d) => bytes.length + uptoBulk d + 1
  | (_, d) => uptoBulk d + 1
 end
def uptoSmall : (H : Type) → List (DataW H) → Bool := fun _ ds => decide (uptoBulkAll ds ≤ 1048576)
def OpenSpec.upto (s : _root_.Go.ChangeSpec) : _root_.Go.OpenSpec := { _root_.Go.OpenSpec.ofChange s with cond := some uptoSmall }

/-- 'laws.FnClebschWhole', WHERE WHAT IT READS IS OF BULK AT MOST 1048576: true; the input reads as it did. -/
def fnClebschWholeUptoRow : OpenClaim := { program := "ytbidmnbnnkjgoaa", sum := "8a47b25443e21cc31587fb4971b9ced636a9889e9f9a8af6ea455d1a9cc901cf", func := "loop.example/atomicspectra/laws.FnClebschWhole", spec := "fnClebschWhole", apart := false, narrowed := true }
def FnClebschWholeUptoSaid : Prop := fnClebschWholeUptoRow.holds Try.pinned (OpenSpec.upto fnClebschWholeSpec)

/-- 'laws.FnClebschSquares', WHERE WHAT IT READS IS OF BULK AT MOST 1048576: true; the input reads as it did. -/
def fnClebschSquaresUptoRow : OpenClaim := { program := "ytbidmnbnnkjgoaa", sum := "8a47b25443e21cc31587fb4971b9ced636a9889e9f9a8af6ea455d1a9cc901cf", func := "loop.example/atomicspectra/laws.FnClebschSquares", spec := "fnClebschSquares", apart := false, narrowed := true }
def FnClebschSquaresUptoSaid : Prop := fnClebschSquaresUptoRow.holds Try.pinned (OpenSpec.upto fnClebschSquaresSpec)

/-- 'laws.FnExactThreeJ', WHERE WHAT IT READS IS OF BULK AT MOST 1048576: true; the input reads as it did. -/
def fnExactThreeJUptoRow : OpenClaim := { program := "ytbidmnbnnkjgoaa", sum := "8a47b25443e21cc31587fb4971b9ced636a9889e9f9a8af6ea455d1a9cc901cf", func := "loop.example/atomicspectra/laws.FnExactThreeJ", spec := "fnExactThreeJ", apart := false, narrowed := true }
def FnExactThreeJUptoSaid : Prop := fnExactThreeJUptoRow.holds Try.pinned (OpenSpec.upto fnExactThreeJSpec)

/-- 'laws.FnThreeTurn', WHERE WHAT IT READS IS OF BULK AT MOST 1048576: true; the input reads as it did. -/
def fnThreeTurnUptoRow : OpenClaim := { program := "ytbidmnbnnkjgoaa", sum := "8a47b25443e21cc31587fb4971b9ced636a9889e9f9a8af6ea455d1a9cc901cf", func := "loop.example/atomicspectra/laws.FnThreeTurn", spec := "fnThreeTurn", apart := false, narrowed := true }
def FnThreeTurnUptoSaid : Prop := fnThreeTurnUptoRow.holds Try.pinned (OpenSpec.upto fnThreeTurnSpec)

/-- 'laws.FnThreeZero', WHERE WHAT IT READS IS OF BULK AT MOST 1048576: true; the input reads as it did. -/
def fnThreeZeroUptoRow : OpenClaim := { program := "ytbidmnbnnkjgoaa", sum := "8a47b25443e21cc31587fb4971b9ced636a9889e9f9a8af6ea455d1a9cc901cf", func := "loop.example/atomicspectra/laws.FnThreeZero", spec := "fnThreeZero", apart := false, narrowed := true }
def FnThreeZeroUptoSaid : Prop := fnThreeZeroUptoRow.holds Try.pinned (OpenSpec.upto fnThreeZeroSpec)

/-- 'laws.FnThreeNeg', WHERE WHAT IT READS IS OF BULK AT MOST 1048576: true; the input reads as it did. -/
def fnThreeNegUptoRow : OpenClaim := { program := "ytbidmnbnnkjgoaa", sum := "8a47b25443e21cc31587fb4971b9ced636a9889e9f9a8af6ea455d1a9cc901cf", func := "loop.example/atomicspectra/laws.FnThreeNeg", spec := "fnThreeNeg", apart := false, narrowed := true }
def FnThreeNegUptoSaid : Prop := fnThreeNegUptoRow.holds Try.pinned (OpenSpec.upto fnThreeNegSpec)

/-- 'laws.FnThreeSwap', WHERE WHAT IT READS IS OF BULK AT MOST 1048576: true; the input reads as it did. -/
def fnThreeSwapUptoRow : OpenClaim := { program := "ytbidmnbnnkjgoaa", sum := "8a47b25443e21cc31587fb4971b9ced636a9889e9f9a8af6ea455d1a9cc901cf", func := "loop.example/atomicspectra/laws.FnThreeSwap", spec := "fnThreeSwap", apart := false, narrowed := true }
def FnThreeSwapUptoSaid : Prop := fnThreeSwapUptoRow.holds Try.pinned (OpenSpec.upto fnThreeSwapSpec)

/-- 'laws.FnThreeClebsch', WHERE WHAT IT READS IS OF BULK AT MOST 1048576: true; the input reads as it did. -/
def fnThreeClebschUptoRow : OpenClaim := { program := "ytbidmnbnnkjgoaa", sum := "8a47b25443e21cc31587fb4971b9ced636a9889e9f9a8af6ea455d1a9cc901cf", func := "loop.example/atomicspectra/laws.FnThreeClebsch", spec := "fnThreeClebsch", apart := false, narrowed := true }
def FnThreeClebschUptoSaid : Prop := fnThreeClebschUptoRow.holds Try.pinned (OpenSpec.upto fnThreeClebschSpec)

/-- 'laws.FnThreeNone', WHERE WHAT IT READS IS OF BULK AT MOST 1048576: true; the input reads as it did. -/
def fnThreeNoneUptoRow : OpenClaim := { program := "ytbidmnbnnkjgoaa", sum := "8a47b25443e21cc31587fb4971b9ced636a9889e9f9a8af6ea455d1a9cc901cf", func := "loop.example/atomicspectra/laws.FnThreeNone", spec := "fnThreeNone", apart := false, narrowed := true }
def FnThreeNoneUptoSaid : Prop := fnThreeNoneUptoRow.holds Try.pinned (OpenSpec.upto fnThreeNoneSpec)

/-- 'laws.FnThreeSumOne', WHERE WHAT IT READS IS OF BULK AT MOST 1048576: true; the input reads as it did. -/
def fnThreeSumOneUptoRow : OpenClaim := { program := "ytbidmnbnnkjgoaa", sum := "8a47b25443e21cc31587fb4971b9ced636a9889e9f9a8af6ea455d1a9cc901cf", func := "loop.example/atomicspectra/laws.FnThreeSumOne", spec := "fnThreeSumOne", apart := false, narrowed := true }
def FnThreeSumOneUptoSaid : Prop := fnThreeSumOneUptoRow.holds Try.pinned (OpenSpec.upto fnThreeSumOneSpec)

/-- 'laws.FnExactThreeSum', WHERE WHAT IT READS IS OF BULK AT MOST 1048576: true; the input reads as it did. -/
def fnExactThreeSumUptoRow : OpenClaim := { program := "ytbidmnbnnkjgoaa", sum := "8a47b25443e21cc31587fb4971b9ced636a9889e9f9a8af6ea455d1a9cc901cf", func := "loop.example/atomicspectra/laws.FnExactThreeSum", spec := "fnExactThreeSum", unfollowed := true, recurses := true, apart := false, narrowed := true }
def FnExactThreeSumUptoSaid : Prop := fnExactThreeSumUptoRow.holds Try.pinned (OpenSpec.upto fnExactThreeSumSpec)

/-- 'laws.FnThreeSum', WHERE WHAT IT READS IS OF BULK AT MOST 1048576: true; the input reads as it did. -/
def fnThreeSumUptoRow : OpenClaim := { program := "ytbidmnbnnkjgoaa", sum := "8a47b25443e21cc31587fb4971b9ced636a9889e9f9a8af6ea455d1a9cc901cf", func := "loop.example/atomicspectra/laws.FnThreeSum", spec := "fnThreeSum", unfollowed := true, recurses := true, apart := false, narrowed := true }
def FnThreeSumUptoSaid : Prop := fnThreeSumUptoRow.holds Try.pinned (OpenSpec.upto fnThreeSumSpec)

end Rows
end Go.Proofs.Ytbidmnbnnkjgoaa
