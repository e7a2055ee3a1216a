/-
  No cell of these rows narrows 'for every input' (looked for: loops, veiled, ifaces, maps, wideKeys, modest, calm, conditions, laid).
  DERIVED. THE GIVEN ROWS OF THIS SEAT. 6 by the template 'for every input the law returns true; each argument reads behind the call as it read before'; 0 by the template 'total and deterministic' (their statements: YtjhnommmgkgjoaaTotals.lean).
  GIVEN WITH THE SEED: the statements are not yours to turn. If you find one false, say at which input.
  Laid BY PROGRAM, IN A SANDBOX (cutbox-rows.mjs): the forced cells as the released guide's own fill.sh prints them over the translation 24cf694fbae7fa56… (all of the seat's roots in one cut). By AI agents, Wed Nov 11 2026. No macro, syntax, notation, axiom, sorry.
-/
import Derived.Test.YtjhnommmgkgjoaaChecked
import GoSem.Claim
import GoSem.ClaimJoined
import GoSem.ClaimMapViews
import Derived.JoinedTies
import Derived.KernelRfl
namespace Go.Proofs.Ytjhnommmgkgjoaa
/- THE CELL 'sum', in the pinned program and in every row, IS THE sha256 OF THE DUMP (.gsa) THAT YtjhnommmgkgjoaaProg.lean LOADS. Nothing in Lean hashes anything: it is a label: what it is worth is what the hold of that sum in a sandbox is worth. -/
noncomputable def Try.pinned : Pinned := { name := "ytjhnommmgkgjoaa", sum := "24cf694fbae7fa56587d20a0a59d227d9150eb16ba6884d719f76ab61b5578cb", checked := Try.checked }
namespace Rows
def none {H : Type} : Left H := { results := [], args := [] }

/-- 'laws.FnClebschHyper': WHATEVER THE INPUT: true; the input reads as it did. -/
def fnClebschHyperSpec : ChangeSpec := { name := "fnClebschHyper", fn := fun _ => fun
  | [d] => { results := [.lit (.bool true)], args := [d] }
  | _ => none }
def fnClebschHyperRow : OpenClaim := { program := "ytjhnommmgkgjoaa", sum := "24cf694fbae7fa56587d20a0a59d227d9150eb16ba6884d719f76ab61b5578cb", func := "loop.example/atomicspectra/laws.FnClebschHyper", spec := "fnClebschHyper", apart := false }
def FnClebschHyperSaid : Prop := fnClebschHyperRow.holds Try.pinned (OpenSpec.ofChange fnClebschHyperSpec)

/-- ITS FALSE NEIGHBOUR: 'it returns false'. Refute it at one input. -/
def fnClebschHyperWrong : ChangeSpec := { name := "fnClebschHyper", fn := fun _ => fun
  | [d] => { results := [.lit (.bool false)], args := [d] }
  | _ => none }
def FnClebschHyperWrongFalsely : Prop := fnClebschHyperRow.holds Try.pinned (OpenSpec.ofChange fnClebschHyperWrong)

/-- 'laws.FnClebsch': WHATEVER THE INPUT: true; the input reads as it did. -/
def fnClebschSpec : ChangeSpec := { name := "fnClebsch", fn := fun _ => fun
  | [d] => { results := [.lit (.bool true)], args := [d] }
  | _ => none }
def fnClebschRow : OpenClaim := { program := "ytjhnommmgkgjoaa", sum := "24cf694fbae7fa56587d20a0a59d227d9150eb16ba6884d719f76ab61b5578cb", func := "loop.example/atomicspectra/laws.FnClebsch", spec := "fnClebsch", apart := false }
def FnClebschSaid : Prop := fnClebschRow.holds Try.pinned (OpenSpec.ofChange fnClebschSpec)

/-- ITS FALSE NEIGHBOUR: 'it returns false'. Refute it at one input. -/
def fnClebschWrong : ChangeSpec := { name := "fnClebsch", fn := fun _ => fun
  | [d] => { results := [.lit (.bool false)], args := [d] }
  | _ => none }
def FnClebschWrongFalsely : Prop := fnClebschRow.holds Try.pinned (OpenSpec.ofChange fnClebschWrong)

/-- 'laws.FnThreeNeg': WHATEVER THE INPUT: true; the input reads as it did. -/
def fnThreeNegSpec : ChangeSpec := { name := "fnThreeNeg", fn := fun _ => fun
  | [d] => { results := [.lit (.bool true)], args := [d] }
  | _ => none }
def fnThreeNegRow : OpenClaim := { program := "ytjhnommmgkgjoaa", sum := "24cf694fbae7fa56587d20a0a59d227d9150eb16ba6884d719f76ab61b5578cb", func := "loop.example/atomicspectra/laws.FnThreeNeg", spec := "fnThreeNeg", apart := false }
def FnThreeNegSaid : Prop := fnThreeNegRow.holds Try.pinned (OpenSpec.ofChange fnThreeNegSpec)

/-- ITS FALSE NEIGHBOUR: 'it returns false'. Refute it at one input. -/
def fnThreeNegWrong : ChangeSpec := { name := "fnThreeNeg", fn := fun _ => fun
  | [d] => { results := [.lit (.bool false)], args := [d] }
  | _ => none }
def FnThreeNegWrongFalsely : Prop := fnThreeNegRow.holds Try.pinned (OpenSpec.ofChange fnThreeNegWrong)

/-- 'laws.FnExactThreeSum': WHATEVER THE INPUT: true; the input reads as it did. -/
def fnExactThreeSumSpec : ChangeSpec := { name := "fnExactThreeSum", fn := fun _ => fun
  | [d1, d2, d3] => { results := [.lit (.bool true)], args := [d1, d2, d3] }
  | _ => none }
def fnExactThreeSumRow : OpenClaim := { program := "ytjhnommmgkgjoaa", sum := "24cf694fbae7fa56587d20a0a59d227d9150eb16ba6884d719f76ab61b5578cb", func := "loop.example/atomicspectra/laws.FnExactThreeSum", spec := "fnExactThreeSum", unfollowed := true, recurses := true, apart := false }
def FnExactThreeSumSaid : Prop := fnExactThreeSumRow.holds Try.pinned (OpenSpec.ofChange fnExactThreeSumSpec)

/-- ITS FALSE NEIGHBOUR: 'it returns false'. Refute it at one input. -/
def fnExactThreeSumWrong : ChangeSpec := { name := "fnExactThreeSum", fn := fun _ => fun
  | [d1, d2, d3] => { results := [.lit (.bool false)], args := [d1, d2, d3] }
  | _ => none }
def FnExactThreeSumWrongFalsely : Prop := fnExactThreeSumRow.holds Try.pinned (OpenSpec.ofChange fnExactThreeSumWrong)

/-- 'laws.FnThreeNone': WHATEVER THE INPUT: true; the input reads as it did. -/
def fnThreeNoneSpec : ChangeSpec := { name := "fnThreeNone", fn := fun _ => fun
  | [d] => { results := [.lit (.bool true)], args := [d] }
  | _ => none }
def fnThreeNoneRow : OpenClaim := { program := "ytjhnommmgkgjoaa", sum := "24cf694fbae7fa56587d20a0a59d227d9150eb16ba6884d719f76ab61b5578cb", func := "loop.example/atomicspectra/laws.FnThreeNone", spec := "fnThreeNone", apart := false }
def FnThreeNoneSaid : Prop := fnThreeNoneRow.holds Try.pinned (OpenSpec.ofChange fnThreeNoneSpec)

/-- ITS FALSE NEIGHBOUR: 'it returns false'. Refute it at one input. -/
def fnThreeNoneWrong : ChangeSpec := { name := "fnThreeNone", fn := fun _ => fun
  | [d] => { results := [.lit (.bool false)], args := [d] }
  | _ => none }
def FnThreeNoneWrongFalsely : Prop := fnThreeNoneRow.holds Try.pinned (OpenSpec.ofChange fnThreeNoneWrong)

/-- 'laws.FnThreeSum': WHATEVER THE INPUT: true; the input reads as it did. -/
def fnThreeSumSpec : ChangeSpec := { name := "fnThreeSum", fn := fun _ => fun
  | [d] => { results := [.lit (.bool true)], args := [d] }
  | _ => none }
def fnThreeSumRow : OpenClaim := { program := "ytjhnommmgkgjoaa", sum := "24cf694fbae7fa56587d20a0a59d227d9150eb16ba6884d719f76ab61b5578cb", func := "loop.example/atomicspectra/laws.FnThreeSum", spec := "fnThreeSum", unfollowed := true, recurses := true, apart := false }
def FnThreeSumSaid : Prop := fnThreeSumRow.holds Try.pinned (OpenSpec.ofChange fnThreeSumSpec)

/-- ITS FALSE NEIGHBOUR: 'it returns false'. Refute it at one input. -/
def fnThreeSumWrong : ChangeSpec := { name := "fnThreeSum", fn := fun _ => fun
  | [d] => { results := [.lit (.bool false)], args := [d] }
  | _ => none }
def FnThreeSumWrongFalsely : Prop := fnThreeSumRow.holds Try.pinned (OpenSpec.ofChange fnThreeSumWrong)

/- THE SECOND FORM. 'bulk': how many values and letters a reading holds, each counted each time it is reached (what is shared counts as often as it is met; a slice's spare places count too). A statement '..UptoSaid' is the law's where the arguments, and the package variables that the reading takes, are together of bulk at most 1048576: NARROWER than '..Said'. Prove '..Said' where nothing that the law and all that it calls make is longer than what came in: it says more and counts as full. Else prove '..UptoSaid'. A law counts once. -/
mutual
def uptoBulk {H : Type} : DataW H → Nat
  | .lit (.string bytes) => bytes.length + 1
  | .lit _ => 1
  | .nil => 1
  | .ptr d => uptoBulk d + 1
  | .slice elems spare => uptoBulkAll elems + uptoBulkAll spare + 1
  | .agg parts => uptoBulkAll parts + 1
  | .iface _ d => uptoBulk d + 1
  | .map entries => uptoBulkEntries entries + 1
  | .held _ => 1
def uptoBulkAll {H : Type} : List (DataW H) → Nat
  | [] => 0
  | d :: r => uptoBulk d + uptoBulkAll r
def uptoBulkEntries {H : Type} : List (Lit × DataW H) → Nat
  | [] => 0
  | x :: r => uptoBulkEntry x + uptoBulkEntries r
def uptoBulkEntry {H : Type} : Lit × DataW H → Nat
  | (.string bytes, d) => bytes.length + uptoBulk d + 1
  | (_, d) => uptoBulk d + 1
 end
def uptoSmall : (H : Type) → List (DataW H) → Bool := fun _ ds => decide (uptoBulkAll ds ≤ 1048576)
def OpenSpec.upto (s : _root_.Go.ChangeSpec) : _root_.Go.OpenSpec := { _root_.Go.OpenSpec.ofChange s with cond := some uptoSmall }

/-- 'laws.FnClebschHyper', WHERE WHAT IT READS IS OF BULK AT MOST 1048576: true; the input reads as it did. -/
def fnClebschHyperUptoRow : OpenClaim := { program := "ytjhnommmgkgjoaa", sum := "24cf694fbae7fa56587d20a0a59d227d9150eb16ba6884d719f76ab61b5578cb", func := "loop.example/atomicspectra/laws.FnClebschHyper", spec := "fnClebschHyper", apart := false, narrowed := true }
def FnClebschHyperUptoSaid : Prop := fnClebschHyperUptoRow.holds Try.pinned (OpenSpec.upto fnClebschHyperSpec)

/-- 'laws.FnClebsch', WHERE WHAT IT READS IS OF BULK AT MOST 1048576: true; the input reads as it did. -/
def fnClebschUptoRow : OpenClaim := { program := "ytjhnommmgkgjoaa", sum := "24cf694fbae7fa56587d20a0a59d227d9150eb16ba6884d719f76ab61b5578cb", func := "loop.example/atomicspectra/laws.FnClebsch", spec := "fnClebsch", apart := false, narrowed := true }
def FnClebschUptoSaid : Prop := fnClebschUptoRow.holds Try.pinned (OpenSpec.upto fnClebschSpec)

/-- 'laws.FnThreeNeg', WHERE WHAT IT READS IS OF BULK AT MOST 1048576: true; the input reads as it did. -/
def fnThreeNegUptoRow : OpenClaim := { program := "ytjhnommmgkgjoaa", sum := "24cf694fbae7fa56587d20a0a59d227d9150eb16ba6884d719f76ab61b5578cb", func := "loop.example/atomicspectra/laws.FnThreeNeg", spec := "fnThreeNeg", apart := false, narrowed := true }
def FnThreeNegUptoSaid : Prop := fnThreeNegUptoRow.holds Try.pinned (OpenSpec.upto fnThreeNegSpec)

/-- 'laws.FnExactThreeSum', WHERE WHAT IT READS IS OF BULK AT MOST 1048576: true; the input reads as it did. -/
def fnExactThreeSumUptoRow : OpenClaim := { program := "ytjhnommmgkgjoaa", sum := "24cf694fbae7fa56587d20a0a59d227d9150eb16ba6884d719f76ab61b5578cb", func := "loop.example/atomicspectra/laws.FnExactThreeSum", spec := "fnExactThreeSum", unfollowed := true, recurses := true, apart := false, narrowed := true }
def FnExactThreeSumUptoSaid : Prop := fnExactThreeSumUptoRow.holds Try.pinned (OpenSpec.upto fnExactThreeSumSpec)

/-- 'laws.FnThreeNone', WHERE WHAT IT READS IS OF BULK AT MOST 1048576: true; the input reads as it did. -/
def fnThreeNoneUptoRow : OpenClaim := { program := "ytjhnommmgkgjoaa", sum := "24cf694fbae7fa56587d20a0a59d227d9150eb16ba6884d719f76ab61b5578cb", func := "loop.example/atomicspectra/laws.FnThreeNone", spec := "fnThreeNone", apart := false, narrowed := true }
def FnThreeNoneUptoSaid : Prop := fnThreeNoneUptoRow.holds Try.pinned (OpenSpec.upto fnThreeNoneSpec)

/-- 'laws.FnThreeSum', WHERE WHAT IT READS IS OF BULK AT MOST 1048576: true; the input reads as it did. -/
def fnThreeSumUptoRow : OpenClaim := { program := "ytjhnommmgkgjoaa", sum := "24cf694fbae7fa56587d20a0a59d227d9150eb16ba6884d719f76ab61b5578cb", func := "loop.example/atomicspectra/laws.FnThreeSum", spec := "fnThreeSum", unfollowed := true, recurses := true, apart := false, narrowed := true }
def FnThreeSumUptoSaid : Prop := fnThreeSumUptoRow.holds Try.pinned (OpenSpec.upto fnThreeSumSpec)

end Rows
end Go.Proofs.Ytjhnommmgkgjoaa
