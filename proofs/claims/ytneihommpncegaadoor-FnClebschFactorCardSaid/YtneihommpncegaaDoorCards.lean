/-
  DERIVED. GIVEN WITH THE SEED: THE CARDS: each row of YtneihommpncegaaDoorRows.lean that lists a variable, with what it lists TIED to the program's text (the seventh form; the later family's looks); each row that meets fmt, with fmt's text TOLD by the authors' own Lean function (tested against real Go, not proved from fmt's source: count such statements apart). THE CARD IS WHAT COUNTS. Prove the row's statement (the work); the ties are given (YtneihommpncegaaDoorTie.lean); close each card by the builder's one call (the guide's Derived/Test/ToyasCard.lean, 'card_holds'). Laid BY PROGRAM, IN A SANDBOX (cutbox-door.mjs). By AI agents, Wed Nov 11 2026. No macro, syntax, notation, axiom, sorry.
-/
import Derived.Test.YtneihommpncegaaDoorRows
import GoSem.ClaimSeven
namespace Go.Proofs.YtneihommpncegaaDoor
namespace Rows

/-- THE TIED CARD OF 'laws.FnClebschFactor'. -/
def fnClebschFactorCard : Claim7 := { stood := { row := fnClebschFactorRow, standIns := [], harness := (true, "f1279fd98826ac8b6bf5a50bd7458abb4ede90469c2c82c3522c2edbdf87ba96"), looks := false }, kinds := [], alts := [], laidByText := true, laidKinds := [.sentinel, .sentinel], laidTests := true, laidLooks := .later }
def FnClebschFactorCardSaid : Prop := Claim7.holds Tryd.pinned (.plain (OpenSpec.ofChange fnClebschFactorSpec)) fnClebschFactorCard

/-- THE SECOND FORM's CARD OF 'laws.FnClebschFactor'. -/
def fnClebschFactorUptoCard : Claim7 := { stood := { row := fnClebschFactorUptoRow, standIns := [], harness := (true, "f1279fd98826ac8b6bf5a50bd7458abb4ede90469c2c82c3522c2edbdf87ba96"), looks := false }, kinds := [], alts := [], laidByText := true, laidKinds := [.sentinel, .sentinel], laidTests := true, laidLooks := .later }
def FnClebschFactorUptoCardSaid : Prop := Claim7.holds Tryd.pinned (.plain (OpenSpec.upto fnClebschFactorSpec)) fnClebschFactorUptoCard
end Rows
end Go.Proofs.YtneihommpncegaaDoor
