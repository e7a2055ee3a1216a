/-
  DERIVED. GIVEN WITH THE SEED: THE CARDS: each row of YtcmbilddlbejgaaDoorRows.lean that lists a variable, with what it lists TIED to the program's text (the seventh form; the later family's looks); each row that meets fmt, with fmt's text TOLD by the authors' own Lean function (tested against real Go, not proved from fmt's source: count such statements apart). THE CARD IS WHAT COUNTS. Prove the row's statement (the work); the ties are given (YtcmbilddlbejgaaDoorTie.lean); close each card by the builder's one call (the guide's Derived/Test/ToyasCard.lean, 'card_holds'). Laid BY PROGRAM, IN A SANDBOX (cutbox-door.mjs). By AI agents, Wed Nov 11 2026. No macro, syntax, notation, axiom, sorry.
-/
import Derived.Test.YtcmbilddlbejgaaDoorRows
import GoSem.ClaimSeven
namespace Go.Proofs.YtcmbilddlbejgaaDoor
namespace Rows

/-- THE TIED CARD OF 'laws.FnHundTerm'. -/
def fnHundTermCard : Claim7 := { stood := { row := fnHundTermRow, standIns := [], harness := (true, "1a9fcbe546f0d48533c25e523282d32be515497b0e278d40a79a4e9fee16d4fd"), looks := false }, kinds := [], alts := [], laidByText := true, laidKinds := [.data, .data], laidTests := true, laidLooks := .later }
def FnHundTermCardSaid : Prop := Claim7.holds Tryd.pinned (.plain (OpenSpec.ofChange fnHundTermSpec)) fnHundTermCard

/-- THE SECOND FORM's CARD OF 'laws.FnHundTerm'. -/
def fnHundTermUptoCard : Claim7 := { stood := { row := fnHundTermUptoRow, standIns := [], harness := (true, "1a9fcbe546f0d48533c25e523282d32be515497b0e278d40a79a4e9fee16d4fd"), looks := false }, kinds := [], alts := [], laidByText := true, laidKinds := [.data, .data], laidTests := true, laidLooks := .later }
def FnHundTermUptoCardSaid : Prop := Claim7.holds Tryd.pinned (.plain (OpenSpec.upto fnHundTermSpec)) fnHundTermUptoCard
end Rows
end Go.Proofs.YtcmbilddlbejgaaDoor
