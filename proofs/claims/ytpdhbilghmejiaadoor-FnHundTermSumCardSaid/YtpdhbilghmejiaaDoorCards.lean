/-
  DERIVED. GIVEN WITH THE SEED: THE CARDS: each row of YtpdhbilghmejiaaDoorRows.lean that lists a variable, with what it lists TIED to the program's text (the seventh form; the later family's looks); each row that meets fmt, with fmt's text TOLD by the authors' own Lean function (tested against real Go, not proved from fmt's source: count such statements apart). THE CARD IS WHAT COUNTS. Prove the row's statement (the work); the ties are given (YtpdhbilghmejiaaDoorTie.lean); close each card by the builder's one call (the guide's Derived/Test/ToyasCard.lean, 'card_holds'). Laid BY PROGRAM, IN A SANDBOX (cutbox-door.mjs). By AI agents, Wed Nov 11 2026. No macro, syntax, notation, axiom, sorry.
-/
import Derived.Test.YtpdhbilghmejiaaDoorRows
import GoSem.ClaimSeven
namespace Go.Proofs.YtpdhbilghmejiaaDoor
namespace Rows

/-- THE TIED CARD OF 'laws.FnHundTermSum'. -/
def fnHundTermSumCard : Claim7 := { stood := { row := fnHundTermSumRow, standIns := [], harness := (true, "264b4b36e51f9afe8ef1a20275307891231847ff7aad487481f636f9a5a78d53"), looks := false }, kinds := [], alts := [], laidByText := true, laidKinds := [.data, .data], laidTests := true, laidLooks := .later }
def FnHundTermSumCardSaid : Prop := Claim7.holds Tryd.pinned (.plain (OpenSpec.ofChange fnHundTermSumSpec)) fnHundTermSumCard

/-- THE TIED CARD OF 'laws.FnHundTerm'. -/
def fnHundTermCard : Claim7 := { stood := { row := fnHundTermRow, standIns := [], harness := (true, "264b4b36e51f9afe8ef1a20275307891231847ff7aad487481f636f9a5a78d53"), looks := false }, kinds := [], alts := [], laidByText := true, laidKinds := [.data, .data], laidTests := true, laidLooks := .later }
def FnHundTermCardSaid : Prop := Claim7.holds Tryd.pinned (.plain (OpenSpec.ofChange fnHundTermSpec)) fnHundTermCard

/-- THE SECOND FORM's CARD OF 'laws.FnHundTermSum'. -/
def fnHundTermSumUptoCard : Claim7 := { stood := { row := fnHundTermSumUptoRow, standIns := [], harness := (true, "264b4b36e51f9afe8ef1a20275307891231847ff7aad487481f636f9a5a78d53"), looks := false }, kinds := [], alts := [], laidByText := true, laidKinds := [.data, .data], laidTests := true, laidLooks := .later }
def FnHundTermSumUptoCardSaid : Prop := Claim7.holds Tryd.pinned (.plain (OpenSpec.upto fnHundTermSumSpec)) fnHundTermSumUptoCard

/-- THE SECOND FORM's CARD OF 'laws.FnHundTerm'. -/
def fnHundTermUptoCard : Claim7 := { stood := { row := fnHundTermUptoRow, standIns := [], harness := (true, "264b4b36e51f9afe8ef1a20275307891231847ff7aad487481f636f9a5a78d53"), looks := false }, kinds := [], alts := [], laidByText := true, laidKinds := [.data, .data], laidTests := true, laidLooks := .later }
def FnHundTermUptoCardSaid : Prop := Claim7.holds Tryd.pinned (.plain (OpenSpec.upto fnHundTermSpec)) fnHundTermUptoCard
end Rows
end Go.Proofs.YtpdhbilghmejiaaDoor
