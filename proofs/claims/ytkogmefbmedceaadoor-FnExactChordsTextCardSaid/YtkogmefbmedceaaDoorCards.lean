/-
  DERIVED. GIVEN WITH THE SEED: THE CARDS: each row of YtkogmefbmedceaaDoorRows.lean that lists a variable, with what it lists TIED to the program's text (the seventh form; the later family's looks); each row that meets fmt, with fmt's text TOLD by the authors' own Lean function (tested against real Go, not proved from fmt's source: count such statements apart). THE CARD IS WHAT COUNTS. Prove the row's statement (the work); the ties are given (YtkogmefbmedceaaDoorTie.lean); close each card by the builder's one call (the guide's Derived/Test/ToyasCard.lean, 'card_holds'). Laid BY PROGRAM, IN A SANDBOX (cutbox-door.mjs). By AI agents, Wed Nov 11 2026. No macro, syntax, notation, axiom, sorry.
-/
import Derived.Test.YtkogmefbmedceaaDoorRows
import GoSem.ClaimSeven
namespace Go.Proofs.YtkogmefbmedceaaDoor
namespace Rows

/-- THE TIED CARD OF 'laws.FnExactChordsText'. -/
def fnExactChordsTextCard : Claim7 := { stood := { row := fnExactChordsTextRow, standIns := [], harness := (true, "891602e9b78fdad24ed6e4114a42d7ff047cd4bf2c221899bb7a07ae87a43f5d"), looks := false }, kinds := [], alts := [], laidByText := true, laidKinds := [.data, .data, .data], laidTests := true, laidLooks := .later }
def FnExactChordsTextCardSaid : Prop := Claim7.holds Tryd.pinned (.plain (OpenSpec.ofChange fnExactChordsTextSpec)) fnExactChordsTextCard

/-- THE SECOND FORM's CARD OF 'laws.FnExactChordsText'. -/
def fnExactChordsTextUptoCard : Claim7 := { stood := { row := fnExactChordsTextUptoRow, standIns := [], harness := (true, "891602e9b78fdad24ed6e4114a42d7ff047cd4bf2c221899bb7a07ae87a43f5d"), looks := false }, kinds := [], alts := [], laidByText := true, laidKinds := [.data, .data, .data], laidTests := true, laidLooks := .later }
def FnExactChordsTextUptoCardSaid : Prop := Claim7.holds Tryd.pinned (.plain (OpenSpec.upto fnExactChordsTextSpec)) fnExactChordsTextUptoCard
end Rows
end Go.Proofs.YtkogmefbmedceaaDoor
