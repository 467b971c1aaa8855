/-
  DERIVED. GIVEN WITH THE SEED: THE CARDS: each row of YthmhfagnenoibaaGreatDoorRows.lean that lists a variable, with what it lists TIED to the program's text (the seventh form; the later family's looks); each row that meets fmt, with fmt's text TOLD by the authors' own Lean function (tested against real Go, not proved from fmt's source: count such statements apart). THE CARD IS WHAT COUNTS. Prove the row's statement (the work); the ties are given (YthmhfagnenoibaaGreatDoorTie.lean); close each card by the builder's one call (the guide's Derived/Test/ToyasCard.lean, 'card_holds'). Laid BY PROGRAM, IN A SANDBOX (cutbox-door.mjs). By AI agents, Wed Nov 11 2026. No macro, syntax, notation, axiom, sorry.
-/
import Derived.Test.YthmhfagnenoibaaGreatDoorRows
import GoSem.ClaimSeven
namespace Go.Proofs.YthmhfagnenoibaaGreatDoor
namespace Rows

/-- THE TIED CARD OF 'laws.FnStarsString'. -/
def fnStarsStringCard : Claim7 := { stood := { row := fnStarsStringRow, standIns := [], harness := (true, "158092000e123f572c90c3cdab5177f5aaeacedfa49466b35bd922e34b4f7709"), looks := true }, kinds := [], alts := [], laidByText := true, laidKinds := [.data, .data, .data, .sentinel, .sentinel], laidTests := true, laidLooks := .later }
def FnStarsStringCardSaid : Prop := Claim7.holds Tryz.pinned (.plain (OpenSpec.ofChange fnStarsStringSpec)) fnStarsStringCard

/-- THE SECOND FORM's CARD OF 'laws.FnStarsString'. -/
def fnStarsStringUptoCard : Claim7 := { stood := { row := fnStarsStringUptoRow, standIns := [], harness := (true, "158092000e123f572c90c3cdab5177f5aaeacedfa49466b35bd922e34b4f7709"), looks := true }, kinds := [], alts := [], laidByText := true, laidKinds := [.data, .data, .data, .sentinel, .sentinel], laidTests := true, laidLooks := .later }
def FnStarsStringUptoCardSaid : Prop := Claim7.holds Tryz.pinned (.plain (OpenSpec.upto fnStarsStringSpec)) fnStarsStringUptoCard
end Rows
end Go.Proofs.YthmhfagnenoibaaGreatDoor
