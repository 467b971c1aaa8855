/-
  DERIVED. GIVEN WITH THE SEED: THE CARDS: each row of YtnofekfoonmedaaGreatDoorRows.lean that lists a variable, with what it lists TIED to the program's text (the seventh form; the later family's looks); each row that meets fmt, with fmt's text TOLD by the authors' own Lean function (tested against real Go, not proved from fmt's source: count such statements apart). THE CARD IS WHAT COUNTS. Prove the row's statement (the work); the ties are given (YtnofekfoonmedaaGreatDoorTie.lean); close each card by the builder's one call (the guide's Derived/Test/ToyasCard.lean, 'card_holds'). Laid BY PROGRAM, IN A SANDBOX (cutbox-door.mjs). By AI agents, Wed Nov 11 2026. No macro, syntax, notation, axiom, sorry.
-/
import Derived.Test.YtnofekfoonmedaaGreatDoorRows
import GoSem.ClaimSeven
namespace Go.Proofs.YtnofekfoonmedaaGreatDoor
namespace Rows

/-- THE TIED CARD OF 'laws.FnChordsPaired'. -/
def fnChordsPairedCard : Claim7 := { stood := { row := fnChordsPairedRow, standIns := [], harness := (true, "91b14d875d1601817d9734f964a9b8a72b585d5907ae2c9b13438cade8f1dd34"), looks := true }, kinds := [], alts := [], laidByText := true, laidKinds := [.data, .data, .data, .data, .sentinel, .sentinel, .pinned], laidTests := true, laidLooks := .later }
def FnChordsPairedCardSaid : Prop := Claim7.holds Tryz.pinned (.plain (OpenSpec.ofChange fnChordsPairedSpec)) fnChordsPairedCard

/-- THE SECOND FORM's CARD OF 'laws.FnChordsPaired'. -/
def fnChordsPairedUptoCard : Claim7 := { stood := { row := fnChordsPairedUptoRow, standIns := [], harness := (true, "91b14d875d1601817d9734f964a9b8a72b585d5907ae2c9b13438cade8f1dd34"), looks := true }, kinds := [], alts := [], laidByText := true, laidKinds := [.data, .data, .data, .data, .sentinel, .sentinel, .pinned], laidTests := true, laidLooks := .later }
def FnChordsPairedUptoCardSaid : Prop := Claim7.holds Tryz.pinned (.plain (OpenSpec.upto fnChordsPairedSpec)) fnChordsPairedUptoCard
end Rows
end Go.Proofs.YtnofekfoonmedaaGreatDoor
