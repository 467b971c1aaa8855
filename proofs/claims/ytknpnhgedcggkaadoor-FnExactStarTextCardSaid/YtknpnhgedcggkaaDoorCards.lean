/-
  DERIVED. GIVEN WITH THE SEED: THE CARDS: each row of YtknpnhgedcggkaaDoorRows.lean that lists a variable, with what it lists TIED to the program's text (the seventh form; the later family's looks); each row that meets fmt, with fmt's text TOLD by the authors' own Lean function (tested against real Go, not proved from fmt's source: count such statements apart). THE CARD IS WHAT COUNTS. Prove the row's statement (the work); the ties are given (YtknpnhgedcggkaaDoorTie.lean); close each card by the builder's one call (the guide's Derived/Test/ToyasCard.lean, 'card_holds'). Laid BY PROGRAM, IN A SANDBOX (cutbox-door.mjs). By AI agents, Wed Nov 11 2026. No macro, syntax, notation, axiom, sorry.
-/
import Derived.Test.YtknpnhgedcggkaaDoorRows
import GoSem.ClaimSeven
namespace Go.Proofs.YtknpnhgedcggkaaDoor
namespace Rows

/-- THE TIED CARD OF 'laws.FnExactStarText'. -/
def fnExactStarTextCard : Claim7 := { stood := { row := fnExactStarTextRow, standIns := [], harness := (true, "0b735401521b22fceefcb0dc862e111b18e167a860293f9d2c0cda27f05072db"), looks := true }, kinds := [], alts := [], laidByText := true, laidKinds := [.data, .data, .data], laidTests := true, laidLooks := .later }
def FnExactStarTextCardSaid : Prop := Claim7.holds Tryd.pinned (.plain (OpenSpec.ofChange fnExactStarTextSpec)) fnExactStarTextCard

/-- THE TIED CARD OF 'laws.FnExactParseStar'. -/
def fnExactParseStarCard : Claim7 := { stood := { row := fnExactParseStarRow, standIns := [], harness := (true, "0b735401521b22fceefcb0dc862e111b18e167a860293f9d2c0cda27f05072db"), looks := true }, kinds := [], alts := [], laidByText := true, laidKinds := [.data, .data, .data, .sentinel, .sentinel], laidTests := true, laidLooks := .later }
def FnExactParseStarCardSaid : Prop := Claim7.holds Tryd.pinned (.plain (OpenSpec.ofChange fnExactParseStarSpec)) fnExactParseStarCard

/-- THE SECOND FORM's CARD OF 'laws.FnExactStarText'. -/
def fnExactStarTextUptoCard : Claim7 := { stood := { row := fnExactStarTextUptoRow, standIns := [], harness := (true, "0b735401521b22fceefcb0dc862e111b18e167a860293f9d2c0cda27f05072db"), looks := true }, kinds := [], alts := [], laidByText := true, laidKinds := [.data, .data, .data], laidTests := true, laidLooks := .later }
def FnExactStarTextUptoCardSaid : Prop := Claim7.holds Tryd.pinned (.plain (OpenSpec.upto fnExactStarTextSpec)) fnExactStarTextUptoCard

/-- THE SECOND FORM's CARD OF 'laws.FnExactParseStar'. -/
def fnExactParseStarUptoCard : Claim7 := { stood := { row := fnExactParseStarUptoRow, standIns := [], harness := (true, "0b735401521b22fceefcb0dc862e111b18e167a860293f9d2c0cda27f05072db"), looks := true }, kinds := [], alts := [], laidByText := true, laidKinds := [.data, .data, .data, .sentinel, .sentinel], laidTests := true, laidLooks := .later }
def FnExactParseStarUptoCardSaid : Prop := Claim7.holds Tryd.pinned (.plain (OpenSpec.upto fnExactParseStarSpec)) fnExactParseStarUptoCard
end Rows
end Go.Proofs.YtknpnhgedcggkaaDoor
