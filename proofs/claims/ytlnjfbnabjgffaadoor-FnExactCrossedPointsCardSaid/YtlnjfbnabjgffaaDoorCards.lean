/-
  DERIVED. GIVEN WITH THE SEED: THE CARDS: each row of YtlnjfbnabjgffaaDoorRows.lean that lists a variable, with what it lists TIED to the program's text (the seventh form; the later family's looks); each row that meets fmt, with fmt's text TOLD by the authors' own Lean function (tested against real Go, not proved from fmt's source: count such statements apart). THE CARD IS WHAT COUNTS. Prove the row's statement (the work); the ties are given (YtlnjfbnabjgffaaDoorTie.lean); close each card by the builder's one call (the guide's Derived/Test/ToyasCard.lean, 'card_holds'). Laid BY PROGRAM, IN A SANDBOX (cutbox-door.mjs). By AI agents, Wed Nov 11 2026. No macro, syntax, notation, axiom, sorry.
-/
import Derived.Test.YtlnjfbnabjgffaaDoorRows
import GoSem.ClaimSeven
namespace Go.Proofs.YtlnjfbnabjgffaaDoor
namespace Rows

/-- THE TIED CARD OF 'laws.FnExactMirrorWord'. -/
def fnExactMirrorWordCard : Claim7 := { stood := { row := fnExactMirrorWordRow, standIns := [], harness := (true, "0612bf2c0954623389fb1ef45b640eaa428846e1ea1c075fd10c2505ad29f7ec"), looks := true }, kinds := [], alts := [], laidByText := true, laidKinds := [.data, .pinned], laidTests := true, laidLooks := .later }
def FnExactMirrorWordCardSaid : Prop := Claim7.holds Tryd.pinned (.plain (OpenSpec.ofChange fnExactMirrorWordSpec)) fnExactMirrorWordCard

/-- THE TIED CARD OF 'laws.FnExactBackWord'. -/
def fnExactBackWordCard : Claim7 := { stood := { row := fnExactBackWordRow, standIns := [], harness := (true, "0612bf2c0954623389fb1ef45b640eaa428846e1ea1c075fd10c2505ad29f7ec"), looks := true }, kinds := [], alts := [], laidByText := true, laidKinds := [.data, .pinned], laidTests := true, laidLooks := .later }
def FnExactBackWordCardSaid : Prop := Claim7.holds Tryd.pinned (.plain (OpenSpec.ofChange fnExactBackWordSpec)) fnExactBackWordCard

/-- THE TIED CARD OF 'laws.FnExactCrossedPoints'. -/
def fnExactCrossedPointsCard : Claim7 := { stood := { row := fnExactCrossedPointsRow, standIns := [], harness := (true, "0612bf2c0954623389fb1ef45b640eaa428846e1ea1c075fd10c2505ad29f7ec"), looks := true }, kinds := [], alts := [], laidByText := true, laidKinds := [.data, .pinned], laidTests := true, laidLooks := .later }
def FnExactCrossedPointsCardSaid : Prop := Claim7.holds Tryd.pinned (.plain (OpenSpec.ofChange fnExactCrossedPointsSpec)) fnExactCrossedPointsCard

/-- THE SECOND FORM's CARD OF 'laws.FnExactMirrorWord'. -/
def fnExactMirrorWordUptoCard : Claim7 := { stood := { row := fnExactMirrorWordUptoRow, standIns := [], harness := (true, "0612bf2c0954623389fb1ef45b640eaa428846e1ea1c075fd10c2505ad29f7ec"), looks := true }, kinds := [], alts := [], laidByText := true, laidKinds := [.data, .pinned], laidTests := true, laidLooks := .later }
def FnExactMirrorWordUptoCardSaid : Prop := Claim7.holds Tryd.pinned (.plain (OpenSpec.upto fnExactMirrorWordSpec)) fnExactMirrorWordUptoCard

/-- THE SECOND FORM's CARD OF 'laws.FnExactBackWord'. -/
def fnExactBackWordUptoCard : Claim7 := { stood := { row := fnExactBackWordUptoRow, standIns := [], harness := (true, "0612bf2c0954623389fb1ef45b640eaa428846e1ea1c075fd10c2505ad29f7ec"), looks := true }, kinds := [], alts := [], laidByText := true, laidKinds := [.data, .pinned], laidTests := true, laidLooks := .later }
def FnExactBackWordUptoCardSaid : Prop := Claim7.holds Tryd.pinned (.plain (OpenSpec.upto fnExactBackWordSpec)) fnExactBackWordUptoCard

/-- THE SECOND FORM's CARD OF 'laws.FnExactCrossedPoints'. -/
def fnExactCrossedPointsUptoCard : Claim7 := { stood := { row := fnExactCrossedPointsUptoRow, standIns := [], harness := (true, "0612bf2c0954623389fb1ef45b640eaa428846e1ea1c075fd10c2505ad29f7ec"), looks := true }, kinds := [], alts := [], laidByText := true, laidKinds := [.data, .pinned], laidTests := true, laidLooks := .later }
def FnExactCrossedPointsUptoCardSaid : Prop := Claim7.holds Tryd.pinned (.plain (OpenSpec.upto fnExactCrossedPointsSpec)) fnExactCrossedPointsUptoCard
end Rows
end Go.Proofs.YtlnjfbnabjgffaaDoor
