/-
  DERIVED. GIVEN WITH THE SEED: THE CARDS: each row of YtceoaondcnhaeaaDoorRows.lean that lists a variable, with what it lists TIED to the program's text (the seventh form; the later family's looks); each row that meets fmt, with fmt's text TOLD by the authors' own Lean function (tested against real Go, not proved from fmt's source: count such statements apart). THE CARD IS WHAT COUNTS. Prove the row's statement (the work); the ties are given (YtceoaondcnhaeaaDoorTie.lean); close each card by the builder's one call (the guide's Derived/Test/ToyasCard.lean, 'card_holds'). Laid BY PROGRAM, IN A SANDBOX (cutbox-door.mjs). By AI agents, Wed Nov 11 2026. No macro, syntax, notation, axiom, sorry.
-/
import Derived.Test.YtceoaondcnhaeaaDoorRows
import GoSem.ClaimSeven
namespace Go.Proofs.YtceoaondcnhaeaaDoor
namespace Rows

/-- THE TIED CARD OF 'laws.FnExactPathOf'. -/
def fnExactPathOfCard : Claim7 := { stood := { row := fnExactPathOfRow, standIns := [], harness := (true, "9a13782c125eaf9b55ba599f491b88af5e6809b43a993cb50a7de4393abc84d3"), looks := true }, kinds := [], alts := [], laidByText := true, laidKinds := [.data, .pinned], laidTests := true, laidLooks := .later }
def FnExactPathOfCardSaid : Prop := Claim7.holds Tryd.pinned (.plain (OpenSpec.ofChange fnExactPathOfSpec)) fnExactPathOfCard

/-- THE TIED CARD OF 'laws.FnExactMirrorWord'. -/
def fnExactMirrorWordCard : Claim7 := { stood := { row := fnExactMirrorWordRow, standIns := [], harness := (true, "9a13782c125eaf9b55ba599f491b88af5e6809b43a993cb50a7de4393abc84d3"), looks := true }, kinds := [], alts := [], laidByText := true, laidKinds := [.data, .pinned], laidTests := true, laidLooks := .later }
def FnExactMirrorWordCardSaid : Prop := Claim7.holds Tryd.pinned (.plain (OpenSpec.ofChange fnExactMirrorWordSpec)) fnExactMirrorWordCard

/-- THE TIED CARD OF 'laws.FnExactBackWord'. -/
def fnExactBackWordCard : Claim7 := { stood := { row := fnExactBackWordRow, standIns := [], harness := (true, "9a13782c125eaf9b55ba599f491b88af5e6809b43a993cb50a7de4393abc84d3"), looks := true }, kinds := [], alts := [], laidByText := true, laidKinds := [.data, .pinned], laidTests := true, laidLooks := .later }
def FnExactBackWordCardSaid : Prop := Claim7.holds Tryd.pinned (.plain (OpenSpec.ofChange fnExactBackWordSpec)) fnExactBackWordCard

/-- THE TIED CARD OF 'laws.FnExactShortWord'. -/
def fnExactShortWordCard : Claim7 := { stood := { row := fnExactShortWordRow, standIns := [], harness := (true, "9a13782c125eaf9b55ba599f491b88af5e6809b43a993cb50a7de4393abc84d3"), looks := true }, kinds := [], alts := [], laidByText := true, laidKinds := [.data, .pinned], laidTests := true, laidLooks := .later }
def FnExactShortWordCardSaid : Prop := Claim7.holds Tryd.pinned (.plain (OpenSpec.ofChange fnExactShortWordSpec)) fnExactShortWordCard

/-- THE TIED CARD OF 'laws.FnExactParseStar'. -/
def fnExactParseStarCard : Claim7 := { stood := { row := fnExactParseStarRow, standIns := [], harness := (true, "9a13782c125eaf9b55ba599f491b88af5e6809b43a993cb50a7de4393abc84d3"), looks := true }, kinds := [], alts := [], laidByText := true, laidKinds := [.data, .data, .data, .sentinel, .sentinel], laidTests := true, laidLooks := .later }
def FnExactParseStarCardSaid : Prop := Claim7.holds Tryd.pinned (.plain (OpenSpec.ofChange fnExactParseStarSpec)) fnExactParseStarCard

/-- THE TIED CARD OF 'laws.FnExactCrossedPoints'. -/
def fnExactCrossedPointsCard : Claim7 := { stood := { row := fnExactCrossedPointsRow, standIns := [], harness := (true, "9a13782c125eaf9b55ba599f491b88af5e6809b43a993cb50a7de4393abc84d3"), looks := true }, kinds := [], alts := [], laidByText := true, laidKinds := [.data, .pinned], laidTests := true, laidLooks := .later }
def FnExactCrossedPointsCardSaid : Prop := Claim7.holds Tryd.pinned (.plain (OpenSpec.ofChange fnExactCrossedPointsSpec)) fnExactCrossedPointsCard

/-- THE TIED CARD OF 'laws.FnExactParseChords'. -/
def fnExactParseChordsCard : Claim7 := { stood := { row := fnExactParseChordsRow, standIns := [], harness := (true, "9a13782c125eaf9b55ba599f491b88af5e6809b43a993cb50a7de4393abc84d3"), looks := true }, kinds := [], alts := [], laidByText := true, laidKinds := [.data, .data, .data, .data, .sentinel, .sentinel, .pinned], laidTests := true, laidLooks := .later }
def FnExactParseChordsCardSaid : Prop := Claim7.holds Tryd.pinned (.plain (OpenSpec.ofChange fnExactParseChordsSpec)) fnExactParseChordsCard

/-- THE SECOND FORM's CARD OF 'laws.FnExactPathOf'. -/
def fnExactPathOfUptoCard : Claim7 := { stood := { row := fnExactPathOfUptoRow, standIns := [], harness := (true, "9a13782c125eaf9b55ba599f491b88af5e6809b43a993cb50a7de4393abc84d3"), looks := true }, kinds := [], alts := [], laidByText := true, laidKinds := [.data, .pinned], laidTests := true, laidLooks := .later }
def FnExactPathOfUptoCardSaid : Prop := Claim7.holds Tryd.pinned (.plain (OpenSpec.upto fnExactPathOfSpec)) fnExactPathOfUptoCard

/-- THE SECOND FORM's CARD OF 'laws.FnExactMirrorWord'. -/
def fnExactMirrorWordUptoCard : Claim7 := { stood := { row := fnExactMirrorWordUptoRow, standIns := [], harness := (true, "9a13782c125eaf9b55ba599f491b88af5e6809b43a993cb50a7de4393abc84d3"), looks := true }, kinds := [], alts := [], laidByText := true, laidKinds := [.data, .pinned], laidTests := true, laidLooks := .later }
def FnExactMirrorWordUptoCardSaid : Prop := Claim7.holds Tryd.pinned (.plain (OpenSpec.upto fnExactMirrorWordSpec)) fnExactMirrorWordUptoCard

/-- THE SECOND FORM's CARD OF 'laws.FnExactBackWord'. -/
def fnExactBackWordUptoCard : Claim7 := { stood := { row := fnExactBackWordUptoRow, standIns := [], harness := (true, "9a13782c125eaf9b55ba599f491b88af5e6809b43a993cb50a7de4393abc84d3"), looks := true }, kinds := [], alts := [], laidByText := true, laidKinds := [.data, .pinned], laidTests := true, laidLooks := .later }
def FnExactBackWordUptoCardSaid : Prop := Claim7.holds Tryd.pinned (.plain (OpenSpec.upto fnExactBackWordSpec)) fnExactBackWordUptoCard

/-- THE SECOND FORM's CARD OF 'laws.FnExactShortWord'. -/
def fnExactShortWordUptoCard : Claim7 := { stood := { row := fnExactShortWordUptoRow, standIns := [], harness := (true, "9a13782c125eaf9b55ba599f491b88af5e6809b43a993cb50a7de4393abc84d3"), looks := true }, kinds := [], alts := [], laidByText := true, laidKinds := [.data, .pinned], laidTests := true, laidLooks := .later }
def FnExactShortWordUptoCardSaid : Prop := Claim7.holds Tryd.pinned (.plain (OpenSpec.upto fnExactShortWordSpec)) fnExactShortWordUptoCard

/-- THE SECOND FORM's CARD OF 'laws.FnExactParseStar'. -/
def fnExactParseStarUptoCard : Claim7 := { stood := { row := fnExactParseStarUptoRow, standIns := [], harness := (true, "9a13782c125eaf9b55ba599f491b88af5e6809b43a993cb50a7de4393abc84d3"), looks := true }, kinds := [], alts := [], laidByText := true, laidKinds := [.data, .data, .data, .sentinel, .sentinel], laidTests := true, laidLooks := .later }
def FnExactParseStarUptoCardSaid : Prop := Claim7.holds Tryd.pinned (.plain (OpenSpec.upto fnExactParseStarSpec)) fnExactParseStarUptoCard

/-- THE SECOND FORM's CARD OF 'laws.FnExactCrossedPoints'. -/
def fnExactCrossedPointsUptoCard : Claim7 := { stood := { row := fnExactCrossedPointsUptoRow, standIns := [], harness := (true, "9a13782c125eaf9b55ba599f491b88af5e6809b43a993cb50a7de4393abc84d3"), looks := true }, kinds := [], alts := [], laidByText := true, laidKinds := [.data, .pinned], laidTests := true, laidLooks := .later }
def FnExactCrossedPointsUptoCardSaid : Prop := Claim7.holds Tryd.pinned (.plain (OpenSpec.upto fnExactCrossedPointsSpec)) fnExactCrossedPointsUptoCard

/-- THE SECOND FORM's CARD OF 'laws.FnExactParseChords'. -/
def fnExactParseChordsUptoCard : Claim7 := { stood := { row := fnExactParseChordsUptoRow, standIns := [], harness := (true, "9a13782c125eaf9b55ba599f491b88af5e6809b43a993cb50a7de4393abc84d3"), looks := true }, kinds := [], alts := [], laidByText := true, laidKinds := [.data, .data, .data, .data, .sentinel, .sentinel, .pinned], laidTests := true, laidLooks := .later }
def FnExactParseChordsUptoCardSaid : Prop := Claim7.holds Tryd.pinned (.plain (OpenSpec.upto fnExactParseChordsSpec)) fnExactParseChordsUptoCard
end Rows
end Go.Proofs.YtceoaondcnhaeaaDoor
