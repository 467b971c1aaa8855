/-
  DERIVED. GIVEN WITH THE SEED: THE CARDS: each row of YtkbokgpbfpncdaaDoorRows.lean that lists a variable, with what it lists TIED to the program's text (the seventh form; the later family's looks); each row that meets fmt, with fmt's text TOLD by the authors' own Lean function (tested against real Go, not proved from fmt's source: count such statements apart). THE CARD IS WHAT COUNTS. Prove the row's statement (the work); the ties are given (YtkbokgpbfpncdaaDoorTie.lean); close each card by the builder's one call (the guide's Derived/Test/ToyasCard.lean, 'card_holds'). Laid BY PROGRAM, IN A SANDBOX (cutbox-door.mjs). By AI agents, Wed Nov 11 2026. No macro, syntax, notation, axiom, sorry.
-/
import Derived.Test.YtkbokgpbfpncdaaDoorRows
import GoSem.ClaimSeven
namespace Go.Proofs.YtkbokgpbfpncdaaDoor
namespace Rows

/-- THE TIED CARD OF 'laws.FnExactIsWord'. -/
def fnExactIsWordCard : Claim7 := { stood := { row := fnExactIsWordRow, standIns := [], harness := (true, "6957d1f73d0611d0d7d2111875b0939ef0979926497ee9f663d04d9ace7d7ccf"), looks := false }, kinds := [], alts := [], laidByText := true, laidKinds := [.data, .pinned], laidTests := true, laidLooks := .later }
def FnExactIsWordCardSaid : Prop := Claim7.holds Tryd.pinned (.plain (OpenSpec.ofChange fnExactIsWordSpec)) fnExactIsWordCard

/-- THE TIED CARD OF 'laws.FnExactShiftWord'. -/
def fnExactShiftWordCard : Claim7 := { stood := { row := fnExactShiftWordRow, standIns := [], harness := (true, "6957d1f73d0611d0d7d2111875b0939ef0979926497ee9f663d04d9ace7d7ccf"), looks := false }, kinds := [], alts := [], laidByText := true, laidKinds := [.data, .pinned], laidTests := true, laidLooks := .later }
def FnExactShiftWordCardSaid : Prop := Claim7.holds Tryd.pinned (.plain (OpenSpec.ofChange fnExactShiftWordSpec)) fnExactShiftWordCard

/-- THE TIED CARD OF 'laws.FnExactLeastShift'. -/
def fnExactLeastShiftCard : Claim7 := { stood := { row := fnExactLeastShiftRow, standIns := [], harness := (true, "6957d1f73d0611d0d7d2111875b0939ef0979926497ee9f663d04d9ace7d7ccf"), looks := false }, kinds := [], alts := [], laidByText := true, laidKinds := [.data, .pinned], laidTests := true, laidLooks := .later }
def FnExactLeastShiftCardSaid : Prop := Claim7.holds Tryd.pinned (.plain (OpenSpec.ofChange fnExactLeastShiftSpec)) fnExactLeastShiftCard

/-- THE TIED CARD OF 'laws.FnExactIsClosed'. -/
def fnExactIsClosedCard : Claim7 := { stood := { row := fnExactIsClosedRow, standIns := [], harness := (true, "6957d1f73d0611d0d7d2111875b0939ef0979926497ee9f663d04d9ace7d7ccf"), looks := false }, kinds := [], alts := [], laidByText := true, laidKinds := [.data, .pinned], laidTests := true, laidLooks := .later }
def FnExactIsClosedCardSaid : Prop := Claim7.holds Tryd.pinned (.plain (OpenSpec.ofChange fnExactIsClosedSpec)) fnExactIsClosedCard

/-- THE TIED CARD OF 'laws.FnExactDoubleArea'. -/
def fnExactDoubleAreaCard : Claim7 := { stood := { row := fnExactDoubleAreaRow, standIns := [], harness := (true, "6957d1f73d0611d0d7d2111875b0939ef0979926497ee9f663d04d9ace7d7ccf"), looks := false }, kinds := [], alts := [], laidByText := true, laidKinds := [.data, .pinned], laidTests := true, laidLooks := .later }
def FnExactDoubleAreaCardSaid : Prop := Claim7.holds Tryd.pinned (.plain (OpenSpec.ofChange fnExactDoubleAreaSpec)) fnExactDoubleAreaCard

/-- THE TIED CARD OF 'laws.FnExactRepeatsToClose'. -/
def fnExactRepeatsToCloseCard : Claim7 := { stood := { row := fnExactRepeatsToCloseRow, standIns := [], harness := (true, "6957d1f73d0611d0d7d2111875b0939ef0979926497ee9f663d04d9ace7d7ccf"), looks := false }, kinds := [], alts := [], laidByText := true, laidKinds := [.data, .pinned], laidTests := true, laidLooks := .later }
def FnExactRepeatsToCloseCardSaid : Prop := Claim7.holds Tryd.pinned (.plain (OpenSpec.ofChange fnExactRepeatsToCloseSpec)) fnExactRepeatsToCloseCard

/-- THE TIED CARD OF 'laws.FnExactEndOf'. -/
def fnExactEndOfCard : Claim7 := { stood := { row := fnExactEndOfRow, standIns := [], harness := (true, "6957d1f73d0611d0d7d2111875b0939ef0979926497ee9f663d04d9ace7d7ccf"), looks := false }, kinds := [], alts := [], laidByText := true, laidKinds := [.data, .pinned], laidTests := true, laidLooks := .later }
def FnExactEndOfCardSaid : Prop := Claim7.holds Tryd.pinned (.plain (OpenSpec.ofChange fnExactEndOfSpec)) fnExactEndOfCard

/-- THE TIED CARD OF 'laws.FnExactPathOf'. -/
def fnExactPathOfCard : Claim7 := { stood := { row := fnExactPathOfRow, standIns := [], harness := (true, "6957d1f73d0611d0d7d2111875b0939ef0979926497ee9f663d04d9ace7d7ccf"), looks := false }, kinds := [], alts := [], laidByText := true, laidKinds := [.data, .pinned], laidTests := true, laidLooks := .later }
def FnExactPathOfCardSaid : Prop := Claim7.holds Tryd.pinned (.plain (OpenSpec.ofChange fnExactPathOfSpec)) fnExactPathOfCard

/-- THE TIED CARD OF 'laws.FnExactTurnsMade'. -/
def fnExactTurnsMadeCard : Claim7 := { stood := { row := fnExactTurnsMadeRow, standIns := [], harness := (true, "6957d1f73d0611d0d7d2111875b0939ef0979926497ee9f663d04d9ace7d7ccf"), looks := false }, kinds := [], alts := [], laidByText := true, laidKinds := [.data, .pinned], laidTests := true, laidLooks := .later }
def FnExactTurnsMadeCardSaid : Prop := Claim7.holds Tryd.pinned (.plain (OpenSpec.ofChange fnExactTurnsMadeSpec)) fnExactTurnsMadeCard

/-- THE TIED CARD OF 'laws.FnExactRepeatWord'. -/
def fnExactRepeatWordCard : Claim7 := { stood := { row := fnExactRepeatWordRow, standIns := [], harness := (true, "6957d1f73d0611d0d7d2111875b0939ef0979926497ee9f663d04d9ace7d7ccf"), looks := false }, kinds := [], alts := [], laidByText := true, laidKinds := [.data, .pinned], laidTests := true, laidLooks := .later }
def FnExactRepeatWordCardSaid : Prop := Claim7.holds Tryd.pinned (.plain (OpenSpec.ofChange fnExactRepeatWordSpec)) fnExactRepeatWordCard

/-- THE TIED CARD OF 'laws.FnExactSpiralRepeats'. -/
def fnExactSpiralRepeatsCard : Claim7 := { stood := { row := fnExactSpiralRepeatsRow, standIns := [], harness := (true, "6957d1f73d0611d0d7d2111875b0939ef0979926497ee9f663d04d9ace7d7ccf"), looks := false }, kinds := [], alts := [], laidByText := true, laidKinds := [.data, .pinned], laidTests := true, laidLooks := .later }
def FnExactSpiralRepeatsCardSaid : Prop := Claim7.holds Tryd.pinned (.plain (OpenSpec.ofChange fnExactSpiralRepeatsSpec)) fnExactSpiralRepeatsCard

/-- THE SECOND FORM's CARD OF 'laws.FnExactIsWord'. -/
def fnExactIsWordUptoCard : Claim7 := { stood := { row := fnExactIsWordUptoRow, standIns := [], harness := (true, "6957d1f73d0611d0d7d2111875b0939ef0979926497ee9f663d04d9ace7d7ccf"), looks := false }, kinds := [], alts := [], laidByText := true, laidKinds := [.data, .pinned], laidTests := true, laidLooks := .later }
def FnExactIsWordUptoCardSaid : Prop := Claim7.holds Tryd.pinned (.plain (OpenSpec.upto fnExactIsWordSpec)) fnExactIsWordUptoCard

/-- THE SECOND FORM's CARD OF 'laws.FnExactShiftWord'. -/
def fnExactShiftWordUptoCard : Claim7 := { stood := { row := fnExactShiftWordUptoRow, standIns := [], harness := (true, "6957d1f73d0611d0d7d2111875b0939ef0979926497ee9f663d04d9ace7d7ccf"), looks := false }, kinds := [], alts := [], laidByText := true, laidKinds := [.data, .pinned], laidTests := true, laidLooks := .later }
def FnExactShiftWordUptoCardSaid : Prop := Claim7.holds Tryd.pinned (.plain (OpenSpec.upto fnExactShiftWordSpec)) fnExactShiftWordUptoCard

/-- THE SECOND FORM's CARD OF 'laws.FnExactLeastShift'. -/
def fnExactLeastShiftUptoCard : Claim7 := { stood := { row := fnExactLeastShiftUptoRow, standIns := [], harness := (true, "6957d1f73d0611d0d7d2111875b0939ef0979926497ee9f663d04d9ace7d7ccf"), looks := false }, kinds := [], alts := [], laidByText := true, laidKinds := [.data, .pinned], laidTests := true, laidLooks := .later }
def FnExactLeastShiftUptoCardSaid : Prop := Claim7.holds Tryd.pinned (.plain (OpenSpec.upto fnExactLeastShiftSpec)) fnExactLeastShiftUptoCard

/-- THE SECOND FORM's CARD OF 'laws.FnExactIsClosed'. -/
def fnExactIsClosedUptoCard : Claim7 := { stood := { row := fnExactIsClosedUptoRow, standIns := [], harness := (true, "6957d1f73d0611d0d7d2111875b0939ef0979926497ee9f663d04d9ace7d7ccf"), looks := false }, kinds := [], alts := [], laidByText := true, laidKinds := [.data, .pinned], laidTests := true, laidLooks := .later }
def FnExactIsClosedUptoCardSaid : Prop := Claim7.holds Tryd.pinned (.plain (OpenSpec.upto fnExactIsClosedSpec)) fnExactIsClosedUptoCard

/-- THE SECOND FORM's CARD OF 'laws.FnExactDoubleArea'. -/
def fnExactDoubleAreaUptoCard : Claim7 := { stood := { row := fnExactDoubleAreaUptoRow, standIns := [], harness := (true, "6957d1f73d0611d0d7d2111875b0939ef0979926497ee9f663d04d9ace7d7ccf"), looks := false }, kinds := [], alts := [], laidByText := true, laidKinds := [.data, .pinned], laidTests := true, laidLooks := .later }
def FnExactDoubleAreaUptoCardSaid : Prop := Claim7.holds Tryd.pinned (.plain (OpenSpec.upto fnExactDoubleAreaSpec)) fnExactDoubleAreaUptoCard

/-- THE SECOND FORM's CARD OF 'laws.FnExactRepeatsToClose'. -/
def fnExactRepeatsToCloseUptoCard : Claim7 := { stood := { row := fnExactRepeatsToCloseUptoRow, standIns := [], harness := (true, "6957d1f73d0611d0d7d2111875b0939ef0979926497ee9f663d04d9ace7d7ccf"), looks := false }, kinds := [], alts := [], laidByText := true, laidKinds := [.data, .pinned], laidTests := true, laidLooks := .later }
def FnExactRepeatsToCloseUptoCardSaid : Prop := Claim7.holds Tryd.pinned (.plain (OpenSpec.upto fnExactRepeatsToCloseSpec)) fnExactRepeatsToCloseUptoCard

/-- THE SECOND FORM's CARD OF 'laws.FnExactEndOf'. -/
def fnExactEndOfUptoCard : Claim7 := { stood := { row := fnExactEndOfUptoRow, standIns := [], harness := (true, "6957d1f73d0611d0d7d2111875b0939ef0979926497ee9f663d04d9ace7d7ccf"), looks := false }, kinds := [], alts := [], laidByText := true, laidKinds := [.data, .pinned], laidTests := true, laidLooks := .later }
def FnExactEndOfUptoCardSaid : Prop := Claim7.holds Tryd.pinned (.plain (OpenSpec.upto fnExactEndOfSpec)) fnExactEndOfUptoCard

/-- THE SECOND FORM's CARD OF 'laws.FnExactPathOf'. -/
def fnExactPathOfUptoCard : Claim7 := { stood := { row := fnExactPathOfUptoRow, standIns := [], harness := (true, "6957d1f73d0611d0d7d2111875b0939ef0979926497ee9f663d04d9ace7d7ccf"), looks := false }, kinds := [], alts := [], laidByText := true, laidKinds := [.data, .pinned], laidTests := true, laidLooks := .later }
def FnExactPathOfUptoCardSaid : Prop := Claim7.holds Tryd.pinned (.plain (OpenSpec.upto fnExactPathOfSpec)) fnExactPathOfUptoCard

/-- THE SECOND FORM's CARD OF 'laws.FnExactTurnsMade'. -/
def fnExactTurnsMadeUptoCard : Claim7 := { stood := { row := fnExactTurnsMadeUptoRow, standIns := [], harness := (true, "6957d1f73d0611d0d7d2111875b0939ef0979926497ee9f663d04d9ace7d7ccf"), looks := false }, kinds := [], alts := [], laidByText := true, laidKinds := [.data, .pinned], laidTests := true, laidLooks := .later }
def FnExactTurnsMadeUptoCardSaid : Prop := Claim7.holds Tryd.pinned (.plain (OpenSpec.upto fnExactTurnsMadeSpec)) fnExactTurnsMadeUptoCard

/-- THE SECOND FORM's CARD OF 'laws.FnExactRepeatWord'. -/
def fnExactRepeatWordUptoCard : Claim7 := { stood := { row := fnExactRepeatWordUptoRow, standIns := [], harness := (true, "6957d1f73d0611d0d7d2111875b0939ef0979926497ee9f663d04d9ace7d7ccf"), looks := false }, kinds := [], alts := [], laidByText := true, laidKinds := [.data, .pinned], laidTests := true, laidLooks := .later }
def FnExactRepeatWordUptoCardSaid : Prop := Claim7.holds Tryd.pinned (.plain (OpenSpec.upto fnExactRepeatWordSpec)) fnExactRepeatWordUptoCard

/-- THE SECOND FORM's CARD OF 'laws.FnExactSpiralRepeats'. -/
def fnExactSpiralRepeatsUptoCard : Claim7 := { stood := { row := fnExactSpiralRepeatsUptoRow, standIns := [], harness := (true, "6957d1f73d0611d0d7d2111875b0939ef0979926497ee9f663d04d9ace7d7ccf"), looks := false }, kinds := [], alts := [], laidByText := true, laidKinds := [.data, .pinned], laidTests := true, laidLooks := .later }
def FnExactSpiralRepeatsUptoCardSaid : Prop := Claim7.holds Tryd.pinned (.plain (OpenSpec.upto fnExactSpiralRepeatsSpec)) fnExactSpiralRepeatsUptoCard
end Rows
end Go.Proofs.YtkbokgpbfpncdaaDoor
