/-
  NARROWER THAN 'FOR EVERY INPUT', by the rows' own cells (each row's printed sentence says how): FnExactIsWord: laid · FnExactShiftWord: laid · FnExactLeastShift: laid · FnExactIsClosed: laid · FnExactDoubleArea: laid · FnExactRepeatsToClose: laid · FnExactEndOf: laid · FnExactPathOf: laid · FnExactTurnsMade: laid · FnExactRepeatWord: laid · FnExactSpiralRepeats: laid.
  DERIVED. THE GIVEN ROWS OF THIS SEAT. 11 by the template 'for every input the law returns true; each argument reads behind the call as it read before'; 0 by the template 'total and deterministic' (their statements: YtkbokgpbfpncdaaDoorTotals.lean).
  GIVEN WITH THE SEED: the statements are not yours to turn. If you find one false, say at which input.
  Laid BY PROGRAM, IN A SANDBOX (cutbox-rows.mjs): the forced cells as the released guide's own fill.sh prints them over the translation 9970ed7b63decff4… (all of the seat's roots in one cut). By AI agents, Wed Nov 11 2026. No macro, syntax, notation, axiom, sorry.
-/
import Derived.Test.YtkbokgpbfpncdaaDoorChecked
import GoSem.PinnedTables
import GoSem.Claim
import GoSem.ClaimJoined
import GoSem.ClaimMapViews
import Derived.JoinedTies
import Derived.KernelRfl
namespace Go.Proofs.YtkbokgpbfpncdaaDoor
/- THE CELL 'sum', in the pinned program and in every row, IS THE sha256 OF THE DUMP (.gsa) THAT YtkbokgpbfpncdaaDoorProg.lean LOADS. Nothing in Lean hashes anything: it is a label: what it is worth is what the hold of that sum in a sandbox is worth. -/
noncomputable def Tryd.pinned : Pinned := { name := "ytkbokgpbfpncdaadoor", sum := "9970ed7b63decff468d20c76abb4db25b84e9e27fb244bf3a50654eed0254346", checked := Tryd.checked }
namespace Rows
def none {H : Type} : Left H := { results := [], args := [] }

/- WHAT THE LISTED PACKAGE-LEVEL VARIABLES READ AS WHEN THE CALL BEGINS. Each datum BY PROGRAM (the guide's laid-datum.mjs) off the statement by which the dump's own 'gosem.cut.vars' lays the variable. In a bare row this is a premise. The card (YtkbokgpbfpncdaaDoorCards.lean) ties it to the program's text. -/
def laid_unicode_utf8_acceptRanges {H : Type} : DataW H := .agg [.agg [.lit (.int .u8 128), .lit (.int .u8 191)], .agg [.lit (.int .u8 160), .lit (.int .u8 191)], .agg [.lit (.int .u8 128), .lit (.int .u8 159)], .agg [.lit (.int .u8 144), .lit (.int .u8 191)], .agg [.lit (.int .u8 128), .lit (.int .u8 143)], .agg [.lit (.int .u8 0), .lit (.int .u8 0)], .agg [.lit (.int .u8 0), .lit (.int .u8 0)], .agg [.lit (.int .u8 0), .lit (.int .u8 0)], .agg [.lit (.int .u8 0), .lit (.int .u8 0)], .agg [.lit (.int .u8 0), .lit (.int .u8 0)], .agg [.lit (.int .u8 0), .lit (.int .u8 0)], .agg [.lit (.int .u8 0), .lit (.int .u8 0)], .agg [.lit (.int .u8 0), .lit (.int .u8 0)], .agg [.lit (.int .u8 0), .lit (.int .u8 0)], .agg [.lit (.int .u8 0), .lit (.int .u8 0)], .agg [.lit (.int .u8 0), .lit (.int .u8 0)]]
/-- One of Go's own tables, pinned by name: the form's constant. -/
def laid_unicode_utf8_first : DataW Unit := Go.Pinned.utf8First

/-- 'laws.FnExactIsWord': WHATEVER THE INPUT: true; the input reads as it did. -/
def fnExactIsWordSpec : ChangeSpec := { name := "fnExactIsWord", fn := fun _ => fun
  | [d1, d2] => { results := [.lit (.bool true)], args := [d1, d2] }
  | _ => none }
def fnExactIsWordRow : OpenClaim := { program := "ytkbokgpbfpncdaadoor", sum := "9970ed7b63decff468d20c76abb4db25b84e9e27fb244bf3a50654eed0254346", func := "loop.example/g01324/laws.FnExactIsWord", spec := "fnExactIsWord", inPlace := ["internal/bytealg.IndexByteString", "internal/bytealg.IndexString"], named := ["unicode/utf8.first", "unicode/utf8.acceptRanges", "internal/bytealg.MaxLen"], apart := false, laid := [("unicode/utf8.acceptRanges", laid_unicode_utf8_acceptRanges), ("unicode/utf8.first", laid_unicode_utf8_first)] }
def FnExactIsWordSaid : Prop := fnExactIsWordRow.holds Tryd.pinned (OpenSpec.ofChange fnExactIsWordSpec)

/-- ITS FALSE NEIGHBOUR: 'it returns false'. Refute it at one input. -/
def fnExactIsWordWrong : ChangeSpec := { name := "fnExactIsWord", fn := fun _ => fun
  | [d1, d2] => { results := [.lit (.bool false)], args := [d1, d2] }
  | _ => none }
def FnExactIsWordWrongFalsely : Prop := fnExactIsWordRow.holds Tryd.pinned (OpenSpec.ofChange fnExactIsWordWrong)

/-- 'laws.FnExactShiftWord': WHATEVER THE INPUT: true; the input reads as it did. -/
def fnExactShiftWordSpec : ChangeSpec := { name := "fnExactShiftWord", fn := fun _ => fun
  | [d1, d2, d3] => { results := [.lit (.bool true)], args := [d1, d2, d3] }
  | _ => none }
def fnExactShiftWordRow : OpenClaim := { program := "ytkbokgpbfpncdaadoor", sum := "9970ed7b63decff468d20c76abb4db25b84e9e27fb244bf3a50654eed0254346", func := "loop.example/g01324/laws.FnExactShiftWord", spec := "fnExactShiftWord", inPlace := ["internal/bytealg.IndexByteString", "internal/bytealg.IndexString"], named := ["unicode/utf8.first", "unicode/utf8.acceptRanges", "internal/bytealg.MaxLen"], apart := false, laid := [("unicode/utf8.acceptRanges", laid_unicode_utf8_acceptRanges), ("unicode/utf8.first", laid_unicode_utf8_first)] }
def FnExactShiftWordSaid : Prop := fnExactShiftWordRow.holds Tryd.pinned (OpenSpec.ofChange fnExactShiftWordSpec)

/-- ITS FALSE NEIGHBOUR: 'it returns false'. Refute it at one input. -/
def fnExactShiftWordWrong : ChangeSpec := { name := "fnExactShiftWord", fn := fun _ => fun
  | [d1, d2, d3] => { results := [.lit (.bool false)], args := [d1, d2, d3] }
  | _ => none }
def FnExactShiftWordWrongFalsely : Prop := fnExactShiftWordRow.holds Tryd.pinned (OpenSpec.ofChange fnExactShiftWordWrong)

/-- 'laws.FnExactLeastShift': WHATEVER THE INPUT: true; the input reads as it did. -/
def fnExactLeastShiftSpec : ChangeSpec := { name := "fnExactLeastShift", fn := fun _ => fun
  | [d1, d2] => { results := [.lit (.bool true)], args := [d1, d2] }
  | _ => none }
def fnExactLeastShiftRow : OpenClaim := { program := "ytkbokgpbfpncdaadoor", sum := "9970ed7b63decff468d20c76abb4db25b84e9e27fb244bf3a50654eed0254346", func := "loop.example/g01324/laws.FnExactLeastShift", spec := "fnExactLeastShift", inPlace := ["internal/bytealg.IndexByteString", "internal/bytealg.IndexString"], named := ["unicode/utf8.first", "unicode/utf8.acceptRanges", "internal/bytealg.MaxLen"], apart := false, laid := [("unicode/utf8.acceptRanges", laid_unicode_utf8_acceptRanges), ("unicode/utf8.first", laid_unicode_utf8_first)] }
def FnExactLeastShiftSaid : Prop := fnExactLeastShiftRow.holds Tryd.pinned (OpenSpec.ofChange fnExactLeastShiftSpec)

/-- ITS FALSE NEIGHBOUR: 'it returns false'. Refute it at one input. -/
def fnExactLeastShiftWrong : ChangeSpec := { name := "fnExactLeastShift", fn := fun _ => fun
  | [d1, d2] => { results := [.lit (.bool false)], args := [d1, d2] }
  | _ => none }
def FnExactLeastShiftWrongFalsely : Prop := fnExactLeastShiftRow.holds Tryd.pinned (OpenSpec.ofChange fnExactLeastShiftWrong)

/-- 'laws.FnExactIsClosed': WHATEVER THE INPUT: true; the input reads as it did. -/
def fnExactIsClosedSpec : ChangeSpec := { name := "fnExactIsClosed", fn := fun _ => fun
  | [d1, d2] => { results := [.lit (.bool true)], args := [d1, d2] }
  | _ => none }
def fnExactIsClosedRow : OpenClaim := { program := "ytkbokgpbfpncdaadoor", sum := "9970ed7b63decff468d20c76abb4db25b84e9e27fb244bf3a50654eed0254346", func := "loop.example/g01324/laws.FnExactIsClosed", spec := "fnExactIsClosed", inPlace := ["internal/bytealg.IndexByteString", "internal/bytealg.IndexString"], named := ["unicode/utf8.first", "unicode/utf8.acceptRanges", "internal/bytealg.MaxLen"], apart := false, laid := [("unicode/utf8.acceptRanges", laid_unicode_utf8_acceptRanges), ("unicode/utf8.first", laid_unicode_utf8_first)] }
def FnExactIsClosedSaid : Prop := fnExactIsClosedRow.holds Tryd.pinned (OpenSpec.ofChange fnExactIsClosedSpec)

/-- ITS FALSE NEIGHBOUR: 'it returns false'. Refute it at one input. -/
def fnExactIsClosedWrong : ChangeSpec := { name := "fnExactIsClosed", fn := fun _ => fun
  | [d1, d2] => { results := [.lit (.bool false)], args := [d1, d2] }
  | _ => none }
def FnExactIsClosedWrongFalsely : Prop := fnExactIsClosedRow.holds Tryd.pinned (OpenSpec.ofChange fnExactIsClosedWrong)

/-- 'laws.FnExactDoubleArea': WHATEVER THE INPUT: true; the input reads as it did. -/
def fnExactDoubleAreaSpec : ChangeSpec := { name := "fnExactDoubleArea", fn := fun _ => fun
  | [d1, d2] => { results := [.lit (.bool true)], args := [d1, d2] }
  | _ => none }
def fnExactDoubleAreaRow : OpenClaim := { program := "ytkbokgpbfpncdaadoor", sum := "9970ed7b63decff468d20c76abb4db25b84e9e27fb244bf3a50654eed0254346", func := "loop.example/g01324/laws.FnExactDoubleArea", spec := "fnExactDoubleArea", inPlace := ["internal/bytealg.IndexByteString", "internal/bytealg.IndexString"], named := ["unicode/utf8.first", "unicode/utf8.acceptRanges", "internal/bytealg.MaxLen"], apart := false, laid := [("unicode/utf8.acceptRanges", laid_unicode_utf8_acceptRanges), ("unicode/utf8.first", laid_unicode_utf8_first)] }
def FnExactDoubleAreaSaid : Prop := fnExactDoubleAreaRow.holds Tryd.pinned (OpenSpec.ofChange fnExactDoubleAreaSpec)

/-- ITS FALSE NEIGHBOUR: 'it returns false'. Refute it at one input. -/
def fnExactDoubleAreaWrong : ChangeSpec := { name := "fnExactDoubleArea", fn := fun _ => fun
  | [d1, d2] => { results := [.lit (.bool false)], args := [d1, d2] }
  | _ => none }
def FnExactDoubleAreaWrongFalsely : Prop := fnExactDoubleAreaRow.holds Tryd.pinned (OpenSpec.ofChange fnExactDoubleAreaWrong)

/-- 'laws.FnExactRepeatsToClose': WHATEVER THE INPUT: true; the input reads as it did. -/
def fnExactRepeatsToCloseSpec : ChangeSpec := { name := "fnExactRepeatsToClose", fn := fun _ => fun
  | [d1, d2] => { results := [.lit (.bool true)], args := [d1, d2] }
  | _ => none }
def fnExactRepeatsToCloseRow : OpenClaim := { program := "ytkbokgpbfpncdaadoor", sum := "9970ed7b63decff468d20c76abb4db25b84e9e27fb244bf3a50654eed0254346", func := "loop.example/g01324/laws.FnExactRepeatsToClose", spec := "fnExactRepeatsToClose", inPlace := ["internal/bytealg.IndexByteString", "internal/bytealg.IndexString"], named := ["unicode/utf8.first", "unicode/utf8.acceptRanges", "internal/bytealg.MaxLen"], apart := false, laid := [("unicode/utf8.acceptRanges", laid_unicode_utf8_acceptRanges), ("unicode/utf8.first", laid_unicode_utf8_first)] }
def FnExactRepeatsToCloseSaid : Prop := fnExactRepeatsToCloseRow.holds Tryd.pinned (OpenSpec.ofChange fnExactRepeatsToCloseSpec)

/-- ITS FALSE NEIGHBOUR: 'it returns false'. Refute it at one input. -/
def fnExactRepeatsToCloseWrong : ChangeSpec := { name := "fnExactRepeatsToClose", fn := fun _ => fun
  | [d1, d2] => { results := [.lit (.bool false)], args := [d1, d2] }
  | _ => none }
def FnExactRepeatsToCloseWrongFalsely : Prop := fnExactRepeatsToCloseRow.holds Tryd.pinned (OpenSpec.ofChange fnExactRepeatsToCloseWrong)

/-- 'laws.FnExactEndOf': WHATEVER THE INPUT: true; the input reads as it did. -/
def fnExactEndOfSpec : ChangeSpec := { name := "fnExactEndOf", fn := fun _ => fun
  | [d1, d2] => { results := [.lit (.bool true)], args := [d1, d2] }
  | _ => none }
def fnExactEndOfRow : OpenClaim := { program := "ytkbokgpbfpncdaadoor", sum := "9970ed7b63decff468d20c76abb4db25b84e9e27fb244bf3a50654eed0254346", func := "loop.example/g01324/laws.FnExactEndOf", spec := "fnExactEndOf", inPlace := ["internal/bytealg.IndexByteString", "internal/bytealg.IndexString"], named := ["unicode/utf8.first", "unicode/utf8.acceptRanges", "internal/bytealg.MaxLen"], apart := false, laid := [("unicode/utf8.acceptRanges", laid_unicode_utf8_acceptRanges), ("unicode/utf8.first", laid_unicode_utf8_first)] }
def FnExactEndOfSaid : Prop := fnExactEndOfRow.holds Tryd.pinned (OpenSpec.ofChange fnExactEndOfSpec)

/-- ITS FALSE NEIGHBOUR: 'it returns false'. Refute it at one input. -/
def fnExactEndOfWrong : ChangeSpec := { name := "fnExactEndOf", fn := fun _ => fun
  | [d1, d2] => { results := [.lit (.bool false)], args := [d1, d2] }
  | _ => none }
def FnExactEndOfWrongFalsely : Prop := fnExactEndOfRow.holds Tryd.pinned (OpenSpec.ofChange fnExactEndOfWrong)

/-- 'laws.FnExactPathOf': WHATEVER THE INPUT: true; the input reads as it did. -/
def fnExactPathOfSpec : ChangeSpec := { name := "fnExactPathOf", fn := fun _ => fun
  | [d1, d2] => { results := [.lit (.bool true)], args := [d1, d2] }
  | _ => none }
def fnExactPathOfRow : OpenClaim := { program := "ytkbokgpbfpncdaadoor", sum := "9970ed7b63decff468d20c76abb4db25b84e9e27fb244bf3a50654eed0254346", func := "loop.example/g01324/laws.FnExactPathOf", spec := "fnExactPathOf", inPlace := ["internal/bytealg.IndexByteString", "internal/bytealg.IndexString"], named := ["unicode/utf8.first", "unicode/utf8.acceptRanges", "internal/bytealg.MaxLen"], apart := false, laid := [("unicode/utf8.acceptRanges", laid_unicode_utf8_acceptRanges), ("unicode/utf8.first", laid_unicode_utf8_first)] }
def FnExactPathOfSaid : Prop := fnExactPathOfRow.holds Tryd.pinned (OpenSpec.ofChange fnExactPathOfSpec)

/-- ITS FALSE NEIGHBOUR: 'it returns false'. Refute it at one input. -/
def fnExactPathOfWrong : ChangeSpec := { name := "fnExactPathOf", fn := fun _ => fun
  | [d1, d2] => { results := [.lit (.bool false)], args := [d1, d2] }
  | _ => none }
def FnExactPathOfWrongFalsely : Prop := fnExactPathOfRow.holds Tryd.pinned (OpenSpec.ofChange fnExactPathOfWrong)

/-- 'laws.FnExactTurnsMade': WHATEVER THE INPUT: true; the input reads as it did. -/
def fnExactTurnsMadeSpec : ChangeSpec := { name := "fnExactTurnsMade", fn := fun _ => fun
  | [d1, d2] => { results := [.lit (.bool true)], args := [d1, d2] }
  | _ => none }
def fnExactTurnsMadeRow : OpenClaim := { program := "ytkbokgpbfpncdaadoor", sum := "9970ed7b63decff468d20c76abb4db25b84e9e27fb244bf3a50654eed0254346", func := "loop.example/g01324/laws.FnExactTurnsMade", spec := "fnExactTurnsMade", inPlace := ["internal/bytealg.IndexByteString", "internal/bytealg.IndexString", "internal/bytealg.CountString"], named := ["unicode/utf8.first", "unicode/utf8.acceptRanges", "internal/bytealg.MaxLen"], apart := false, laid := [("unicode/utf8.acceptRanges", laid_unicode_utf8_acceptRanges), ("unicode/utf8.first", laid_unicode_utf8_first)] }
def FnExactTurnsMadeSaid : Prop := fnExactTurnsMadeRow.holds Tryd.pinned (OpenSpec.ofChange fnExactTurnsMadeSpec)

/-- ITS FALSE NEIGHBOUR: 'it returns false'. Refute it at one input. -/
def fnExactTurnsMadeWrong : ChangeSpec := { name := "fnExactTurnsMade", fn := fun _ => fun
  | [d1, d2] => { results := [.lit (.bool false)], args := [d1, d2] }
  | _ => none }
def FnExactTurnsMadeWrongFalsely : Prop := fnExactTurnsMadeRow.holds Tryd.pinned (OpenSpec.ofChange fnExactTurnsMadeWrong)

/-- 'laws.FnExactRepeatWord': WHATEVER THE INPUT: true; the input reads as it did. -/
def fnExactRepeatWordSpec : ChangeSpec := { name := "fnExactRepeatWord", fn := fun _ => fun
  | [d1, d2, d3] => { results := [.lit (.bool true)], args := [d1, d2, d3] }
  | _ => none }
def fnExactRepeatWordRow : OpenClaim := { program := "ytkbokgpbfpncdaadoor", sum := "9970ed7b63decff468d20c76abb4db25b84e9e27fb244bf3a50654eed0254346", func := "loop.example/g01324/laws.FnExactRepeatWord", spec := "fnExactRepeatWord", inPlace := ["internal/bytealg.IndexByteString", "internal/bytealg.IndexString", "internal/abi.NoEscape", "internal/bytealg.MakeNoZero"], named := ["unicode/utf8.first", "unicode/utf8.acceptRanges", "internal/bytealg.MaxLen"], apart := false, laid := [("unicode/utf8.acceptRanges", laid_unicode_utf8_acceptRanges), ("unicode/utf8.first", laid_unicode_utf8_first)] }
def FnExactRepeatWordSaid : Prop := fnExactRepeatWordRow.holds Tryd.pinned (OpenSpec.ofChange fnExactRepeatWordSpec)

/-- ITS FALSE NEIGHBOUR: 'it returns false'. Refute it at one input. -/
def fnExactRepeatWordWrong : ChangeSpec := { name := "fnExactRepeatWord", fn := fun _ => fun
  | [d1, d2, d3] => { results := [.lit (.bool false)], args := [d1, d2, d3] }
  | _ => none }
def FnExactRepeatWordWrongFalsely : Prop := fnExactRepeatWordRow.holds Tryd.pinned (OpenSpec.ofChange fnExactRepeatWordWrong)

/-- 'laws.FnExactSpiralRepeats': WHATEVER THE INPUT: true; the input reads as it did. -/
def fnExactSpiralRepeatsSpec : ChangeSpec := { name := "fnExactSpiralRepeats", fn := fun _ => fun
  | [d1, d2, d3] => { results := [.lit (.bool true)], args := [d1, d2, d3] }
  | _ => none }
def fnExactSpiralRepeatsRow : OpenClaim := { program := "ytkbokgpbfpncdaadoor", sum := "9970ed7b63decff468d20c76abb4db25b84e9e27fb244bf3a50654eed0254346", func := "loop.example/g01324/laws.FnExactSpiralRepeats", spec := "fnExactSpiralRepeats", inPlace := ["internal/abi.NoEscape", "internal/bytealg.MakeNoZero", "internal/bytealg.IndexByteString", "internal/bytealg.IndexString"], named := ["unicode/utf8.first", "unicode/utf8.acceptRanges", "internal/bytealg.MaxLen"], apart := false, laid := [("unicode/utf8.acceptRanges", laid_unicode_utf8_acceptRanges), ("unicode/utf8.first", laid_unicode_utf8_first)] }
def FnExactSpiralRepeatsSaid : Prop := fnExactSpiralRepeatsRow.holds Tryd.pinned (OpenSpec.ofChange fnExactSpiralRepeatsSpec)

/-- ITS FALSE NEIGHBOUR: 'it returns false'. Refute it at one input. -/
def fnExactSpiralRepeatsWrong : ChangeSpec := { name := "fnExactSpiralRepeats", fn := fun _ => fun
  | [d1, d2, d3] => { results := [.lit (.bool false)], args := [d1, d2, d3] }
  | _ => none }
def FnExactSpiralRepeatsWrongFalsely : Prop := fnExactSpiralRepeatsRow.holds Tryd.pinned (OpenSpec.ofChange fnExactSpiralRepeatsWrong)

/- THE SECOND FORM. 'bulk': how many values and letters a reading holds, each counted each time it is reached (what is shared counts as often as it is met; a slice's spare places count too). A statement '..UptoSaid' is the law's where the arguments, and the package variables that the reading takes, are together of bulk at most 1048576: NARROWER than '..Said'. Prove '..Said' where nothing that the law and all that it calls make is longer than what came in: it says more and counts as full. Else prove '..UptoSaid'. A law counts once. -/
mutual
def uptoBulk {H : Type} : DataW H → Nat
  | .lit (.string bytes) => bytes.length + 1
  | .lit _ => 1
  | .nil => 1
  | .ptr d => uptoBulk d + 1
  | .slice elems spare => uptoBulkAll elems + uptoBulkAll spare + 1
  | .agg parts => uptoBulkAll parts + 1
  | .iface _ d => uptoBulk d + 1
  | .map entries => uptoBulkEntries entries + 1
  | .held _ => 1
def uptoBulkAll {H : Type} : List (DataW H) → Nat
  | [] => 0
  | d :: r => uptoBulk d + uptoBulkAll r
def uptoBulkEntries {H : Type} : List (Lit × DataW H) → Nat
  | [] => 0
  | x :: r => uptoBulkEntry x + uptoBulkEntries r
def uptoBulkEntry {H : Type} : Lit × DataW H → Nat
  | (.string bytes, d) => bytes.length + uptoBulk d + 1
  | (_, d) => uptoBulk d + 1
 end
def uptoSmall : (H : Type) → List (DataW H) → Bool := fun _ ds => decide (uptoBulkAll ds ≤ 1048576)
def OpenSpec.upto (s : _root_.Go.ChangeSpec) : _root_.Go.OpenSpec := { _root_.Go.OpenSpec.ofChange s with cond := some uptoSmall }

/-- 'laws.FnExactIsWord', WHERE WHAT IT READS IS OF BULK AT MOST 1048576: true; the input reads as it did. -/
def fnExactIsWordUptoRow : OpenClaim := { program := "ytkbokgpbfpncdaadoor", sum := "9970ed7b63decff468d20c76abb4db25b84e9e27fb244bf3a50654eed0254346", func := "loop.example/g01324/laws.FnExactIsWord", spec := "fnExactIsWord", inPlace := ["internal/bytealg.IndexByteString", "internal/bytealg.IndexString"], named := ["unicode/utf8.first", "unicode/utf8.acceptRanges", "internal/bytealg.MaxLen"], apart := false, laid := [("unicode/utf8.acceptRanges", laid_unicode_utf8_acceptRanges), ("unicode/utf8.first", laid_unicode_utf8_first)], narrowed := true }
def FnExactIsWordUptoSaid : Prop := fnExactIsWordUptoRow.holds Tryd.pinned (OpenSpec.upto fnExactIsWordSpec)

/-- 'laws.FnExactShiftWord', WHERE WHAT IT READS IS OF BULK AT MOST 1048576: true; the input reads as it did. -/
def fnExactShiftWordUptoRow : OpenClaim := { program := "ytkbokgpbfpncdaadoor", sum := "9970ed7b63decff468d20c76abb4db25b84e9e27fb244bf3a50654eed0254346", func := "loop.example/g01324/laws.FnExactShiftWord", spec := "fnExactShiftWord", inPlace := ["internal/bytealg.IndexByteString", "internal/bytealg.IndexString"], named := ["unicode/utf8.first", "unicode/utf8.acceptRanges", "internal/bytealg.MaxLen"], apart := false, laid := [("unicode/utf8.acceptRanges", laid_unicode_utf8_acceptRanges), ("unicode/utf8.first", laid_unicode_utf8_first)], narrowed := true }
def FnExactShiftWordUptoSaid : Prop := fnExactShiftWordUptoRow.holds Tryd.pinned (OpenSpec.upto fnExactShiftWordSpec)

/-- 'laws.FnExactLeastShift', WHERE WHAT IT READS IS OF BULK AT MOST 1048576: true; the input reads as it did. -/
def fnExactLeastShiftUptoRow : OpenClaim := { program := "ytkbokgpbfpncdaadoor", sum := "9970ed7b63decff468d20c76abb4db25b84e9e27fb244bf3a50654eed0254346", func := "loop.example/g01324/laws.FnExactLeastShift", spec := "fnExactLeastShift", inPlace := ["internal/bytealg.IndexByteString", "internal/bytealg.IndexString"], named := ["unicode/utf8.first", "unicode/utf8.acceptRanges", "internal/bytealg.MaxLen"], apart := false, laid := [("unicode/utf8.acceptRanges", laid_unicode_utf8_acceptRanges), ("unicode/utf8.first", laid_unicode_utf8_first)], narrowed := true }
def FnExactLeastShiftUptoSaid : Prop := fnExactLeastShiftUptoRow.holds Tryd.pinned (OpenSpec.upto fnExactLeastShiftSpec)

/-- 'laws.FnExactIsClosed', WHERE WHAT IT READS IS OF BULK AT MOST 1048576: true; the input reads as it did. -/
def fnExactIsClosedUptoRow : OpenClaim := { program := "ytkbokgpbfpncdaadoor", sum := "9970ed7b63decff468d20c76abb4db25b84e9e27fb244bf3a50654eed0254346", func := "loop.example/g01324/laws.FnExactIsClosed", spec := "fnExactIsClosed", inPlace := ["internal/bytealg.IndexByteString", "internal/bytealg.IndexString"], named := ["unicode/utf8.first", "unicode/utf8.acceptRanges", "internal/bytealg.MaxLen"], apart := false, laid := [("unicode/utf8.acceptRanges", laid_unicode_utf8_acceptRanges), ("unicode/utf8.first", laid_unicode_utf8_first)], narrowed := true }
def FnExactIsClosedUptoSaid : Prop := fnExactIsClosedUptoRow.holds Tryd.pinned (OpenSpec.upto fnExactIsClosedSpec)

/-- 'laws.FnExactDoubleArea', WHERE WHAT IT READS IS OF BULK AT MOST 1048576: true; the input reads as it did. -/
def fnExactDoubleAreaUptoRow : OpenClaim := { program := "ytkbokgpbfpncdaadoor", sum := "9970ed7b63decff468d20c76abb4db25b84e9e27fb244bf3a50654eed0254346", func := "loop.example/g01324/laws.FnExactDoubleArea", spec := "fnExactDoubleArea", inPlace := ["internal/bytealg.IndexByteString", "internal/bytealg.IndexString"], named := ["unicode/utf8.first", "unicode/utf8.acceptRanges", "internal/bytealg.MaxLen"], apart := false, laid := [("unicode/utf8.acceptRanges", laid_unicode_utf8_acceptRanges), ("unicode/utf8.first", laid_unicode_utf8_first)], narrowed := true }
def FnExactDoubleAreaUptoSaid : Prop := fnExactDoubleAreaUptoRow.holds Tryd.pinned (OpenSpec.upto fnExactDoubleAreaSpec)

/-- 'laws.FnExactRepeatsToClose', WHERE WHAT IT READS IS OF BULK AT MOST 1048576: true; the input reads as it did. -/
def fnExactRepeatsToCloseUptoRow : OpenClaim := { program := "ytkbokgpbfpncdaadoor", sum := "9970ed7b63decff468d20c76abb4db25b84e9e27fb244bf3a50654eed0254346", func := "loop.example/g01324/laws.FnExactRepeatsToClose", spec := "fnExactRepeatsToClose", inPlace := ["internal/bytealg.IndexByteString", "internal/bytealg.IndexString"], named := ["unicode/utf8.first", "unicode/utf8.acceptRanges", "internal/bytealg.MaxLen"], apart := false, laid := [("unicode/utf8.acceptRanges", laid_unicode_utf8_acceptRanges), ("unicode/utf8.first", laid_unicode_utf8_first)], narrowed := true }
def FnExactRepeatsToCloseUptoSaid : Prop := fnExactRepeatsToCloseUptoRow.holds Tryd.pinned (OpenSpec.upto fnExactRepeatsToCloseSpec)

/-- 'laws.FnExactEndOf', WHERE WHAT IT READS IS OF BULK AT MOST 1048576: true; the input reads as it did. -/
def fnExactEndOfUptoRow : OpenClaim := { program := "ytkbokgpbfpncdaadoor", sum := "9970ed7b63decff468d20c76abb4db25b84e9e27fb244bf3a50654eed0254346", func := "loop.example/g01324/laws.FnExactEndOf", spec := "fnExactEndOf", inPlace := ["internal/bytealg.IndexByteString", "internal/bytealg.IndexString"], named := ["unicode/utf8.first", "unicode/utf8.acceptRanges", "internal/bytealg.MaxLen"], apart := false, laid := [("unicode/utf8.acceptRanges", laid_unicode_utf8_acceptRanges), ("unicode/utf8.first", laid_unicode_utf8_first)], narrowed := true }
def FnExactEndOfUptoSaid : Prop := fnExactEndOfUptoRow.holds Tryd.pinned (OpenSpec.upto fnExactEndOfSpec)

/-- 'laws.FnExactPathOf', WHERE WHAT IT READS IS OF BULK AT MOST 1048576: true; the input reads as it did. -/
def fnExactPathOfUptoRow : OpenClaim := { program := "ytkbokgpbfpncdaadoor", sum := "9970ed7b63decff468d20c76abb4db25b84e9e27fb244bf3a50654eed0254346", func := "loop.example/g01324/laws.FnExactPathOf", spec := "fnExactPathOf", inPlace := ["internal/bytealg.IndexByteString", "internal/bytealg.IndexString"], named := ["unicode/utf8.first", "unicode/utf8.acceptRanges", "internal/bytealg.MaxLen"], apart := false, laid := [("unicode/utf8.acceptRanges", laid_unicode_utf8_acceptRanges), ("unicode/utf8.first", laid_unicode_utf8_first)], narrowed := true }
def FnExactPathOfUptoSaid : Prop := fnExactPathOfUptoRow.holds Tryd.pinned (OpenSpec.upto fnExactPathOfSpec)

/-- 'laws.FnExactTurnsMade', WHERE WHAT IT READS IS OF BULK AT MOST 1048576: true; the input reads as it did. -/
def fnExactTurnsMadeUptoRow : OpenClaim := { program := "ytkbokgpbfpncdaadoor", sum := "9970ed7b63decff468d20c76abb4db25b84e9e27fb244bf3a50654eed0254346", func := "loop.example/g01324/laws.FnExactTurnsMade", spec := "fnExactTurnsMade", inPlace := ["internal/bytealg.IndexByteString", "internal/bytealg.IndexString", "internal/bytealg.CountString"], named := ["unicode/utf8.first", "unicode/utf8.acceptRanges", "internal/bytealg.MaxLen"], apart := false, laid := [("unicode/utf8.acceptRanges", laid_unicode_utf8_acceptRanges), ("unicode/utf8.first", laid_unicode_utf8_first)], narrowed := true }
def FnExactTurnsMadeUptoSaid : Prop := fnExactTurnsMadeUptoRow.holds Tryd.pinned (OpenSpec.upto fnExactTurnsMadeSpec)

/-- 'laws.FnExactRepeatWord', WHERE WHAT IT READS IS OF BULK AT MOST 1048576: true; the input reads as it did. -/
def fnExactRepeatWordUptoRow : OpenClaim := { program := "ytkbokgpbfpncdaadoor", sum := "9970ed7b63decff468d20c76abb4db25b84e9e27fb244bf3a50654eed0254346", func := "loop.example/g01324/laws.FnExactRepeatWord", spec := "fnExactRepeatWord", inPlace := ["internal/bytealg.IndexByteString", "internal/bytealg.IndexString", "internal/abi.NoEscape", "internal/bytealg.MakeNoZero"], named := ["unicode/utf8.first", "unicode/utf8.acceptRanges", "internal/bytealg.MaxLen"], apart := false, laid := [("unicode/utf8.acceptRanges", laid_unicode_utf8_acceptRanges), ("unicode/utf8.first", laid_unicode_utf8_first)], narrowed := true }
def FnExactRepeatWordUptoSaid : Prop := fnExactRepeatWordUptoRow.holds Tryd.pinned (OpenSpec.upto fnExactRepeatWordSpec)

/-- 'laws.FnExactSpiralRepeats', WHERE WHAT IT READS IS OF BULK AT MOST 1048576: true; the input reads as it did. -/
def fnExactSpiralRepeatsUptoRow : OpenClaim := { program := "ytkbokgpbfpncdaadoor", sum := "9970ed7b63decff468d20c76abb4db25b84e9e27fb244bf3a50654eed0254346", func := "loop.example/g01324/laws.FnExactSpiralRepeats", spec := "fnExactSpiralRepeats", inPlace := ["internal/abi.NoEscape", "internal/bytealg.MakeNoZero", "internal/bytealg.IndexByteString", "internal/bytealg.IndexString"], named := ["unicode/utf8.first", "unicode/utf8.acceptRanges", "internal/bytealg.MaxLen"], apart := false, laid := [("unicode/utf8.acceptRanges", laid_unicode_utf8_acceptRanges), ("unicode/utf8.first", laid_unicode_utf8_first)], narrowed := true }
def FnExactSpiralRepeatsUptoSaid : Prop := fnExactSpiralRepeatsUptoRow.holds Tryd.pinned (OpenSpec.upto fnExactSpiralRepeatsSpec)

end Rows
end Go.Proofs.YtkbokgpbfpncdaaDoor
