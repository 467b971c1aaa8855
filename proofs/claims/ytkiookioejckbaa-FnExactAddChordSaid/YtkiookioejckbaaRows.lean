/-
  No cell of these rows narrows 'for every input' (looked for: loops, veiled, ifaces, maps, wideKeys, modest, calm, conditions, laid).
  DERIVED. THE GIVEN ROWS OF THIS SEAT. 12 by the template 'for every input the law returns true; each argument reads behind the call as it read before'; 0 by the template 'total and deterministic' (their statements: YtkiookioejckbaaTotals.lean).
  GIVEN WITH THE SEED: the statements are not yours to turn. If you find one false, say at which input.
  Laid BY PROGRAM, IN A SANDBOX (cutbox-rows.mjs): the forced cells as the released guide's own fill.sh prints them over the translation b78c4246648dc763… (all of the seat's roots in one cut). By AI agents, Wed Nov 11 2026. No macro, syntax, notation, axiom, sorry.
-/
import Derived.Test.YtkiookioejckbaaChecked
import GoSem.Claim
import GoSem.ClaimJoined
import GoSem.ClaimMapViews
import Derived.JoinedTies
import Derived.KernelRfl
namespace Go.Proofs.Ytkiookioejckbaa
/- THE CELL 'sum', in the pinned program and in every row, IS THE sha256 OF THE DUMP (.gsa) THAT YtkiookioejckbaaProg.lean LOADS. Nothing in Lean hashes anything: it is a label: what it is worth is what the hold of that sum in a sandbox is worth. -/
noncomputable def Try.pinned : Pinned := { name := "ytkiookioejckbaa", sum := "b78c4246648dc76307cebb4d68e4075c416ffca56b85695ae15a6ec06ae9d390", checked := Try.checked }
namespace Rows
def none {H : Type} : Left H := { results := [], args := [] }

/-- 'laws.FnExactAreChords': WHATEVER THE INPUT: true; the input reads as it did. -/
def fnExactAreChordsSpec : ChangeSpec := { name := "fnExactAreChords", fn := fun _ => fun
  | [d1, d2] => { results := [.lit (.bool true)], args := [d1, d2] }
  | _ => none }
def fnExactAreChordsRow : OpenClaim := { program := "ytkiookioejckbaa", sum := "b78c4246648dc76307cebb4d68e4075c416ffca56b85695ae15a6ec06ae9d390", func := "loop.example/g01324/laws.FnExactAreChords", spec := "fnExactAreChords", apart := false }
def FnExactAreChordsSaid : Prop := fnExactAreChordsRow.holds Try.pinned (OpenSpec.ofChange fnExactAreChordsSpec)

/-- ITS FALSE NEIGHBOUR: 'it returns false'. Refute it at one input. -/
def fnExactAreChordsWrong : ChangeSpec := { name := "fnExactAreChords", fn := fun _ => fun
  | [d1, d2] => { results := [.lit (.bool false)], args := [d1, d2] }
  | _ => none }
def FnExactAreChordsWrongFalsely : Prop := fnExactAreChordsRow.holds Try.pinned (OpenSpec.ofChange fnExactAreChordsWrong)

/-- 'laws.FnExactCountPairsCrossing': WHATEVER THE INPUT: true; the input reads as it did. -/
def fnExactCountPairsCrossingSpec : ChangeSpec := { name := "fnExactCountPairsCrossing", fn := fun _ => fun
  | [d1, d2] => { results := [.lit (.bool true)], args := [d1, d2] }
  | _ => none }
def fnExactCountPairsCrossingRow : OpenClaim := { program := "ytkiookioejckbaa", sum := "b78c4246648dc76307cebb4d68e4075c416ffca56b85695ae15a6ec06ae9d390", func := "loop.example/g01324/laws.FnExactCountPairsCrossing", spec := "fnExactCountPairsCrossing", apart := false }
def FnExactCountPairsCrossingSaid : Prop := fnExactCountPairsCrossingRow.holds Try.pinned (OpenSpec.ofChange fnExactCountPairsCrossingSpec)

/-- ITS FALSE NEIGHBOUR: 'it returns false'. Refute it at one input. -/
def fnExactCountPairsCrossingWrong : ChangeSpec := { name := "fnExactCountPairsCrossing", fn := fun _ => fun
  | [d1, d2] => { results := [.lit (.bool false)], args := [d1, d2] }
  | _ => none }
def FnExactCountPairsCrossingWrongFalsely : Prop := fnExactCountPairsCrossingRow.holds Try.pinned (OpenSpec.ofChange fnExactCountPairsCrossingWrong)

/-- 'laws.FnExactIsPlane': WHATEVER THE INPUT: true; the input reads as it did. -/
def fnExactIsPlaneSpec : ChangeSpec := { name := "fnExactIsPlane", fn := fun _ => fun
  | [d1, d2] => { results := [.lit (.bool true)], args := [d1, d2] }
  | _ => none }
def fnExactIsPlaneRow : OpenClaim := { program := "ytkiookioejckbaa", sum := "b78c4246648dc76307cebb4d68e4075c416ffca56b85695ae15a6ec06ae9d390", func := "loop.example/g01324/laws.FnExactIsPlane", spec := "fnExactIsPlane", apart := false }
def FnExactIsPlaneSaid : Prop := fnExactIsPlaneRow.holds Try.pinned (OpenSpec.ofChange fnExactIsPlaneSpec)

/-- ITS FALSE NEIGHBOUR: 'it returns false'. Refute it at one input. -/
def fnExactIsPlaneWrong : ChangeSpec := { name := "fnExactIsPlane", fn := fun _ => fun
  | [d1, d2] => { results := [.lit (.bool false)], args := [d1, d2] }
  | _ => none }
def FnExactIsPlaneWrongFalsely : Prop := fnExactIsPlaneRow.holds Try.pinned (OpenSpec.ofChange fnExactIsPlaneWrong)

/-- 'laws.FnExactDropChord': WHATEVER THE INPUT: true; the input reads as it did. -/
def fnExactDropChordSpec : ChangeSpec := { name := "fnExactDropChord", fn := fun _ => fun
  | [d1, d2, d3] => { results := [.lit (.bool true)], args := [d1, d2, d3] }
  | _ => none }
def fnExactDropChordRow : OpenClaim := { program := "ytkiookioejckbaa", sum := "b78c4246648dc76307cebb4d68e4075c416ffca56b85695ae15a6ec06ae9d390", func := "loop.example/g01324/laws.FnExactDropChord", spec := "fnExactDropChord", apart := false }
def FnExactDropChordSaid : Prop := fnExactDropChordRow.holds Try.pinned (OpenSpec.ofChange fnExactDropChordSpec)

/-- ITS FALSE NEIGHBOUR: 'it returns false'. Refute it at one input. -/
def fnExactDropChordWrong : ChangeSpec := { name := "fnExactDropChord", fn := fun _ => fun
  | [d1, d2, d3] => { results := [.lit (.bool false)], args := [d1, d2, d3] }
  | _ => none }
def FnExactDropChordWrongFalsely : Prop := fnExactDropChordRow.holds Try.pinned (OpenSpec.ofChange fnExactDropChordWrong)

/-- 'laws.FnExactChordLengths': WHATEVER THE INPUT: true; the input reads as it did. -/
def fnExactChordLengthsSpec : ChangeSpec := { name := "fnExactChordLengths", fn := fun _ => fun
  | [d1, d2] => { results := [.lit (.bool true)], args := [d1, d2] }
  | _ => none }
def fnExactChordLengthsRow : OpenClaim := { program := "ytkiookioejckbaa", sum := "b78c4246648dc76307cebb4d68e4075c416ffca56b85695ae15a6ec06ae9d390", func := "loop.example/g01324/laws.FnExactChordLengths", spec := "fnExactChordLengths", apart := false }
def FnExactChordLengthsSaid : Prop := fnExactChordLengthsRow.holds Try.pinned (OpenSpec.ofChange fnExactChordLengthsSpec)

/-- ITS FALSE NEIGHBOUR: 'it returns false'. Refute it at one input. -/
def fnExactChordLengthsWrong : ChangeSpec := { name := "fnExactChordLengths", fn := fun _ => fun
  | [d1, d2] => { results := [.lit (.bool false)], args := [d1, d2] }
  | _ => none }
def FnExactChordLengthsWrongFalsely : Prop := fnExactChordLengthsRow.holds Try.pinned (OpenSpec.ofChange fnExactChordLengthsWrong)

/-- 'laws.FnExactMostCrossed': WHATEVER THE INPUT: true; the input reads as it did. -/
def fnExactMostCrossedSpec : ChangeSpec := { name := "fnExactMostCrossed", fn := fun _ => fun
  | [d1, d2] => { results := [.lit (.bool true)], args := [d1, d2] }
  | _ => none }
def fnExactMostCrossedRow : OpenClaim := { program := "ytkiookioejckbaa", sum := "b78c4246648dc76307cebb4d68e4075c416ffca56b85695ae15a6ec06ae9d390", func := "loop.example/g01324/laws.FnExactMostCrossed", spec := "fnExactMostCrossed", apart := false }
def FnExactMostCrossedSaid : Prop := fnExactMostCrossedRow.holds Try.pinned (OpenSpec.ofChange fnExactMostCrossedSpec)

/-- ITS FALSE NEIGHBOUR: 'it returns false'. Refute it at one input. -/
def fnExactMostCrossedWrong : ChangeSpec := { name := "fnExactMostCrossed", fn := fun _ => fun
  | [d1, d2] => { results := [.lit (.bool false)], args := [d1, d2] }
  | _ => none }
def FnExactMostCrossedWrongFalsely : Prop := fnExactMostCrossedRow.holds Try.pinned (OpenSpec.ofChange fnExactMostCrossedWrong)

/-- 'laws.FnExactIsPairing': WHATEVER THE INPUT: true; the input reads as it did. -/
def fnExactIsPairingSpec : ChangeSpec := { name := "fnExactIsPairing", fn := fun _ => fun
  | [d1, d2] => { results := [.lit (.bool true)], args := [d1, d2] }
  | _ => none }
def fnExactIsPairingRow : OpenClaim := { program := "ytkiookioejckbaa", sum := "b78c4246648dc76307cebb4d68e4075c416ffca56b85695ae15a6ec06ae9d390", func := "loop.example/g01324/laws.FnExactIsPairing", spec := "fnExactIsPairing", apart := false }
def FnExactIsPairingSaid : Prop := fnExactIsPairingRow.holds Try.pinned (OpenSpec.ofChange fnExactIsPairingSpec)

/-- ITS FALSE NEIGHBOUR: 'it returns false'. Refute it at one input. -/
def fnExactIsPairingWrong : ChangeSpec := { name := "fnExactIsPairing", fn := fun _ => fun
  | [d1, d2] => { results := [.lit (.bool false)], args := [d1, d2] }
  | _ => none }
def FnExactIsPairingWrongFalsely : Prop := fnExactIsPairingRow.holds Try.pinned (OpenSpec.ofChange fnExactIsPairingWrong)

/-- 'laws.FnExactCrossingPairs': WHATEVER THE INPUT: true; the input reads as it did. -/
def fnExactCrossingPairsSpec : ChangeSpec := { name := "fnExactCrossingPairs", fn := fun _ => fun
  | [d1, d2] => { results := [.lit (.bool true)], args := [d1, d2] }
  | _ => none }
def fnExactCrossingPairsRow : OpenClaim := { program := "ytkiookioejckbaa", sum := "b78c4246648dc76307cebb4d68e4075c416ffca56b85695ae15a6ec06ae9d390", func := "loop.example/g01324/laws.FnExactCrossingPairs", spec := "fnExactCrossingPairs", apart := false }
def FnExactCrossingPairsSaid : Prop := fnExactCrossingPairsRow.holds Try.pinned (OpenSpec.ofChange fnExactCrossingPairsSpec)

/-- ITS FALSE NEIGHBOUR: 'it returns false'. Refute it at one input. -/
def fnExactCrossingPairsWrong : ChangeSpec := { name := "fnExactCrossingPairs", fn := fun _ => fun
  | [d1, d2] => { results := [.lit (.bool false)], args := [d1, d2] }
  | _ => none }
def FnExactCrossingPairsWrongFalsely : Prop := fnExactCrossingPairsRow.holds Try.pinned (OpenSpec.ofChange fnExactCrossingPairsWrong)

/-- 'laws.FnExactCountPairings': WHATEVER THE INPUT: true; the input reads as it did. -/
def fnExactCountPairingsSpec : ChangeSpec := { name := "fnExactCountPairings", fn := fun _ => fun
  | [d1, d2] => { results := [.lit (.bool true)], args := [d1, d2] }
  | _ => none }
def fnExactCountPairingsRow : OpenClaim := { program := "ytkiookioejckbaa", sum := "b78c4246648dc76307cebb4d68e4075c416ffca56b85695ae15a6ec06ae9d390", func := "loop.example/g01324/laws.FnExactCountPairings", spec := "fnExactCountPairings", unfollowed := true, recurses := true, apart := false }
def FnExactCountPairingsSaid : Prop := fnExactCountPairingsRow.holds Try.pinned (OpenSpec.ofChange fnExactCountPairingsSpec)

/-- ITS FALSE NEIGHBOUR: 'it returns false'. Refute it at one input. -/
def fnExactCountPairingsWrong : ChangeSpec := { name := "fnExactCountPairings", fn := fun _ => fun
  | [d1, d2] => { results := [.lit (.bool false)], args := [d1, d2] }
  | _ => none }
def FnExactCountPairingsWrongFalsely : Prop := fnExactCountPairingsRow.holds Try.pinned (OpenSpec.ofChange fnExactCountPairingsWrong)

/-- 'laws.FnExactFewestDrops': WHATEVER THE INPUT: true; the input reads as it did. -/
def fnExactFewestDropsSpec : ChangeSpec := { name := "fnExactFewestDrops", fn := fun _ => fun
  | [d1, d2] => { results := [.lit (.bool true)], args := [d1, d2] }
  | _ => none }
def fnExactFewestDropsRow : OpenClaim := { program := "ytkiookioejckbaa", sum := "b78c4246648dc76307cebb4d68e4075c416ffca56b85695ae15a6ec06ae9d390", func := "loop.example/g01324/laws.FnExactFewestDrops", spec := "fnExactFewestDrops", recurses := true, apart := false }
def FnExactFewestDropsSaid : Prop := fnExactFewestDropsRow.holds Try.pinned (OpenSpec.ofChange fnExactFewestDropsSpec)

/-- ITS FALSE NEIGHBOUR: 'it returns false'. Refute it at one input. -/
def fnExactFewestDropsWrong : ChangeSpec := { name := "fnExactFewestDrops", fn := fun _ => fun
  | [d1, d2] => { results := [.lit (.bool false)], args := [d1, d2] }
  | _ => none }
def FnExactFewestDropsWrongFalsely : Prop := fnExactFewestDropsRow.holds Try.pinned (OpenSpec.ofChange fnExactFewestDropsWrong)

/-- 'laws.FnExactAddChord': WHATEVER THE INPUT: true; the input reads as it did. -/
def fnExactAddChordSpec : ChangeSpec := { name := "fnExactAddChord", fn := fun _ => fun
  | [d1, d2, d3] => { results := [.lit (.bool true)], args := [d1, d2, d3] }
  | _ => none }
def fnExactAddChordRow : OpenClaim := { program := "ytkiookioejckbaa", sum := "b78c4246648dc76307cebb4d68e4075c416ffca56b85695ae15a6ec06ae9d390", func := "loop.example/g01324/laws.FnExactAddChord", spec := "fnExactAddChord", inPlace := ["slices.overlaps[loop.example/g01324/impl.Chord]"], unfollowed := true, recurses := true, apart := false }
def FnExactAddChordSaid : Prop := fnExactAddChordRow.holds Try.pinned (OpenSpec.ofChange fnExactAddChordSpec)

/-- ITS FALSE NEIGHBOUR: 'it returns false'. Refute it at one input. -/
def fnExactAddChordWrong : ChangeSpec := { name := "fnExactAddChord", fn := fun _ => fun
  | [d1, d2, d3] => { results := [.lit (.bool false)], args := [d1, d2, d3] }
  | _ => none }
def FnExactAddChordWrongFalsely : Prop := fnExactAddChordRow.holds Try.pinned (OpenSpec.ofChange fnExactAddChordWrong)

/-- 'laws.FnExactRankOfPlanePairing': WHATEVER THE INPUT: true; the input reads as it did. -/
def fnExactRankOfPlanePairingSpec : ChangeSpec := { name := "fnExactRankOfPlanePairing", fn := fun _ => fun
  | [d1, d2] => { results := [.lit (.bool true)], args := [d1, d2] }
  | _ => none }
def fnExactRankOfPlanePairingRow : OpenClaim := { program := "ytkiookioejckbaa", sum := "b78c4246648dc76307cebb4d68e4075c416ffca56b85695ae15a6ec06ae9d390", func := "loop.example/g01324/laws.FnExactRankOfPlanePairing", spec := "fnExactRankOfPlanePairing", recurses := true, apart := false }
def FnExactRankOfPlanePairingSaid : Prop := fnExactRankOfPlanePairingRow.holds Try.pinned (OpenSpec.ofChange fnExactRankOfPlanePairingSpec)

/-- ITS FALSE NEIGHBOUR: 'it returns false'. Refute it at one input. -/
def fnExactRankOfPlanePairingWrong : ChangeSpec := { name := "fnExactRankOfPlanePairing", fn := fun _ => fun
  | [d1, d2] => { results := [.lit (.bool false)], args := [d1, d2] }
  | _ => none }
def FnExactRankOfPlanePairingWrongFalsely : Prop := fnExactRankOfPlanePairingRow.holds Try.pinned (OpenSpec.ofChange fnExactRankOfPlanePairingWrong)

/- THE SECOND FORM. 'bulk': how many values and letters a reading holds, each counted each time it is reached (what is shared counts as often as it is met; a slice's spare places count too). A statement '..UptoSaid' is the law's where the arguments, and the package variables that the reading takes, are together of bulk at most 1048576: NARROWER than '..Said'. Prove '..Said' where nothing that the law and all that it calls make is longer than what came in: it says more and counts as full. Else prove '..UptoSaid'. A law counts once. -/
mutual
def uptoBulk {H : Type} : DataW H → Nat
  | .lit (.string bytes) => bytes.length + 1
  | .lit _ => 1
  | .nil => 1
  | .ptr d => uptoBulk d + 1
  | .slice elems spare => uptoBulkAll elems + uptoBulkAll spare + 1
  | .agg parts => uptoBulkAll parts + 1
  | .iface _ d => uptoBulk d + 1
  | .map entries => uptoBulkEntries entries + 1
  | .held _ => 1
def uptoBulkAll {H : Type} : List (DataW H) → Nat
  | [] => 0
  | d :: r => uptoBulk d + uptoBulkAll r
def uptoBulkEntries {H : Type} : List (Lit × DataW H) → Nat
  | [] => 0
  | x :: r => uptoBulkEntry x + uptoBulkEntries r
def uptoBulkEntry {H : Type} : Lit × DataW H → Nat
  | (.string bytes, d) => bytes.length + uptoBulk d + 1
  | (_, d) => uptoBulk d + 1
 end
def uptoSmall : (H : Type) → List (DataW H) → Bool := fun _ ds => decide (uptoBulkAll ds ≤ 1048576)
def OpenSpec.upto (s : _root_.Go.ChangeSpec) : _root_.Go.OpenSpec := { _root_.Go.OpenSpec.ofChange s with cond := some uptoSmall }

/-- 'laws.FnExactAreChords', WHERE WHAT IT READS IS OF BULK AT MOST 1048576: true; the input reads as it did. -/
def fnExactAreChordsUptoRow : OpenClaim := { program := "ytkiookioejckbaa", sum := "b78c4246648dc76307cebb4d68e4075c416ffca56b85695ae15a6ec06ae9d390", func := "loop.example/g01324/laws.FnExactAreChords", spec := "fnExactAreChords", apart := false, narrowed := true }
def FnExactAreChordsUptoSaid : Prop := fnExactAreChordsUptoRow.holds Try.pinned (OpenSpec.upto fnExactAreChordsSpec)

/-- 'laws.FnExactCountPairsCrossing', WHERE WHAT IT READS IS OF BULK AT MOST 1048576: true; the input reads as it did. -/
def fnExactCountPairsCrossingUptoRow : OpenClaim := { program := "ytkiookioejckbaa", sum := "b78c4246648dc76307cebb4d68e4075c416ffca56b85695ae15a6ec06ae9d390", func := "loop.example/g01324/laws.FnExactCountPairsCrossing", spec := "fnExactCountPairsCrossing", apart := false, narrowed := true }
def FnExactCountPairsCrossingUptoSaid : Prop := fnExactCountPairsCrossingUptoRow.holds Try.pinned (OpenSpec.upto fnExactCountPairsCrossingSpec)

/-- 'laws.FnExactIsPlane', WHERE WHAT IT READS IS OF BULK AT MOST 1048576: true; the input reads as it did. -/
def fnExactIsPlaneUptoRow : OpenClaim := { program := "ytkiookioejckbaa", sum := "b78c4246648dc76307cebb4d68e4075c416ffca56b85695ae15a6ec06ae9d390", func := "loop.example/g01324/laws.FnExactIsPlane", spec := "fnExactIsPlane", apart := false, narrowed := true }
def FnExactIsPlaneUptoSaid : Prop := fnExactIsPlaneUptoRow.holds Try.pinned (OpenSpec.upto fnExactIsPlaneSpec)

/-- 'laws.FnExactDropChord', WHERE WHAT IT READS IS OF BULK AT MOST 1048576: true; the input reads as it did. -/
def fnExactDropChordUptoRow : OpenClaim := { program := "ytkiookioejckbaa", sum := "b78c4246648dc76307cebb4d68e4075c416ffca56b85695ae15a6ec06ae9d390", func := "loop.example/g01324/laws.FnExactDropChord", spec := "fnExactDropChord", apart := false, narrowed := true }
def FnExactDropChordUptoSaid : Prop := fnExactDropChordUptoRow.holds Try.pinned (OpenSpec.upto fnExactDropChordSpec)

/-- 'laws.FnExactChordLengths', WHERE WHAT IT READS IS OF BULK AT MOST 1048576: true; the input reads as it did. -/
def fnExactChordLengthsUptoRow : OpenClaim := { program := "ytkiookioejckbaa", sum := "b78c4246648dc76307cebb4d68e4075c416ffca56b85695ae15a6ec06ae9d390", func := "loop.example/g01324/laws.FnExactChordLengths", spec := "fnExactChordLengths", apart := false, narrowed := true }
def FnExactChordLengthsUptoSaid : Prop := fnExactChordLengthsUptoRow.holds Try.pinned (OpenSpec.upto fnExactChordLengthsSpec)

/-- 'laws.FnExactMostCrossed', WHERE WHAT IT READS IS OF BULK AT MOST 1048576: true; the input reads as it did. -/
def fnExactMostCrossedUptoRow : OpenClaim := { program := "ytkiookioejckbaa", sum := "b78c4246648dc76307cebb4d68e4075c416ffca56b85695ae15a6ec06ae9d390", func := "loop.example/g01324/laws.FnExactMostCrossed", spec := "fnExactMostCrossed", apart := false, narrowed := true }
def FnExactMostCrossedUptoSaid : Prop := fnExactMostCrossedUptoRow.holds Try.pinned (OpenSpec.upto fnExactMostCrossedSpec)

/-- 'laws.FnExactIsPairing', WHERE WHAT IT READS IS OF BULK AT MOST 1048576: true; the input reads as it did. -/
def fnExactIsPairingUptoRow : OpenClaim := { program := "ytkiookioejckbaa", sum := "b78c4246648dc76307cebb4d68e4075c416ffca56b85695ae15a6ec06ae9d390", func := "loop.example/g01324/laws.FnExactIsPairing", spec := "fnExactIsPairing", apart := false, narrowed := true }
def FnExactIsPairingUptoSaid : Prop := fnExactIsPairingUptoRow.holds Try.pinned (OpenSpec.upto fnExactIsPairingSpec)

/-- 'laws.FnExactCrossingPairs', WHERE WHAT IT READS IS OF BULK AT MOST 1048576: true; the input reads as it did. -/
def fnExactCrossingPairsUptoRow : OpenClaim := { program := "ytkiookioejckbaa", sum := "b78c4246648dc76307cebb4d68e4075c416ffca56b85695ae15a6ec06ae9d390", func := "loop.example/g01324/laws.FnExactCrossingPairs", spec := "fnExactCrossingPairs", apart := false, narrowed := true }
def FnExactCrossingPairsUptoSaid : Prop := fnExactCrossingPairsUptoRow.holds Try.pinned (OpenSpec.upto fnExactCrossingPairsSpec)

/-- 'laws.FnExactCountPairings', WHERE WHAT IT READS IS OF BULK AT MOST 1048576: true; the input reads as it did. -/
def fnExactCountPairingsUptoRow : OpenClaim := { program := "ytkiookioejckbaa", sum := "b78c4246648dc76307cebb4d68e4075c416ffca56b85695ae15a6ec06ae9d390", func := "loop.example/g01324/laws.FnExactCountPairings", spec := "fnExactCountPairings", unfollowed := true, recurses := true, apart := false, narrowed := true }
def FnExactCountPairingsUptoSaid : Prop := fnExactCountPairingsUptoRow.holds Try.pinned (OpenSpec.upto fnExactCountPairingsSpec)

/-- 'laws.FnExactFewestDrops', WHERE WHAT IT READS IS OF BULK AT MOST 1048576: true; the input reads as it did. -/
def fnExactFewestDropsUptoRow : OpenClaim := { program := "ytkiookioejckbaa", sum := "b78c4246648dc76307cebb4d68e4075c416ffca56b85695ae15a6ec06ae9d390", func := "loop.example/g01324/laws.FnExactFewestDrops", spec := "fnExactFewestDrops", recurses := true, apart := false, narrowed := true }
def FnExactFewestDropsUptoSaid : Prop := fnExactFewestDropsUptoRow.holds Try.pinned (OpenSpec.upto fnExactFewestDropsSpec)

/-- 'laws.FnExactAddChord', WHERE WHAT IT READS IS OF BULK AT MOST 1048576: true; the input reads as it did. -/
def fnExactAddChordUptoRow : OpenClaim := { program := "ytkiookioejckbaa", sum := "b78c4246648dc76307cebb4d68e4075c416ffca56b85695ae15a6ec06ae9d390", func := "loop.example/g01324/laws.FnExactAddChord", spec := "fnExactAddChord", inPlace := ["slices.overlaps[loop.example/g01324/impl.Chord]"], unfollowed := true, recurses := true, apart := false, narrowed := true }
def FnExactAddChordUptoSaid : Prop := fnExactAddChordUptoRow.holds Try.pinned (OpenSpec.upto fnExactAddChordSpec)

/-- 'laws.FnExactRankOfPlanePairing', WHERE WHAT IT READS IS OF BULK AT MOST 1048576: true; the input reads as it did. -/
def fnExactRankOfPlanePairingUptoRow : OpenClaim := { program := "ytkiookioejckbaa", sum := "b78c4246648dc76307cebb4d68e4075c416ffca56b85695ae15a6ec06ae9d390", func := "loop.example/g01324/laws.FnExactRankOfPlanePairing", spec := "fnExactRankOfPlanePairing", recurses := true, apart := false, narrowed := true }
def FnExactRankOfPlanePairingUptoSaid : Prop := fnExactRankOfPlanePairingUptoRow.holds Try.pinned (OpenSpec.upto fnExactRankOfPlanePairingSpec)

end Rows
end Go.Proofs.Ytkiookioejckbaa
