/-
  No cell of these rows narrows 'for every input' (looked for: loops, veiled, ifaces, maps, wideKeys, modest, calm, conditions, laid).
  DERIVED. THE GIVEN ROWS OF THIS SEAT. 12 by the template 'for every input the law returns true; each argument reads behind the call as it read before'; 0 by the template 'total and deterministic' (their statements: YtglaclhjnbfflaaTotals.lean).
  GIVEN WITH THE SEED: the statements are not yours to turn. If you find one false, say at which input.
  Laid BY PROGRAM, IN A SANDBOX (cutbox-rows.mjs): the forced cells as the released guide's own fill.sh prints them over the translation 4675796dba94cfba… (all of the seat's roots in one cut). By AI agents, Wed Nov 11 2026. No macro, syntax, notation, axiom, sorry.
-/
import Derived.Test.YtglaclhjnbfflaaChecked
import GoSem.Claim
import GoSem.ClaimJoined
import GoSem.ClaimMapViews
import Derived.JoinedTies
import Derived.KernelRfl
namespace Go.Proofs.Ytglaclhjnbfflaa
/- THE CELL 'sum', in the pinned program and in every row, IS THE sha256 OF THE DUMP (.gsa) THAT YtglaclhjnbfflaaProg.lean LOADS. Nothing in Lean hashes anything: it is a label: what it is worth is what the hold of that sum in a sandbox is worth. -/
noncomputable def Try.pinned : Pinned := { name := "ytglaclhjnbfflaa", sum := "4675796dba94cfbabd271c00a8a3cf814716ef4904bf50f49939a183b091a56a", checked := Try.checked }
namespace Rows
def none {H : Type} : Left H := { results := [], args := [] }

/-- 'laws.FnExactConstants': WHATEVER THE INPUT: true; the input reads as it did. -/
def fnExactConstantsSpec : ChangeSpec := { name := "fnExactConstants", fn := fun _ => fun
  | [] => { results := [.lit (.bool true)], args := [] }
  | _ => none }
def fnExactConstantsRow : OpenClaim := { program := "ytglaclhjnbfflaa", sum := "4675796dba94cfbabd271c00a8a3cf814716ef4904bf50f49939a183b091a56a", func := "loop.example/g01324/laws.FnExactConstants", spec := "fnExactConstants", plainKeys := false, apart := false }
def FnExactConstantsSaid : Prop := fnExactConstantsRow.holds Try.pinned (OpenSpec.ofChange fnExactConstantsSpec)

/-- ITS FALSE NEIGHBOUR: 'it returns false'. Refute it at one input. -/
def fnExactConstantsWrong : ChangeSpec := { name := "fnExactConstants", fn := fun _ => fun
  | [] => { results := [.lit (.bool false)], args := [] }
  | _ => none }
def FnExactConstantsWrongFalsely : Prop := fnExactConstantsRow.holds Try.pinned (OpenSpec.ofChange fnExactConstantsWrong)

/-- 'laws.FnExactIsStar': WHATEVER THE INPUT: true; the input reads as it did. -/
def fnExactIsStarSpec : ChangeSpec := { name := "fnExactIsStar", fn := fun _ => fun
  | [d] => { results := [.lit (.bool true)], args := [d] }
  | _ => none }
def fnExactIsStarRow : OpenClaim := { program := "ytglaclhjnbfflaa", sum := "4675796dba94cfbabd271c00a8a3cf814716ef4904bf50f49939a183b091a56a", func := "loop.example/g01324/laws.FnExactIsStar", spec := "fnExactIsStar", plainKeys := false, apart := false }
def FnExactIsStarSaid : Prop := fnExactIsStarRow.holds Try.pinned (OpenSpec.ofChange fnExactIsStarSpec)

/-- ITS FALSE NEIGHBOUR: 'it returns false'. Refute it at one input. -/
def fnExactIsStarWrong : ChangeSpec := { name := "fnExactIsStar", fn := fun _ => fun
  | [d] => { results := [.lit (.bool false)], args := [d] }
  | _ => none }
def FnExactIsStarWrongFalsely : Prop := fnExactIsStarRow.holds Try.pinned (OpenSpec.ofChange fnExactIsStarWrong)

/-- 'laws.FnExactStepTo': WHATEVER THE INPUT: true; the input reads as it did. -/
def fnExactStepToSpec : ChangeSpec := { name := "fnExactStepTo", fn := fun _ => fun
  | [d1, d2, d3, d4] => { results := [.lit (.bool true)], args := [d1, d2, d3, d4] }
  | _ => none }
def fnExactStepToRow : OpenClaim := { program := "ytglaclhjnbfflaa", sum := "4675796dba94cfbabd271c00a8a3cf814716ef4904bf50f49939a183b091a56a", func := "loop.example/g01324/laws.FnExactStepTo", spec := "fnExactStepTo", plainKeys := false, apart := false }
def FnExactStepToSaid : Prop := fnExactStepToRow.holds Try.pinned (OpenSpec.ofChange fnExactStepToSpec)

/-- ITS FALSE NEIGHBOUR: 'it returns false'. Refute it at one input. -/
def fnExactStepToWrong : ChangeSpec := { name := "fnExactStepTo", fn := fun _ => fun
  | [d1, d2, d3, d4] => { results := [.lit (.bool false)], args := [d1, d2, d3, d4] }
  | _ => none }
def FnExactStepToWrongFalsely : Prop := fnExactStepToRow.holds Try.pinned (OpenSpec.ofChange fnExactStepToWrong)

/-- 'laws.FnExactSmallStep': WHATEVER THE INPUT: true; the input reads as it did. -/
def fnExactSmallStepSpec : ChangeSpec := { name := "fnExactSmallStep", fn := fun _ => fun
  | [d] => { results := [.lit (.bool true)], args := [d] }
  | _ => none }
def fnExactSmallStepRow : OpenClaim := { program := "ytglaclhjnbfflaa", sum := "4675796dba94cfbabd271c00a8a3cf814716ef4904bf50f49939a183b091a56a", func := "loop.example/g01324/laws.FnExactSmallStep", spec := "fnExactSmallStep", plainKeys := false, apart := false }
def FnExactSmallStepSaid : Prop := fnExactSmallStepRow.holds Try.pinned (OpenSpec.ofChange fnExactSmallStepSpec)

/-- ITS FALSE NEIGHBOUR: 'it returns false'. Refute it at one input. -/
def fnExactSmallStepWrong : ChangeSpec := { name := "fnExactSmallStep", fn := fun _ => fun
  | [d] => { results := [.lit (.bool false)], args := [d] }
  | _ => none }
def FnExactSmallStepWrongFalsely : Prop := fnExactSmallStepRow.holds Try.pinned (OpenSpec.ofChange fnExactSmallStepWrong)

/-- 'laws.FnExactAreCrossing': WHATEVER THE INPUT: true; the input reads as it did. -/
def fnExactAreCrossingSpec : ChangeSpec := { name := "fnExactAreCrossing", fn := fun _ => fun
  | [d1, d2, d3] => { results := [.lit (.bool true)], args := [d1, d2, d3] }
  | _ => none }
def fnExactAreCrossingRow : OpenClaim := { program := "ytglaclhjnbfflaa", sum := "4675796dba94cfbabd271c00a8a3cf814716ef4904bf50f49939a183b091a56a", func := "loop.example/g01324/laws.FnExactAreCrossing", spec := "fnExactAreCrossing", plainKeys := false, apart := false }
def FnExactAreCrossingSaid : Prop := fnExactAreCrossingRow.holds Try.pinned (OpenSpec.ofChange fnExactAreCrossingSpec)

/-- ITS FALSE NEIGHBOUR: 'it returns false'. Refute it at one input. -/
def fnExactAreCrossingWrong : ChangeSpec := { name := "fnExactAreCrossing", fn := fun _ => fun
  | [d1, d2, d3] => { results := [.lit (.bool false)], args := [d1, d2, d3] }
  | _ => none }
def FnExactAreCrossingWrongFalsely : Prop := fnExactAreCrossingRow.holds Try.pinned (OpenSpec.ofChange fnExactAreCrossingWrong)

/-- 'laws.FnExactCountPlanePairings': WHATEVER THE INPUT: true; the input reads as it did. -/
def fnExactCountPlanePairingsSpec : ChangeSpec := { name := "fnExactCountPlanePairings", fn := fun _ => fun
  | [d] => { results := [.lit (.bool true)], args := [d] }
  | _ => none }
def fnExactCountPlanePairingsRow : OpenClaim := { program := "ytglaclhjnbfflaa", sum := "4675796dba94cfbabd271c00a8a3cf814716ef4904bf50f49939a183b091a56a", func := "loop.example/g01324/laws.FnExactCountPlanePairings", spec := "fnExactCountPlanePairings", plainKeys := false, apart := false }
def FnExactCountPlanePairingsSaid : Prop := fnExactCountPlanePairingsRow.holds Try.pinned (OpenSpec.ofChange fnExactCountPlanePairingsSpec)

/-- ITS FALSE NEIGHBOUR: 'it returns false'. Refute it at one input. -/
def fnExactCountPlanePairingsWrong : ChangeSpec := { name := "fnExactCountPlanePairings", fn := fun _ => fun
  | [d] => { results := [.lit (.bool false)], args := [d] }
  | _ => none }
def FnExactCountPlanePairingsWrongFalsely : Prop := fnExactCountPlanePairingsRow.holds Try.pinned (OpenSpec.ofChange fnExactCountPlanePairingsWrong)

/-- 'laws.FnExactCountStrings': WHATEVER THE INPUT: true; the input reads as it did. -/
def fnExactCountStringsSpec : ChangeSpec := { name := "fnExactCountStrings", fn := fun _ => fun
  | [d] => { results := [.lit (.bool true)], args := [d] }
  | _ => none }
def fnExactCountStringsRow : OpenClaim := { program := "ytglaclhjnbfflaa", sum := "4675796dba94cfbabd271c00a8a3cf814716ef4904bf50f49939a183b091a56a", func := "loop.example/g01324/laws.FnExactCountStrings", spec := "fnExactCountStrings", plainKeys := false, apart := false }
def FnExactCountStringsSaid : Prop := fnExactCountStringsRow.holds Try.pinned (OpenSpec.ofChange fnExactCountStringsSpec)

/-- ITS FALSE NEIGHBOUR: 'it returns false'. Refute it at one input. -/
def fnExactCountStringsWrong : ChangeSpec := { name := "fnExactCountStrings", fn := fun _ => fun
  | [d] => { results := [.lit (.bool false)], args := [d] }
  | _ => none }
def FnExactCountStringsWrongFalsely : Prop := fnExactCountStringsRow.holds Try.pinned (OpenSpec.ofChange fnExactCountStringsWrong)

/-- 'laws.FnExactTurnsOf': WHATEVER THE INPUT: true; the input reads as it did. -/
def fnExactTurnsOfSpec : ChangeSpec := { name := "fnExactTurnsOf", fn := fun _ => fun
  | [d] => { results := [.lit (.bool true)], args := [d] }
  | _ => none }
def fnExactTurnsOfRow : OpenClaim := { program := "ytglaclhjnbfflaa", sum := "4675796dba94cfbabd271c00a8a3cf814716ef4904bf50f49939a183b091a56a", func := "loop.example/g01324/laws.FnExactTurnsOf", spec := "fnExactTurnsOf", plainKeys := false, apart := false }
def FnExactTurnsOfSaid : Prop := fnExactTurnsOfRow.holds Try.pinned (OpenSpec.ofChange fnExactTurnsOfSpec)

/-- ITS FALSE NEIGHBOUR: 'it returns false'. Refute it at one input. -/
def fnExactTurnsOfWrong : ChangeSpec := { name := "fnExactTurnsOf", fn := fun _ => fun
  | [d] => { results := [.lit (.bool false)], args := [d] }
  | _ => none }
def FnExactTurnsOfWrongFalsely : Prop := fnExactTurnsOfRow.holds Try.pinned (OpenSpec.ofChange fnExactTurnsOfWrong)

/-- 'laws.FnExactPointAfter': WHATEVER THE INPUT: true; the input reads as it did. -/
def fnExactPointAfterSpec : ChangeSpec := { name := "fnExactPointAfter", fn := fun _ => fun
  | [d1, d2, d3] => { results := [.lit (.bool true)], args := [d1, d2, d3] }
  | _ => none }
def fnExactPointAfterRow : OpenClaim := { program := "ytglaclhjnbfflaa", sum := "4675796dba94cfbabd271c00a8a3cf814716ef4904bf50f49939a183b091a56a", func := "loop.example/g01324/laws.FnExactPointAfter", spec := "fnExactPointAfter", unfollowed := true, recurses := true, plainKeys := false, apart := false }
def FnExactPointAfterSaid : Prop := fnExactPointAfterRow.holds Try.pinned (OpenSpec.ofChange fnExactPointAfterSpec)

/-- ITS FALSE NEIGHBOUR: 'it returns false'. Refute it at one input. -/
def fnExactPointAfterWrong : ChangeSpec := { name := "fnExactPointAfter", fn := fun _ => fun
  | [d1, d2, d3] => { results := [.lit (.bool false)], args := [d1, d2, d3] }
  | _ => none }
def FnExactPointAfterWrongFalsely : Prop := fnExactPointAfterRow.holds Try.pinned (OpenSpec.ofChange fnExactPointAfterWrong)

/-- 'laws.FnExactNextPoint': WHATEVER THE INPUT: true; the input reads as it did. -/
def fnExactNextPointSpec : ChangeSpec := { name := "fnExactNextPoint", fn := fun _ => fun
  | [d1, d2] => { results := [.lit (.bool true)], args := [d1, d2] }
  | _ => none }
def fnExactNextPointRow : OpenClaim := { program := "ytglaclhjnbfflaa", sum := "4675796dba94cfbabd271c00a8a3cf814716ef4904bf50f49939a183b091a56a", func := "loop.example/g01324/laws.FnExactNextPoint", spec := "fnExactNextPoint", unfollowed := true, recurses := true, plainKeys := false, apart := false }
def FnExactNextPointSaid : Prop := fnExactNextPointRow.holds Try.pinned (OpenSpec.ofChange fnExactNextPointSpec)

/-- ITS FALSE NEIGHBOUR: 'it returns false'. Refute it at one input. -/
def fnExactNextPointWrong : ChangeSpec := { name := "fnExactNextPoint", fn := fun _ => fun
  | [d1, d2] => { results := [.lit (.bool false)], args := [d1, d2] }
  | _ => none }
def FnExactNextPointWrongFalsely : Prop := fnExactNextPointRow.holds Try.pinned (OpenSpec.ofChange fnExactNextPointWrong)

/-- 'laws.FnExactStarsOf': WHATEVER THE INPUT: true; the input reads as it did. -/
def fnExactStarsOfSpec : ChangeSpec := { name := "fnExactStarsOf", fn := fun _ => fun
  | [d] => { results := [.lit (.bool true)], args := [d] }
  | _ => none }
def fnExactStarsOfRow : OpenClaim := { program := "ytglaclhjnbfflaa", sum := "4675796dba94cfbabd271c00a8a3cf814716ef4904bf50f49939a183b091a56a", func := "loop.example/g01324/laws.FnExactStarsOf", spec := "fnExactStarsOf", unfollowed := true, recurses := true, plainKeys := false, apart := false }
def FnExactStarsOfSaid : Prop := fnExactStarsOfRow.holds Try.pinned (OpenSpec.ofChange fnExactStarsOfSpec)

/-- ITS FALSE NEIGHBOUR: 'it returns false'. Refute it at one input. -/
def fnExactStarsOfWrong : ChangeSpec := { name := "fnExactStarsOf", fn := fun _ => fun
  | [d] => { results := [.lit (.bool false)], args := [d] }
  | _ => none }
def FnExactStarsOfWrongFalsely : Prop := fnExactStarsOfRow.holds Try.pinned (OpenSpec.ofChange fnExactStarsOfWrong)

/-- 'laws.FnExactCountClosed': WHATEVER THE INPUT: true; the input reads as it did. -/
def fnExactCountClosedSpec : ChangeSpec := { name := "fnExactCountClosed", fn := fun _ => fun
  | [d1, d2] => { results := [.lit (.bool true)], args := [d1, d2] }
  | _ => none }
def fnExactCountClosedRow : OpenClaim := { program := "ytglaclhjnbfflaa", sum := "4675796dba94cfbabd271c00a8a3cf814716ef4904bf50f49939a183b091a56a", func := "loop.example/g01324/laws.FnExactCountClosed", spec := "fnExactCountClosed", recurses := true, plainKeys := false, apart := false }
def FnExactCountClosedSaid : Prop := fnExactCountClosedRow.holds Try.pinned (OpenSpec.ofChange fnExactCountClosedSpec)

/-- ITS FALSE NEIGHBOUR: 'it returns false'. Refute it at one input. -/
def fnExactCountClosedWrong : ChangeSpec := { name := "fnExactCountClosed", fn := fun _ => fun
  | [d1, d2] => { results := [.lit (.bool false)], args := [d1, d2] }
  | _ => none }
def FnExactCountClosedWrongFalsely : Prop := fnExactCountClosedRow.holds Try.pinned (OpenSpec.ofChange fnExactCountClosedWrong)

/- THE SECOND FORM. 'bulk': how many values and letters a reading holds, each counted each time it is reached (what is shared counts as often as it is met; a slice's spare places count too). A statement '..UptoSaid' is the law's where the arguments, and the package variables that the reading takes, are together of bulk at most 1048576: NARROWER than '..Said'. Prove '..Said' where nothing that the law and all that it calls make is longer than what came in: it says more and counts as full. Else prove '..UptoSaid'. A law counts once. -/
mutual
def uptoBulk {H : Type} : DataW H → Nat
  | .lit (.string bytes) => bytes.length + 1
  | .lit _ => 1
  | .nil => 1
  | .ptr d => uptoBulk d + 1
  | .slice elems spare => uptoBulkAll elems + uptoBulkAll spare + 1
  | .agg parts => uptoBulkAll parts + 1
  | .iface _ d => uptoBulk d + 1
  | .map entries => uptoBulkEntries entries + 1
  | .held _ => 1
def uptoBulkAll {H : Type} : List (DataW H) → Nat
  | [] => 0
  | d :: r => uptoBulk d + uptoBulkAll r
def uptoBulkEntries {H : Type} : List (Lit × DataW H) → Nat
  | [] => 0
  | x :: r => uptoBulkEntry x + uptoBulkEntries r
def uptoBulkEntry {H : Type} : Lit × DataW H → Nat
  | (.string bytes, d) => bytes.length + uptoBulk d + 1
  | (_, d) => uptoBulk d + 1
 end
def uptoSmall : (H : Type) → List (DataW H) → Bool := fun _ ds => decide (uptoBulkAll ds ≤ 1048576)
def OpenSpec.upto (s : _root_.Go.ChangeSpec) : _root_.Go.OpenSpec := { _root_.Go.OpenSpec.ofChange s with cond := some uptoSmall }

/-- 'laws.FnExactConstants', WHERE WHAT IT READS IS OF BULK AT MOST 1048576: true; the input reads as it did. -/
def fnExactConstantsUptoRow : OpenClaim := { program := "ytglaclhjnbfflaa", sum := "4675796dba94cfbabd271c00a8a3cf814716ef4904bf50f49939a183b091a56a", func := "loop.example/g01324/laws.FnExactConstants", spec := "fnExactConstants", plainKeys := false, apart := false, narrowed := true }
def FnExactConstantsUptoSaid : Prop := fnExactConstantsUptoRow.holds Try.pinned (OpenSpec.upto fnExactConstantsSpec)

/-- 'laws.FnExactIsStar', WHERE WHAT IT READS IS OF BULK AT MOST 1048576: true; the input reads as it did. -/
def fnExactIsStarUptoRow : OpenClaim := { program := "ytglaclhjnbfflaa", sum := "4675796dba94cfbabd271c00a8a3cf814716ef4904bf50f49939a183b091a56a", func := "loop.example/g01324/laws.FnExactIsStar", spec := "fnExactIsStar", plainKeys := false, apart := false, narrowed := true }
def FnExactIsStarUptoSaid : Prop := fnExactIsStarUptoRow.holds Try.pinned (OpenSpec.upto fnExactIsStarSpec)

/-- 'laws.FnExactStepTo', WHERE WHAT IT READS IS OF BULK AT MOST 1048576: true; the input reads as it did. -/
def fnExactStepToUptoRow : OpenClaim := { program := "ytglaclhjnbfflaa", sum := "4675796dba94cfbabd271c00a8a3cf814716ef4904bf50f49939a183b091a56a", func := "loop.example/g01324/laws.FnExactStepTo", spec := "fnExactStepTo", plainKeys := false, apart := false, narrowed := true }
def FnExactStepToUptoSaid : Prop := fnExactStepToUptoRow.holds Try.pinned (OpenSpec.upto fnExactStepToSpec)

/-- 'laws.FnExactSmallStep', WHERE WHAT IT READS IS OF BULK AT MOST 1048576: true; the input reads as it did. -/
def fnExactSmallStepUptoRow : OpenClaim := { program := "ytglaclhjnbfflaa", sum := "4675796dba94cfbabd271c00a8a3cf814716ef4904bf50f49939a183b091a56a", func := "loop.example/g01324/laws.FnExactSmallStep", spec := "fnExactSmallStep", plainKeys := false, apart := false, narrowed := true }
def FnExactSmallStepUptoSaid : Prop := fnExactSmallStepUptoRow.holds Try.pinned (OpenSpec.upto fnExactSmallStepSpec)

/-- 'laws.FnExactAreCrossing', WHERE WHAT IT READS IS OF BULK AT MOST 1048576: true; the input reads as it did. -/
def fnExactAreCrossingUptoRow : OpenClaim := { program := "ytglaclhjnbfflaa", sum := "4675796dba94cfbabd271c00a8a3cf814716ef4904bf50f49939a183b091a56a", func := "loop.example/g01324/laws.FnExactAreCrossing", spec := "fnExactAreCrossing", plainKeys := false, apart := false, narrowed := true }
def FnExactAreCrossingUptoSaid : Prop := fnExactAreCrossingUptoRow.holds Try.pinned (OpenSpec.upto fnExactAreCrossingSpec)

/-- 'laws.FnExactCountPlanePairings', WHERE WHAT IT READS IS OF BULK AT MOST 1048576: true; the input reads as it did. -/
def fnExactCountPlanePairingsUptoRow : OpenClaim := { program := "ytglaclhjnbfflaa", sum := "4675796dba94cfbabd271c00a8a3cf814716ef4904bf50f49939a183b091a56a", func := "loop.example/g01324/laws.FnExactCountPlanePairings", spec := "fnExactCountPlanePairings", plainKeys := false, apart := false, narrowed := true }
def FnExactCountPlanePairingsUptoSaid : Prop := fnExactCountPlanePairingsUptoRow.holds Try.pinned (OpenSpec.upto fnExactCountPlanePairingsSpec)

/-- 'laws.FnExactCountStrings', WHERE WHAT IT READS IS OF BULK AT MOST 1048576: true; the input reads as it did. -/
def fnExactCountStringsUptoRow : OpenClaim := { program := "ytglaclhjnbfflaa", sum := "4675796dba94cfbabd271c00a8a3cf814716ef4904bf50f49939a183b091a56a", func := "loop.example/g01324/laws.FnExactCountStrings", spec := "fnExactCountStrings", plainKeys := false, apart := false, narrowed := true }
def FnExactCountStringsUptoSaid : Prop := fnExactCountStringsUptoRow.holds Try.pinned (OpenSpec.upto fnExactCountStringsSpec)

/-- 'laws.FnExactTurnsOf', WHERE WHAT IT READS IS OF BULK AT MOST 1048576: true; the input reads as it did. -/
def fnExactTurnsOfUptoRow : OpenClaim := { program := "ytglaclhjnbfflaa", sum := "4675796dba94cfbabd271c00a8a3cf814716ef4904bf50f49939a183b091a56a", func := "loop.example/g01324/laws.FnExactTurnsOf", spec := "fnExactTurnsOf", plainKeys := false, apart := false, narrowed := true }
def FnExactTurnsOfUptoSaid : Prop := fnExactTurnsOfUptoRow.holds Try.pinned (OpenSpec.upto fnExactTurnsOfSpec)

/-- 'laws.FnExactPointAfter', WHERE WHAT IT READS IS OF BULK AT MOST 1048576: true; the input reads as it did. -/
def fnExactPointAfterUptoRow : OpenClaim := { program := "ytglaclhjnbfflaa", sum := "4675796dba94cfbabd271c00a8a3cf814716ef4904bf50f49939a183b091a56a", func := "loop.example/g01324/laws.FnExactPointAfter", spec := "fnExactPointAfter", unfollowed := true, recurses := true, plainKeys := false, apart := false, narrowed := true }
def FnExactPointAfterUptoSaid : Prop := fnExactPointAfterUptoRow.holds Try.pinned (OpenSpec.upto fnExactPointAfterSpec)

/-- 'laws.FnExactNextPoint', WHERE WHAT IT READS IS OF BULK AT MOST 1048576: true; the input reads as it did. -/
def fnExactNextPointUptoRow : OpenClaim := { program := "ytglaclhjnbfflaa", sum := "4675796dba94cfbabd271c00a8a3cf814716ef4904bf50f49939a183b091a56a", func := "loop.example/g01324/laws.FnExactNextPoint", spec := "fnExactNextPoint", unfollowed := true, recurses := true, plainKeys := false, apart := false, narrowed := true }
def FnExactNextPointUptoSaid : Prop := fnExactNextPointUptoRow.holds Try.pinned (OpenSpec.upto fnExactNextPointSpec)

/-- 'laws.FnExactStarsOf', WHERE WHAT IT READS IS OF BULK AT MOST 1048576: true; the input reads as it did. -/
def fnExactStarsOfUptoRow : OpenClaim := { program := "ytglaclhjnbfflaa", sum := "4675796dba94cfbabd271c00a8a3cf814716ef4904bf50f49939a183b091a56a", func := "loop.example/g01324/laws.FnExactStarsOf", spec := "fnExactStarsOf", unfollowed := true, recurses := true, plainKeys := false, apart := false, narrowed := true }
def FnExactStarsOfUptoSaid : Prop := fnExactStarsOfUptoRow.holds Try.pinned (OpenSpec.upto fnExactStarsOfSpec)

/-- 'laws.FnExactCountClosed', WHERE WHAT IT READS IS OF BULK AT MOST 1048576: true; the input reads as it did. -/
def fnExactCountClosedUptoRow : OpenClaim := { program := "ytglaclhjnbfflaa", sum := "4675796dba94cfbabd271c00a8a3cf814716ef4904bf50f49939a183b091a56a", func := "loop.example/g01324/laws.FnExactCountClosed", spec := "fnExactCountClosed", recurses := true, plainKeys := false, apart := false, narrowed := true }
def FnExactCountClosedUptoSaid : Prop := fnExactCountClosedUptoRow.holds Try.pinned (OpenSpec.upto fnExactCountClosedSpec)

end Rows
end Go.Proofs.Ytglaclhjnbfflaa
