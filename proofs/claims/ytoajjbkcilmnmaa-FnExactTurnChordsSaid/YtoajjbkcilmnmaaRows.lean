/-
  No cell of these rows narrows 'for every input' (looked for: loops, veiled, ifaces, maps, wideKeys, modest, calm, conditions, laid).
  DERIVED. THE GIVEN ROWS OF THIS SEAT. 5 by the template 'for every input the law returns true; each argument reads behind the call as it read before'; 0 by the template 'total and deterministic' (their statements: YtoajjbkcilmnmaaTotals.lean).
  GIVEN WITH THE SEED: the statements are not yours to turn. If you find one false, say at which input.
  Laid BY PROGRAM, IN A SANDBOX (cutbox-rows.mjs): the forced cells as the released guide's own fill.sh prints them over the translation c359814c586df86d… (all of the seat's roots in one cut). By AI agents, Wed Nov 11 2026. No macro, syntax, notation, axiom, sorry.
-/
import Derived.Test.YtoajjbkcilmnmaaChecked
import GoSem.Claim
import GoSem.ClaimJoined
import GoSem.ClaimMapViews
import Derived.JoinedTies
import Derived.KernelRfl
namespace Go.Proofs.Ytoajjbkcilmnmaa
/- THE CELL 'sum', in the pinned program and in every row, IS THE sha256 OF THE DUMP (.gsa) THAT YtoajjbkcilmnmaaProg.lean LOADS. Nothing in Lean hashes anything: it is a label: what it is worth is what the hold of that sum in a sandbox is worth. -/
noncomputable def Try.pinned : Pinned := { name := "ytoajjbkcilmnmaa", sum := "c359814c586df86dd41a462ebed01a7d081f75e13cce7c5794c12cb323dde539", checked := Try.checked }
namespace Rows
def none {H : Type} : Left H := { results := [], args := [] }

/-- 'laws.FnExactPlanePairingOfRank': WHATEVER THE INPUT: true; the input reads as it did. -/
def fnExactPlanePairingOfRankSpec : ChangeSpec := { name := "fnExactPlanePairingOfRank", fn := fun _ => fun
  | [d1, d2] => { results := [.lit (.bool true)], args := [d1, d2] }
  | _ => none }
def fnExactPlanePairingOfRankRow : OpenClaim := { program := "ytoajjbkcilmnmaa", sum := "c359814c586df86dd41a462ebed01a7d081f75e13cce7c5794c12cb323dde539", func := "loop.example/g01324/laws.FnExactPlanePairingOfRank", spec := "fnExactPlanePairingOfRank", unfollowed := true, recurses := true, apart := false }
def FnExactPlanePairingOfRankSaid : Prop := fnExactPlanePairingOfRankRow.holds Try.pinned (OpenSpec.ofChange fnExactPlanePairingOfRankSpec)

/-- ITS FALSE NEIGHBOUR: 'it returns false'. Refute it at one input. -/
def fnExactPlanePairingOfRankWrong : ChangeSpec := { name := "fnExactPlanePairingOfRank", fn := fun _ => fun
  | [d1, d2] => { results := [.lit (.bool false)], args := [d1, d2] }
  | _ => none }
def FnExactPlanePairingOfRankWrongFalsely : Prop := fnExactPlanePairingOfRankRow.holds Try.pinned (OpenSpec.ofChange fnExactPlanePairingOfRankWrong)

/-- 'laws.FnExactMirrorChords': WHATEVER THE INPUT: true; the input reads as it did. -/
def fnExactMirrorChordsSpec : ChangeSpec := { name := "fnExactMirrorChords", fn := fun _ => fun
  | [d1, d2] => { results := [.lit (.bool true)], args := [d1, d2] }
  | _ => none }
def fnExactMirrorChordsRow : OpenClaim := { program := "ytoajjbkcilmnmaa", sum := "c359814c586df86dd41a462ebed01a7d081f75e13cce7c5794c12cb323dde539", func := "loop.example/g01324/laws.FnExactMirrorChords", spec := "fnExactMirrorChords", unfollowed := true, recurses := true, apart := false }
def FnExactMirrorChordsSaid : Prop := fnExactMirrorChordsRow.holds Try.pinned (OpenSpec.ofChange fnExactMirrorChordsSpec)

/-- ITS FALSE NEIGHBOUR: 'it returns false'. Refute it at one input. -/
def fnExactMirrorChordsWrong : ChangeSpec := { name := "fnExactMirrorChords", fn := fun _ => fun
  | [d1, d2] => { results := [.lit (.bool false)], args := [d1, d2] }
  | _ => none }
def FnExactMirrorChordsWrongFalsely : Prop := fnExactMirrorChordsRow.holds Try.pinned (OpenSpec.ofChange fnExactMirrorChordsWrong)

/-- 'laws.FnExactTurnChords': WHATEVER THE INPUT: true; the input reads as it did. -/
def fnExactTurnChordsSpec : ChangeSpec := { name := "fnExactTurnChords", fn := fun _ => fun
  | [d1, d2, d3] => { results := [.lit (.bool true)], args := [d1, d2, d3] }
  | _ => none }
def fnExactTurnChordsRow : OpenClaim := { program := "ytoajjbkcilmnmaa", sum := "c359814c586df86dd41a462ebed01a7d081f75e13cce7c5794c12cb323dde539", func := "loop.example/g01324/laws.FnExactTurnChords", spec := "fnExactTurnChords", unfollowed := true, recurses := true, apart := false }
def FnExactTurnChordsSaid : Prop := fnExactTurnChordsRow.holds Try.pinned (OpenSpec.ofChange fnExactTurnChordsSpec)

/-- ITS FALSE NEIGHBOUR: 'it returns false'. Refute it at one input. -/
def fnExactTurnChordsWrong : ChangeSpec := { name := "fnExactTurnChords", fn := fun _ => fun
  | [d1, d2, d3] => { results := [.lit (.bool false)], args := [d1, d2, d3] }
  | _ => none }
def FnExactTurnChordsWrongFalsely : Prop := fnExactTurnChordsRow.holds Try.pinned (OpenSpec.ofChange fnExactTurnChordsWrong)

/-- 'laws.FnExactSidesOfChords': WHATEVER THE INPUT: true; the input reads as it did. -/
def fnExactSidesOfChordsSpec : ChangeSpec := { name := "fnExactSidesOfChords", fn := fun _ => fun
  | [d1, d2] => { results := [.lit (.bool true)], args := [d1, d2] }
  | _ => none }
def fnExactSidesOfChordsRow : OpenClaim := { program := "ytoajjbkcilmnmaa", sum := "c359814c586df86dd41a462ebed01a7d081f75e13cce7c5794c12cb323dde539", func := "loop.example/g01324/laws.FnExactSidesOfChords", spec := "fnExactSidesOfChords", unfollowed := true, recurses := true, apart := false }
def FnExactSidesOfChordsSaid : Prop := fnExactSidesOfChordsRow.holds Try.pinned (OpenSpec.ofChange fnExactSidesOfChordsSpec)

/-- ITS FALSE NEIGHBOUR: 'it returns false'. Refute it at one input. -/
def fnExactSidesOfChordsWrong : ChangeSpec := { name := "fnExactSidesOfChords", fn := fun _ => fun
  | [d1, d2] => { results := [.lit (.bool false)], args := [d1, d2] }
  | _ => none }
def FnExactSidesOfChordsWrongFalsely : Prop := fnExactSidesOfChordsRow.holds Try.pinned (OpenSpec.ofChange fnExactSidesOfChordsWrong)

/-- 'laws.FnExactCrossingGroups': WHATEVER THE INPUT: true; the input reads as it did. -/
def fnExactCrossingGroupsSpec : ChangeSpec := { name := "fnExactCrossingGroups", fn := fun _ => fun
  | [d1, d2] => { results := [.lit (.bool true)], args := [d1, d2] }
  | _ => none }
def fnExactCrossingGroupsRow : OpenClaim := { program := "ytoajjbkcilmnmaa", sum := "c359814c586df86dd41a462ebed01a7d081f75e13cce7c5794c12cb323dde539", func := "loop.example/g01324/laws.FnExactCrossingGroups", spec := "fnExactCrossingGroups", recurses := true, apart := false }
def FnExactCrossingGroupsSaid : Prop := fnExactCrossingGroupsRow.holds Try.pinned (OpenSpec.ofChange fnExactCrossingGroupsSpec)

/-- ITS FALSE NEIGHBOUR: 'it returns false'. Refute it at one input. -/
def fnExactCrossingGroupsWrong : ChangeSpec := { name := "fnExactCrossingGroups", fn := fun _ => fun
  | [d1, d2] => { results := [.lit (.bool false)], args := [d1, d2] }
  | _ => none }
def FnExactCrossingGroupsWrongFalsely : Prop := fnExactCrossingGroupsRow.holds Try.pinned (OpenSpec.ofChange fnExactCrossingGroupsWrong)

/- THE SECOND FORM. 'bulk': how many values and letters a reading holds, each counted each time it is reached (what is shared counts as often as it is met; a slice's spare places count too). A statement '..UptoSaid' is the law's where the arguments, and the package variables that the reading takes, are together of bulk at most 1048576: NARROWER than '..Said'. Prove '..Said' where nothing that the law and all that it calls make is longer than what came in: it says more and counts as full. Else prove '..UptoSaid'. A law counts once. -/
mutual
def uptoBulk {H : Type} : DataW H → Nat
  | .lit (.string bytes) => bytes.length + 1
  | .lit _ => 1
  | .nil => 1
  | .ptr d => uptoBulk d + 1
  | .slice elems spare => uptoBulkAll elems + uptoBulkAll spare + 1
  | .agg parts => uptoBulkAll parts + 1
  | .iface _ d => uptoBulk d + 1
  | .map entries => uptoBulkEntries entries + 1
  | .held _ => 1
def uptoBulkAll {H : Type} : List (DataW H) → Nat
  | [] => 0
  | d :: r => uptoBulk d + uptoBulkAll r
def uptoBulkEntries {H : Type} : List (Lit × DataW H) → Nat
  | [] => 0
  | x :: r => uptoBulkEntry x + uptoBulkEntries r
def uptoBulkEntry {H : Type} : Lit × DataW H → Nat
  | (.string bytes, d) => bytes.length + uptoBulk d + 1
  | (_, d) => uptoBulk d + 1
 end
def uptoSmall : (H : Type) → List (DataW H) → Bool := fun _ ds => decide (uptoBulkAll ds ≤ 1048576)
def OpenSpec.upto (s : _root_.Go.ChangeSpec) : _root_.Go.OpenSpec := { _root_.Go.OpenSpec.ofChange s with cond := some uptoSmall }

/-- 'laws.FnExactPlanePairingOfRank', WHERE WHAT IT READS IS OF BULK AT MOST 1048576: true; the input reads as it did. -/
def fnExactPlanePairingOfRankUptoRow : OpenClaim := { program := "ytoajjbkcilmnmaa", sum := "c359814c586df86dd41a462ebed01a7d081f75e13cce7c5794c12cb323dde539", func := "loop.example/g01324/laws.FnExactPlanePairingOfRank", spec := "fnExactPlanePairingOfRank", unfollowed := true, recurses := true, apart := false, narrowed := true }
def FnExactPlanePairingOfRankUptoSaid : Prop := fnExactPlanePairingOfRankUptoRow.holds Try.pinned (OpenSpec.upto fnExactPlanePairingOfRankSpec)

/-- 'laws.FnExactMirrorChords', WHERE WHAT IT READS IS OF BULK AT MOST 1048576: true; the input reads as it did. -/
def fnExactMirrorChordsUptoRow : OpenClaim := { program := "ytoajjbkcilmnmaa", sum := "c359814c586df86dd41a462ebed01a7d081f75e13cce7c5794c12cb323dde539", func := "loop.example/g01324/laws.FnExactMirrorChords", spec := "fnExactMirrorChords", unfollowed := true, recurses := true, apart := false, narrowed := true }
def FnExactMirrorChordsUptoSaid : Prop := fnExactMirrorChordsUptoRow.holds Try.pinned (OpenSpec.upto fnExactMirrorChordsSpec)

/-- 'laws.FnExactTurnChords', WHERE WHAT IT READS IS OF BULK AT MOST 1048576: true; the input reads as it did. -/
def fnExactTurnChordsUptoRow : OpenClaim := { program := "ytoajjbkcilmnmaa", sum := "c359814c586df86dd41a462ebed01a7d081f75e13cce7c5794c12cb323dde539", func := "loop.example/g01324/laws.FnExactTurnChords", spec := "fnExactTurnChords", unfollowed := true, recurses := true, apart := false, narrowed := true }
def FnExactTurnChordsUptoSaid : Prop := fnExactTurnChordsUptoRow.holds Try.pinned (OpenSpec.upto fnExactTurnChordsSpec)

/-- 'laws.FnExactSidesOfChords', WHERE WHAT IT READS IS OF BULK AT MOST 1048576: true; the input reads as it did. -/
def fnExactSidesOfChordsUptoRow : OpenClaim := { program := "ytoajjbkcilmnmaa", sum := "c359814c586df86dd41a462ebed01a7d081f75e13cce7c5794c12cb323dde539", func := "loop.example/g01324/laws.FnExactSidesOfChords", spec := "fnExactSidesOfChords", unfollowed := true, recurses := true, apart := false, narrowed := true }
def FnExactSidesOfChordsUptoSaid : Prop := fnExactSidesOfChordsUptoRow.holds Try.pinned (OpenSpec.upto fnExactSidesOfChordsSpec)

/-- 'laws.FnExactCrossingGroups', WHERE WHAT IT READS IS OF BULK AT MOST 1048576: true; the input reads as it did. -/
def fnExactCrossingGroupsUptoRow : OpenClaim := { program := "ytoajjbkcilmnmaa", sum := "c359814c586df86dd41a462ebed01a7d081f75e13cce7c5794c12cb323dde539", func := "loop.example/g01324/laws.FnExactCrossingGroups", spec := "fnExactCrossingGroups", recurses := true, apart := false, narrowed := true }
def FnExactCrossingGroupsUptoSaid : Prop := fnExactCrossingGroupsUptoRow.holds Try.pinned (OpenSpec.upto fnExactCrossingGroupsSpec)

end Rows
end Go.Proofs.Ytoajjbkcilmnmaa
