/-
  No cell of these rows narrows 'for every input' (looked for: loops, veiled, ifaces, maps, wideKeys, modest, calm, conditions, laid).
  DERIVED. THE GIVEN ROWS OF THIS SEAT. 5 by the template 'for every input the law returns true; each argument reads behind the call as it read before'; 0 by the template 'total and deterministic' (their statements: YtlnjfbnabjgffaaTotals.lean).
  GIVEN WITH THE SEED: the statements are not yours to turn. If you find one false, say at which input.
  Laid BY PROGRAM, IN A SANDBOX (cutbox-rows.mjs): the forced cells as the released guide's own fill.sh prints them over the translation 6b78713b57eda320… (all of the seat's roots in one cut). By AI agents, Wed Nov 11 2026. No macro, syntax, notation, axiom, sorry.
-/
import Derived.Test.YtlnjfbnabjgffaaChecked
import GoSem.Claim
import GoSem.ClaimJoined
import GoSem.ClaimMapViews
import Derived.JoinedTies
import Derived.KernelRfl
namespace Go.Proofs.Ytlnjfbnabjgffaa
/- THE CELL 'sum', in the pinned program and in every row, IS THE sha256 OF THE DUMP (.gsa) THAT YtlnjfbnabjgffaaProg.lean LOADS. Nothing in Lean hashes anything: it is a label: what it is worth is what the hold of that sum in a sandbox is worth. -/
noncomputable def Try.pinned : Pinned := { name := "ytlnjfbnabjgffaa", sum := "6b78713b57eda3203dc20d6746ba617c07bcb1dbd16c654d4ecf5d119db1b7ed", checked := Try.checked }
namespace Rows
def none {H : Type} : Left H := { results := [], args := [] }

/-- 'laws.FnExactCountClosed': WHATEVER THE INPUT: true; the input reads as it did. -/
def fnExactCountClosedSpec : ChangeSpec := { name := "fnExactCountClosed", fn := fun _ => fun
  | [d1, d2] => { results := [.lit (.bool true)], args := [d1, d2] }
  | _ => none }
def fnExactCountClosedRow : OpenClaim := { program := "ytlnjfbnabjgffaa", sum := "6b78713b57eda3203dc20d6746ba617c07bcb1dbd16c654d4ecf5d119db1b7ed", func := "loop.example/g01324/laws.FnExactCountClosed", spec := "fnExactCountClosed", recurses := true, plainKeys := false, apart := false }
def FnExactCountClosedSaid : Prop := fnExactCountClosedRow.holds Try.pinned (OpenSpec.ofChange fnExactCountClosedSpec)

/-- ITS FALSE NEIGHBOUR: 'it returns false'. Refute it at one input. -/
def fnExactCountClosedWrong : ChangeSpec := { name := "fnExactCountClosed", fn := fun _ => fun
  | [d1, d2] => { results := [.lit (.bool false)], args := [d1, d2] }
  | _ => none }
def FnExactCountClosedWrongFalsely : Prop := fnExactCountClosedRow.holds Try.pinned (OpenSpec.ofChange fnExactCountClosedWrong)

/-- 'laws.FnStarOnce': WHATEVER THE INPUT: true; the input reads as it did. -/
def fnStarOnceSpec : ChangeSpec := { name := "fnStarOnce", fn := fun _ => fun
  | [d1, d2] => { results := [.lit (.bool true)], args := [d1, d2] }
  | _ => none }
def fnStarOnceRow : OpenClaim := { program := "ytlnjfbnabjgffaa", sum := "6b78713b57eda3203dc20d6746ba617c07bcb1dbd16c654d4ecf5d119db1b7ed", func := "loop.example/g01324/laws.FnStarOnce", spec := "fnStarOnce", unfollowed := true, recurses := true, plainKeys := false, apart := false }
def FnStarOnceSaid : Prop := fnStarOnceRow.holds Try.pinned (OpenSpec.ofChange fnStarOnceSpec)

/-- ITS FALSE NEIGHBOUR: 'it returns false'. Refute it at one input. -/
def fnStarOnceWrong : ChangeSpec := { name := "fnStarOnce", fn := fun _ => fun
  | [d1, d2] => { results := [.lit (.bool false)], args := [d1, d2] }
  | _ => none }
def FnStarOnceWrongFalsely : Prop := fnStarOnceRow.holds Try.pinned (OpenSpec.ofChange fnStarOnceWrong)

/-- 'laws.FnExactFewestDrops': WHATEVER THE INPUT: true; the input reads as it did. -/
def fnExactFewestDropsSpec : ChangeSpec := { name := "fnExactFewestDrops", fn := fun _ => fun
  | [d1, d2] => { results := [.lit (.bool true)], args := [d1, d2] }
  | _ => none }
def fnExactFewestDropsRow : OpenClaim := { program := "ytlnjfbnabjgffaa", sum := "6b78713b57eda3203dc20d6746ba617c07bcb1dbd16c654d4ecf5d119db1b7ed", func := "loop.example/g01324/laws.FnExactFewestDrops", spec := "fnExactFewestDrops", recurses := true, plainKeys := false, apart := false }
def FnExactFewestDropsSaid : Prop := fnExactFewestDropsRow.holds Try.pinned (OpenSpec.ofChange fnExactFewestDropsSpec)

/-- ITS FALSE NEIGHBOUR: 'it returns false'. Refute it at one input. -/
def fnExactFewestDropsWrong : ChangeSpec := { name := "fnExactFewestDrops", fn := fun _ => fun
  | [d1, d2] => { results := [.lit (.bool false)], args := [d1, d2] }
  | _ => none }
def FnExactFewestDropsWrongFalsely : Prop := fnExactFewestDropsRow.holds Try.pinned (OpenSpec.ofChange fnExactFewestDropsWrong)

/-- 'laws.FnCrossingsTold': WHATEVER THE INPUT: true; the input reads as it did. -/
def fnCrossingsToldSpec : ChangeSpec := { name := "fnCrossingsTold", fn := fun _ => fun
  | [d] => { results := [.lit (.bool true)], args := [d] }
  | _ => none }
def fnCrossingsToldRow : OpenClaim := { program := "ytlnjfbnabjgffaa", sum := "6b78713b57eda3203dc20d6746ba617c07bcb1dbd16c654d4ecf5d119db1b7ed", func := "loop.example/g01324/laws.FnCrossingsTold", spec := "fnCrossingsTold", unfollowed := true, recurses := true, plainKeys := false, apart := false }
def FnCrossingsToldSaid : Prop := fnCrossingsToldRow.holds Try.pinned (OpenSpec.ofChange fnCrossingsToldSpec)

/-- ITS FALSE NEIGHBOUR: 'it returns false'. Refute it at one input. -/
def fnCrossingsToldWrong : ChangeSpec := { name := "fnCrossingsTold", fn := fun _ => fun
  | [d] => { results := [.lit (.bool false)], args := [d] }
  | _ => none }
def FnCrossingsToldWrongFalsely : Prop := fnCrossingsToldRow.holds Try.pinned (OpenSpec.ofChange fnCrossingsToldWrong)

/-- 'laws.FnExactSidesOfChords': WHATEVER THE INPUT: true; the input reads as it did. -/
def fnExactSidesOfChordsSpec : ChangeSpec := { name := "fnExactSidesOfChords", fn := fun _ => fun
  | [d1, d2] => { results := [.lit (.bool true)], args := [d1, d2] }
  | _ => none }
def fnExactSidesOfChordsRow : OpenClaim := { program := "ytlnjfbnabjgffaa", sum := "6b78713b57eda3203dc20d6746ba617c07bcb1dbd16c654d4ecf5d119db1b7ed", func := "loop.example/g01324/laws.FnExactSidesOfChords", spec := "fnExactSidesOfChords", unfollowed := true, recurses := true, plainKeys := false, apart := false }
def FnExactSidesOfChordsSaid : Prop := fnExactSidesOfChordsRow.holds Try.pinned (OpenSpec.ofChange fnExactSidesOfChordsSpec)

/-- ITS FALSE NEIGHBOUR: 'it returns false'. Refute it at one input. -/
def fnExactSidesOfChordsWrong : ChangeSpec := { name := "fnExactSidesOfChords", fn := fun _ => fun
  | [d1, d2] => { results := [.lit (.bool false)], args := [d1, d2] }
  | _ => none }
def FnExactSidesOfChordsWrongFalsely : Prop := fnExactSidesOfChordsRow.holds Try.pinned (OpenSpec.ofChange fnExactSidesOfChordsWrong)

/- THE SECOND FORM. 'bulk': how many values and letters a reading holds, each counted each time it is reached (what is shared counts as often as it is met; a slice's spare places count too). A statement '..UptoSaid' is the law's where the arguments, and the package variables that the reading takes, are together of bulk at most 1048576: NARROWER than '..Said'. Prove '..Said' where nothing that the law and all that it calls make is longer than what came in: it says more and counts as full. Else prove '..UptoSaid'. A law counts once. -/
mutual
def uptoBulk {H : Type} : DataW H → Nat
  | .lit (.string bytes) => bytes.length + 1
  | .lit _ => 1
  | .nil => 1
  | .ptr d => uptoBulk d + 1
  | .slice elems spare => uptoBulkAll elems + uptoBulkAll spare + 1
  | .agg parts => uptoBulkAll parts + 1
  | .iface _ d => uptoBulk d + 1
  | .map entries => uptoBulkEntries entries + 1
  | .held _ => 1
def uptoBulkAll {H : Type} : List (DataW H) → Nat
  | [] => 0
  | d :: r => uptoBulk d + uptoBulkAll r
def uptoBulkEntries {H : Type} : List (Lit × DataW H) → Nat
  | [] => 0
  | x :: r => uptoBulkEntry x + uptoBulkEntries r
def uptoBulkEntry {H : Type} : Lit × DataW H → Nat
  | (.string bytes, d) => bytes.length + uptoBulk d + 1
  | (_, d) => uptoBulk d + 1
 end
def uptoSmall : (H : Type) → List (DataW H) → Bool := fun _ ds => decide (uptoBulkAll ds ≤ 1048576)
def OpenSpec.upto (s : _root_.Go.ChangeSpec) : _root_.Go.OpenSpec := { _root_.Go.OpenSpec.ofChange s with cond := some uptoSmall }

/-- 'laws.FnExactCountClosed', WHERE WHAT IT READS IS OF BULK AT MOST 1048576: true; the input reads as it did. -/
def fnExactCountClosedUptoRow : OpenClaim := { program := "ytlnjfbnabjgffaa", sum := "6b78713b57eda3203dc20d6746ba617c07bcb1dbd16c654d4ecf5d119db1b7ed", func := "loop.example/g01324/laws.FnExactCountClosed", spec := "fnExactCountClosed", recurses := true, plainKeys := false, apart := false, narrowed := true }
def FnExactCountClosedUptoSaid : Prop := fnExactCountClosedUptoRow.holds Try.pinned (OpenSpec.upto fnExactCountClosedSpec)

/-- 'laws.FnStarOnce', WHERE WHAT IT READS IS OF BULK AT MOST 1048576: true; the input reads as it did. -/
def fnStarOnceUptoRow : OpenClaim := { program := "ytlnjfbnabjgffaa", sum := "6b78713b57eda3203dc20d6746ba617c07bcb1dbd16c654d4ecf5d119db1b7ed", func := "loop.example/g01324/laws.FnStarOnce", spec := "fnStarOnce", unfollowed := true, recurses := true, plainKeys := false, apart := false, narrowed := true }
def FnStarOnceUptoSaid : Prop := fnStarOnceUptoRow.holds Try.pinned (OpenSpec.upto fnStarOnceSpec)

/-- 'laws.FnExactFewestDrops', WHERE WHAT IT READS IS OF BULK AT MOST 1048576: true; the input reads as it did. -/
def fnExactFewestDropsUptoRow : OpenClaim := { program := "ytlnjfbnabjgffaa", sum := "6b78713b57eda3203dc20d6746ba617c07bcb1dbd16c654d4ecf5d119db1b7ed", func := "loop.example/g01324/laws.FnExactFewestDrops", spec := "fnExactFewestDrops", recurses := true, plainKeys := false, apart := false, narrowed := true }
def FnExactFewestDropsUptoSaid : Prop := fnExactFewestDropsUptoRow.holds Try.pinned (OpenSpec.upto fnExactFewestDropsSpec)

/-- 'laws.FnCrossingsTold', WHERE WHAT IT READS IS OF BULK AT MOST 1048576: true; the input reads as it did. -/
def fnCrossingsToldUptoRow : OpenClaim := { program := "ytlnjfbnabjgffaa", sum := "6b78713b57eda3203dc20d6746ba617c07bcb1dbd16c654d4ecf5d119db1b7ed", func := "loop.example/g01324/laws.FnCrossingsTold", spec := "fnCrossingsTold", unfollowed := true, recurses := true, plainKeys := false, apart := false, narrowed := true }
def FnCrossingsToldUptoSaid : Prop := fnCrossingsToldUptoRow.holds Try.pinned (OpenSpec.upto fnCrossingsToldSpec)

/-- 'laws.FnExactSidesOfChords', WHERE WHAT IT READS IS OF BULK AT MOST 1048576: true; the input reads as it did. -/
def fnExactSidesOfChordsUptoRow : OpenClaim := { program := "ytlnjfbnabjgffaa", sum := "6b78713b57eda3203dc20d6746ba617c07bcb1dbd16c654d4ecf5d119db1b7ed", func := "loop.example/g01324/laws.FnExactSidesOfChords", spec := "fnExactSidesOfChords", unfollowed := true, recurses := true, plainKeys := false, apart := false, narrowed := true }
def FnExactSidesOfChordsUptoSaid : Prop := fnExactSidesOfChordsUptoRow.holds Try.pinned (OpenSpec.upto fnExactSidesOfChordsSpec)

end Rows
end Go.Proofs.Ytlnjfbnabjgffaa
