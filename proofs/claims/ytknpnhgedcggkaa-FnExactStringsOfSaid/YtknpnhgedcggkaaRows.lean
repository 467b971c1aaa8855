/-
  No cell of these rows narrows 'for every input' (looked for: loops, veiled, ifaces, maps, wideKeys, modest, calm, conditions, laid).
  DERIVED. THE GIVEN ROWS OF THIS SEAT. 10 by the template 'for every input the law returns true; each argument reads behind the call as it read before'; 0 by the template 'total and deterministic' (their statements: YtknpnhgedcggkaaTotals.lean).
  GIVEN WITH THE SEED: the statements are not yours to turn. If you find one false, say at which input.
  Laid BY PROGRAM, IN A SANDBOX (cutbox-rows.mjs): the forced cells as the released guide's own fill.sh prints them over the translation 9db0a6c7c1fc005a… (all of the seat's roots in one cut). By AI agents, Wed Nov 11 2026. No macro, syntax, notation, axiom, sorry.
-/
import Derived.Test.YtknpnhgedcggkaaChecked
import GoSem.Claim
import GoSem.ClaimJoined
import GoSem.ClaimMapViews
import Derived.JoinedTies
import Derived.KernelRfl
namespace Go.Proofs.Ytknpnhgedcggkaa
/- THE CELL 'sum', in the pinned program and in every row, IS THE sha256 OF THE DUMP (.gsa) THAT YtknpnhgedcggkaaProg.lean LOADS. Nothing in Lean hashes anything: it is a label: what it is worth is what the hold of that sum in a sandbox is worth. -/
noncomputable def Try.pinned : Pinned := { name := "ytknpnhgedcggkaa", sum := "9db0a6c7c1fc005ac1599f2ed027fe1bf2c240da95ea54cb02a0b0c9b0e30cd3", checked := Try.checked }
namespace Rows
def none {H : Type} : Left H := { results := [], args := [] }

/-- 'laws.FnExactStringOf': WHATEVER THE INPUT: true; the input reads as it did. -/
def fnExactStringOfSpec : ChangeSpec := { name := "fnExactStringOf", fn := fun _ => fun
  | [d1, d2] => { results := [.lit (.bool true)], args := [d1, d2] }
  | _ => none }
def fnExactStringOfRow : OpenClaim := { program := "ytknpnhgedcggkaa", sum := "9db0a6c7c1fc005ac1599f2ed027fe1bf2c240da95ea54cb02a0b0c9b0e30cd3", func := "loop.example/g01324/laws.FnExactStringOf", spec := "fnExactStringOf", unfollowed := true, recurses := true, apart := false }
def FnExactStringOfSaid : Prop := fnExactStringOfRow.holds Try.pinned (OpenSpec.ofChange fnExactStringOfSpec)

/-- ITS FALSE NEIGHBOUR: 'it returns false'. Refute it at one input. -/
def fnExactStringOfWrong : ChangeSpec := { name := "fnExactStringOf", fn := fun _ => fun
  | [d1, d2] => { results := [.lit (.bool false)], args := [d1, d2] }
  | _ => none }
def FnExactStringOfWrongFalsely : Prop := fnExactStringOfRow.holds Try.pinned (OpenSpec.ofChange fnExactStringOfWrong)

/-- 'laws.FnExactStepsBetween': WHATEVER THE INPUT: true; the input reads as it did. -/
def fnExactStepsBetweenSpec : ChangeSpec := { name := "fnExactStepsBetween", fn := fun _ => fun
  | [d1, d2, d3] => { results := [.lit (.bool true)], args := [d1, d2, d3] }
  | _ => none }
def fnExactStepsBetweenRow : OpenClaim := { program := "ytknpnhgedcggkaa", sum := "9db0a6c7c1fc005ac1599f2ed027fe1bf2c240da95ea54cb02a0b0c9b0e30cd3", func := "loop.example/g01324/laws.FnExactStepsBetween", spec := "fnExactStepsBetween", unfollowed := true, recurses := true, apart := false }
def FnExactStepsBetweenSaid : Prop := fnExactStepsBetweenRow.holds Try.pinned (OpenSpec.ofChange fnExactStepsBetweenSpec)

/-- ITS FALSE NEIGHBOUR: 'it returns false'. Refute it at one input. -/
def fnExactStepsBetweenWrong : ChangeSpec := { name := "fnExactStepsBetween", fn := fun _ => fun
  | [d1, d2, d3] => { results := [.lit (.bool false)], args := [d1, d2, d3] }
  | _ => none }
def FnExactStepsBetweenWrongFalsely : Prop := fnExactStepsBetweenRow.holds Try.pinned (OpenSpec.ofChange fnExactStepsBetweenWrong)

/-- 'laws.FnExactOneString': WHATEVER THE INPUT: true; the input reads as it did. -/
def fnExactOneStringSpec : ChangeSpec := { name := "fnExactOneString", fn := fun _ => fun
  | [d] => { results := [.lit (.bool true)], args := [d] }
  | _ => none }
def fnExactOneStringRow : OpenClaim := { program := "ytknpnhgedcggkaa", sum := "9db0a6c7c1fc005ac1599f2ed027fe1bf2c240da95ea54cb02a0b0c9b0e30cd3", func := "loop.example/g01324/laws.FnExactOneString", spec := "fnExactOneString", unfollowed := true, recurses := true, apart := false }
def FnExactOneStringSaid : Prop := fnExactOneStringRow.holds Try.pinned (OpenSpec.ofChange fnExactOneStringSpec)

/-- ITS FALSE NEIGHBOUR: 'it returns false'. Refute it at one input. -/
def fnExactOneStringWrong : ChangeSpec := { name := "fnExactOneString", fn := fun _ => fun
  | [d] => { results := [.lit (.bool false)], args := [d] }
  | _ => none }
def FnExactOneStringWrongFalsely : Prop := fnExactOneStringRow.holds Try.pinned (OpenSpec.ofChange fnExactOneStringWrong)

/-- 'laws.FnExactStringsOf': WHATEVER THE INPUT: true; the input reads as it did. -/
def fnExactStringsOfSpec : ChangeSpec := { name := "fnExactStringsOf", fn := fun _ => fun
  | [d] => { results := [.lit (.bool true)], args := [d] }
  | _ => none }
def fnExactStringsOfRow : OpenClaim := { program := "ytknpnhgedcggkaa", sum := "9db0a6c7c1fc005ac1599f2ed027fe1bf2c240da95ea54cb02a0b0c9b0e30cd3", func := "loop.example/g01324/laws.FnExactStringsOf", spec := "fnExactStringsOf", apart := false }
def FnExactStringsOfSaid : Prop := fnExactStringsOfRow.holds Try.pinned (OpenSpec.ofChange fnExactStringsOfSpec)

/-- ITS FALSE NEIGHBOUR: 'it returns false'. Refute it at one input. -/
def fnExactStringsOfWrong : ChangeSpec := { name := "fnExactStringsOf", fn := fun _ => fun
  | [d] => { results := [.lit (.bool false)], args := [d] }
  | _ => none }
def FnExactStringsOfWrongFalsely : Prop := fnExactStringsOfRow.holds Try.pinned (OpenSpec.ofChange fnExactStringsOfWrong)

/-- 'laws.FnStarOnce': WHATEVER THE INPUT: true; the input reads as it did. -/
def fnStarOnceSpec : ChangeSpec := { name := "fnStarOnce", fn := fun _ => fun
  | [d1, d2] => { results := [.lit (.bool true)], args := [d1, d2] }
  | _ => none }
def fnStarOnceRow : OpenClaim := { program := "ytknpnhgedcggkaa", sum := "9db0a6c7c1fc005ac1599f2ed027fe1bf2c240da95ea54cb02a0b0c9b0e30cd3", func := "loop.example/g01324/laws.FnStarOnce", spec := "fnStarOnce", unfollowed := true, recurses := true, apart := false }
def FnStarOnceSaid : Prop := fnStarOnceRow.holds Try.pinned (OpenSpec.ofChange fnStarOnceSpec)

/-- ITS FALSE NEIGHBOUR: 'it returns false'. Refute it at one input. -/
def fnStarOnceWrong : ChangeSpec := { name := "fnStarOnce", fn := fun _ => fun
  | [d1, d2] => { results := [.lit (.bool false)], args := [d1, d2] }
  | _ => none }
def FnStarOnceWrongFalsely : Prop := fnStarOnceRow.holds Try.pinned (OpenSpec.ofChange fnStarOnceWrong)

/-- 'laws.FnExactChordsOf': WHATEVER THE INPUT: true; the input reads as it did. -/
def fnExactChordsOfSpec : ChangeSpec := { name := "fnExactChordsOf", fn := fun _ => fun
  | [d] => { results := [.lit (.bool true)], args := [d] }
  | _ => none }
def fnExactChordsOfRow : OpenClaim := { program := "ytknpnhgedcggkaa", sum := "9db0a6c7c1fc005ac1599f2ed027fe1bf2c240da95ea54cb02a0b0c9b0e30cd3", func := "loop.example/g01324/laws.FnExactChordsOf", spec := "fnExactChordsOf", unfollowed := true, recurses := true, apart := false }
def FnExactChordsOfSaid : Prop := fnExactChordsOfRow.holds Try.pinned (OpenSpec.ofChange fnExactChordsOfSpec)

/-- ITS FALSE NEIGHBOUR: 'it returns false'. Refute it at one input. -/
def fnExactChordsOfWrong : ChangeSpec := { name := "fnExactChordsOf", fn := fun _ => fun
  | [d] => { results := [.lit (.bool false)], args := [d] }
  | _ => none }
def FnExactChordsOfWrongFalsely : Prop := fnExactChordsOfRow.holds Try.pinned (OpenSpec.ofChange fnExactChordsOfWrong)

/-- 'laws.FnExactCrossingsOn': WHATEVER THE INPUT: true; the input reads as it did. -/
def fnExactCrossingsOnSpec : ChangeSpec := { name := "fnExactCrossingsOn", fn := fun _ => fun
  | [d1, d2] => { results := [.lit (.bool true)], args := [d1, d2] }
  | _ => none }
def fnExactCrossingsOnRow : OpenClaim := { program := "ytknpnhgedcggkaa", sum := "9db0a6c7c1fc005ac1599f2ed027fe1bf2c240da95ea54cb02a0b0c9b0e30cd3", func := "loop.example/g01324/laws.FnExactCrossingsOn", spec := "fnExactCrossingsOn", unfollowed := true, recurses := true, apart := false }
def FnExactCrossingsOnSaid : Prop := fnExactCrossingsOnRow.holds Try.pinned (OpenSpec.ofChange fnExactCrossingsOnSpec)

/-- ITS FALSE NEIGHBOUR: 'it returns false'. Refute it at one input. -/
def fnExactCrossingsOnWrong : ChangeSpec := { name := "fnExactCrossingsOn", fn := fun _ => fun
  | [d1, d2] => { results := [.lit (.bool false)], args := [d1, d2] }
  | _ => none }
def FnExactCrossingsOnWrongFalsely : Prop := fnExactCrossingsOnRow.holds Try.pinned (OpenSpec.ofChange fnExactCrossingsOnWrong)

/-- 'laws.FnExactCountCrossings': WHATEVER THE INPUT: true; the input reads as it did. -/
def fnExactCountCrossingsSpec : ChangeSpec := { name := "fnExactCountCrossings", fn := fun _ => fun
  | [d] => { results := [.lit (.bool true)], args := [d] }
  | _ => none }
def fnExactCountCrossingsRow : OpenClaim := { program := "ytknpnhgedcggkaa", sum := "9db0a6c7c1fc005ac1599f2ed027fe1bf2c240da95ea54cb02a0b0c9b0e30cd3", func := "loop.example/g01324/laws.FnExactCountCrossings", spec := "fnExactCountCrossings", unfollowed := true, recurses := true, apart := false }
def FnExactCountCrossingsSaid : Prop := fnExactCountCrossingsRow.holds Try.pinned (OpenSpec.ofChange fnExactCountCrossingsSpec)

/-- ITS FALSE NEIGHBOUR: 'it returns false'. Refute it at one input. -/
def fnExactCountCrossingsWrong : ChangeSpec := { name := "fnExactCountCrossings", fn := fun _ => fun
  | [d] => { results := [.lit (.bool false)], args := [d] }
  | _ => none }
def FnExactCountCrossingsWrongFalsely : Prop := fnExactCountCrossingsRow.holds Try.pinned (OpenSpec.ofChange fnExactCountCrossingsWrong)

/-- 'laws.FnExactTurnedStar': WHATEVER THE INPUT: true; the input reads as it did. -/
def fnExactTurnedStarSpec : ChangeSpec := { name := "fnExactTurnedStar", fn := fun _ => fun
  | [d1, d2] => { results := [.lit (.bool true)], args := [d1, d2] }
  | _ => none }
def fnExactTurnedStarRow : OpenClaim := { program := "ytknpnhgedcggkaa", sum := "9db0a6c7c1fc005ac1599f2ed027fe1bf2c240da95ea54cb02a0b0c9b0e30cd3", func := "loop.example/g01324/laws.FnExactTurnedStar", spec := "fnExactTurnedStar", unfollowed := true, recurses := true, apart := false }
def FnExactTurnedStarSaid : Prop := fnExactTurnedStarRow.holds Try.pinned (OpenSpec.ofChange fnExactTurnedStarSpec)

/-- ITS FALSE NEIGHBOUR: 'it returns false'. Refute it at one input. -/
def fnExactTurnedStarWrong : ChangeSpec := { name := "fnExactTurnedStar", fn := fun _ => fun
  | [d1, d2] => { results := [.lit (.bool false)], args := [d1, d2] }
  | _ => none }
def FnExactTurnedStarWrongFalsely : Prop := fnExactTurnedStarRow.holds Try.pinned (OpenSpec.ofChange fnExactTurnedStarWrong)

/-- 'laws.FnCrossingsTold': WHATEVER THE INPUT: true; the input reads as it did. -/
def fnCrossingsToldSpec : ChangeSpec := { name := "fnCrossingsTold", fn := fun _ => fun
  | [d] => { results := [.lit (.bool true)], args := [d] }
  | _ => none }
def fnCrossingsToldRow : OpenClaim := { program := "ytknpnhgedcggkaa", sum := "9db0a6c7c1fc005ac1599f2ed027fe1bf2c240da95ea54cb02a0b0c9b0e30cd3", func := "loop.example/g01324/laws.FnCrossingsTold", spec := "fnCrossingsTold", unfollowed := true, recurses := true, apart := false }
def FnCrossingsToldSaid : Prop := fnCrossingsToldRow.holds Try.pinned (OpenSpec.ofChange fnCrossingsToldSpec)

/-- ITS FALSE NEIGHBOUR: 'it returns false'. Refute it at one input. -/
def fnCrossingsToldWrong : ChangeSpec := { name := "fnCrossingsTold", fn := fun _ => fun
  | [d] => { results := [.lit (.bool false)], args := [d] }
  | _ => none }
def FnCrossingsToldWrongFalsely : Prop := fnCrossingsToldRow.holds Try.pinned (OpenSpec.ofChange fnCrossingsToldWrong)

/- THE SECOND FORM. 'bulk': how many values and letters a reading holds, each counted each time it is reached (what is shared counts as often as it is met; a slice's spare places count too). A statement '..UptoSaid' is the law's where the arguments, and the package variables that the reading takes, are together of bulk at most 1048576: NARROWER than '..Said'. Prove '..Said' where nothing that the law and all that it calls make is longer than what came in: it says more and counts as full. Else prove '..UptoSaid'. A law counts once. -/
mutual
def uptoBulk {H : Type} : DataW H → Nat
  | .lit (.string bytes) => bytes.length + 1
  | .lit _ => 1
  | .nil => 1
  | .ptr d => uptoBulk d + 1
  | .slice elems spare => uptoBulkAll elems + uptoBulkAll spare + 1
  | .agg parts => uptoBulkAll parts + 1
  | .iface _ d => uptoBulk d + 1
  | .map entries => uptoBulkEntries entries + 1
  | .held _ => 1
def uptoBulkAll {H : Type} : List (DataW H) → Nat
  | [] => 0
  | d :: r => uptoBulk d + uptoBulkAll r
def uptoBulkEntries {H : Type} : List (Lit × DataW H) → Nat
  | [] => 0
  | x :: r => uptoBulkEntry x + uptoBulkEntries r
def uptoBulkEntry {H : Type} : Lit × DataW H → Nat
  | (.string bytes, d) => bytes.length + uptoBulk d + 1
  | (_, d) => uptoBulk d + 1
 end
def uptoSmall : (H : Type) → List (DataW H) → Bool := fun _ ds => decide (uptoBulkAll ds ≤ 1048576)
def OpenSpec.upto (s : _root_.Go.ChangeSpec) : _root_.Go.OpenSpec := { _root_.Go.OpenSpec.ofChange s with cond := some uptoSmall }

/-- 'laws.FnExactStringOf', WHERE WHAT IT READS IS OF BULK AT MOST 1048576: true; the input reads as it did. -/
def fnExactStringOfUptoRow : OpenClaim := { program := "ytknpnhgedcggkaa", sum := "9db0a6c7c1fc005ac1599f2ed027fe1bf2c240da95ea54cb02a0b0c9b0e30cd3", func := "loop.example/g01324/laws.FnExactStringOf", spec := "fnExactStringOf", unfollowed := true, recurses := true, apart := false, narrowed := true }
def FnExactStringOfUptoSaid : Prop := fnExactStringOfUptoRow.holds Try.pinned (OpenSpec.upto fnExactStringOfSpec)

/-- 'laws.FnExactStepsBetween', WHERE WHAT IT READS IS OF BULK AT MOST 1048576: true; the input reads as it did. -/
def fnExactStepsBetweenUptoRow : OpenClaim := { program := "ytknpnhgedcggkaa", sum := "9db0a6c7c1fc005ac1599f2ed027fe1bf2c240da95ea54cb02a0b0c9b0e30cd3", func := "loop.example/g01324/laws.FnExactStepsBetween", spec := "fnExactStepsBetween", unfollowed := true, recurses := true, apart := false, narrowed := true }
def FnExactStepsBetweenUptoSaid : Prop := fnExactStepsBetweenUptoRow.holds Try.pinned (OpenSpec.upto fnExactStepsBetweenSpec)

/-- 'laws.FnExactOneString', WHERE WHAT IT READS IS OF BULK AT MOST 1048576: true; the input reads as it did. -/
def fnExactOneStringUptoRow : OpenClaim := { program := "ytknpnhgedcggkaa", sum := "9db0a6c7c1fc005ac1599f2ed027fe1bf2c240da95ea54cb02a0b0c9b0e30cd3", func := "loop.example/g01324/laws.FnExactOneString", spec := "fnExactOneString", unfollowed := true, recurses := true, apart := false, narrowed := true }
def FnExactOneStringUptoSaid : Prop := fnExactOneStringUptoRow.holds Try.pinned (OpenSpec.upto fnExactOneStringSpec)

/-- 'laws.FnExactStringsOf', WHERE WHAT IT READS IS OF BULK AT MOST 1048576: true; the input reads as it did. -/
def fnExactStringsOfUptoRow : OpenClaim := { program := "ytknpnhgedcggkaa", sum := "9db0a6c7c1fc005ac1599f2ed027fe1bf2c240da95ea54cb02a0b0c9b0e30cd3", func := "loop.example/g01324/laws.FnExactStringsOf", spec := "fnExactStringsOf", apart := false, narrowed := true }
def FnExactStringsOfUptoSaid : Prop := fnExactStringsOfUptoRow.holds Try.pinned (OpenSpec.upto fnExactStringsOfSpec)

/-- 'laws.FnStarOnce', WHERE WHAT IT READS IS OF BULK AT MOST 1048576: true; the input reads as it did. -/
def fnStarOnceUptoRow : OpenClaim := { program := "ytknpnhgedcggkaa", sum := "9db0a6c7c1fc005ac1599f2ed027fe1bf2c240da95ea54cb02a0b0c9b0e30cd3", func := "loop.example/g01324/laws.FnStarOnce", spec := "fnStarOnce", unfollowed := true, recurses := true, apart := false, narrowed := true }
def FnStarOnceUptoSaid : Prop := fnStarOnceUptoRow.holds Try.pinned (OpenSpec.upto fnStarOnceSpec)

/-- 'laws.FnExactChordsOf', WHERE WHAT IT READS IS OF BULK AT MOST 1048576: true; the input reads as it did. -/
def fnExactChordsOfUptoRow : OpenClaim := { program := "ytknpnhgedcggkaa", sum := "9db0a6c7c1fc005ac1599f2ed027fe1bf2c240da95ea54cb02a0b0c9b0e30cd3", func := "loop.example/g01324/laws.FnExactChordsOf", spec := "fnExactChordsOf", unfollowed := true, recurses := true, apart := false, narrowed := true }
def FnExactChordsOfUptoSaid : Prop := fnExactChordsOfUptoRow.holds Try.pinned (OpenSpec.upto fnExactChordsOfSpec)

/-- 'laws.FnExactCrossingsOn', WHERE WHAT IT READS IS OF BULK AT MOST 1048576: true; the input reads as it did. -/
def fnExactCrossingsOnUptoRow : OpenClaim := { program := "ytknpnhgedcggkaa", sum := "9db0a6c7c1fc005ac1599f2ed027fe1bf2c240da95ea54cb02a0b0c9b0e30cd3", func := "loop.example/g01324/laws.FnExactCrossingsOn", spec := "fnExactCrossingsOn", unfollowed := true, recurses := true, apart := false, narrowed := true }
def FnExactCrossingsOnUptoSaid : Prop := fnExactCrossingsOnUptoRow.holds Try.pinned (OpenSpec.upto fnExactCrossingsOnSpec)

/-- 'laws.FnExactCountCrossings', WHERE WHAT IT READS IS OF BULK AT MOST 1048576: true; the input reads as it did. -/
def fnExactCountCrossingsUptoRow : OpenClaim := { program := "ytknpnhgedcggkaa", sum := "9db0a6c7c1fc005ac1599f2ed027fe1bf2c240da95ea54cb02a0b0c9b0e30cd3", func := "loop.example/g01324/laws.FnExactCountCrossings", spec := "fnExactCountCrossings", unfollowed := true, recurses := true, apart := false, narrowed := true }
def FnExactCountCrossingsUptoSaid : Prop := fnExactCountCrossingsUptoRow.holds Try.pinned (OpenSpec.upto fnExactCountCrossingsSpec)

/-- 'laws.FnExactTurnedStar', WHERE WHAT IT READS IS OF BULK AT MOST 1048576: true; the input reads as it did. -/
def fnExactTurnedStarUptoRow : OpenClaim := { program := "ytknpnhgedcggkaa", sum := "9db0a6c7c1fc005ac1599f2ed027fe1bf2c240da95ea54cb02a0b0c9b0e30cd3", func := "loop.example/g01324/laws.FnExactTurnedStar", spec := "fnExactTurnedStar", unfollowed := true, recurses := true, apart := false, narrowed := true }
def FnExactTurnedStarUptoSaid : Prop := fnExactTurnedStarUptoRow.holds Try.pinned (OpenSpec.upto fnExactTurnedStarSpec)

/-- 'laws.FnCrossingsTold', WHERE WHAT IT READS IS OF BULK AT MOST 1048576: true; the input reads as it did. -/
def fnCrossingsToldUptoRow : OpenClaim := { program := "ytknpnhgedcggkaa", sum := "9db0a6c7c1fc005ac1599f2ed027fe1bf2c240da95ea54cb02a0b0c9b0e30cd3", func := "loop.example/g01324/laws.FnCrossingsTold", spec := "fnCrossingsTold", unfollowed := true, recurses := true, apart := false, narrowed := true }
def FnCrossingsToldUptoSaid : Prop := fnCrossingsToldUptoRow.holds Try.pinned (OpenSpec.upto fnCrossingsToldSpec)

end Rows
end Go.Proofs.Ytknpnhgedcggkaa
