-- Written by a program of this work (wip/tools/xprint.py, which drives the kit's print over a whole seat). Not trusted: it is checked when it is built.
import Derived.Test.YtknpnhgedcggkaaDoorProg
import Derived.Below
import Derived.Deep.Draws
import Derived.Deep.AppendLies
import Derived.Maps.AppendAt
import Derived.OwnWalk
import Derived.Laws.BytesArg
import Derived.Laws.MakeOwn
import Derived.Laws.OwnMore
import Derived.Deep.OwnRows
import Derived.Tactics
import Derived.Lib.ConvBytes
import Derived.Laws.Slices
import Derived.WalkKit
import Derived.KernelRfl
import Derived.RowKit3
import Derived.Deep.LoopGhost
import Derived.Deep.QuietTactic
import Derived.BigQuiet
import Derived.WideLaws
import Derived.Deep.DeepCutAuto
import Derived.Deep.CutBlock
import Derived.Deep.RegionHeld3
import Derived.Laws.Rows
import Derived.Lib.AppendStr
import Derived.ArgAppend
import Derived.Laws.IdiomCopy
import Derived.OrdersHeld
import Derived.Laws.BitsLemmas
import Derived.RowKit
import Derived.Shelf.Abstract
import Derived.Shelf.Strconv.Itoa3
import Derived.Test.YtknpnhgedcggkaaDoorShelf
import Derived.Test.YtknpnhgedcggkaaDoorWWords
import Derived.Test.YtknpnhgedcggkaaDoorWLast
import Derived.Test.YtknpnhgedcggkaaDoorWTab
import Derived.Test.YtknpnhgedcggkaaDoorWFour
import Derived.Test.YtknpnhgedcggkaaDoorWQPut
import Derived.Test.YtknpnhgedcggkaaDoorWApart
import Derived.Test.YtknpnhgedcggkaaDoorWArr
import Derived.Test.YtknpnhgedcggkaaDoorWZeros
import Derived.Test.YtknpnhgedcggkaaDoorWFoot
import Derived.Test.YtknpnhgedcggkaaDoorWKept
import Derived.Test.YtknpnhgedcggkaaDoorWShare
import Derived.Test.YtknpnhgedcggkaaDoorWN
import Derived.Test.YtknpnhgedcggkaaDoorWFootNe
import Derived.Test.YtknpnhgedcggkaaDoorWAt
import Derived.Test.YtknpnhgedcggkaaDoorWEqStruct
import Derived.Test.YtknpnhgedcggkaaDoorWRepsOne
import Derived.Test.YtknpnhgedcggkaaDoorWInv
import Derived.Test.YtknpnhgedcggkaaDoorWInvWords
import Derived.Test.YtknpnhgedcggkaaDoorWGuard
import Derived.Test.YtknpnhgedcggkaaDoorWNEv
import Derived.Test.YtknpnhgedcggkaaDoorWMore
namespace Go.Proofs.YtknpnhgedcggkaaDoor.X
open Go.RowKit Go.Proofs.YtknpnhgedcggkaaDoorW.PrintWords Go.Proofs.YtknpnhgedcggkaaDoorW.PrintLast Go.Proofs.YtknpnhgedcggkaaDoorW.PrintMore
attribute [local go_sem] max2_int min2_int max_two min_two max_three min_three max_four min_four   -- for this text's walks alone
set_option linter.unusedVariables false
set_option linter.unusedSimpArgs false



def errW : Option Int → Value
  | none => .nilIface
  | some c => .iface 0 (.int .i64 c)
theorem errW_none : errW none = .nilIface := rfl
theorem errW_some (c : Int) : errW (some c) = .iface 0 (.int .i64 c) := rfl

theorem info5 : (Tryd.prog.info? 5).map (fun i => (i.zero, i.size, i.bytes)) = some (some (.int .u8 0), 1, 1) := by kernel_rfl
theorem info9 : (Tryd.prog.info? 9).map (fun i => (i.zero, i.size, i.bytes)) = some (some (.string ⟨#[]⟩), 1, 16) := by kernel_rfl
-- the values' own types

end Go.Proofs.YtknpnhgedcggkaaDoor.X
