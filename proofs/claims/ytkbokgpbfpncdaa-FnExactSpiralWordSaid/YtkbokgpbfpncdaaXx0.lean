-- Written by a program of this work (wip/tools/xprint.py, which drives the kit's print over a whole seat). Not trusted: it is checked when it is built.
import Derived.Test.YtkbokgpbfpncdaaProg
import Derived.Below
import Derived.Deep.Draws
import Derived.Deep.AppendLies
import Derived.Maps.AppendAt
import Derived.OwnWalk
import Derived.Laws.BytesArg
import Derived.Laws.MakeOwn
import Derived.Laws.OwnMore
import Derived.Deep.OwnRows
import Derived.Tactics
import Derived.Lib.ConvBytes
import Derived.Laws.Slices
import Derived.WalkKit
import Derived.KernelRfl
import Derived.RowKit3
import Derived.Deep.LoopGhost
import Derived.Deep.QuietTactic
import Derived.BigQuiet
import Derived.WideLaws
import Derived.Deep.DeepCutAuto
import Derived.Deep.CutBlock
import Derived.Deep.RegionHeld3
import Derived.Laws.Rows
import Derived.Lib.AppendStr
import Derived.ArgAppend
import Derived.Laws.IdiomCopy
import Derived.OrdersHeld
import Derived.Laws.BitsLemmas
import Derived.RowKit
import Derived.Shelf.Abstract
import Derived.Shelf.Strings.Repeat
import Derived.Test.YtkbokgpbfpncdaaShelf
import Derived.Test.YtkbokgpbfpncdaaWWords
import Derived.Test.YtkbokgpbfpncdaaWLast
import Derived.Test.YtkbokgpbfpncdaaWTab
import Derived.Test.YtkbokgpbfpncdaaWFour
import Derived.Test.YtkbokgpbfpncdaaWQPut
import Derived.Test.YtkbokgpbfpncdaaWApart
import Derived.Test.YtkbokgpbfpncdaaWArr
import Derived.Test.YtkbokgpbfpncdaaWZeros
import Derived.Test.YtkbokgpbfpncdaaWFoot
import Derived.Test.YtkbokgpbfpncdaaWKept
import Derived.Test.YtkbokgpbfpncdaaWShare
import Derived.Test.YtkbokgpbfpncdaaWN
import Derived.Test.YtkbokgpbfpncdaaWFootNe
import Derived.Test.YtkbokgpbfpncdaaWAt
import Derived.Test.YtkbokgpbfpncdaaWEqStruct
import Derived.Test.YtkbokgpbfpncdaaWRepsOne
import Derived.Test.YtkbokgpbfpncdaaWInv
import Derived.Test.YtkbokgpbfpncdaaWInvWords
import Derived.Test.YtkbokgpbfpncdaaWGuard
import Derived.Test.YtkbokgpbfpncdaaWNEv
import Derived.Test.YtkbokgpbfpncdaaWMore
namespace Go.Proofs.Ytkbokgpbfpncdaa.X
open Go.RowKit Go.Proofs.YtkbokgpbfpncdaaW.PrintWords Go.Proofs.YtkbokgpbfpncdaaW.PrintLast Go.Proofs.YtkbokgpbfpncdaaW.PrintMore
attribute [local go_sem] max2_int min2_int max_two min_two max_three min_three max_four min_four   -- for this text's walks alone
set_option linter.unusedVariables false
set_option linter.unusedSimpArgs false



def errW : Option Int → Value
  | none => .nilIface
  | some c => .iface 0 (.int .i64 c)
theorem errW_none : errW none = .nilIface := rfl
theorem errW_some (c : Int) : errW (some c) = .iface 0 (.int .i64 c) := rfl

-- the values' own types

end Go.Proofs.Ytkbokgpbfpncdaa.X
