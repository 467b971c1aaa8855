/- Whole numbers of 64 bits. -/
import Derived.Test.YtlnjfbnabjgffaaDoorXx0
namespace Go.Proofs.YtlnjfbnabjgffaaDoor.Q
open Go.RowKit Go.Proofs.YtlnjfbnabjgffaaDoor.X Go.Proofs.YtlnjfbnabjgffaaDoorW.PrintWords Go.Proofs.YtlnjfbnabjgffaaDoorW.PrintLast Go.Proofs.YtlnjfbnabjgffaaDoorW.PrintMore
set_option linter.unusedVariables false
set_option linter.unusedSimpArgs false

theorem wrap64_id {x : Int} (h0 : -9223372036854775808 ≤ x) (h1 : x ≤ 9223372036854775807) : wrap64 x = x := by unfold wrap64; omega
theorem wrap_step {x : Int} (h0 : 0 ≤ x) (h1 : x ≤ 4611686018427387904) : wrap64 (x + 1) = x + 1 := by unfold wrap64; omega

end Go.Proofs.YtlnjfbnabjgffaaDoor.Q
