/- Grids. -/
import Derived.Test.YtlnjfbnabjgffaaDoorBWrap
import Derived.Test.YtlnjfbnabjgffaaDoorXx1
namespace Go.Proofs.YtlnjfbnabjgffaaDoor.Q
open Go.RowKit Go.Proofs.YtlnjfbnabjgffaaDoor.X Go.Proofs.YtlnjfbnabjgffaaDoorW.PrintWords Go.Proofs.YtlnjfbnabjgffaaDoorW.PrintLast Go.Proofs.YtlnjfbnabjgffaaDoorW.PrintMore
set_option linter.unusedVariables false
set_option linter.unusedSimpArgs false

theorem paGrid_eq (g : Int) : spec_paGrid.f g = some (decide (g = 4 ∨ g = 6)) := by
  unfold spec_paGrid.f
  by_cases h : g = 4
  · simp [h]
  · by_cases h6 : g = 6 <;> simp [h, h6]
theorem isGrid_eq (g : Int) : impl_isGrid.f g = some (decide (g = 4 ∨ g = 6)) := by
  unfold impl_isGrid.f
  by_cases h : g = 4
  · simp [h]
  · by_cases h6 : g = 6 <;> simp [h, h6]

end Go.Proofs.YtlnjfbnabjgffaaDoor.Q
