/- Grids. -/
import Derived.Test.YtlnjfbnabjgffaaBWrap
import Derived.Test.YtlnjfbnabjgffaaXx2
import Derived.Test.YtlnjfbnabjgffaaXx4
namespace Go.Proofs.Ytlnjfbnabjgffaa.Q
open Go.RowKit Go.Proofs.Ytlnjfbnabjgffaa.X Go.Proofs.YtlnjfbnabjgffaaW.PrintWords Go.Proofs.YtlnjfbnabjgffaaW.PrintLast Go.Proofs.YtlnjfbnabjgffaaW.PrintMore
set_option linter.unusedVariables false
set_option linter.unusedSimpArgs false

theorem paGrid_eq (g : Int) : spec_paGrid.f g = some (decide (g = 4 ∨ g = 6)) := by
  unfold spec_paGrid.f
  by_cases h : g = 4
  · simp [h]
  · by_cases h6 : g = 6 <;> simp [h, h6]
theorem isGrid_eq (g : Int) : impl_isGrid.f g = some (decide (g = 4 ∨ g = 6)) := by
  unfold impl_isGrid.f
  by_cases h : g = 4
  · simp [h]
  · by_cases h6 : g = 6 <;> simp [h, h6]

end Go.Proofs.Ytlnjfbnabjgffaa.Q
