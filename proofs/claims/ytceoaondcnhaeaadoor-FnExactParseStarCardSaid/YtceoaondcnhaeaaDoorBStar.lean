/- The tests of stars: what the reference's and the program's say is one and the same. -/
import Derived.Test.YtceoaondcnhaeaaDoorBWrap
import Derived.Test.YtceoaondcnhaeaaDoorBBase
import Derived.Test.YtceoaondcnhaeaaDoorXx12
import Derived.Test.YtceoaondcnhaeaaDoorXx15
namespace Go.Proofs.YtceoaondcnhaeaaDoor.Q
open Go.RowKit Go.Proofs.YtceoaondcnhaeaaDoor.X Go.Proofs.YtceoaondcnhaeaaDoorW.PrintWords Go.Proofs.YtceoaondcnhaeaaDoorW.PrintLast Go.Proofs.YtceoaondcnhaeaaDoorW.PrintMore
set_option linter.unusedVariables false
set_option linter.unusedSimpArgs false

/-- A star: 3 to 60 points, and a step of 1 to one less. -/
def isStar (p s : Int) : Prop := 3 ≤ p ∧ p ≤ 60 ∧ 1 ≤ s ∧ s < p
instance (p s : Int) : Decidable (isStar p s) := by unfold isStar; infer_instance
theorem srGood_eq (p s : Int) : spec_srGood.f p s = some (decide (isStar p s)) := by
  unfold spec_srGood.f isStar
  rw [srPoints_eq]
  simp only [Option.bind_some]
  by_cases h : 3 ≤ p ∧ p ≤ 60
  · rw [if_pos (by simpa using h), l1In_eq]
    simp only [Option.bind_some]
    rw [wrap64_id (by omega) (by omega)]
    exact congrArg some (decide_eq_decide.2 (by omega))
  · rw [if_neg (by simpa using h)]
    exact congrArg some (decide_eq_false (by omega)).symm
theorem implIsStar_eq (p s : Int) : impl_IsStar.f p s = some (decide (isStar p s)) := by
  unfold impl_IsStar.f isStar
  rw [isCircle_eq]
  simp only [Option.bind_some]
  by_cases h : 3 ≤ p ∧ p ≤ 60
  · rw [if_pos (by simpa using h), within_eq]
    simp only [Option.bind_some]
    rw [wrap64_id (by omega) (by omega)]
    exact congrArg some (decide_eq_decide.2 (by omega))
  · rw [if_neg (by simpa using h)]
    exact congrArg some (decide_eq_false (by omega)).symm

end Go.Proofs.YtceoaondcnhaeaaDoor.Q
