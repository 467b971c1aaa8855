/- PointAfter: reference and program answer alike. -/
import Derived.Test.YtglaclhjnbfflaaBStar
import Derived.Test.YtglaclhjnbfflaaBAsk
import Derived.Test.YtglaclhjnbfflaaXx1
import Derived.Test.YtglaclhjnbfflaaXx9
import Derived.Test.YtglaclhjnbfflaaXx10
namespace Go.Proofs.Ytglaclhjnbfflaa.Q
open Go.RowKit Go.Proofs.Ytglaclhjnbfflaa.X Go.Proofs.YtglaclhjnbfflaaW.PrintWords Go.Proofs.YtglaclhjnbfflaaW.PrintLast Go.Proofs.YtglaclhjnbfflaaW.PrintMore
set_option linter.unusedVariables false
set_option linter.unusedSimpArgs false

theorem FnExactPointAfter : ∀ (a0_0 : Int) (a0_1 : Int) (a1 : Int) (a2 : Int), (Lit.int .i64 a0_0).wf = true → (Lit.int .i64 a0_1).wf = true → (Lit.int .i64 a1).wf = true → (Lit.int .i64 a2).wf = true → laws_FnExactPointAfter.f a0_0 a0_1 a1 a2 = some true := by
  intro p s a n _ _ _ _
  unfold laws_FnExactPointAfter.f laws_toStar.f spec_PointAfter.f impl_PointAfter.f
  simp only [Option.bind_some, srAsked_eq, isPoint_eq1, l1In_eq, within_eq]
  by_cases h : isStar p s ∧ 0 ≤ a ∧ a < p
  · simp only [if_pos (decide_eq_true h)]
    have hp : ¬ p = 0 := by have := h.1; unfold isStar at this; omega
    by_cases h2 : 0 ≤ n ∧ n ≤ 1000000
    · simp [decide_eq_true h2, if_neg hp]
    · simp [decide_eq_false h2]
  · simp [decide_eq_false h]

end Go.Proofs.Ytglaclhjnbfflaa.Q
