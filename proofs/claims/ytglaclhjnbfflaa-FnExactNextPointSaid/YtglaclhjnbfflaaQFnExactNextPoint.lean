/- NextPoint: reference and program answer alike. -/
import Derived.Test.YtglaclhjnbfflaaBStar
import Derived.Test.YtglaclhjnbfflaaBAsk
import Derived.Test.YtglaclhjnbfflaaXx1
import Derived.Test.YtglaclhjnbfflaaXx9
import Derived.Test.YtglaclhjnbfflaaXx10
namespace Go.Proofs.Ytglaclhjnbfflaa.Q
open Go.RowKit Go.Proofs.Ytglaclhjnbfflaa.X Go.Proofs.YtglaclhjnbfflaaW.PrintWords Go.Proofs.YtglaclhjnbfflaaW.PrintLast Go.Proofs.YtglaclhjnbfflaaW.PrintMore
set_option linter.unusedVariables false
set_option linter.unusedSimpArgs false

theorem FnExactNextPoint : ∀ (a0_0 : Int) (a0_1 : Int) (a1 : Int), (Lit.int .i64 a0_0).wf = true → (Lit.int .i64 a0_1).wf = true → (Lit.int .i64 a1).wf = true → laws_FnExactNextPoint.f a0_0 a0_1 a1 = some true := by
  intro p s a _ _ _
  unfold laws_FnExactNextPoint.f laws_toStar.f spec_NextPoint.f impl_NextPoint.f impl_PointAfter.f
  simp only [Option.bind_some, srAsked_eq, isPoint_eq1, within_eq]
  by_cases h : isStar p s ∧ 0 ≤ a ∧ a < p
  · simp only [if_pos (decide_eq_true h)]
    have hs := h.1
    unfold isStar at hs
    have hp : ¬ p = 0 := by omega
    have e : wrap64 s = s := by unfold wrap64; omega
    simp [if_neg hp, e]
  · simp [decide_eq_false h]

end Go.Proofs.Ytglaclhjnbfflaa.Q
