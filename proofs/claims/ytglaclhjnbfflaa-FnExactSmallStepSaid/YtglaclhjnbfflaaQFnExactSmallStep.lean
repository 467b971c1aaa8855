/- SmallStep: reference and program answer alike. -/
import Derived.Test.YtglaclhjnbfflaaBStar
import Derived.Test.YtglaclhjnbfflaaXx1
import Derived.Test.YtglaclhjnbfflaaXx3
namespace Go.Proofs.Ytglaclhjnbfflaa.Q
open Go.RowKit Go.Proofs.Ytglaclhjnbfflaa.X Go.Proofs.YtglaclhjnbfflaaW.PrintWords Go.Proofs.YtglaclhjnbfflaaW.PrintLast Go.Proofs.YtglaclhjnbfflaaW.PrintMore
set_option linter.unusedVariables false
set_option linter.unusedSimpArgs false

theorem FnExactSmallStep : ∀ (a0_0 : Int) (a0_1 : Int), (Lit.int .i64 a0_0).wf = true → (Lit.int .i64 a0_1).wf = true → laws_FnExactSmallStep.f a0_0 a0_1 = some true := by
  intro p s _ _
  unfold laws_FnExactSmallStep.f laws_toStar.f spec_SmallStep.f impl_SmallStep.f spec_l1Least.f
  simp only [Option.bind_some, srGood_eq, implIsStar_eq]
  by_cases h : isStar p s
  · simp only [if_pos (decide_eq_true h)]
    unfold isStar at h
    rw [wrap64_id (by omega) (by omega)]
    have e : mn s (p - s) = if s < p - s then s else p - s := by unfold mn; split <;> split <;> omega
    rw [e]
    split <;> simp
  · simp [decide_eq_false h]

end Go.Proofs.Ytglaclhjnbfflaa.Q
