/- CountStrings: reference and program answer alike. -/
import Derived.Test.YtglaclhjnbfflaaBStar
import Derived.Test.YtglaclhjnbfflaaBGcd
import Derived.Test.YtglaclhjnbfflaaXx1
import Derived.Test.YtglaclhjnbfflaaXx7
import Derived.Test.YtglaclhjnbfflaaXx8
namespace Go.Proofs.Ytglaclhjnbfflaa.Q
open Go.RowKit Go.Proofs.Ytglaclhjnbfflaa.X Go.Proofs.YtglaclhjnbfflaaW.PrintWords Go.Proofs.YtglaclhjnbfflaaW.PrintLast Go.Proofs.YtglaclhjnbfflaaW.PrintMore
set_option linter.unusedVariables false
set_option linter.unusedSimpArgs false

theorem FnExactCountStrings : ∀ (a0_0 : Int) (a0_1 : Int), (Lit.int .i64 a0_0).wf = true → (Lit.int .i64 a0_1).wf = true → ∃ k, laws_FnExactCountStrings.f k a0_0 a0_1 = some true := by
  intro p s _ _
  refine ⟨70, ?_⟩
  unfold laws_FnExactCountStrings.f laws_toStar.f spec_CountStrings.f impl_CountStrings.f
  simp only [Option.bind_some, srGood_eq, implIsStar_eq]
  by_cases h : isStar p s
  · simp only [if_pos (decide_eq_true h)]
    unfold isStar at h
    rw [common_eq 70 p s (by omega) (by omega) (by omega), strings_eq 70 p s (by omega) (by omega) (by omega)]
    simp
  · simp [decide_eq_false h]

end Go.Proofs.Ytglaclhjnbfflaa.Q
