/- IsStar: reference and program answer alike. -/
import Derived.Test.YtglaclhjnbfflaaBStar
import Derived.Test.YtglaclhjnbfflaaXx1
namespace Go.Proofs.Ytglaclhjnbfflaa.Q
open Go.RowKit Go.Proofs.Ytglaclhjnbfflaa.X Go.Proofs.YtglaclhjnbfflaaW.PrintWords Go.Proofs.YtglaclhjnbfflaaW.PrintLast Go.Proofs.YtglaclhjnbfflaaW.PrintMore
set_option linter.unusedVariables false
set_option linter.unusedSimpArgs false

theorem FnExactIsStar : ∀ (a0_0 : Int) (a0_1 : Int), (Lit.int .i64 a0_0).wf = true → (Lit.int .i64 a0_1).wf = true → laws_FnExactIsStar.f a0_0 a0_1 = some true := by
  intro p s _ _
  unfold laws_FnExactIsStar.f laws_toStar.f spec_IsStar.f
  simp only [Option.bind_some, srGood_eq, implIsStar_eq]
  simp

end Go.Proofs.Ytglaclhjnbfflaa.Q
