/- TurnsOf: reference and program answer alike. -/
import Derived.Test.YtglaclhjnbfflaaBStar
import Derived.Test.YtglaclhjnbfflaaBGcd
import Derived.Test.YtglaclhjnbfflaaXx1
import Derived.Test.YtglaclhjnbfflaaXx8
import Derived.Test.YtglaclhjnbfflaaXx9
namespace Go.Proofs.Ytglaclhjnbfflaa.Q
open Go.RowKit Go.Proofs.Ytglaclhjnbfflaa.X Go.Proofs.YtglaclhjnbfflaaW.PrintWords Go.Proofs.YtglaclhjnbfflaaW.PrintLast Go.Proofs.YtglaclhjnbfflaaW.PrintMore
set_option linter.unusedVariables false
set_option linter.unusedSimpArgs false

theorem FnExactTurnsOf : ∀ (a0_0 : Int) (a0_1 : Int), (Lit.int .i64 a0_0).wf = true → (Lit.int .i64 a0_1).wf = true → ∃ k, laws_FnExactTurnsOf.f k a0_0 a0_1 = some true := by
  intro p s _ _
  refine ⟨70, ?_⟩
  unfold laws_FnExactTurnsOf.f laws_toStar.f spec_TurnsOf.f impl_TurnsOf.f
  simp only [Option.bind_some, srGood_eq, implIsStar_eq]
  by_cases h : isStar p s
  · simp only [if_pos (decide_eq_true h)]
    unfold isStar at h
    rw [common_eq 70 p s (by omega) (by omega) (by omega), strings_eq 70 p s (by omega) (by omega) (by omega)]
    have hg : ¬ ((Int.gcd p s : Int) = 0) := by
      intro e
      have : Int.gcd p s = 0 := by omega
      rw [Int.gcd_eq_zero_iff] at this
      omega
    simp only [Option.bind_some, if_neg hg]
    simp
  · simp [decide_eq_false h]

end Go.Proofs.Ytglaclhjnbfflaa.Q
