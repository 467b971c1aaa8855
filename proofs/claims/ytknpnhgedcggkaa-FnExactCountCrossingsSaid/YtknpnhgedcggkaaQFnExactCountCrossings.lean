/- CountCrossings: reference and program count the same pairs. -/
import Derived.Test.YtknpnhgedcggkaaBStar
import Derived.Test.YtknpnhgedcggkaaBOrd
import Derived.Test.YtknpnhgedcggkaaBChords
import Derived.Test.YtknpnhgedcggkaaBCount
import Derived.Test.YtknpnhgedcggkaaBPairs
import Derived.Test.YtknpnhgedcggkaaXx2
import Derived.Test.YtknpnhgedcggkaaXx24
import Derived.Test.YtknpnhgedcggkaaXx25
namespace Go.Proofs.Ytknpnhgedcggkaa.Q
open Go.RowKit Go.Proofs.Ytknpnhgedcggkaa.X Go.Proofs.YtknpnhgedcggkaaW.PrintWords Go.Proofs.YtknpnhgedcggkaaW.PrintLast Go.Proofs.YtknpnhgedcggkaaW.PrintMore
set_option linter.unusedVariables false
set_option linter.unusedSimpArgs false

theorem FnExactCountCrossings : ∀ (a0_0 : Int) (a0_1 : Int), (Lit.int .i64 a0_0).wf = true → (Lit.int .i64 a0_1).wf = true → ∃ k, laws_FnExactCountCrossings.f k a0_0 a0_1 = some true := by
  intro n s _ _
  refine ⟨10000, ?_⟩
  unfold laws_FnExactCountCrossings.f laws_toStar.f spec_CountCrossings.f impl_CountCrossings.f
  simp only [srGood_eq, implIsStar_eq, Option.bind_some]
  by_cases h : isStar n s
  · have h1 := starL_len n s
    have hs := h
    unfold isStar at hs
    have h2 : (starL n s).length * ((starL n s).length + 3) ≤ 60 * 63 := Nat.mul_le_mul (by omega) (by omega)
    simp only [if_pos (decide_eq_true h), srChords_eq n s h 10000 (by omega), starChords_eq n s h 10000 (by omega), Option.bind_some, srCount_eq (starL n s) (by omega) 10000 (by omega), crossings_eq n (starL n s) (starL_proper n s h) (by omega) 10000 (by omega)]
    simp
  · simp [decide_eq_false h]

end Go.Proofs.Ytknpnhgedcggkaa.Q
