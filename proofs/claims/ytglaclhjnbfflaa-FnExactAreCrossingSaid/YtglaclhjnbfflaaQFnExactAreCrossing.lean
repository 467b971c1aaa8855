/- AreCrossing: reference and program answer alike. -/
import Derived.Test.YtglaclhjnbfflaaBStar
import Derived.Test.YtglaclhjnbfflaaXx3
import Derived.Test.YtglaclhjnbfflaaXx4
import Derived.Test.YtglaclhjnbfflaaXx5
namespace Go.Proofs.Ytglaclhjnbfflaa.Q
open Go.RowKit Go.Proofs.Ytglaclhjnbfflaa.X Go.Proofs.YtglaclhjnbfflaaW.PrintWords Go.Proofs.YtglaclhjnbfflaaW.PrintLast Go.Proofs.YtglaclhjnbfflaaW.PrintMore
set_option linter.unusedVariables false
set_option linter.unusedSimpArgs false

theorem srIs_eq (n a b : Int) (hn : 3 ≤ n ∧ n ≤ 60) : spec_srIs.f n a b = some (decide (0 ≤ a ∧ a < b ∧ b < n)) := by
  unfold spec_srIs.f
  rw [l1In_eq, wrap64_id (by omega) (by omega)]
  simp only [Option.bind_some]
  by_cases h : 0 ≤ a ∧ a ≤ n - 1
  · rw [if_pos (decide_eq_true h), l1In_eq, wrap64_id (by omega) (by omega)]
    simp only [Option.bind_some]
    exact congrArg some (decide_eq_decide.2 (by omega))
  · rw [if_neg (by simpa using h)]
    exact congrArg some (decide_eq_false (by omega)).symm
theorem isChord_eq (n a b : Int) : impl_isChord.f n a b = some (decide (0 ≤ a ∧ a < b ∧ b < n)) := by
  unfold impl_isChord.f
  by_cases h : a ≥ 0
  · rw [if_pos h]
    by_cases h2 : a < b
    · rw [if_pos h2]; exact congrArg some (decide_eq_decide.2 (by omega))
    · rw [if_neg h2]; exact congrArg some (decide_eq_false (by omega)).symm
  · rw [if_neg h]; exact congrArg some (decide_eq_false (by omega)).symm
theorem crossing_eq (a b c d : Int) (h1 : a < b) (h2 : c < d) : impl_crossing.f a b c d = some (spec_srCross.b a b c d) := by
  have e : impl_crossing.f a b c d = some (decide ((a < c ∧ c < b ∧ b < d) ∨ (c < a ∧ a < d ∧ d < b))) := by
    unfold impl_crossing.f
    repeat' split
    all_goals first | exact congrArg some (decide_eq_decide.2 (by omega)) | exact congrArg some (decide_eq_true (by omega)).symm | exact congrArg some (decide_eq_false (by omega)).symm
  rw [e]
  refine congrArg some ?_
  unfold spec_srCross.b
  rw [Bool.eq_iff_iff, decide_eq_true_eq]
  by_cases h3 : a < c <;> by_cases h4 : c < b <;> by_cases h5 : a < d <;> by_cases h6 : d < b <;> simp [h3, h4, h5, h6] <;> omega
theorem FnExactAreCrossing : ∀ (a0 : Int) (a1_0 : Int) (a1_1 : Int) (a2_0 : Int) (a2_1 : Int), (Lit.int .i64 a0).wf = true → (Lit.int .i64 a1_0).wf = true → (Lit.int .i64 a1_1).wf = true → (Lit.int .i64 a2_0).wf = true → (Lit.int .i64 a2_1).wf = true → laws_FnExactAreCrossing.f a0 a1_0 a1_1 a2_0 a2_1 = some true := by
  intro n a b c d _ _ _ _ _
  unfold laws_FnExactAreCrossing.f laws_toChord.f spec_AreCrossing.f impl_AreCrossing.f spec_srCross.f
  simp only [Option.bind_some, srPoints_eq, isCircle_eq]
  by_cases h : 3 ≤ n ∧ n ≤ 60
  · simp only [if_pos (decide_eq_true h), srIs_eq n a b h, srIs_eq n c d h, isChord_eq, Option.bind_some]
    by_cases h1 : 0 ≤ a ∧ a < b ∧ b < n
    · simp only [if_pos (decide_eq_true h1)]
      by_cases h2 : 0 ≤ c ∧ c < d ∧ d < n
      · simp only [if_pos (decide_eq_true h2), crossing_eq a b c d h1.2.1 h2.2.1, Option.bind_some]
        simp
      · simp [decide_eq_false h2]
    · simp [decide_eq_false h1]
  · simp [decide_eq_false h]

end Go.Proofs.Ytglaclhjnbfflaa.Q
