/- CountPlanePairings: at the fourteen numbers of points at which they answer, reference and program are reckoned by the kernel; at all others both say no. -/
import Derived.Test.YtglaclhjnbfflaaBStar
import Derived.Test.YtglaclhjnbfflaaXx6
import Derived.Test.YtglaclhjnbfflaaXx7
namespace Go.Proofs.Ytglaclhjnbfflaa.Q
open Go.RowKit Go.Proofs.Ytglaclhjnbfflaa.X Go.Proofs.YtglaclhjnbfflaaW.PrintWords Go.Proofs.YtglaclhjnbfflaaW.PrintLast Go.Proofs.YtglaclhjnbfflaaW.PrintMore
set_option linter.unusedVariables false
set_option linter.unusedSimpArgs false

theorem planePoints_eq (a : Int) : spec_cdPlanePoints.f a = some (decide (4 ≤ a ∧ a ≤ 30 ∧ Int.tmod a 2 = 0)) := by
  unfold spec_cdPlanePoints.f
  rw [l1In_eq]
  simp only [Option.bind_some]
  by_cases h : 4 ≤ a ∧ a ≤ 30
  · rw [if_pos (decide_eq_true h)]
    refine congrArg some ?_
    rw [Bool.eq_iff_iff]; simp; omega
  · rw [if_neg (by simpa using h)]
    exact congrArg some (decide_eq_false (by omega)).symm
theorem isEven_eq (a b : Int) : impl_isEven.f a b = some (decide (3 ≤ a ∧ a ≤ 60 ∧ Int.tmod a 2 = 0 ∧ a ≤ b)) := by
  unfold impl_isEven.f
  rw [isCircle_eq]
  simp only [Option.bind_some]
  by_cases h : 3 ≤ a ∧ a ≤ 60
  · rw [if_pos (decide_eq_true h)]
    by_cases h2 : Int.tmod a 2 = 0
    · rw [if_pos h2]; exact congrArg some (decide_eq_decide.2 (by omega))
    · rw [if_neg h2]; exact congrArg some (decide_eq_false (by omega)).symm
  · rw [if_neg (by simpa using h)]
    exact congrArg some (decide_eq_false (by omega)).symm
theorem plane_at : ∀ m : Fin 14, laws_FnExactCountPlanePairings.f 300 (2 * (m.val : Int) + 4) = some true := by decide +kernel
theorem FnExactCountPlanePairings : ∀ (a0 : Int), (Lit.int .i64 a0).wf = true → ∃ k, laws_FnExactCountPlanePairings.f k a0 = some true := by
  intro a _
  refine ⟨300, ?_⟩
  by_cases h : 4 ≤ a ∧ a ≤ 30 ∧ Int.tmod a 2 = 0
  · have e2 : Int.tmod a 2 = a % 2 := Int.tmod_eq_emod_of_nonneg (by omega)
    have := plane_at ⟨((a - 4) / 2).toNat, by omega⟩
    have e : (2 * (((a - 4) / 2).toNat : Int) + 4) = a := by omega
    simpa only [e] using this
  · unfold laws_FnExactCountPlanePairings.f spec_CountPlanePairings.f impl_CountPlanePairings.f
    rw [planePoints_eq, isEven_eq]
    have h' : ¬ (3 ≤ a ∧ a ≤ 60 ∧ Int.tmod a 2 = 0 ∧ a ≤ 30) := by
      intro hh
      have e2 : Int.tmod a 2 = a % 2 := Int.tmod_eq_emod_of_nonneg (by omega)
      omega
    simp only [Option.bind_some, decide_eq_false h, decide_eq_false h']
    simp

end Go.Proofs.Ytglaclhjnbfflaa.Q
