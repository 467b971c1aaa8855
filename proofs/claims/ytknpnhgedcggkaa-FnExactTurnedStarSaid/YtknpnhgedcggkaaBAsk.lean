/- A star and its points, as reference and program ask for them. -/
import Derived.Test.YtknpnhgedcggkaaBStar
import Derived.Test.YtknpnhgedcggkaaXx2
import Derived.Test.YtknpnhgedcggkaaXx3
namespace Go.Proofs.Ytknpnhgedcggkaa.Q
open Go.RowKit Go.Proofs.Ytknpnhgedcggkaa.X Go.Proofs.YtknpnhgedcggkaaW.PrintWords Go.Proofs.YtknpnhgedcggkaaW.PrintLast Go.Proofs.YtknpnhgedcggkaaW.PrintMore
set_option linter.unusedVariables false
set_option linter.unusedSimpArgs false

theorem srAsked_eq (p s a : Int) : spec_srAsked.f p s a = some (decide (isStar p s ∧ 0 ≤ a ∧ a < p)) := by
  unfold spec_srAsked.f
  rw [srGood_eq]
  simp only [Option.bind_some]
  by_cases h : isStar p s
  · rw [if_pos (decide_eq_true h), l1In_eq]
    have h' := h
    unfold isStar at h'
    rw [wrap64_id (by omega) (by omega)]
    simp only [Option.bind_some]
    refine congrArg some (decide_eq_decide.2 ?_)
    constructor
    · rintro ⟨x, y⟩; exact ⟨h, x, by omega⟩
    · rintro ⟨_, x, y⟩; exact ⟨x, by omega⟩
  · rw [if_neg (by simpa using h)]
    exact congrArg some (decide_eq_false (fun x => h x.1)).symm
theorem isPoint_eq1 (p s a : Int) : impl_isPoint.f p s [a] = some (decide (isStar p s ∧ 0 ≤ a ∧ a < p)) := by
  unfold impl_isPoint.f impl_isPoint.b
  rw [if_pos (by simp)]
  refine congrArg some ?_
  rw [Bool.eq_iff_iff, decide_eq_true_eq]
  unfold isStar
  simp
theorem isPoint_eq2 (p s a b : Int) : impl_isPoint.f p s [a, b] = some (decide (isStar p s ∧ (0 ≤ a ∧ a < p) ∧ 0 ≤ b ∧ b < p)) := by
  unfold impl_isPoint.f impl_isPoint.b
  rw [if_pos (by simp)]
  refine congrArg some ?_
  rw [Bool.eq_iff_iff, decide_eq_true_eq]
  unfold isStar
  simp

end Go.Proofs.Ytknpnhgedcggkaa.Q
