/- StepTo: both loops try the steps in the same order. -/
import Derived.Test.YtglaclhjnbfflaaBStar
import Derived.Test.YtglaclhjnbfflaaXx2
import Derived.Test.YtglaclhjnbfflaaXx3
namespace Go.Proofs.Ytglaclhjnbfflaa.Q
open Go.RowKit Go.Proofs.Ytglaclhjnbfflaa.X Go.Proofs.YtglaclhjnbfflaaW.PrintWords Go.Proofs.YtglaclhjnbfflaaW.PrintLast Go.Proofs.YtglaclhjnbfflaaW.PrintMore
set_option linter.unusedVariables false
set_option linter.unusedSimpArgs false

theorem stepTo_same : ∀ (k : Nat) (n a b c s : Int), spec_StepTo.l0 k n a b c s = impl_StepTo.l0 k n a b c s
  | 0, _, _, _, _, _ => by simp only [spec_StepTo.l0, impl_StepTo.l0]
  | k + 1, n, a, b, c, s => by simp only [spec_StepTo.l0, impl_StepTo.l0, stepTo_same k]
theorem stepTo_ends (d : Nat) : ∀ (k : Nat) (n a b c s : Int), 1 ≤ s → s ≤ n → 3 ≤ n → n ≤ 60 → n - s = d → d < k →
    ∃ r, impl_StepTo.l0 k n a b c s = some r := by
  induction d with
  | zero =>
    intro k n a b c s h1 h2 h3 h4 hd hk
    obtain ⟨k, rfl⟩ : ∃ m, k = m + 1 := ⟨k - 1, by omega⟩
    simp only [impl_StepTo.l0]
    rw [if_neg (by omega)]
    exact ⟨_, rfl⟩
  | succ d ih =>
    intro k n a b c s h1 h2 h3 h4 hd hk
    obtain ⟨k, rfl⟩ : ∃ m, k = m + 1 := ⟨k - 1, by omega⟩
    simp only [impl_StepTo.l0]
    rw [if_pos (by omega), if_neg (by omega)]
    by_cases e : Int.tmod (wrap64 (a + (wrap64 (c * s)))) n = b
    · rw [if_pos e]
      exact ⟨_, rfl⟩
    · rw [if_neg e]
      rw [wrap64_id (by omega) (by omega)]
      exact ih k n a b c (s + 1) (by omega) (by omega) h3 h4 (by omega) (by omega)
theorem FnExactStepTo : ∀ (a0 : Int) (a1 : Int) (a2 : Int) (a3 : Int), (Lit.int .i64 a0).wf = true → (Lit.int .i64 a1).wf = true → (Lit.int .i64 a2).wf = true → (Lit.int .i64 a3).wf = true → ∃ k, laws_FnExactStepTo.f k a0 a1 a2 a3 = some true := by
  intro n a b c _ _ _ _
  refine ⟨70, ?_⟩
  unfold laws_FnExactStepTo.f spec_StepTo.f impl_StepTo.f
  rw [srPoints_eq, isCircle_eq]
  simp only [Option.bind_some, l1In_eq, within_eq]
  have hno : ∀ k, spec_StepTo.j0 (k + 1) n a b c true = some (0, false) ∧ impl_StepTo.j0 (k + 1) n a b c true = some (0, false) := fun k => by simp [spec_StepTo.j0, impl_StepTo.j0]
  by_cases h : 3 ≤ n ∧ n ≤ 60
  · obtain ⟨r, hr⟩ := stepTo_ends (n - 1).toNat 69 n a b c 1 (by omega) (by omega) h.1 h.2 (by omega) (by omega)
    have hyes : spec_StepTo.j0 70 n a b c false = some r ∧ impl_StepTo.j0 70 n a b c false = some r := by
      simp only [spec_StepTo.j0, impl_StepTo.j0]
      exact ⟨by simpa [stepTo_same] using hr, by simpa using hr⟩
    have key : ∀ x : Bool, ∃ r, spec_StepTo.j0 70 n a b c x = some r ∧ impl_StepTo.j0 70 n a b c x = some r := by
      intro x; cases x
      · exact ⟨r, hyes⟩
      · exact ⟨_, hno 69⟩
    simp only [if_pos (decide_eq_true h)]
    obtain ⟨r1, e1, e2⟩ := key true
    obtain ⟨r2, e3, e4⟩ := key (!decide (1 ≤ c ∧ c ≤ 60))
    split
    · split
      · rw [e3, e4]; simp
      · rw [e1, e2]; simp
    · rw [e1, e2]; simp
  · simp only [decide_eq_false h, (hno 69).1, (hno 69).2]
    simp

end Go.Proofs.Ytglaclhjnbfflaa.Q
