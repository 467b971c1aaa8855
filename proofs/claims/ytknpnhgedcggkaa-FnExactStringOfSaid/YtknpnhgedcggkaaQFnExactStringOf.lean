/- StringOf: reference and program tell the same points, and the result is memory of its own. -/
import Derived.Test.YtknpnhgedcggkaaBStar
import Derived.Test.YtknpnhgedcggkaaBAsk
import Derived.Test.YtknpnhgedcggkaaBString
import Derived.Test.YtknpnhgedcggkaaBMarks
import Derived.Test.YtknpnhgedcggkaaXx2
import Derived.Test.YtknpnhgedcggkaaXx3
import Derived.Test.YtknpnhgedcggkaaXx5
namespace Go.Proofs.Ytknpnhgedcggkaa.Q
open Go.RowKit Go.Proofs.Ytknpnhgedcggkaa.X Go.Proofs.YtknpnhgedcggkaaW.PrintWords Go.Proofs.YtknpnhgedcggkaaW.PrintLast Go.Proofs.YtknpnhgedcggkaaW.PrintMore
set_option linter.unusedVariables false
set_option linter.unusedSimpArgs false

theorem stringOf_both (n s p : Int) : ∃ r : List Int × Bool, r.1.length ≤ 60 ∧ ∀ k, 61 ≤ k → spec_StringOf.f k n s p = some r ∧ impl_StringOf.f k n s p = some r := by
  unfold spec_StringOf.f impl_StringOf.f
  simp only [srAsked_eq, isPoint_eq1, Option.bind_some]
  by_cases h : isStar n s ∧ 0 ≤ p ∧ p < n
  · obtain ⟨m, hA⟩ := around_ex n s (by have := h.1; unfold isStar at this; omega)
    refine ⟨(strL n s p m, true), ?_, fun k hk => ?_⟩
    · rw [strL_len]
      have := h.1; unfold isStar at this; have := hA.2.1; omega
    · simp only [if_pos (decide_eq_true h), srString_eq n s p m h.1 h.2 hA k hk, stringOf_eq n s p m h.1 h.2 hA k hk, Option.bind_some]
      exact ⟨trivial, trivial⟩
  · refine ⟨([], false), by simp, fun k _ => ?_⟩
    simp [decide_eq_false h]
theorem FnExactStringOf : ∀ (a0_0 : Int) (a0_1 : Int) (a1 : Int), (Lit.int .i64 a0_0).wf = true → (Lit.int .i64 a0_1).wf = true → (Lit.int .i64 a1).wf = true → ∃ k, laws_FnExactStringOf.f k a0_0 a0_1 a1 = some true := by
  intro n s p _ _ _
  refine ⟨100, ?_⟩
  obtain ⟨⟨l, b⟩, hlen, hr⟩ := stringOf_both n s p
  simp only at hlen
  obtain ⟨y, m1, m2, m3⟩ := mark_held 99 l 1 (by omega) (by omega)
  unfold laws_FnExactStringOf.f laws_toStar.f
  simp only [Option.bind_some, (hr 100 (by omega)).1, (hr 100 (by omega)).2, eqIntS_self 100 l (by omega) (by omega), laws_FnExactStringOf.j0, m1, m3 99 (by omega), (hr 99 (by omega)).2, laws_toStar.f, eqIntS_self 99 l (by omega) (by omega), laws_FnExactStringOf.j1, m3 98 (by omega)]
  have e0 : ¬ (1 + (l.length : Int) < 0) := by omega
  simp [e0]

end Go.Proofs.Ytknpnhgedcggkaa.Q
