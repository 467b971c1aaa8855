/- ChordsOf: reference and program tell the same chords, and the result is memory of its own. -/
import Derived.Test.YtknpnhgedcggkaaBStar
import Derived.Test.YtknpnhgedcggkaaBOrd
import Derived.Test.YtknpnhgedcggkaaBChords
import Derived.Test.YtknpnhgedcggkaaBMarks
import Derived.Test.YtknpnhgedcggkaaBMarksC
import Derived.Test.YtknpnhgedcggkaaXx2
import Derived.Test.YtknpnhgedcggkaaXx14
import Derived.Test.YtknpnhgedcggkaaXx17
import Derived.Test.YtknpnhgedcggkaaXx20
namespace Go.Proofs.Ytknpnhgedcggkaa.Q
open Go.RowKit Go.Proofs.Ytknpnhgedcggkaa.X Go.Proofs.YtknpnhgedcggkaaW.PrintWords Go.Proofs.YtknpnhgedcggkaaW.PrintLast Go.Proofs.YtknpnhgedcggkaaW.PrintMore
set_option linter.unusedVariables false
set_option linter.unusedSimpArgs false

theorem chordsOf_both (n s : Int) : ∃ r : List S55 × Bool, r.1.length ≤ 60 ∧ ∀ k, 130 ≤ k → spec_ChordsOf.f k n s = some r ∧ impl_ChordsOf.f k n s = some r := by
  unfold spec_ChordsOf.f impl_ChordsOf.f
  simp only [srGood_eq, implIsStar_eq, Option.bind_some]
  by_cases h : isStar n s
  · refine ⟨(starL n s, true), ?_, fun k hk => ?_⟩
    · have := starL_len n s
      unfold isStar at h
      simp only
      omega
    · simp only [if_pos (decide_eq_true h), srChords_eq n s h k hk, starChords_eq n s h k hk, Option.bind_some]
      exact ⟨trivial, trivial⟩
  · refine ⟨([], false), by simp, fun k _ => ?_⟩
    simp [decide_eq_false h]
theorem FnExactChordsOf : ∀ (a0_0 : Int) (a0_1 : Int), (Lit.int .i64 a0_0).wf = true → (Lit.int .i64 a0_1).wf = true → ∃ k, laws_FnExactChordsOf.f k a0_0 a0_1 = some true := by
  intro n s _ _
  refine ⟨200, ?_⟩
  obtain ⟨⟨l, b⟩, hlen, hr⟩ := chordsOf_both n s
  simp only at hlen
  obtain ⟨y, m1, m2, m3⟩ := mark_heldC 199 l 1 (by omega) (by omega)
  unfold laws_FnExactChordsOf.f laws_toStar.f
  simp only [Option.bind_some, (hr 200 (by omega)).1, (hr 200 (by omega)).2, eqChordS_self 200 l (by omega) (by omega), laws_FnExactChordsOf.j0, m1, m3 199 (by omega), (hr 199 (by omega)).2, laws_toStar.f, eqChordS_self 199 l (by omega) (by omega), laws_FnExactChordsOf.j1, m3 198 (by omega)]
  have e0 : ¬ (1 + 2 * (l.length : Int) < 0) := by omega
  simp [e0]

end Go.Proofs.Ytknpnhgedcggkaa.Q
