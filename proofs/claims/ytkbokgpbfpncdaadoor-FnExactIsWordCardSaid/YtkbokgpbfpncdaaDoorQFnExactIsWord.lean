/- IsWord: both tell whether a grid and a word are valid. -/
import Derived.Test.YtkbokgpbfpncdaaDoorBWord
import Derived.Test.YtkbokgpbfpncdaaDoorXx2
namespace Go.Proofs.YtkbokgpbfpncdaaDoor.Q
open Go.RowKit Go.Proofs.YtkbokgpbfpncdaaDoor.X Go.Proofs.YtkbokgpbfpncdaaDoorW.PrintWords Go.Proofs.YtkbokgpbfpncdaaDoorW.PrintLast Go.Proofs.YtkbokgpbfpncdaaDoorW.PrintMore
set_option linter.unusedVariables false
set_option linter.unusedSimpArgs false

theorem FnExactIsWord : ∀ (a0 : Int) (a1 : ByteArray), (Lit.int .i64 a0).wf = true → a1.size ≤ 140737488351232 → ∃ k, laws_FnExactIsWord.f k a0 a1 = some true := by
  intro g w _ _
  refine ⟨1000, ?_⟩
  unfold laws_FnExactIsWord.f spec_IsWord.f impl_IsWord.f
  by_cases hb : (w.size : Int) > 1048576
  · rw [if_pos hb]
  · rw [if_neg hb, paGrid_eq, isWord_eq, isGrid_eq, Option.bind_some, paWord_eq w 1000 (by omega)]
    unfold askedB
    by_cases h : g = 4 ∨ g = 6
    · simp [h]
    · simp [h]

end Go.Proofs.YtkbokgpbfpncdaaDoor.Q
