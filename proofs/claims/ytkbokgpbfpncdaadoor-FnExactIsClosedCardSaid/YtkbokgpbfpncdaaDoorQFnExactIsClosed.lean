/- IsClosed: both tell whether a word comes back. -/
import Derived.Test.YtkbokgpbfpncdaaDoorBClosed
import Derived.Test.YtkbokgpbfpncdaaDoorXx4
import Derived.Test.YtkbokgpbfpncdaaDoorXx7
namespace Go.Proofs.YtkbokgpbfpncdaaDoor.Q
open Go.RowKit Go.Proofs.YtkbokgpbfpncdaaDoor.X Go.Proofs.YtkbokgpbfpncdaaDoorW.PrintWords Go.Proofs.YtkbokgpbfpncdaaDoorW.PrintLast Go.Proofs.YtkbokgpbfpncdaaDoorW.PrintMore
set_option linter.unusedVariables false
set_option linter.unusedSimpArgs false

theorem FnExactIsClosed : ∀ (a0 : Int) (a1 : ByteArray), (Lit.int .i64 a0).wf = true → a1.size ≤ 140737488351232 → ∃ k, laws_FnExactIsClosed.f k a0 a1 = some true := by
  intro g w _ _
  refine ⟨2000, ?_⟩
  unfold laws_FnExactIsClosed.f spec_IsClosed.f impl_IsClosed.f
  by_cases hb : (w.size : Int) > 1048576
  · rw [if_pos hb]
  · rw [if_neg hb, paAsked_eq g w 2000 (by omega), isWord_eq]
    simp only [Option.bind_some]
    cases ha : askedB g w with
    | false => simp
    | true =>
      obtain ⟨hg, hs, hB⟩ := asked_of ha
      rw [if_pos rfl, if_pos rfl, paClosed_eq g w hg (by omega) hB 2000 (by omega), isClosed_eq g w hg (by omega) hB 2000 (by omega)]
      simp

end Go.Proofs.YtkbokgpbfpncdaaDoor.Q
