/- RepeatsToClose: both tell the same number. -/
import Derived.Test.YtkbokgpbfpncdaaDoorBRepeats
import Derived.Test.YtkbokgpbfpncdaaDoorXx9
namespace Go.Proofs.YtkbokgpbfpncdaaDoor.Q
open Go.RowKit Go.Proofs.YtkbokgpbfpncdaaDoor.X Go.Proofs.YtkbokgpbfpncdaaDoorW.PrintWords Go.Proofs.YtkbokgpbfpncdaaDoorW.PrintLast Go.Proofs.YtkbokgpbfpncdaaDoorW.PrintMore
set_option linter.unusedVariables false
set_option linter.unusedSimpArgs false

theorem FnExactRepeatsToClose : ∀ (a0 : Int) (a1 : ByteArray), (Lit.int .i64 a0).wf = true → a1.size ≤ 140737488351232 → ∃ k, laws_FnExactRepeatsToClose.f k a0 a1 = some true := by
  intro g w _ _
  refine ⟨2000, ?_⟩
  unfold laws_FnExactRepeatsToClose.f spec_RepeatsToClose.f impl_RepeatsToClose.f
  by_cases hb : (w.size : Int) > 1048576
  · rw [if_pos hb]
  · rw [if_neg hb, paAsked_eq g w 2000 (by omega), isWord_eq]
    simp only [Option.bind_some]
    cases ha : askedB g w with
    | false => simp
    | true =>
      obtain ⟨hg, hs, hB⟩ := asked_of ha
      obtain ⟨r, r1, r2⟩ := repeats_both g w hg hs hB 2000 2000 (by omega) (by omega)
      rw [if_pos rfl, if_pos rfl, r1, r2]
      simp

end Go.Proofs.YtkbokgpbfpncdaaDoor.Q
