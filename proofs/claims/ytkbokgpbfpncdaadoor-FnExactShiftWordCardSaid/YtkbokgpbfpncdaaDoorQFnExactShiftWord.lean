/- ShiftWord: both cut the word and put the parts together in the other order. -/
import Derived.Test.YtkbokgpbfpncdaaDoorBWord
import Derived.Test.YtkbokgpbfpncdaaDoorXx3
namespace Go.Proofs.YtkbokgpbfpncdaaDoor.Q
open Go.RowKit Go.Proofs.YtkbokgpbfpncdaaDoor.X Go.Proofs.YtkbokgpbfpncdaaDoorW.PrintWords Go.Proofs.YtkbokgpbfpncdaaDoorW.PrintLast Go.Proofs.YtkbokgpbfpncdaaDoorW.PrintMore
set_option linter.unusedVariables false
set_option linter.unusedSimpArgs false

theorem FnExactShiftWord : ∀ (a0 : Int) (a1 : ByteArray) (a2 : Int), (Lit.int .i64 a0).wf = true → a1.size ≤ 140737488351232 → (Lit.int .i64 a2).wf = true → ∃ k, laws_FnExactShiftWord.f k a0 a1 a2 = some true := by
  intro g w by_ _ _ _
  refine ⟨1000, ?_⟩
  unfold laws_FnExactShiftWord.f spec_ShiftWord.f impl_ShiftWord.f
  by_cases hb : (w.size : Int) > 1048576
  · rw [if_pos hb]
  · rw [if_neg hb, paAsked_eq g w 1000 (by omega), isWord_eq]
    simp only [Option.bind_some, l1In_eq, within_eq]
    cases ha : askedB g w with
    | false => simp
    | true =>
      obtain ⟨_, hs, _⟩ := asked_of ha
      have hw : wrap64 ((w.size : Int) - 1) = (w.size : Int) - 1 := wrap64_id (by omega) (by omega)
      rw [if_pos rfl, hw]
      by_cases hr : 0 ≤ by_ ∧ by_ ≤ (w.size : Int) - 1
      · have h1 : by_ ≤ (w.size : Int) := by omega
        have h2 : (w.extract by_.toNat w.size).size + (w.extract 0 by_.toNat).size ≤ 9223372036854775807 := by simp; omega
        simp only [decide_eq_true hr, if_true, if_pos hr.1, if_pos h1, if_pos h2, Option.bind_some]
        simp
      · simp only [decide_eq_false hr]
        simp

end Go.Proofs.YtkbokgpbfpncdaaDoor.Q
