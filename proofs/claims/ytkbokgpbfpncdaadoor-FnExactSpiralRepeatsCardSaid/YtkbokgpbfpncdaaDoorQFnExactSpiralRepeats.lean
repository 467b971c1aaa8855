/- SpiralRepeats: both tell the same number for the same spiral. -/
import Derived.Test.YtkbokgpbfpncdaaDoorBRepeats
import Derived.Test.YtkbokgpbfpncdaaDoorBSpiral
import Derived.Test.YtkbokgpbfpncdaaDoorXx15
import Derived.Test.YtkbokgpbfpncdaaDoorXx16
namespace Go.Proofs.YtkbokgpbfpncdaaDoor.Q
open Go.RowKit Go.Proofs.YtkbokgpbfpncdaaDoor.X Go.Proofs.YtkbokgpbfpncdaaDoorW.PrintWords Go.Proofs.YtkbokgpbfpncdaaDoorW.PrintLast Go.Proofs.YtkbokgpbfpncdaaDoorW.PrintMore
set_option linter.unusedVariables false
set_option linter.unusedSimpArgs false

theorem FnExactSpiralRepeats : ∀ (a0 : Int) (a1 : Int) (a2 : Int), (Lit.int .i64 a0).wf = true → (Lit.int .i64 a1).wf = true → (Lit.int .i64 a2).wf = true → ∃ k, laws_FnExactSpiralRepeats.f k a0 a1 a2 = some true := by
  intro g c t _ _ _
  refine ⟨2000, ?_⟩
  obtain ⟨⟨w, ok⟩, h1, h2, h3⟩ := spiralWord_both g c t 2000 2000 (by omega) (by omega)
  unfold laws_FnExactSpiralRepeats.f spec_SpiralRepeats.f impl_SpiralRepeats.f
  rw [h1, h2]
  cases ok with
  | false => simp
  | true =>
    obtain ⟨hg, hs, hB⟩ := h3 rfl
    simp only at hs hB
    obtain ⟨r, r1, r2⟩ := repeats_both g w hg hs hB 2000 2000 (by omega) (by omega)
    have ha : askedB g w = true := by
      simp only [askedB, wordB, Bool.and_eq_true, decide_eq_true_eq, List.all_eq_true]
      exact ⟨hg, hs, hB⟩
    unfold impl_RepeatsToClose.f
    simp only [Option.bind_some, if_true, r1, isWord_eq, ha, r2]
    simp

end Go.Proofs.YtkbokgpbfpncdaaDoor.Q
