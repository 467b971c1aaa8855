/- IsPlane: reference and program tell the same sets. -/
import Derived.Test.YtkiookioejckbaaBWrap
import Derived.Test.YtkiookioejckbaaBOrd0
import Derived.Test.YtkiookioejckbaaBCount
import Derived.Test.YtkiookioejckbaaBPairs
import Derived.Test.YtkiookioejckbaaBCdPairs
import Derived.Test.YtkiookioejckbaaBSet
import Derived.Test.YtkiookioejckbaaBToC
import Derived.Test.YtkiookioejckbaaBEqC
import Derived.Test.YtkiookioejckbaaXx12
namespace Go.Proofs.Ytkiookioejckbaa.Q
open Go.RowKit Go.Proofs.Ytkiookioejckbaa.X Go.Proofs.YtkiookioejckbaaW.PrintWords Go.Proofs.YtkiookioejckbaaW.PrintLast Go.Proofs.YtkiookioejckbaaW.PrintMore
set_option linter.unusedVariables false
set_option linter.unusedSimpArgs false

theorem isPlane_both (n : Int) (l : List S52) (hl : l.length ≤ 1048576) : ∃ r : Bool × Bool, ∀ k, l.length + 10000 ≤ k → spec_IsPlane.f k n l = some r ∧ impl_IsPlane.f k n l = some r := by
  by_cases h : goodB n l = true
  · obtain ⟨h1, h2, h3, h4⟩ := good_spec n l h
    refine ⟨((pairsX l : Int) == 0, true), fun k hk => ?_⟩
    have hm : l.length * (l.length + 3) ≤ 40 * 43 := Nat.mul_le_mul (by omega) (by omega)
    unfold spec_IsPlane.f impl_IsPlane.f
    simp only [cdGood_eq n l (by omega) k (by omega), isSet_eq n l (by omega) k (by omega), Option.bind_some, if_pos h, cdPairs_eq l (by omega) k (by omega), crossings_eq n l h4 (by omega) k (by omega), allP_len]
    exact ⟨by first | rfl | trivial, by first | rfl | trivial⟩
  · refine ⟨(false, false), fun k hk => ?_⟩
    unfold spec_IsPlane.f impl_IsPlane.f
    simp only [cdGood_eq n l (by omega) k (by omega), isSet_eq n l (by omega) k (by omega), Option.bind_some, if_neg h]
    exact ⟨trivial, trivial⟩
theorem FnExactIsPlane : ∀ (a0 : Int) (l1 : List S50), (Lit.int .i64 a0).wf = true → l1.length ≤ 9223372036854775807 → ∃ k, laws_FnExactIsPlane.f k a0 l1 = some true := by
  intro n l _ hl
  refine ⟨l.length + 10001, ?_⟩
  unfold laws_FnExactIsPlane.f
  rw [szChordS_eq l hl]
  simp only [Option.bind_some]
  by_cases h : l.length ≤ 1048576
  · have hc := conv_len l
    rw [if_pos h, if_neg (by omega)]
    obtain ⟨⟨r, b⟩, hr⟩ := isPlane_both n (conv l) (by omega)
    simp only [toChordS_eq l (by omega) (l.length + 10001) (by omega), (hr (l.length + 10001) (by omega)).1, (hr (l.length + 10001) (by omega)).2, Option.bind_some]
    simp only [bne_self_eq_false, Bool.false_eq_true, if_false]
    simp only [laws_FnExactIsPlane.j0, toChordS_eq l (by omega) (l.length + 10000) (by omega), eqChordS_self (l.length + 10000) (conv l) (by omega) (by omega), Option.bind_some]
    simp
  · rw [if_neg h]
    rfl

end Go.Proofs.Ytkiookioejckbaa.Q
