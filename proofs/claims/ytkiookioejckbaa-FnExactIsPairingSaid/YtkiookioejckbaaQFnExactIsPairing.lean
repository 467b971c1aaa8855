/- IsPairing: reference and program tell the same sets. -/
import Derived.Test.YtkiookioejckbaaBWrap
import Derived.Test.YtkiookioejckbaaBOrd0
import Derived.Test.YtkiookioejckbaaBCount
import Derived.Test.YtkiookioejckbaaBSet
import Derived.Test.YtkiookioejckbaaBToC
import Derived.Test.YtkiookioejckbaaBEqC
import Derived.Test.YtkiookioejckbaaBPairing
import Derived.Test.YtkiookioejckbaaXx22
import Derived.Test.YtkiookioejckbaaXx50
namespace Go.Proofs.Ytkiookioejckbaa.Q
open Go.RowKit Go.Proofs.Ytkiookioejckbaa.X Go.Proofs.YtkiookioejckbaaW.PrintWords Go.Proofs.YtkiookioejckbaaW.PrintLast Go.Proofs.YtkiookioejckbaaW.PrintMore
set_option linter.unusedVariables false
set_option linter.unusedSimpArgs false

theorem isPairing_both (n : Int) (l : List S52) (hl : l.length ≤ 1048576) : ∃ r : Bool × Bool, ∀ k, l.length + 10000 ≤ k → spec_IsPairing.f k n l = some r ∧ impl_IsPairing.f k n l = some r := by
  by_cases h : goodB n l = true
  · obtain ⟨h1, h2, h3, h4⟩ := good_spec n l h
    obtain ⟨p, rfl⟩ : ∃ p : Nat, n = p := ⟨n.toNat, by omega⟩
    refine ⟨(allOne (incL l (List.replicate p 0)), true), fun k hk => ?_⟩
    unfold spec_IsPairing.f impl_IsPairing.f
    simp only [cdGood_eq (p : Int) l (by omega) k (by omega), isSet_eq (p : Int) l (by omega) k (by omega), Option.bind_some, if_pos h, cdPairing_eq p (by omega) l h4 (by omega) k (by omega)]
    refine ⟨trivial, ?_⟩
    rcases partners_eq p (by omega) (by omega) l h4 k (by omega) with ⟨e, h⟩ | ⟨ys, _, _, e⟩
    · rw [e, h]; rfl
    · rw [e]; rfl
  · refine ⟨(false, false), fun k hk => ?_⟩
    unfold spec_IsPairing.f impl_IsPairing.f
    simp only [cdGood_eq n l (by omega) k (by omega), isSet_eq n l (by omega) k (by omega), Option.bind_some, if_neg h]
    exact ⟨trivial, trivial⟩
theorem FnExactIsPairing : ∀ (a0 : Int) (l1 : List S50), (Lit.int .i64 a0).wf = true → l1.length ≤ 9223372036854775807 → ∃ k, laws_FnExactIsPairing.f k a0 l1 = some true := by
  intro n l _ hl
  refine ⟨l.length + 10001, ?_⟩
  unfold laws_FnExactIsPairing.f
  rw [szChordS_eq l hl]
  simp only [Option.bind_some]
  by_cases h : l.length ≤ 1048576
  · have hc := conv_len l
    rw [if_pos h, if_neg (by omega)]
    obtain ⟨⟨r, b⟩, hr⟩ := isPairing_both n (conv l) (by omega)
    simp only [toChordS_eq l (by omega) (l.length + 10001) (by omega), (hr (l.length + 10001) (by omega)).1, (hr (l.length + 10001) (by omega)).2, Option.bind_some]
    simp only [bne_self_eq_false, Bool.false_eq_true, if_false]
    simp only [laws_FnExactIsPairing.j0, toChordS_eq l (by omega) (l.length + 10000) (by omega), eqChordS_self (l.length + 10000) (conv l) (by omega) (by omega), Option.bind_some]
    simp
  · rw [if_neg h]
    rfl

end Go.Proofs.Ytkiookioejckbaa.Q
