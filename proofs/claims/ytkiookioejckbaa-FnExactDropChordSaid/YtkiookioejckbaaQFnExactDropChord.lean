/- DropChord: both leave out one chord, and the result is memory of its own. -/
import Derived.Test.YtkiookioejckbaaBWrap
import Derived.Test.YtkiookioejckbaaBBase
import Derived.Test.YtkiookioejckbaaBOrd0
import Derived.Test.YtkiookioejckbaaBSet
import Derived.Test.YtkiookioejckbaaBToC
import Derived.Test.YtkiookioejckbaaBEqC
import Derived.Test.YtkiookioejckbaaBMarksC
import Derived.Test.YtkiookioejckbaaXx2
import Derived.Test.YtkiookioejckbaaXx4
import Derived.Test.YtkiookioejckbaaXx13
import Derived.Test.YtkiookioejckbaaXx14
import Derived.Test.YtkiookioejckbaaXx16
namespace Go.Proofs.Ytkiookioejckbaa.Q
open Go.RowKit Go.Proofs.Ytkiookioejckbaa.X Go.Proofs.YtkiookioejckbaaW.PrintWords Go.Proofs.YtkiookioejckbaaW.PrintLast Go.Proofs.YtkiookioejckbaaW.PrintMore
set_option linter.unusedVariables false
set_option linter.unusedSimpArgs false

theorem dropChord_both (n : Int) (l : List S52) (t : Int) (hl : l.length ≤ 1048576) : ∃ r : List S52 × Bool, r.1.length ≤ 40 ∧ ∀ k, l.length + 1000 ≤ k → spec_DropChord.f k n l t = some r ∧ impl_DropChord.f k n l t = some r := by
  by_cases h : goodB n l = true
  · obtain ⟨h1, h2, h3, h4⟩ := good_spec n l h
    have hw : wrap64 ((l.length : Int) - 1) = (l.length : Int) - 1 := wrap64_id (by omega) (by omega)
    by_cases ht : 0 ≤ t ∧ t ≤ (l.length : Int) - 1
    · obtain ⟨t, rfl⟩ : ∃ u : Nat, t = (u : Int) := ⟨t.toNat, by omega⟩
      have hw2 : wrap64 ((t : Int) + 1) = ((t + 1 : Nat) : Int) := by rw [wrap64_id (by omega) (by omega)]; rfl
      refine ⟨(l.take t ++ l.drop (t + 1), true), by simp; omega, fun k hk => ?_⟩
      obtain ⟨k, rfl⟩ : ∃ m, k = m + 1 := ⟨k - 1, by omega⟩
      have c1 : (0 : Int) ≤ (t : Int) := by omega
      have c2 : (t : Int) ≤ (l.length : Int) := by omega
      have c3 : (0 : Int) ≤ ((t + 1 : Nat) : Int) := by omega
      have c4 : ((t + 1 : Nat) : Int) ≤ (l.length : Int) := by omega
      have c5 : ([] : List S52).length + (l.take t).length < 8796093022208 := by simp; omega
      have c6 : (l.take t).length + (l.drop (t + 1)).length < 8796093022208 := by simp; omega
      have c7 : l.length < 8796093022208 := by omega
      have c8 : 0 ≤ (t : Int) ∧ (t : Int) < ((t + 1 : Nat) : Int) ∧ ((t + 1 : Nat) : Int) ≤ (l.length : Int) ∧ l.length ≤ 1000000 := by omega
      unfold spec_DropChord.f impl_DropChord.f
      rw [cdGood_eq n l (by omega) (k + 1) (by omega), isSet_eq n l (by omega) (k + 1) (by omega)]
      simp only [Option.bind_some, if_pos h, hw, l1In_eq, within_eq, decide_eq_true ht, if_true, if_pos c1, if_pos c2, hw2, if_pos c3, if_pos c4, if_pos c5, Int.toNat_natCast, List.nil_append, if_pos c6, impl_DropChord.j0, Bool.not_true, Bool.false_eq_true, if_false, impl_Chord_61.f, impl_Chord_60.f, if_pos c7, if_pos c8]
      exact ⟨trivial, trivial⟩
    · refine ⟨([], false), by simp, fun k hk => ?_⟩
      obtain ⟨k, rfl⟩ : ∃ m, k = m + 1 := ⟨k - 1, by omega⟩
      unfold spec_DropChord.f impl_DropChord.f
      rw [cdGood_eq n l (by omega) (k + 1) (by omega), isSet_eq n l (by omega) (k + 1) (by omega)]
      simp only [Option.bind_some, if_pos h, hw, l1In_eq, within_eq, decide_eq_false ht, impl_DropChord.j0]
      exact ⟨by simp, by simp⟩
  · refine ⟨([], false), by simp, fun k hk => ?_⟩
    obtain ⟨k, rfl⟩ : ∃ m, k = m + 1 := ⟨k - 1, by omega⟩
    unfold spec_DropChord.f impl_DropChord.f
    rw [cdGood_eq n l (by omega) (k + 1) (by omega), isSet_eq n l (by omega) (k + 1) (by omega)]
    simp only [Option.bind_some, if_neg h, impl_DropChord.j0]
    exact ⟨trivial, by simp⟩
theorem FnExactDropChord : ∀ (a0 : Int) (l1 : List S50) (a2 : Int), (Lit.int .i64 a0).wf = true → l1.length ≤ 9223372036854775807 → (Lit.int .i64 a2).wf = true → ∃ k, laws_FnExactDropChord.f k a0 l1 a2 = some true := by
  intro n l t _ hl _
  obtain ⟨K, hK⟩ : ∃ K, K = l.length + 2000 := ⟨_, rfl⟩
  refine ⟨K + 3, ?_⟩
  unfold laws_FnExactDropChord.f
  rw [szChordS_eq l hl]
  simp only [Option.bind_some]
  by_cases h : l.length ≤ 1048576
  · have hc := conv_len l
    rw [if_pos h, if_neg (by omega)]
    obtain ⟨⟨r, b⟩, hlen, hr⟩ := dropChord_both n (conv l) t (by omega)
    simp only at hlen
    obtain ⟨y, m1, m2, m3⟩ := mark_heldC (K + 1) r 1 (by omega) (by omega)
    obtain ⟨yc, c1, c2, _⟩ := mark_heldC (K + 2) (conv l) 1 (by omega) (by omega)
    have T := fun k (hk : K ≤ k) => toChordS_eq l (by omega) k (by omega)
    have E := fun k (hk : K ≤ k) => eqChordS_self k r (by omega) (by omega)
    have E2 := fun k (hk : K ≤ k) => eqChordS_self k (conv l) (by omega) (by omega)
    simp only [T (K + 3) (by omega), (hr (K + 3) (by omega)).1, (hr (K + 3) (by omega)).2, Option.bind_some, E (K + 3) (by omega), laws_FnExactDropChord.j0, bne_self_eq_false, Bool.false_eq_true, if_false, if_true, T (K + 2) (by omega), E2 (K + 2) (by omega), c1]
    have e1 : ¬ (1 + 2 * ((conv l).length : Int) < 0) := by omega
    have e0 : ¬ (1 + 2 * (r.length : Int) < 0) := by omega
    simp only [if_neg e1, E (K + 2) (by omega), Option.bind_some, if_true, laws_FnExactDropChord.j1, Bool.false_eq_true, if_false, m1, m3 (K + 1) (by omega), if_neg e0, T (K + 1) (by omega), (hr (K + 1) (by omega)).2, E (K + 1) (by omega), laws_FnExactDropChord.j2, m3 K (by omega)]
    simp
  · rw [if_neg h]
    rfl

end Go.Proofs.Ytkiookioejckbaa.Q
