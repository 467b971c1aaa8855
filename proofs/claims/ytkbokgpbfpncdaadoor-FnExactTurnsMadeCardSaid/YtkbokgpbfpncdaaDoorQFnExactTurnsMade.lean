/- TurnsMade: as many L as there are, less as many R. -/
import Derived.Lib.Bytealg
import Derived.Test.YtkbokgpbfpncdaaDoorBWord
import Derived.Test.YtkbokgpbfpncdaaDoorXx13
import Derived.Test.YtkbokgpbfpncdaaDoorXx14
namespace Go.Proofs.YtkbokgpbfpncdaaDoor.Q
open Go.RowKit Go.Proofs.YtkbokgpbfpncdaaDoor.X Go.Proofs.YtkbokgpbfpncdaaDoorW.PrintWords Go.Proofs.YtkbokgpbfpncdaaDoorW.PrintLast Go.Proofs.YtkbokgpbfpncdaaDoorW.PrintMore
set_option linter.unusedVariables false
set_option linter.unusedSimpArgs false

theorem turns_loop (w : ByteArray) (hw : w.size ≤ 120) (d : Nat) : ∀ (k i : Nat) (n : Int), i + d = w.size → d < k → -1000 ≤ n → n ≤ 1000 → -(i : Int) ≤ n → n ≤ i →
    spec_TurnsMade.l0 k w n (i : Int) = some (n + Lib.countByte (w.data.toList.drop i) 76 - Lib.countByte (w.data.toList.drop i) 82, true) := by
  induction d with
  | zero =>
    intro k i n hi hk _ _ _ _
    obtain ⟨k, rfl⟩ : ∃ t, k = t + 1 := ⟨k - 1, by omega⟩
    simp only [spec_TurnsMade.l0]
    rw [if_neg (by omega), List.drop_eq_nil_of_le (by rw [len_data]; omega)]
    simp [Lib.countByte]
  | succ d ih =>
    intro k i n hi hk b1 b2 b3 b4
    obtain ⟨k, rfl⟩ : ∃ t, k = t + 1 := ⟨k - 1, by omega⟩
    have hlt : i < w.data.toList.length := by rw [len_data]; omega
    have e1 : wrap64 ((i : Int) + 1) = ((i + 1 : Nat) : Int) := by rw [wrap64_id (by omega) (by omega)]; rfl
    have e2 : wrap64 (n + 1) = n + 1 := wrap64_id (by omega) (by omega)
    have e3 : wrap64 (n - 1) = n - 1 := wrap64_id (by omega) (by omega)
    rw [List.drop_eq_getElem_cons hlt]
    simp only [spec_TurnsMade.l0]
    rw [if_pos (by omega), if_pos (by omega), e1, e2, e3, bt_get w i (by omega)]
    generalize w.data.toList[i] = b
    by_cases h2 : (b.toNat : Int) = 76
    · rw [if_pos h2, ih k (i + 1) (n + 1) (by omega) (by omega) (by omega) (by omega) (by omega) (by omega)]
      have : b = 76 := (u8_eq b 76 (by omega)).1 h2
      subst this
      simp [Lib.countByte]
      omega
    · rw [if_neg h2]
      by_cases h3 : (b.toNat : Int) = 82
      · rw [if_pos h3, ih k (i + 1) (n - 1) (by omega) (by omega) (by omega) (by omega) (by omega) (by omega)]
        have : b = 82 := (u8_eq b 82 (by omega)).1 h3
        subst this
        simp [Lib.countByte]
        omega
      · rw [if_neg h3, ih k (i + 1) n (by omega) (by omega) (by omega) (by omega) (by omega) (by omega)]
        have n2 : b ≠ 76 := fun e => h2 ((u8_eq b 76 (by omega)).2 e)
        have n3 : b ≠ 82 := fun e => h3 ((u8_eq b 82 (by omega)).2 e)
        simp [Lib.countByte, n2, n3]
theorem FnExactTurnsMade : ∀ (a0 : Int) (a1 : ByteArray), (Lit.int .i64 a0).wf = true → a1.size ≤ 140737488351232 → ∃ k, laws_FnExactTurnsMade.f k a0 a1 = some true := by
  intro g w _ _
  refine ⟨1000, ?_⟩
  unfold laws_FnExactTurnsMade.f spec_TurnsMade.f impl_TurnsMade.f
  by_cases hb : (w.size : Int) > 1048576
  · rw [if_pos hb]
  · rw [if_neg hb, paAsked_eq g w 1000 (by omega), isWord_eq]
    simp only [Option.bind_some]
    cases ha : askedB g w with
    | false => simp
    | true =>
      obtain ⟨_, hs, _⟩ := asked_of ha
      have this : spec_TurnsMade.l0 1000 w 0 0 = _ := turns_loop w hs w.size 1000 0 0 (by omega) (by omega) (by omega) (by omega) (by omega) (by omega)
      rw [if_pos rfl, if_pos rfl, this]
      have c1 : ∀ c : UInt8, strings_Count.f w ⟨#[c]⟩ = some ((Lib.countByte w.data.toList c : Nat) : Int) := fun c => rfl
      have b1 : Lib.countByte w.data.toList 76 ≤ w.size := by unfold Lib.countByte; rw [← len_data]; exact List.count_le_length
      have b2 : Lib.countByte w.data.toList 82 ≤ w.size := by unfold Lib.countByte; rw [← len_data]; exact List.count_le_length
      simp only [c1, Option.bind_some, List.drop_zero]
      rw [wrap64_id (by omega) (by omega), if_pos (by omega)]
      simp

end Go.Proofs.YtkbokgpbfpncdaaDoor.Q
