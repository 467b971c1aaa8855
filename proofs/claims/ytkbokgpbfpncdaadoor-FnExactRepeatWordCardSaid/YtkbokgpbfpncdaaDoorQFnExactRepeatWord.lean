/- RepeatWord: both tell the word so many times. -/
import Derived.Test.YtkbokgpbfpncdaaDoorBTimes
import Derived.Test.YtkbokgpbfpncdaaDoorXx14
import Derived.Test.YtkbokgpbfpncdaaDoorXx15
namespace Go.Proofs.YtkbokgpbfpncdaaDoor.Q
open Go.RowKit Go.Proofs.YtkbokgpbfpncdaaDoor.X Go.Proofs.YtkbokgpbfpncdaaDoorW.PrintWords Go.Proofs.YtkbokgpbfpncdaaDoorW.PrintLast Go.Proofs.YtkbokgpbfpncdaaDoorW.PrintMore
set_option linter.unusedVariables false
set_option linter.unusedSimpArgs false

theorem FnExactRepeatWord : ∀ (a0 : Int) (a1 : ByteArray) (a2 : Int), (Lit.int .i64 a0).wf = true → a1.size ≤ 140737488351232 → (Lit.int .i64 a2).wf = true → ∃ k, laws_FnExactRepeatWord.f k a0 a1 a2 = some true := by
  intro g w t _ _ _
  refine ⟨1000, ?_⟩
  unfold laws_FnExactRepeatWord.f spec_RepeatWord.f impl_RepeatWord.f
  by_cases hb : (w.size : Int) > 1048576
  · rw [if_pos hb]
  · rw [if_neg hb, paAsked_eq g w 1000 (by omega), isWord_eq]
    simp only [Option.bind_some]
    cases ha : askedB g w with
    | false => simp [spec_RepeatWord.j0, impl_RepeatWord.j0]
    | true =>
      obtain ⟨_, hs, _⟩ := asked_of ha
      rw [if_pos rfl, if_pos rfl]
      by_cases ht : t < 1
      · rw [if_pos ht, decide_eq_true ht]
        simp [spec_RepeatWord.j0, impl_RepeatWord.j0]
      · rw [if_neg ht, decide_eq_false ht]
        by_cases h0 : w.size = 0
        · have hn : w.toList = [] := by rw [ByteArray.toList_eq]; exact List.eq_nil_of_length_eq_zero (by rw [len_data]; exact h0)
          rw [if_neg (by omega)]
          simp only [spec_RepeatWord.j0, impl_RepeatWord.j0, Bool.false_eq_true, if_false]
          rw [if_pos (by omega), if_pos hn]
          simp
        · have hn : ¬ w.toList = [] := by rw [ByteArray.toList_eq]; intro e; have := congrArg List.length e; rw [len_data] at this; exact h0 (by simpa using this)
          rw [if_pos (by omega), if_neg (by omega)]
          simp only [spec_RepeatWord.j0, impl_RepeatWord.j0, Bool.false_eq_true, if_false]
          rw [if_neg (by omega)]
          by_cases hq : t > 120 / (w.size : Int)
          · rw [if_pos hq, decide_eq_true hq]
            simp
          · rw [if_neg hq, decide_eq_false hq]
            obtain ⟨t, rfl⟩ : ∃ u : Nat, t = (u : Int) := ⟨t.toNat, by omega⟩
            have hle : t * w.size ≤ 120 := by
              have h1 : (t : Int) ≤ 120 / (w.size : Int) := by omega
              have h2 := (Int.le_ediv_iff_mul_le (by omega)).1 h1
              exact_mod_cast h2
            have ht1 : t ≤ 120 := Nat.le_trans (Nat.le_mul_of_pos_right _ (by omega)) hle
            have e1 := timesW_eq w t (by omega) (by rw [Nat.mul_comm]; omega) 999 (by omega)
            have e2 : strings_Repeat.f w (t : Int) = some (rep w t) := repW_eq w t (by omega) (by rw [Nat.mul_comm]; omega)
            simp only [e1, e2, Option.bind_some, Bool.false_eq_true, if_false, if_neg hn]
            simp

end Go.Proofs.YtkbokgpbfpncdaaDoor.Q
