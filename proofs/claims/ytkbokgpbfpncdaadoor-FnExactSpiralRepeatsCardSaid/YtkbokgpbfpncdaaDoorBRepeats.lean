/- How many times a word must be told to come back: reference and program tell the same. -/
import Derived.Test.YtkbokgpbfpncdaaDoorBClosed
import Derived.Test.YtkbokgpbfpncdaaDoorBTimes
import Derived.Test.YtkbokgpbfpncdaaDoorXx9
namespace Go.Proofs.YtkbokgpbfpncdaaDoor.Q
open Go.RowKit Go.Proofs.YtkbokgpbfpncdaaDoor.X Go.Proofs.YtkbokgpbfpncdaaDoorW.PrintWords Go.Proofs.YtkbokgpbfpncdaaDoorW.PrintLast Go.Proofs.YtkbokgpbfpncdaaDoorW.PrintMore
set_option linter.unusedVariables false
set_option linter.unusedSimpArgs false

theorem repeat_snoc (l : List UInt8) : ∀ t, Lib.repeatL l (t + 1) = Lib.repeatL l t ++ l
  | 0 => by simp [Lib.repeatL]
  | t + 1 => by
    have ih := repeat_snoc l t
    show l ++ Lib.repeatL l (t + 1) = (l ++ Lib.repeatL l t) ++ l
    rw [ih, List.append_assoc]
theorem repeat_mem (l : List UInt8) : ∀ t, ∀ b ∈ Lib.repeatL l t, b ∈ l
  | 0, b, h => by simp [Lib.repeatL] at h
  | t + 1, b, h => by
    rcases List.mem_append.1 h with h | h
    · exact h
    · exact repeat_mem l t b h
theorem rep_data (w : ByteArray) (t : Nat) : (rep w t).data.toList = Lib.repeatL w.data.toList t := by simp [rep]
/-- The state behind t times the word. -/
def stateT (g : Int) (l : List UInt8) (t : Nat) : Int × Int × Int := endS g (Lib.repeatL l t) z3
theorem state_next (g : Int) (l : List UInt8) (t : Nat) : endS g l (stateT g l t) = stateT g l (t + 1) := by
  unfold stateT
  rw [repeat_snoc]
  unfold endS
  rw [List.foldl_append]
theorem repeats_loop (g : Int) (w : ByteArray) (hg : g = 4 ∨ g = 6) (hw : w.size ≤ 120) (hb : ∀ b ∈ w.data.toList, okB b = true) (d : Nat) : ∀ (k k' t : Nat), (t : Int) + d = g + 1 → 1 ≤ t → 1100 + d < k → 1100 + d < k' →
    ∃ r : Int × Bool, spec_paRepeats.l0 k g w (t : Int) = some r ∧ impl_RepeatsToClose.l0 k' g w (t : Int) (stateT g w.data.toList (t - 1)).1 (stateT g w.data.toList (t - 1)).2.1 (stateT g w.data.toList (t - 1)).2.2 = some r := by
  induction d with
  | zero =>
    intro k k' t ht h1 hk hk'
    obtain ⟨k, rfl⟩ : ∃ m, k = m + 1 := ⟨k - 1, by omega⟩
    obtain ⟨k', rfl⟩ : ∃ m, k' = m + 1 := ⟨k' - 1, by omega⟩
    simp only [spec_paRepeats.l0, impl_RepeatsToClose.l0]
    rw [if_neg (by omega), if_neg (by omega)]
    exact ⟨_, rfl, rfl⟩
  | succ d ih =>
    intro k k' t ht h1 hk hk'
    obtain ⟨k, rfl⟩ : ∃ m, k = m + 1 := ⟨k - 1, by omega⟩
    obtain ⟨k', rfl⟩ : ∃ m, k' = m + 1 := ⟨k' - 1, by omega⟩
    have e1 : wrap64 ((t : Int) + 1) = ((t + 1 : Nat) : Int) := by rw [wrap64_id (by omega) (by omega)]; rfl
    have hsz : w.size * t ≤ 120 * 6 := Nat.mul_le_mul hw (by omega)
    have hN : Near g (stateT g w.data.toList (t - 1)) 720 := by
      have := near_end hg (Lib.repeatL w.data.toList (t - 1)) z3 0 (near_z3 hg)
      have hl : (Lib.repeatL w.data.toList (t - 1)).length ≤ 720 := by
        rw [Lib.repeatL_length, len_data]
        have := Nat.mul_le_mul (show t - 1 ≤ 6 by omega) hw
        omega
      obtain ⟨n1, n2, n3, n4, n5, n6⟩ := this
      exact ⟨by unfold stateT; omega, by unfold stateT; omega, by unfold stateT; omega, by unfold stateT; omega, n5, n6⟩
    have c1 := timesW_eq w t (by omega) (by omega) k (by omega)
    have c2 := paClosed_eq g (rep w t) hg (by rw [rep_size]; omega) (by rw [rep_data]; exact fun b h => hb b (repeat_mem _ _ b h)) k (by omega)
    have c3 := walk_eq g w (stateT g w.data.toList (t - 1)) 720 hg (by omega) hb hN (by omega) k' (by omega)
    rw [state_next, show t - 1 + 1 = t by omega] at c3
    rw [rep_data] at c2
    simp only [spec_paRepeats.l0, impl_RepeatsToClose.l0]
    rw [if_pos (by omega), if_pos (by omega), c1, Option.bind_some, c2, c3, Option.bind_some, Option.bind_some, e1]
    unfold closedB
    change ∃ r : Int × Bool, (if ((stateT g w.data.toList t).1 == 0 && ((stateT g w.data.toList t).2.1 == 0 && ((stateT g w.data.toList t).2.2 == 0))) = true then _ else _) = some r ∧ _
    by_cases hc : ((stateT g w.data.toList t).1 == 0 && ((stateT g w.data.toList t).2.1 == 0 && ((stateT g w.data.toList t).2.2 == 0))) = true
    · rw [if_pos hc, if_pos hc]
      exact ⟨_, rfl, rfl⟩
    · rw [if_neg hc, if_neg hc]
      have := ih k k' (t + 1) (by omega) (by omega) (by omega) (by omega)
      rw [show t + 1 - 1 = t by omega] at this
      exact this
theorem repeats_both (g : Int) (w : ByteArray) (hg : g = 4 ∨ g = 6) (hw : w.size ≤ 120) (hb : ∀ b ∈ w.data.toList, okB b = true) (k k' : Nat) (hk : 1200 ≤ k) (hk' : 1200 ≤ k') :
    ∃ r : Int × Bool, spec_paRepeats.f k g w = some r ∧ impl_RepeatsToClose.l0 k' g w 1 0 0 0 = some r := by
  obtain ⟨r, h1, h2⟩ := repeats_loop g w hg hw hb g.toNat k k' 1 (by omega) (by omega) (by omega) (by omega)
  exact ⟨r, h1, h2⟩

end Go.Proofs.YtkbokgpbfpncdaaDoor.Q
