/- The word of a spiral: reference and program tell the same one, and it is a word. -/
import Derived.Test.YtkbokgpbfpncdaaDoorBTimes
import Derived.Test.YtkbokgpbfpncdaaDoorXx15
import Derived.Test.YtkbokgpbfpncdaaDoorXx16
namespace Go.Proofs.YtkbokgpbfpncdaaDoor.Q
open Go.RowKit Go.Proofs.YtkbokgpbfpncdaaDoor.X Go.Proofs.YtkbokgpbfpncdaaDoorW.PrintWords Go.Proofs.YtkbokgpbfpncdaaDoorW.PrintLast Go.Proofs.YtkbokgpbfpncdaaDoorW.PrintMore
set_option linter.unusedVariables false
set_option linter.unusedSimpArgs false

def okAll (w : ByteArray) : Prop := ∀ b ∈ w.data.toList, okB b = true
theorem okAll_rep (c : UInt8) (hc : okB c = true) (t : Nat) : okAll (rep ⟨#[c]⟩ t) := by
  unfold okAll rep
  induction t with
  | zero => intro b hb; simp [Lib.repeatL] at hb
  | succ t ih =>
    intro b hb
    simp only [List.toList_toArray] at hb ih
    rcases List.mem_append.1 hb with hb | hb
    · have : b = c := by simpa using hb
      rw [this]; exact hc
    · exact ih b hb
theorem okAll_append {a b : ByteArray} (ha : okAll a) (hb : okAll b) : okAll (a ++ b) := by
  intro x hx
  rw [ByteArray.data_append, Array.toList_append] at hx
  rcases List.mem_append.1 hx with h | h
  · exact ha x h
  · exact hb x h
theorem one_size (c : UInt8) : (⟨#[c]⟩ : ByteArray).size = 1 := rfl
theorem spiral_loop (c t : Nat) (hc : c ≤ 10) (ht : t ≤ 10) (d : Nat) : ∀ (k k' : Nat) (x : Int) (acc : ByteArray), x + d = c + 1 → 1 ≤ x → acc.size ≤ 20 * x → okAll acc → d + 100 < k → d + 100 < k' →
    ∃ r : ByteArray, okAll r ∧ spec_paSpiral.l0 k c t acc x = some (r, decide ((r.size : Int) ≤ 120)) ∧ impl_SpiralWord.l0 k' c t acc x = (if (r.size : Int) > 120 then some (⟨#[]⟩, false) else some (r, true)) := by
  induction d with
  | zero =>
    intro k k' x acc hx h1 hs ho hk hk'
    obtain ⟨k, rfl⟩ : ∃ t, k = t + 1 := ⟨k - 1, by omega⟩
    obtain ⟨k', rfl⟩ : ∃ t, k' = t + 1 := ⟨k' - 1, by omega⟩
    simp only [spec_paSpiral.l0, impl_SpiralWord.l0]
    rw [if_neg (by omega), if_neg (by omega)]
    exact ⟨acc, ho, rfl, rfl⟩
  | succ d ih =>
    intro k k' x acc hx h1 hs ho hk hk'
    obtain ⟨k, rfl⟩ : ∃ t, k = t + 1 := ⟨k - 1, by omega⟩
    obtain ⟨k', rfl⟩ : ∃ t, k' = t + 1 := ⟨k' - 1, by omega⟩
    obtain ⟨x, rfl⟩ : ∃ y : Nat, x = (y : Int) := ⟨x.toNat, by omega⟩
    have hxc : (x : Int) ≤ (c : Int) := by omega
    have t1 := timesW_eq ⟨#[70]⟩ x (by omega) (by rw [one_size]; omega) k (by omega)
    have t2 := timesW_eq ⟨#[76]⟩ t (by omega) (by rw [one_size]; omega) k (by omega)
    have t3 := repW_eq ⟨#[70]⟩ x (by omega) (by rw [one_size]; omega)
    have t4 := repW_eq ⟨#[76]⟩ t (by omega) (by rw [one_size]; omega)
    have s1 : (rep ⟨#[70]⟩ x).size = x := by rw [rep_size, one_size, Nat.one_mul]
    have s2 : (rep ⟨#[76]⟩ t).size = t := by rw [rep_size, one_size, Nat.one_mul]
    simp only [spec_paSpiral.l0, impl_SpiralWord.l0, if_pos hxc, t1, t2, t3, t4, Option.bind_some, s1, s2]
    have e1 : (rep ⟨#[70]⟩ x ++ rep ⟨#[76]⟩ t).size = x + t := by rw [ByteArray.size_append, s1, s2]
    have c1 : x + t ≤ 9223372036854775807 := by omega
    have c2 : acc.size + (x + t) ≤ 9223372036854775807 := by omega
    simp only [e1, if_pos c1, if_pos c2, wrap64_id (x := (x : Int) + 1) (by omega) (by omega)]
    exact ih k k' (x + 1) _ (by omega) (by omega) (by rw [ByteArray.size_append, e1]; omega) (okAll_append ho (okAll_append (okAll_rep 70 rfl x) (okAll_rep 76 rfl t))) (by omega) (by omega)
theorem spiralWord_both (g c t : Int) (k k' : Nat) (hk : 1000 ≤ k) (hk' : 1000 ≤ k') : ∃ r : ByteArray × Bool, spec_SpiralWord.f k g c t = some r ∧ impl_SpiralWord.f k' g c t = some r ∧ (r.2 = true → (g = 4 ∨ g = 6) ∧ r.1.size ≤ 120 ∧ okAll r.1) := by
  obtain ⟨k, rfl⟩ : ∃ t, k = t + 1 := ⟨k - 1, by omega⟩
  obtain ⟨k', rfl⟩ : ∃ t, k' = t + 1 := ⟨k' - 1, by omega⟩
  unfold spec_SpiralWord.f impl_SpiralWord.f
  simp only [paGrid_eq, isGrid_eq, Option.bind_some, l1In_eq, within_eq]
  by_cases hg : g = 4 ∨ g = 6
  · have hw : wrap64 (g - 1) = g - 1 := wrap64_id (by omega) (by omega)
    simp only [if_pos (decide_eq_true hg), hw]
    by_cases hc : 1 ≤ c ∧ c ≤ 10
    · simp only [if_pos (decide_eq_true hc)]
      by_cases ht : 0 ≤ t ∧ t ≤ g - 1
      · obtain ⟨c, rfl⟩ : ∃ y : Nat, c = (y : Int) := ⟨c.toNat, by omega⟩
        obtain ⟨t, rfl⟩ : ∃ y : Nat, t = (y : Int) := ⟨t.toNat, by omega⟩
        obtain ⟨r, r0, r1, r2⟩ := spiral_loop c t (by omega) (by omega) c k k' 1 ⟨#[]⟩ (by omega) (by omega) (by show (0 : Int) ≤ _; omega) (by intro b hb; simp at hb) (by omega) (by omega)
        simp only [decide_eq_true ht, spec_SpiralWord.j0, impl_SpiralWord.j0, Bool.not_true, Bool.false_eq_true, if_false]
        unfold spec_paSpiral.f
        rw [r1, r2]
        simp only [Option.bind_some]
        by_cases hr : (r.size : Int) ≤ 120
        · rw [if_pos (decide_eq_true hr), if_neg (by omega)]; exact ⟨_, rfl, rfl, fun _ => ⟨hg, by show r.size ≤ 120; omega, r0⟩⟩
        · rw [if_neg (by simpa using hr), if_pos (by omega)]; exact ⟨_, rfl, rfl, fun h => by cases h⟩
      · simp only [decide_eq_false ht, spec_SpiralWord.j0, impl_SpiralWord.j0, Bool.not_false, if_true]
        exact ⟨_, rfl, rfl, fun h => by cases h⟩
    · simp only [decide_eq_false hc, Bool.false_eq_true, if_false, spec_SpiralWord.j0, impl_SpiralWord.j0, if_true]
      exact ⟨_, rfl, rfl, fun h => by cases h⟩
  · simp only [decide_eq_false hg, Bool.false_eq_true, if_false, spec_SpiralWord.j0, impl_SpiralWord.j0, if_true]
    exact ⟨_, rfl, rfl, fun h => by cases h⟩

end Go.Proofs.YtkbokgpbfpncdaaDoor.Q
