/- SpiralWord: reference and program tell the same word. -/
import Derived.Lib.Repeat
import Derived.Test.YtkbokgpbfpncdaaBWrap
import Derived.Test.YtkbokgpbfpncdaaXx1
import Derived.Test.YtkbokgpbfpncdaaXx2
namespace Go.Proofs.Ytkbokgpbfpncdaa.Q
open Go.RowKit Go.Proofs.Ytkbokgpbfpncdaa.X Go.Proofs.YtkbokgpbfpncdaaW.PrintWords Go.Proofs.YtkbokgpbfpncdaaW.PrintLast Go.Proofs.YtkbokgpbfpncdaaW.PrintMore
set_option linter.unusedVariables false
set_option linter.unusedSimpArgs false

theorem times_loop (b : UInt8) (d : Nat) : ∀ (k : Nat) (x : Int) (acc : ByteArray), x = d → acc.size + d ≤ 100000 → d < k → spec_paTimes.l0 k ⟨#[b]⟩ x acc = some (acc ++ ⟨(Lib.repeatL [b] d).toArray⟩) := by
  induction d with
  | zero =>
    intro k x acc hx hs hk
    obtain ⟨k, rfl⟩ : ∃ t, k = t + 1 := ⟨k - 1, by omega⟩
    simp only [spec_paTimes.l0]
    rw [if_neg (by omega)]
    refine congrArg some (ByteArray.ext ?_)
    simp [Lib.repeatL, ByteArray.data_append]
  | succ d ih =>
    intro k x acc hx hs hk
    obtain ⟨k, rfl⟩ : ∃ t, k = t + 1 := ⟨k - 1, by omega⟩
    simp only [spec_paTimes.l0]
    have e1 : (⟨#[b]⟩ : ByteArray).size = 1 := rfl
    rw [if_pos (by omega), if_pos (by rw [e1]; omega), wrap64_id (by omega) (by omega), ih k (x - 1) (acc ++ ⟨#[b]⟩) (by omega) (by rw [ByteArray.size_append, e1]; omega) (by omega)]
    refine congrArg some (ByteArray.ext ?_)
    simp [Lib.repeatL, ByteArray.data_append]
theorem rep_eq (b : UInt8) (d : Nat) (hd : d ≤ 1000) : strings_Repeat.f ⟨#[b]⟩ (d : Int) = some ⟨(Lib.repeatL [b] d).toArray⟩ := by
  unfold strings_Repeat.f
  have e1 : (⟨#[b]⟩ : ByteArray).size = 1 := rfl
  rw [if_pos ⟨by omega, by omega, by rw [e1]; omega⟩]
  simp
theorem times_eq (b : UInt8) (d : Nat) (hd : d ≤ 1000) (k : Nat) (hk : d < k) : spec_paTimes.f k ⟨#[b]⟩ (d : Int) = some ⟨(Lib.repeatL [b] d).toArray⟩ := by
  unfold spec_paTimes.f
  rw [times_loop b d k d ⟨#[]⟩ rfl (by show 0 + d ≤ _; omega) hk]
  refine congrArg some (ByteArray.ext ?_)
  simp [ByteArray.data_append]
theorem rep_size (b : UInt8) (d : Nat) : (⟨(Lib.repeatL [b] d).toArray⟩ : ByteArray).size = d := by
  show (Lib.repeatL [b] d).toArray.size = d
  simp [Lib.repeatL_length]
theorem spiral_loop (c t : Nat) (hc : c ≤ 10) (ht : t ≤ 10) (d : Nat) : ∀ (k k' : Nat) (x : Int) (acc : ByteArray), x + d = c + 1 → 1 ≤ x → acc.size ≤ 20 * x → d + 100 < k → d + 100 < k' →
    ∃ r : ByteArray, spec_paSpiral.l0 k c t acc x = some (r, decide ((r.size : Int) ≤ 120)) ∧ impl_SpiralWord.l0 k' c t acc x = (if (r.size : Int) > 120 then some (⟨#[]⟩, false) else some (r, true)) := by
  induction d with
  | zero =>
    intro k k' x acc hx h1 hs hk hk'
    obtain ⟨k, rfl⟩ : ∃ t, k = t + 1 := ⟨k - 1, by omega⟩
    obtain ⟨k', rfl⟩ : ∃ t, k' = t + 1 := ⟨k' - 1, by omega⟩
    simp only [spec_paSpiral.l0, impl_SpiralWord.l0]
    rw [if_neg (by omega), if_neg (by omega)]
    exact ⟨acc, rfl, rfl⟩
  | succ d ih =>
    intro k k' x acc hx h1 hs hk hk'
    obtain ⟨k, rfl⟩ : ∃ t, k = t + 1 := ⟨k - 1, by omega⟩
    obtain ⟨k', rfl⟩ : ∃ t, k' = t + 1 := ⟨k' - 1, by omega⟩
    obtain ⟨x, rfl⟩ : ∃ y : Nat, x = (y : Int) := ⟨x.toNat, by omega⟩
    have hxc : (x : Int) ≤ (c : Int) := by omega
    simp only [spec_paSpiral.l0, impl_SpiralWord.l0, if_pos hxc, times_eq 70 x (by omega) k (by omega), times_eq 76 t (by omega) k (by omega), rep_eq 70 x (by omega), rep_eq 76 t (by omega), Option.bind_some, rep_size]
    have e1 : ((⟨(Lib.repeatL [70] x).toArray⟩ : ByteArray) ++ ⟨(Lib.repeatL [76] t).toArray⟩).size = x + t := by rw [ByteArray.size_append, rep_size, rep_size]
    have c1 : x + t ≤ 9223372036854775807 := by omega
    have c2 : acc.size + (x + t) ≤ 9223372036854775807 := by omega
    simp only [e1, if_pos c1, if_pos c2, wrap64_id (x := (x : Int) + 1) (by omega) (by omega)]
    exact ih k k' (x + 1) _ (by omega) (by omega) (by rw [ByteArray.size_append, e1]; omega) (by omega) (by omega)
theorem paGrid_eq (g : Int) : spec_paGrid.f g = some (decide (g = 4 ∨ g = 6)) := by
  unfold spec_paGrid.f
  by_cases h : g = 4
  · simp [h]
  · by_cases h6 : g = 6 <;> simp [h, h6]
theorem isGrid_eq (g : Int) : impl_isGrid.f g = some (decide (g = 4 ∨ g = 6)) := by
  unfold impl_isGrid.f
  by_cases h : g = 4
  · simp [h]
  · by_cases h6 : g = 6 <;> simp [h, h6]
theorem l1In_eq (a b c : Int) : spec_l1In.f a b c = some (decide (b ≤ a ∧ a ≤ c)) := by
  unfold spec_l1In.f
  by_cases h : a ≥ b
  · rw [if_pos h]; exact congrArg some (decide_eq_decide.2 (by omega))
  · rw [if_neg h]; exact congrArg some (decide_eq_false (by omega)).symm
theorem within_eq (a b c : Int) : impl_within.f a b c = some (decide (b ≤ a ∧ a ≤ c)) := by
  unfold impl_within.f
  by_cases h : a ≥ b
  · rw [if_pos h]; exact congrArg some (decide_eq_decide.2 (by omega))
  · rw [if_neg h]; exact congrArg some (decide_eq_false (by omega)).symm
theorem spiralWord_both (g c t : Int) : ∃ r : ByteArray × Bool, spec_SpiralWord.f 1000 g c t = some r ∧ impl_SpiralWord.f 1000 g c t = some r := by
  unfold spec_SpiralWord.f impl_SpiralWord.f
  simp only [paGrid_eq, isGrid_eq, Option.bind_some, l1In_eq, within_eq]
  by_cases hg : g = 4 ∨ g = 6
  · have hw : wrap64 (g - 1) = g - 1 := wrap64_id (by omega) (by omega)
    simp only [if_pos (decide_eq_true hg), hw]
    by_cases hc : 1 ≤ c ∧ c ≤ 10
    · simp only [if_pos (decide_eq_true hc)]
      by_cases ht : 0 ≤ t ∧ t ≤ g - 1
      · obtain ⟨c, rfl⟩ : ∃ y : Nat, c = (y : Int) := ⟨c.toNat, by omega⟩
        obtain ⟨t, rfl⟩ : ∃ y : Nat, t = (y : Int) := ⟨t.toNat, by omega⟩
        obtain ⟨r, r1, r2⟩ := spiral_loop c t (by omega) (by omega) c 999 999 1 ⟨#[]⟩ (by omega) (by omega) (by show (0 : Int) ≤ _; omega) (by omega) (by omega)
        simp only [decide_eq_true ht, spec_SpiralWord.j0, impl_SpiralWord.j0, Bool.not_true, Bool.false_eq_true, if_false]
        unfold spec_paSpiral.f
        rw [r1, r2]
        simp only [Option.bind_some]
        by_cases hr : (r.size : Int) ≤ 120
        · rw [if_pos (decide_eq_true hr), if_neg (by omega)]; exact ⟨_, rfl, rfl⟩
        · rw [if_neg (by simpa using hr), if_pos (by omega)]; exact ⟨_, rfl, rfl⟩
      · simp only [decide_eq_false ht, spec_SpiralWord.j0, impl_SpiralWord.j0, Bool.not_false, if_true]
        exact ⟨_, rfl, rfl⟩
    · simp only [decide_eq_false hc, Bool.false_eq_true, if_false, spec_SpiralWord.j0, impl_SpiralWord.j0, if_true]
      exact ⟨_, rfl, rfl⟩
  · simp only [decide_eq_false hg, Bool.false_eq_true, if_false, spec_SpiralWord.j0, impl_SpiralWord.j0, if_true]
    exact ⟨_, rfl, rfl⟩
theorem FnExactSpiralWord : ∀ (a0 : Int) (a1 : Int) (a2 : Int), (Lit.int .i64 a0).wf = true → (Lit.int .i64 a1).wf = true → (Lit.int .i64 a2).wf = true → ∃ k, laws_FnExactSpiralWord.f k a0 a1 a2 = some true := by
  intro g c t _ _ _
  obtain ⟨r, h1, h2⟩ := spiralWord_both g c t
  refine ⟨1000, ?_⟩
  unfold laws_FnExactSpiralWord.f
  rw [h1, h2]
  simp

end Go.Proofs.Ytkbokgpbfpncdaa.Q
