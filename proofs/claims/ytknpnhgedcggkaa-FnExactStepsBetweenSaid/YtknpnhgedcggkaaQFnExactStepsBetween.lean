/- StepsBetween: reference and program look through the same string. -/
import Derived.Test.YtknpnhgedcggkaaBStar
import Derived.Test.YtknpnhgedcggkaaBAsk
import Derived.Test.YtknpnhgedcggkaaBString
import Derived.Test.YtknpnhgedcggkaaXx2
import Derived.Test.YtknpnhgedcggkaaXx6
import Derived.Test.YtknpnhgedcggkaaXx7
namespace Go.Proofs.Ytknpnhgedcggkaa.Q
open Go.RowKit Go.Proofs.Ytknpnhgedcggkaa.X Go.Proofs.YtknpnhgedcggkaaW.PrintWords Go.Proofs.YtknpnhgedcggkaaW.PrintLast Go.Proofs.YtknpnhgedcggkaaW.PrintMore
set_option linter.unusedVariables false
set_option linter.unusedSimpArgs false

theorem between_loop (l : List Int) (v : Int) (hl : l.length ≤ 1000) (d : Nat) : ∀ (k k' : Nat) (i : Int), 0 ≤ i → i ≤ l.length → (l.length : Int) - i = d → d < k → d < k' →
    ∃ r : Int, slices_Index_int_int.l0 k l v l.length i = some r ∧ spec_StepsBetween.l0 k' v l l.length i = some (mx 0 r, decide (r ≥ 0)) := by
  induction d with
  | zero =>
    intro k k' i h0 h1 hd hk hk'
    obtain ⟨k, rfl⟩ : ∃ m, k = m + 1 := ⟨k - 1, by omega⟩
    obtain ⟨k', rfl⟩ : ∃ m, k' = m + 1 := ⟨k' - 1, by omega⟩
    simp only [slices_Index_int_int.l0, spec_StepsBetween.l0]
    rw [if_neg (by omega), if_neg (by omega)]
    exact ⟨-1, rfl, rfl⟩
  | succ d ih =>
    intro k k' i h0 h1 hd hk hk'
    obtain ⟨k, rfl⟩ : ∃ m, k = m + 1 := ⟨k - 1, by omega⟩
    obtain ⟨k', rfl⟩ : ∃ m, k' = m + 1 := ⟨k' - 1, by omega⟩
    simp only [slices_Index_int_int.l0, spec_StepsBetween.l0]
    simp only [if_pos (show i < (l.length : Int) by omega), if_pos (show 0 ≤ i by omega), wrap64_id (x := i + 1) (by omega) (by omega)]
    by_cases e : v = rd l i
    · rw [if_pos e, if_pos e.symm]
      refine ⟨i, rfl, ?_⟩
      have e1 : mx 0 i = i := by unfold mx; split <;> omega
      rw [e1, decide_eq_true (by omega : i ≥ 0)]
    · rw [if_neg e, if_neg (fun x => e x.symm)]
      exact ih k k' (i + 1) (by omega) (by omega) (by omega) (by omega) (by omega)
theorem stepsBetween_both (n s a b : Int) : ∃ r : Int × Bool, spec_StepsBetween.f 100 n s a b = some r ∧ impl_StepsBetween.f 100 n s a b = some r := by
  unfold spec_StepsBetween.f impl_StepsBetween.f
  simp only [srAsked_eq, isPoint_eq2, Option.bind_some]
  by_cases h : isStar n s ∧ 0 ≤ a ∧ a < n
  · have hs := h.1
    unfold isStar at hs
    obtain ⟨m, hA⟩ := around_ex n s (by omega)
    simp only [if_pos (decide_eq_true h)]
    rw [wrap64_id (by omega) (by omega), l1In_eq]
    simp only [Option.bind_some, spec_StepsBetween.j0]
    by_cases hb : 0 ≤ b ∧ b < n
    · have hb' : 0 ≤ b ∧ b ≤ n - 1 := by omega
      have hlen : (strL n s a m).length = m := strL_len n s a m
      have hm := hA.2.1
      obtain ⟨r, r1, r2⟩ := between_loop (strL n s a m) b (by omega) m 100 99 0 (by omega) (by omega) (by omega) (by omega) (by omega)
      refine ⟨(mx 0 r, decide (r ≥ 0)), ?_, ?_⟩
      · rw [decide_eq_true hb']
        simp only [Bool.not_true, Bool.false_eq_true, if_false]
        rw [srString_eq n s a m h.1 h.2 hA 99 (by omega)]
        simp only [Option.bind_some]
        exact r2
      · rw [if_pos (decide_eq_true ⟨h.1, h.2, hb⟩), stringOf_eq n s a m h.1 h.2 hA 100 (by omega)]
        simp only [Option.bind_some]
        unfold slices_Index_int_int.f
        rw [r1]
        rfl
    · have hb' : ¬ (0 ≤ b ∧ b ≤ n - 1) := by omega
      refine ⟨(0, false), ?_, ?_⟩
      · rw [decide_eq_false hb']; rfl
      · rw [if_neg (by simpa using fun _ _ _ x => by omega)]
  · refine ⟨(0, false), ?_, ?_⟩
    · simp [decide_eq_false h, spec_StepsBetween.j0]
    · rw [if_neg (by
        rw [decide_eq_true_eq]
        exact fun x => h ⟨x.1, x.2.1⟩)]
theorem FnExactStepsBetween : ∀ (a0_0 : Int) (a0_1 : Int) (a1 : Int) (a2 : Int), (Lit.int .i64 a0_0).wf = true → (Lit.int .i64 a0_1).wf = true → (Lit.int .i64 a1).wf = true → (Lit.int .i64 a2).wf = true → ∃ k, laws_FnExactStepsBetween.f k a0_0 a0_1 a1 a2 = some true := by
  intro n s a b _ _ _ _
  refine ⟨100, ?_⟩
  obtain ⟨r, h1, h2⟩ := stepsBetween_both n s a b
  unfold laws_FnExactStepsBetween.f laws_toStar.f
  simp [h1, h2]

end Go.Proofs.Ytknpnhgedcggkaa.Q
