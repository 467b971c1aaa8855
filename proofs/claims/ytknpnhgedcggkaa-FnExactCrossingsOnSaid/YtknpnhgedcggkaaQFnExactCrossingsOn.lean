/- CrossingsOn: reference and program count the same chords. -/
import Derived.Test.YtknpnhgedcggkaaBStar
import Derived.Test.YtknpnhgedcggkaaBOrd
import Derived.Test.YtknpnhgedcggkaaBChords
import Derived.Test.YtknpnhgedcggkaaBCount
import Derived.Test.YtknpnhgedcggkaaBIsChord
import Derived.Test.YtknpnhgedcggkaaXx2
import Derived.Test.YtknpnhgedcggkaaXx21
import Derived.Test.YtknpnhgedcggkaaXx22
import Derived.Test.YtknpnhgedcggkaaXx23
namespace Go.Proofs.Ytknpnhgedcggkaa.Q
open Go.RowKit Go.Proofs.Ytknpnhgedcggkaa.X Go.Proofs.YtknpnhgedcggkaaW.PrintWords Go.Proofs.YtknpnhgedcggkaaW.PrintLast Go.Proofs.YtknpnhgedcggkaaW.PrintMore
set_option linter.unusedVariables false
set_option linter.unusedSimpArgs false

theorem crossingsOn_loop (c : S55) (m : List S55) : ∀ (k : Nat) (pre : List S55) (cnt : Int), pre.length + m.length ≤ 1000000 → 0 ≤ cnt → cnt + m.length ≤ 4611686018427387904 → m.length < k →
    spec_CrossingsOn.l0 k cnt (pre ++ m) ((pre ++ m).length : Int) pre.length c.f0 c.f1 = some (cnt + countX c m, true) := by
  induction m with
  | nil =>
    intro k pre cnt hl h0 h1 hk
    obtain ⟨k, rfl⟩ : ∃ t, k = t + 1 := ⟨k - 1, by omega⟩
    simp only [spec_CrossingsOn.l0, List.append_nil]
    rw [if_neg (by omega)]
    simp [countX]
  | cons x m ih =>
    intro k pre cnt hl h0 h1 hk
    obtain ⟨k, rfl⟩ : ∃ t, k = t + 1 := ⟨k - 1, by omega⟩
    simp only [List.length_cons] at hl h1 hk
    have hlen : ((pre ++ x :: m).length : Int) = pre.length + m.length + 1 := by simp; omega
    simp only [spec_CrossingsOn.l0]
    rw [if_pos (by omega), if_pos (by omega), if_pos (by omega), rdC_append, srCross_cross]
    simp only [Option.bind_some]
    have IH := fun cnt h0 h1 => ih k (pre ++ [x]) cnt (by simp; omega) h0 h1 (by omega)
    simp only [List.append_assoc, List.cons_append, List.nil_append] at IH
    have hpl : (((pre ++ [x]).length : Nat) : Int) = (pre.length : Int) + 1 := by simp
    rw [hpl] at IH
    rw [wrap64_id (x := cnt + 1) (by omega) (by omega), wrap64_id (by omega) (by omega)]
    unfold countX at IH ⊢
    by_cases e : crossB c x = true
    · rw [if_pos e, IH (cnt + 1) (by omega) (by omega), List.countP_cons_of_pos e]
      congr 2; omega
    · rw [if_neg e, IH cnt (by omega) (by omega), List.countP_cons_of_neg e]
theorem FnExactCrossingsOn : ∀ (a0_0 : Int) (a0_1 : Int) (a1_0 : Int) (a1_1 : Int), (Lit.int .i64 a0_0).wf = true → (Lit.int .i64 a0_1).wf = true → (Lit.int .i64 a1_0).wf = true → (Lit.int .i64 a1_1).wf = true → ∃ k, laws_FnExactCrossingsOn.f k a0_0 a0_1 a1_0 a1_1 = some true := by
  intro n s a b _ _ _ _
  refine ⟨1000, ?_⟩
  unfold laws_FnExactCrossingsOn.f laws_toStar.f laws_toChord.f spec_CrossingsOn.f impl_CrossingsOn.f
  simp only [srGood_eq, implIsStar_eq, Option.bind_some]
  by_cases h : isStar n s
  · have hs := h
    unfold isStar at hs
    simp only [if_pos (decide_eq_true h), srIs_eq n a b (by omega), implIsChord_eq, Option.bind_some, spec_CrossingsOn.j0, impl_CrossingsOn.j0]
    by_cases hc : isCh n a b
    · have hp : Proper n ⟨a, b⟩ := hc
      have h1 := starL_len n s
      have e1 := crossingsOn_loop ⟨a, b⟩ (starL n s) 999 [] 0 (by simp; omega) (by omega) (by omega) (by omega)
      have e2 := crossed_eq n ⟨a, b⟩ hp (starL n s) (starL_proper n s h) (by omega) 999 (by omega)
      simp only [List.nil_append, List.length_nil, Int.natCast_zero] at e1 e2
      simp [decide_eq_true hc, srChords_eq n s h 999 (by omega), starChords_eq n s h 999 (by omega), e1, e2]
    · simp [decide_eq_false hc]
  · simp [decide_eq_false h, spec_CrossingsOn.j0, impl_CrossingsOn.j0]

end Go.Proofs.Ytknpnhgedcggkaa.Q
