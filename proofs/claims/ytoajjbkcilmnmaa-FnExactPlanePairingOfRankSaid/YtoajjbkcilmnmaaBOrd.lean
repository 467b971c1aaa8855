/- Chords in order: what the program's sort and Compact give is what the reference's inserting gives. -/
import Derived.Lib.SlicesCompact
import Derived.Lib.RowBridge
import Derived.Test.YtoajjbkcilmnmaaBWrap
import Derived.Test.YtoajjbkcilmnmaaBOrd0
import Derived.Test.YtoajjbkcilmnmaaXx6
namespace Go.Proofs.Ytoajjbkcilmnmaa.Q
open Go.RowKit Go.Proofs.Ytoajjbkcilmnmaa.X Go.Proofs.YtoajjbkcilmnmaaW.PrintWords Go.Proofs.YtoajjbkcilmnmaaW.PrintLast Go.Proofs.YtoajjbkcilmnmaaW.PrintMore
set_option linter.unusedVariables false
set_option linter.unusedSimpArgs false

theorem ordL_c (l : List S52) : ordL l = Lib.compact (l.mergeSort fun x y => !cLt y x) := rfl
theorem compactUpTo_strict (d : Array S52) (hd : ∀ i j, i < j → j < d.size → ¬ cLt d[j]! d[i]! = true) : ∀ m, m ≤ d.size →
    Strict (Lib.compactUpTo d m) ∧ (∀ x, x ∈ Lib.compactUpTo d m ↔ ∃ j, j < m ∧ d[j]! = x)
  | 0, _ => ⟨by simp [Lib.compactUpTo, Strict], by simp [Lib.compactUpTo]⟩
  | m + 1, hm => by
    obtain ⟨h1, h2⟩ := compactUpTo_strict d hd m (by omega)
    rw [Lib.compactUpTo_succ]
    by_cases hk : Lib.keeps d m = true
    · rw [if_pos hk]
      constructor
      · unfold Strict at h1 ⊢
        rw [List.pairwise_append]
        refine ⟨h1, by simp, ?_⟩
        intro x hx y hy
        obtain rfl : y = d[m]! := by simpa using hy
        obtain ⟨j, hj, rfl⟩ := (h2 x).1 hx
        have hne : m = 0 ∨ d[m]! ≠ d[m - 1]! := by simpa [Lib.keeps] using hk
        have hne : d[m]! ≠ d[m - 1]! := hne.resolve_left (by omega)
        have a := hd (m - 1) m (by omega) (by omega)
        have b : ¬ cLt d[m - 1]! d[j]! = true := by
          by_cases e : j = m - 1
          · subst e; rw [cLt_iff]; omega
          · exact hd j (m - 1) (by omega) (by omega)
        rw [cLt_iff] at a b ⊢
        have hne' : ¬ (d[m]!.f0 = d[m - 1]!.f0 ∧ d[m]!.f1 = d[m - 1]!.f1) := fun e => hne (chord_ext e.1 e.2)
        omega
      · intro x
        rw [List.mem_append, h2]
        constructor
        · rintro (⟨j, hj, rfl⟩ | hx)
          · exact ⟨j, by omega, rfl⟩
          · exact ⟨m, by omega, by simpa [eq_comm] using hx⟩
        · rintro ⟨j, hj, rfl⟩
          by_cases e : j = m
          · subst e; exact Or.inr (by simp)
          · exact Or.inl ⟨j, by omega, rfl⟩
    · rw [if_neg hk, List.append_nil]
      refine ⟨h1, fun x => ?_⟩
      rw [h2]
      have hne : ¬ (m = 0 ∨ d[m]! ≠ d[m - 1]!) := by simpa [Lib.keeps] using hk
      have e0 : m ≠ 0 := fun e => hne (Or.inl e)
      have e1 : d[m]! = d[m - 1]! := Classical.byContradiction fun e => hne (Or.inr e)
      constructor
      · rintro ⟨j, hj, rfl⟩; exact ⟨j, by omega, rfl⟩
      · rintro ⟨j, hj, rfl⟩
        by_cases e : j = m
        · subst e; exact ⟨j - 1, by omega, e1.symm⟩
        · exact ⟨j, by omega, rfl⟩
theorem ordL_strict (l : List S52) : Strict (ordL l) ∧ ∀ x, x ∈ ordL l ↔ x ∈ l := by
  have hsort : (l.mergeSort fun x y => !cLt y x).Pairwise fun x y => (!cLt y x) = true := by
    apply List.pairwise_mergeSort
    · intro a b c h1 h2
      simp only [Bool.not_eq_true', ← Bool.not_eq_true] at h1 h2 ⊢
      rw [cLt_iff] at h1 h2 ⊢
      omega
    · intro a b
      by_cases h : cLt b a = true
      · have : ¬ cLt a b = true := by rw [cLt_iff] at h ⊢; omega
        simp [h, this]
      · simp [h]
  have hmem : ∀ x, x ∈ (l.mergeSort fun x y => !cLt y x) ↔ x ∈ l := fun x => List.mem_mergeSort
  rw [ordL_c]
  generalize (l.mergeSort fun x y => !cLt y x) = z at *
  have H := compactUpTo_strict z.toArray (by
    intro i j hij hj
    have hj' : j < z.length := by simpa using hj
    have := List.pairwise_iff_getElem.1 hsort i j (by omega) hj' hij
    have e1 : z.toArray[j]! = z[j] := by simp [hj']
    have e2 : z.toArray[i]! = z[i] := by simp [show i < z.length by omega]
    rw [e1, e2]
    simpa using this) z.length (by simp)
  unfold Lib.compact
  refine ⟨H.1, fun x => ?_⟩
  rw [H.2, ← hmem]
  constructor
  · rintro ⟨j, hj, rfl⟩; simp [hj]
  · intro hx
    obtain ⟨j, hj, rfl⟩ := List.getElem_of_mem hx
    exact ⟨j, hj, by simp [hj]⟩
theorem putAll_ordL (l : List S52) : putAll [] l = ordL l := by
  obtain ⟨h1, h2⟩ := putAll_spec l [] (by simp [Strict])
  obtain ⟨h3, h4⟩ := ordL_strict l
  exact strict_unique _ _ h1 h3 (fun x => by rw [h2, h4]; simp)
theorem ordL_len (l : List S52) : (ordL l).length ≤ l.length := by
  rw [ordL_c]
  have := Lib.compact_length_le (l.mergeSort fun x y => !cLt y x)
  simpa using this
theorem ordered_eq (l : List S52) (h : l.length ≤ 1000) : impl_ordered.f l = some (ordL l) := by unfold impl_ordered.f; rw [if_pos h]
/-- A strictly ordered list is its own ordering. -/
theorem ordL_self (l : List S52) (h : Strict l) : ordL l = l := by
  obtain ⟨h3, h4⟩ := ordL_strict l
  exact strict_unique _ _ h3 h h4

end Go.Proofs.Ytoajjbkcilmnmaa.Q
