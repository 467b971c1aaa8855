/- TurnedStar: reference and program turn the same chords, and the result is memory of its own. -/
import Derived.Test.YtknpnhgedcggkaaBStar
import Derived.Test.YtknpnhgedcggkaaBAsk
import Derived.Test.YtknpnhgedcggkaaBOrd
import Derived.Test.YtknpnhgedcggkaaBChords
import Derived.Test.YtknpnhgedcggkaaBMarks
import Derived.Test.YtknpnhgedcggkaaBMarksC
import Derived.Test.YtknpnhgedcggkaaBTurn
import Derived.Test.YtknpnhgedcggkaaXx2
import Derived.Test.YtknpnhgedcggkaaXx26
import Derived.Test.YtknpnhgedcggkaaXx28
import Derived.Test.YtknpnhgedcggkaaXx29
namespace Go.Proofs.Ytknpnhgedcggkaa.Q
open Go.RowKit Go.Proofs.Ytknpnhgedcggkaa.X Go.Proofs.YtknpnhgedcggkaaW.PrintWords Go.Proofs.YtknpnhgedcggkaaW.PrintLast Go.Proofs.YtknpnhgedcggkaaW.PrintMore
set_option linter.unusedVariables false
set_option linter.unusedSimpArgs false

theorem turnedStar_loop (n t s : Int) (hn : 3 ≤ n ∧ n ≤ 60) (ht : 0 ≤ t ∧ t < n) (m : List S55) : ∀ (k : Nat) (pre acc : List S55), (∀ x ∈ m, Proper n x) → pre.length + m.length ≤ 300 → acc.length ≤ pre.length → m.length + 302 < k →
    spec_TurnedStar.l0 k t acc (pre ++ m) ((pre ++ m).length : Int) pre.length n s = some (putAll acc (m.map (turnC n t)), true) := by
  induction m with
  | nil =>
    intro k pre acc _ hl ha hk
    obtain ⟨k, rfl⟩ : ∃ t, k = t + 1 := ⟨k - 1, by omega⟩
    simp only [spec_TurnedStar.l0, List.append_nil, List.map_nil, putAll]
    rw [if_neg (by omega)]
  | cons x m ih =>
    intro k pre acc hp hl ha hk
    obtain ⟨k, rfl⟩ : ∃ t, k = t + 1 := ⟨k - 1, by omega⟩
    simp only [List.length_cons] at hl hk
    have hlen : ((pre ++ x :: m).length : Int) = pre.length + m.length + 1 := by simp; omega
    simp only [spec_TurnedStar.l0, List.map_cons, putAll]
    have hx := hp x (by simp)
    have hx' := hx
    unfold Proper at hx'
    rw [if_pos (by omega), if_pos (by omega), if_pos (by omega), if_neg (by omega), rdC_app, turn_tmod n t _ hn ht (by omega), turn_tmod n t _ hn ht (by omega), srChord_eq]
    simp only [Option.bind_some]
    rw [srPut_eq _ _ _ (by omega) (by omega)]
    simp only [Option.bind_some]
    rw [wrap64_id (by omega) (by omega)]
    have h1 := insL_len (mkC ((x.f0 + t) % n) ((x.f1 + t) % n)) acc
    have IH := ih k (pre ++ [x]) (insL (turnC n t x) acc) (fun y hy => hp y (by simp [hy])) (by simp; omega) (by simp; unfold turnC; omega) (by omega)
    simp only [List.append_assoc, List.cons_append, List.nil_append] at IH
    have hpl : (((pre ++ [x]).length : Nat) : Int) = (pre.length : Int) + 1 := by simp
    rw [hpl] at IH
    exact IH
theorem turnedStar_both (n s t : Int) : ∃ r : List S55 × Bool, r.1.length ≤ 60 ∧ ∀ k, 1000 ≤ k → spec_TurnedStar.f k n s t = some r ∧ impl_TurnedStar.f k n s t = some r := by
  unfold spec_TurnedStar.f impl_TurnedStar.f
  simp only [srAsked_eq, isPoint_eq1, Option.bind_some]
  by_cases h : isStar n s ∧ 0 ≤ t ∧ t < n
  · have hs := h.1
    unfold isStar at hs
    have h1 := starL_len n s
    refine ⟨(ordL ((starL n s).map (turnC n t)), true), ?_, fun k hk => ?_⟩
    · have := ordL_len ((starL n s).map (turnC n t))
      rw [List.length_map] at this
      simp only
      omega
    · have e1 := turnedStar_loop n t s (by omega) h.2 (starL n s) k [] [] (starL_proper n s h.1) (by simp; omega) (by simp) (by omega)
      have e2 := turned_eq n t (by omega) h.2 (starL n s) (starL_proper n s h.1) (by omega) k (by omega)
      rw [putAll_ordL] at e1
      simp only [List.nil_append, List.length_nil, Int.natCast_zero] at e1
      simp only [if_pos (decide_eq_true h), srChords_eq n s h.1 k (by omega), starChords_eq n s h.1 k (by omega), Option.bind_some, e2]
      exact ⟨e1, trivial⟩
  · refine ⟨([], false), by simp, fun k _ => ?_⟩
    simp [decide_eq_false h]
theorem FnExactTurnedStar : ∀ (a0_0 : Int) (a0_1 : Int) (a1 : Int), (Lit.int .i64 a0_0).wf = true → (Lit.int .i64 a0_1).wf = true → (Lit.int .i64 a1).wf = true → ∃ k, laws_FnExactTurnedStar.f k a0_0 a0_1 a1 = some true := by
  intro n s t _ _ _
  refine ⟨2000, ?_⟩
  obtain ⟨⟨l, b⟩, hlen, hr⟩ := turnedStar_both n s t
  simp only at hlen
  obtain ⟨y, m1, m2, m3⟩ := mark_heldC 1999 l 1 (by omega) (by omega)
  unfold laws_FnExactTurnedStar.f laws_toStar.f
  simp only [Option.bind_some, (hr 2000 (by omega)).1, (hr 2000 (by omega)).2, eqChordS_self 2000 l (by omega) (by omega), laws_FnExactTurnedStar.j0, m1, m3 1999 (by omega), (hr 1999 (by omega)).2, laws_toStar.f, eqChordS_self 1999 l (by omega) (by omega), laws_FnExactTurnedStar.j1, m3 1998 (by omega)]
  have e0 : ¬ (1 + 2 * (l.length : Int) < 0) := by omega
  simp [e0]

end Go.Proofs.Ytknpnhgedcggkaa.Q
