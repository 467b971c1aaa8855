/- When strings.Trim leaves nothing: all bytes are in the cutset. -/
import Derived.Lib.SlTrimSet
namespace Go.Proofs.YtlnjfbnabjgffaaDoor.Q
set_option linter.unusedVariables false
set_option linter.unusedSimpArgs false

theorem dropW_nil (p : UInt8 → Bool) : ∀ l : List UInt8, l.dropWhile p = [] ↔ ∀ b ∈ l, p b = true
  | [] => by simp
  | a :: l => by
    by_cases h : p a = true
    · simp [h, dropW_nil p l]
    · simp [h]
theorem dropW_all (p : UInt8 → Bool) : ∀ l : List UInt8, (∀ b ∈ l.dropWhile p, p b = true) → ∀ b ∈ l, p b = true
  | [], _ => by simp
  | a :: l, h => by
    by_cases ha : p a = true
    · rw [List.dropWhile_cons, if_pos ha] at h
      intro b hb
      rcases List.mem_cons.1 hb with rfl | hb
      · exact ha
      · exact dropW_all p l h b hb
    · rw [List.dropWhile_cons, if_neg ha] at h
      exact absurd (h a (List.mem_cons_self ..)) ha
theorem trimS_nil (l cs : List UInt8) : Lib.trimS l cs = [] ↔ ∀ b ∈ l, cs.contains b = true := by
  unfold Lib.trimS Lib.trimLeftS Lib.trimRightS
  rw [dropW_nil (cs.contains ·)]
  constructor
  · intro h b hb
    exact dropW_all (cs.contains ·) l.reverse (fun b hb => h b (List.mem_reverse.2 hb)) b (List.mem_reverse.2 hb)
  · intro h b hb
    have : l.reverse.dropWhile (cs.contains ·) = [] := (dropW_nil _ _).2 fun b hb => h b (List.mem_reverse.1 hb)
    rw [this] at hb
    simp at hb

end Go.Proofs.YtlnjfbnabjgffaaDoor.Q
