/- Chords of the laws as chords of the program. -/
import Derived.Test.YtkiookioejckbaaBWrap
import Derived.Test.YtkiookioejckbaaXx2
import Derived.Test.YtkiookioejckbaaXx4
namespace Go.Proofs.Ytkiookioejckbaa.Q
open Go.RowKit Go.Proofs.Ytkiookioejckbaa.X Go.Proofs.YtkiookioejckbaaW.PrintWords Go.Proofs.YtkiookioejckbaaW.PrintLast Go.Proofs.YtkiookioejckbaaW.PrintMore
set_option linter.unusedVariables false
set_option linter.unusedSimpArgs false

def conv (l : List S50) : List S52 := l.map fun x => ⟨x.f0, x.f1⟩
theorem conv_len (l : List S50) : (conv l).length = l.length := by unfold conv; simp
theorem rdL_append (l m : List S50) (x : S50) : rd_T50 (l ++ x :: m) (l.length : Int) = x := by
  unfold rd_T50
  simp
theorem toChordS_loop (m : List S50) : ∀ (k : Nat) (pre : List S50), pre.length + m.length ≤ 1000000000 → m.length < k →
    laws_toChordS.l0 k (pre ++ m) (conv pre ++ List.replicate m.length z52) pre.length = some (conv (pre ++ m)) := by
  induction m with
  | nil =>
    intro k pre hl hk
    obtain ⟨k, rfl⟩ : ∃ t, k = t + 1 := ⟨k - 1, by omega⟩
    simp only [laws_toChordS.l0, List.append_nil, List.length_nil, List.replicate_zero]
    rw [if_neg (by omega)]
  | cons x m ih =>
    intro k pre hl hk
    obtain ⟨k, rfl⟩ : ∃ t, k = t + 1 := ⟨k - 1, by omega⟩
    simp only [List.length_cons] at hl hk
    have hlen : ((pre ++ x :: m).length : Int) = pre.length + m.length + 1 := by simp; omega
    have hlen2 : ((conv pre ++ List.replicate (x :: m).length z52).length : Int) = pre.length + m.length + 1 := by simp [conv_len]; omega
    simp only [laws_toChordS.l0]
    rw [if_pos (by omega), if_pos (by omega), rdL_append]
    unfold laws_toChord.f
    simp only [Option.bind_some]
    rw [if_pos (by omega), wrap64_id (by omega) (by omega), Int.toNat_natCast]
    have e : (conv pre ++ List.replicate (x :: m).length z52).set pre.length ⟨x.f0, x.f1⟩ = conv (pre ++ [x]) ++ List.replicate m.length z52 := by
      rw [List.length_cons, List.replicate_succ]
      conv => lhs; arg 2; rw [← conv_len pre]
      rw [List.set_append_right _ _ (Nat.le_refl _), Nat.sub_self]
      unfold Q.conv
      simp
    rw [e]
    have IH := ih k (pre ++ [x]) (by simp; omega) (by omega)
    simp only [List.append_assoc, List.cons_append, List.nil_append] at IH ⊢
    have hpl : (((pre ++ [x]).length : Nat) : Int) = (pre.length : Int) + 1 := by simp
    rw [hpl] at IH
    exact IH
theorem toChordS_eq (l : List S50) (hl : l.length ≤ 1000000000) (k : Nat) (hk : l.length < k) : laws_toChordS.f k l = some (conv l) := by
  unfold laws_toChordS.f
  rw [if_pos (by omega), if_pos (by omega), Int.toNat_natCast]
  simpa [conv] using toChordS_loop l k [] (by simpa using hl) hk
theorem szChordS_eq (l : List S50) (hl : l.length ≤ 9223372036854775807) : laws_szChordS.f l 1048576 = some (if l.length ≤ 1048576 then 1048576 - (l.length : Int) else -1) := by
  unfold laws_szChordS.f
  rw [wrap64_id (by omega) (by omega)]
  by_cases h : l.length ≤ 1048576
  · rw [if_neg (by omega), if_pos h]
  · rw [if_pos (by omega), if_neg h]

end Go.Proofs.Ytkiookioejckbaa.Q
