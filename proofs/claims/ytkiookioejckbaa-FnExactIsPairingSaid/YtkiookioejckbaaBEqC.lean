/- A list of chords is equal to itself. -/
import Derived.Test.YtkiookioejckbaaBWrap
import Derived.Test.YtkiookioejckbaaXx7
namespace Go.Proofs.Ytkiookioejckbaa.Q
open Go.RowKit Go.Proofs.Ytkiookioejckbaa.X Go.Proofs.YtkiookioejckbaaW.PrintWords Go.Proofs.YtkiookioejckbaaW.PrintLast Go.Proofs.YtkiookioejckbaaW.PrintMore
set_option linter.unusedVariables false
set_option linter.unusedSimpArgs false

theorem eqChord_self (a b : Int) : laws_eqChord.f a b a b = some true := by unfold laws_eqChord.f; simp
theorem eqChordS_loop (l : List S52) (hl : l.length ≤ 4611686018427387904) (d : Nat) : ∀ (k : Nat) (i : Int), 0 ≤ i → i ≤ l.length → (l.length : Int) - i = d → d < k → laws_eqChordS.l0 k l l i = some true := by
  induction d with
  | zero =>
    intro k i h0 h1 hd hk
    obtain ⟨k, rfl⟩ : ∃ m, k = m + 1 := ⟨k - 1, by omega⟩
    simp only [laws_eqChordS.l0]
    rw [if_neg (by omega)]
  | succ d ih =>
    intro k i h0 h1 hd hk
    obtain ⟨k, rfl⟩ : ∃ m, k = m + 1 := ⟨k - 1, by omega⟩
    simp only [laws_eqChordS.l0]
    rw [if_pos (by omega), if_pos (by omega), if_pos (by omega), eqChord_self, wrap64_id (by omega) (by omega)]
    simp only [Option.bind_some, if_true]
    exact ih k (i + 1) (by omega) (by omega) (by omega) (by omega)
theorem eqChordS_self (k : Nat) (l : List S52) (hl : l.length ≤ 4611686018427387904) (hk : l.length < k) : laws_eqChordS.f k l l = some true := by
  unfold laws_eqChordS.f
  rw [if_pos rfl]
  exact eqChordS_loop l hl l.length k 0 (by omega) (by omega) (by omega) hk

end Go.Proofs.Ytkiookioejckbaa.Q
