/- Lists of chords: compared with themselves, marked, and held against their marks. -/
import Derived.Test.YtkiookioejckbaaBWrap
import Derived.Test.YtkiookioejckbaaBOrd0
import Derived.Test.YtkiookioejckbaaBEqC
import Derived.Test.YtkiookioejckbaaXx15
namespace Go.Proofs.Ytkiookioejckbaa.Q
open Go.RowKit Go.Proofs.Ytkiookioejckbaa.X Go.Proofs.YtkiookioejckbaaW.PrintWords Go.Proofs.YtkiookioejckbaaW.PrintLast Go.Proofs.YtkiookioejckbaaW.PrintMore
set_option linter.unusedVariables false
set_option linter.unusedSimpArgs false

def MarkedC (y : List S52) (m : Int) (i : Nat) : Prop := ∀ j : Nat, j < i → (rd_T52 y j).f0 = m + 2 * j ∧ (rd_T52 y j).f1 = m + 2 * j + 1
theorem rdC_set_same (x : List S52) (i : Nat) (v : S52) (hi : i < x.length) : rd_T52 (x.set i v) i = v := by
  unfold rd_T52; simp [hi]
theorem rdC_set_other (x : List S52) (i j : Nat) (v : S52) (hj : j ≠ i) : rd_T52 (x.set i v) j = rd_T52 x j := by
  unfold rd_T52; simp [List.getElem?_set, Ne.symm hj]
theorem markChordS_loop (m0 : Int) (n : Nat) (hm : 0 ≤ m0 ∧ m0 + 2 * n ≤ 4611686018427387904) (hn : n ≤ 4611686018427387904) (d : Nat) : ∀ (k : Nat) (x : List S52) (i : Nat), x.length = n → i ≤ n → n - i = d → d < k → MarkedC x m0 i →
    ∃ y, laws_markChordS.l0 k x (m0 + 2 * i) i = some (m0 + 2 * n, y) ∧ y.length = n ∧ MarkedC y m0 n := by
  induction d with
  | zero =>
    intro k x i hx hi hd hk hM
    obtain ⟨k, rfl⟩ : ∃ m, k = m + 1 := ⟨k - 1, by omega⟩
    obtain rfl : i = n := by omega
    refine ⟨x, ?_, hx, hM⟩
    simp only [laws_markChordS.l0]
    rw [if_neg (by omega)]
  | succ d ih =>
    intro k x i hx hi hd hk hM
    obtain ⟨k, rfl⟩ : ∃ m, k = m + 1 := ⟨k - 1, by omega⟩
    simp only [laws_markChordS.l0]
    rw [if_pos (by omega), if_pos (by omega), wrap_step (by omega) (by omega), wrap_step (by omega) (by omega), wrap_step (by omega) (by omega), show (Int.toNat (i : Int)) = i from by omega]
    simp only [Option.bind_some]
    rw [rdC_set_same _ _ _ (by omega), List.set_set]
    have := ih k (x.set i ⟨m0 + 2 * i, m0 + 2 * i + 1⟩) (i + 1) (by simpa using hx) (by omega) (by omega) (by omega) (by
      intro j hj
      by_cases e : j = i
      · subst e; rw [rdC_set_same _ _ _ (by omega)]; exact ⟨rfl, rfl⟩
      · rw [rdC_set_other _ _ _ _ e]; exact hM j (by omega))
    rw [show m0 + 2 * (i : Int) + 1 + 1 = m0 + 2 * ((i + 1 : Nat) : Int) by omega, show (i : Int) + 1 = ((i + 1 : Nat) : Int) by omega]
    exact this
theorem heldChordS_loop (m0 : Int) (n : Nat) (hm : 0 ≤ m0 ∧ m0 + 2 * n ≤ 4611686018427387904) (hn : n ≤ 4611686018427387904) (x : List S52) (hx : x.length = n) (hM : MarkedC x m0 n) (d : Nat) : ∀ (k : Nat) (i : Nat), i ≤ n → n - i = d → d < k →
    laws_heldChordS.l0 k x (m0 + 2 * i) i = some (m0 + 2 * n) := by
  induction d with
  | zero =>
    intro k i hi hd hk
    obtain ⟨k, rfl⟩ : ∃ m, k = m + 1 := ⟨k - 1, by omega⟩
    obtain rfl : i = n := by omega
    simp only [laws_heldChordS.l0]
    rw [if_neg (by omega)]
  | succ d ih =>
    intro k i hi hd hk
    obtain ⟨k, rfl⟩ : ∃ m, k = m + 1 := ⟨k - 1, by omega⟩
    simp only [laws_heldChordS.l0]
    have hMi := hM i (by omega)
    rw [if_pos (by omega), if_pos (by omega), wrap_step (by omega) (by omega), wrap_step (by omega) (by omega), wrap_step (by omega) (by omega), if_pos hMi.1, if_pos hMi.2]
    have := ih k (i + 1) (by omega) (by omega) (by omega)
    rw [show m0 + 2 * (i : Int) + 1 + 1 = m0 + 2 * ((i + 1 : Nat) : Int) by omega, show (i : Int) + 1 = ((i + 1 : Nat) : Int) by omega]
    exact this
/-- A list of chords is marked, and then held. -/
theorem mark_heldC (k : Nat) (l : List S52) (m : Int) (hm : 0 ≤ m ∧ m + 2 * l.length ≤ 4611686018427387904) (hk : l.length < k) :
    ∃ y, laws_markChordS.f k l m = some (m + 2 * l.length, y) ∧ y.length = l.length ∧ ∀ k', l.length < k' → laws_heldChordS.f k' y m = some (m + 2 * l.length) := by
  obtain ⟨y, h1, h2, h3⟩ := markChordS_loop m l.length hm (by omega) l.length k l 0 rfl (by omega) (by omega) hk (fun j hj => by omega)
  refine ⟨y, ?_, h2, ?_⟩
  · unfold laws_markChordS.f
    simpa using h1
  · intro k' hk'
    unfold laws_heldChordS.f
    simpa using heldChordS_loop m l.length hm (by omega) y h2 h3 l.length k' 0 (by omega) (by omega) hk'

end Go.Proofs.Ytkiookioejckbaa.Q
