/- Lists of numbers: compared with themselves, marked, and held against their marks. -/
import Derived.Test.YtlnjfbnabjgffaaDoorBWrap
import Derived.Test.YtlnjfbnabjgffaaDoorXx12
import Derived.Test.YtlnjfbnabjgffaaDoorXx13
namespace Go.Proofs.YtlnjfbnabjgffaaDoor.Q
open Go.RowKit Go.Proofs.YtlnjfbnabjgffaaDoor.X Go.Proofs.YtlnjfbnabjgffaaDoorW.PrintWords Go.Proofs.YtlnjfbnabjgffaaDoorW.PrintLast Go.Proofs.YtlnjfbnabjgffaaDoorW.PrintMore
set_option linter.unusedVariables false
set_option linter.unusedSimpArgs false

theorem eqIntS_loop (l : List Int) (hl : l.length ≤ 4611686018427387904) (d : Nat) : ∀ (k : Nat) (i : Int), 0 ≤ i → i ≤ l.length → (l.length : Int) - i = d → d < k → laws_eqIntS.l0 k l l i = some true := by
  induction d with
  | zero =>
    intro k i h0 h1 hd hk
    obtain ⟨k, rfl⟩ : ∃ m, k = m + 1 := ⟨k - 1, by omega⟩
    simp only [laws_eqIntS.l0]
    rw [if_neg (by omega)]
  | succ d ih =>
    intro k i h0 h1 hd hk
    obtain ⟨k, rfl⟩ : ∃ m, k = m + 1 := ⟨k - 1, by omega⟩
    simp only [laws_eqIntS.l0]
    rw [if_pos (by omega), if_pos (by omega), if_pos (by omega), if_pos trivial, wrap_step h0 (by omega)]
    exact ih k (i + 1) (by omega) (by omega) (by omega) (by omega)
theorem eqIntS_self (k : Nat) (l : List Int) (hl : l.length ≤ 4611686018427387904) (hk : l.length < k) : laws_eqIntS.f k l l = some true := by
  unfold laws_eqIntS.f
  rw [if_pos rfl]
  exact eqIntS_loop l hl l.length k 0 (by omega) (by omega) (by omega) hk
/-- The first i elements bear the marks from m on. -/
def Marked (y : List Int) (m : Int) (i : Nat) : Prop := ∀ j : Nat, j < i → rd y j = m + j
theorem rd_set_same (x : List Int) (i : Nat) (v : Int) (hi : i < x.length) : rd (x.set i v) i = v := by
  unfold rd; simp [hi]
theorem rd_set_other (x : List Int) (i j : Nat) (v : Int) (hj : j ≠ i) : rd (x.set i v) j = rd x j := by
  unfold rd; simp [List.getElem?_set, Ne.symm hj]
theorem markIntS_loop (m0 : Int) (n : Nat) (hm : 0 ≤ m0 ∧ m0 + n ≤ 4611686018427387904) (hn : n ≤ 4611686018427387904) (d : Nat) : ∀ (k : Nat) (x : List Int) (i : Nat), x.length = n → i ≤ n → n - i = d → d < k → Marked x m0 i →
    ∃ y, laws_markIntS.l0 k x (m0 + i) i = some (m0 + n, y) ∧ y.length = n ∧ Marked y m0 n := by
  induction d with
  | zero =>
    intro k x i hx hi hd hk hM
    obtain ⟨k, rfl⟩ : ∃ m, k = m + 1 := ⟨k - 1, by omega⟩
    obtain rfl : i = n := by omega
    refine ⟨x, ?_, hx, hM⟩
    simp only [laws_markIntS.l0]
    rw [if_neg (by omega)]
  | succ d ih =>
    intro k x i hx hi hd hk hM
    obtain ⟨k, rfl⟩ : ∃ m, k = m + 1 := ⟨k - 1, by omega⟩
    simp only [laws_markIntS.l0]
    rw [if_pos (by omega), if_pos (by omega), wrap_step (by omega) (by omega), wrap_step (by omega) (by omega), show (Int.toNat (i : Int)) = i from by omega]
    have := ih k (x.set i (m0 + i)) (i + 1) (by simpa using hx) (by omega) (by omega) (by omega) (by
      intro j hj
      by_cases e : j = i
      · subst e; rw [rd_set_same _ _ _ (by omega)]
      · rw [rd_set_other _ _ _ _ e]; exact hM j (by omega))
    rw [show m0 + (i : Int) + 1 = m0 + ((i + 1 : Nat) : Int) by omega, show (i : Int) + 1 = ((i + 1 : Nat) : Int) by omega]
    exact this
theorem heldIntS_loop (m0 : Int) (n : Nat) (hm : 0 ≤ m0 ∧ m0 + n ≤ 4611686018427387904) (hn : n ≤ 4611686018427387904) (x : List Int) (hx : x.length = n) (hM : Marked x m0 n) (d : Nat) : ∀ (k : Nat) (i : Nat), i ≤ n → n - i = d → d < k →
    laws_heldIntS.l0 k x (m0 + i) i = some (m0 + n) := by
  induction d with
  | zero =>
    intro k i hi hd hk
    obtain ⟨k, rfl⟩ : ∃ m, k = m + 1 := ⟨k - 1, by omega⟩
    obtain rfl : i = n := by omega
    simp only [laws_heldIntS.l0]
    rw [if_neg (by omega)]
  | succ d ih =>
    intro k i hi hd hk
    obtain ⟨k, rfl⟩ : ∃ m, k = m + 1 := ⟨k - 1, by omega⟩
    simp only [laws_heldIntS.l0]
    rw [if_pos (by omega), if_pos (by omega), if_pos (hM i (by omega)), wrap_step (by omega) (by omega), wrap_step (by omega) (by omega)]
    have := ih k (i + 1) (by omega) (by omega) (by omega)
    rw [show m0 + (i : Int) + 1 = m0 + ((i + 1 : Nat) : Int) by omega, show (i : Int) + 1 = ((i + 1 : Nat) : Int) by omega]
    exact this
/-- A list is marked, and then held. -/
theorem mark_held (k : Nat) (l : List Int) (m : Int) (hm : 0 ≤ m ∧ m + l.length ≤ 4611686018427387904) (hk : l.length < k) :
    ∃ y, laws_markIntS.f k l m = some (m + l.length, y) ∧ y.length = l.length ∧ ∀ k', l.length < k' → laws_heldIntS.f k' y m = some (m + l.length) := by
  obtain ⟨y, h1, h2, h3⟩ := markIntS_loop m l.length hm (by omega) l.length k l 0 rfl (by omega) (by omega) hk (fun j hj => by omega)
  refine ⟨y, ?_, h2, ?_⟩
  · unfold laws_markIntS.f
    simpa using h1
  · intro k' hk'
    unfold laws_heldIntS.f
    simpa using heldIntS_loop m l.length hm (by omega) y h2 h3 l.length k' 0 (by omega) (by omega) hk'

end Go.Proofs.YtlnjfbnabjgffaaDoor.Q
