/- The chords of a star, by reference and program. -/
import Derived.Test.YtknpnhgedcggkaaBStar
import Derived.Test.YtknpnhgedcggkaaBOrd
import Derived.Test.YtknpnhgedcggkaaXx14
import Derived.Test.YtknpnhgedcggkaaXx17
namespace Go.Proofs.Ytknpnhgedcggkaa.Q
open Go.RowKit Go.Proofs.Ytknpnhgedcggkaa.X Go.Proofs.YtknpnhgedcggkaaW.PrintWords Go.Proofs.YtknpnhgedcggkaaW.PrintLast Go.Proofs.YtknpnhgedcggkaaW.PrintMore
set_option linter.unusedVariables false
set_option linter.unusedSimpArgs false

def mkC (a b : Int) : S55 := ⟨mn a b, mx a b⟩
theorem srChord_eq (a b : Int) : spec_srChord.f a b = some ((mkC a b).f0, (mkC a b).f1) := by
  unfold spec_srChord.f spec_l1Least.f spec_l1Most.f mkC mn mx
  by_cases h : a < b
  · rw [if_pos h, if_neg (by omega)]
    simp [h]
    try omega
  · rw [if_neg h]
    by_cases h2 : a > b
    · rw [if_pos h2]; simp [h]; try omega
    · rw [if_neg h2]; simp [h]; try omega
theorem implChord_eq (a b : Int) : impl_chord.f a b = some ((mkC a b).f0, (mkC a b).f1) := rfl
/-- A chord of n points. -/
def Proper (n : Int) (c : S55) : Prop := 0 ≤ c.f0 ∧ c.f0 < c.f1 ∧ c.f1 < n
theorem mkC_proper (n a b : Int) (ha : 0 ≤ a ∧ a < n) (hb : 0 ≤ b ∧ b < n) (h : a ≠ b) : Proper n (mkC a b) := by
  unfold Proper mkC mn mx
  simp only
  split <;> split <;> omega
/-- d chords of a star, from point x on. -/
def chFrom (n s : Int) : Int → Nat → List S55
  | _, 0 => []
  | x, d + 1 => mkC x ((x + s) % n) :: chFrom n s (x + 1) d
theorem chFrom_len (n s : Int) : ∀ (d : Nat) (x : Int), (chFrom n s x d).length = d
  | 0, _ => rfl
  | d + 1, x => by unfold chFrom; simp [chFrom_len n s d]
theorem shift_ne (n s x : Int) (hs : isStar n s) (hx : 0 ≤ x ∧ x < n) : x ≠ (x + s) % n := by
  unfold isStar at hs
  intro e
  have h1 : (x + s) % n = (if x + s < n then x + s else x + s - n) := by
    split
    · exact Int.emod_eq_of_lt (by omega) (by omega)
    · rename_i h
      have : (x + s) % n = (x + s - n) % n := by
        rw [show x + s - n = x + s + n * (-1) by omega, Int.add_mul_emod_self_left]
      rw [this]; exact Int.emod_eq_of_lt (by omega) (by omega)
  rw [h1] at e
  split at e <;> omega
theorem chFrom_proper (n s : Int) (hs : isStar n s) : ∀ (d : Nat) (x : Int), 0 ≤ x → x + d ≤ n → ∀ c ∈ chFrom n s x d, Proper n c
  | 0, _, _, _, c, hc => by simp [chFrom] at hc
  | d + 1, x, h0, h1, c, hc => by
    unfold chFrom at hc
    rcases List.mem_cons.1 hc with e | e
    · subst e
      have hs' := hs
      unfold isStar at hs'
      exact mkC_proper n _ _ (by omega) ⟨Int.emod_nonneg _ (by omega), Int.emod_lt_of_pos _ (by omega)⟩ (shift_ne n s x hs (by omega))
    · exact chFrom_proper n s hs d (x + 1) (by omega) (by omega) c e
/-- All chords of a star, in order. -/
def starL (n s : Int) : List S55 := ordL (chFrom n s 0 n.toNat)
theorem starL_len (n s : Int) : (starL n s).length ≤ n.toNat := by
  unfold starL
  have := ordL_len (chFrom n s 0 n.toNat)
  rw [chFrom_len] at this
  exact this
theorem starL_proper (n s : Int) (hs : isStar n s) : ∀ c ∈ starL n s, Proper n c := by
  intro c hc
  have hs' := hs
  unfold isStar at hs'
  exact chFrom_proper n s hs n.toNat 0 (by omega) (by omega) c (((ordL_strict _).2 c).1 hc)
theorem starL_strict (n s : Int) : Strict (starL n s) := (ordL_strict _).1
theorem tmod_shift (n s x : Int) (hs : isStar n s) (hx : 0 ≤ x ∧ x < n) : Int.tmod (wrap64 (x + s)) n = (x + s) % n := by
  unfold isStar at hs
  rw [wrap64_id (by omega) (by omega), Int.tmod_eq_emod_of_nonneg (by omega)]
theorem srChords_loop (n s : Int) (hs : isStar n s) (d : Nat) : ∀ (k : Nat) (acc : List S55) (x : Int), 0 ≤ x → x ≤ n → n - x = d → acc.length ≤ x → d + 62 < k →
    spec_srChords.l0 k acc x n s = some (putAll acc (chFrom n s x d)) := by
  have hs' := hs
  unfold isStar at hs'
  induction d with
  | zero =>
    intro k acc x h0 h1 hd ha hk
    obtain ⟨k, rfl⟩ : ∃ m, k = m + 1 := ⟨k - 1, by omega⟩
    simp only [spec_srChords.l0, chFrom, putAll]
    rw [if_neg (by omega)]
  | succ d ih =>
    intro k acc x h0 h1 hd ha hk
    obtain ⟨k, rfl⟩ : ∃ m, k = m + 1 := ⟨k - 1, by omega⟩
    simp only [spec_srChords.l0, chFrom, putAll]
    rw [if_pos (by omega), if_neg (by omega), tmod_shift n s x hs (by omega), srChord_eq]
    simp only [Option.bind_some]
    rw [srPut_eq _ _ _ (by omega) (by omega)]
    simp only [Option.bind_some]
    rw [wrap64_id (by omega) (by omega)]
    have := insL_len (mkC x ((x + s) % n)) acc
    exact ih k _ (x + 1) (by omega) (by omega) (by omega) (by omega) (by omega)
theorem srChords_eq (n s : Int) (hs : isStar n s) (k : Nat) (hk : 130 ≤ k) : spec_srChords.f k n s = some (starL n s) := by
  have hs' := hs
  unfold isStar at hs'
  unfold spec_srChords.f starL
  rw [← putAll_ordL]
  exact srChords_loop n s hs n.toNat k [] 0 (by omega) (by omega) (by omega) (by simp) (by omega)
theorem starChords_loop (n s : Int) (hs : isStar n s) (d : Nat) : ∀ (k : Nat) (acc : List S55) (x : Int), 0 ≤ x → x ≤ n → n - x = d → acc.length ≤ x → d < k →
    impl_Star_chords.l0 k acc n x n s = some (ordL (acc ++ chFrom n s x d)) := by
  have hs' := hs
  unfold isStar at hs'
  induction d with
  | zero =>
    intro k acc x h0 h1 hd ha hk
    obtain ⟨k, rfl⟩ : ∃ m, k = m + 1 := ⟨k - 1, by omega⟩
    simp only [impl_Star_chords.l0, chFrom, List.append_nil]
    rw [if_neg (by omega), ordered_eq acc (by omega)]
    rfl
  | succ d ih =>
    intro k acc x h0 h1 hd ha hk
    obtain ⟨k, rfl⟩ : ∃ m, k = m + 1 := ⟨k - 1, by omega⟩
    simp only [impl_Star_chords.l0, chFrom]
    rw [if_pos (by omega), if_neg (by omega), tmod_shift n s x hs (by omega), implChord_eq]
    simp only [Option.bind_some]
    rw [if_pos (by omega), wrap64_id (by omega) (by omega)]
    have := ih k (acc ++ [mkC x ((x + s) % n)]) (x + 1) (by omega) (by omega) (by omega) (by simp; omega) (by omega)
    rw [List.append_assoc] at this
    exact this
theorem starChords_eq (n s : Int) (hs : isStar n s) (k : Nat) (hk : 130 ≤ k) : impl_Star_chords.f k n s = some (starL n s) := by
  have hs' := hs
  unfold isStar at hs'
  unfold impl_Star_chords.f starL
  simpa using starChords_loop n s hs n.toNat k [] 0 (by omega) (by omega) (by omega) (by simp) (by omega)

end Go.Proofs.Ytknpnhgedcggkaa.Q
