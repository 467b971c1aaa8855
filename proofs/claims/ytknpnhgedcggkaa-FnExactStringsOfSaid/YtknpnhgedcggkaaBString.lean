/- The string of a point: reference and program run one loop; it comes back behind the least number of lines that lead all the way around, and tells each point on its way. -/
import Derived.Test.YtknpnhgedcggkaaBStar
import Derived.Test.YtknpnhgedcggkaaXx2
import Derived.Test.YtknpnhgedcggkaaXx3
namespace Go.Proofs.Ytknpnhgedcggkaa.Q
open Go.RowKit Go.Proofs.Ytknpnhgedcggkaa.X Go.Proofs.YtknpnhgedcggkaaW.PrintWords Go.Proofs.YtknpnhgedcggkaaW.PrintLast Go.Proofs.YtknpnhgedcggkaaW.PrintMore
set_option linter.unusedVariables false
set_option linter.unusedSimpArgs false

theorem mod_back (p q n : Int) (hp : 0 ≤ p) (hn : p < n) : (p + q) % n = p ↔ q % n = 0 := by
  constructor
  · intro h
    have h1 : (p + q) % n = p % n := by rw [h, Int.emod_eq_of_lt hp hn]
    have h2 := Int.emod_eq_emod_iff_emod_sub_eq_zero.1 h1
    rwa [show p + q - p = q by omega] at h2
  · intro h
    have h1 := Int.emod_eq_emod_iff_emod_sub_eq_zero (m := p + q) (n := n) (k := p) |>.2 (by rwa [show p + q - p = q by omega])
    rw [h1, Int.emod_eq_of_lt hp hn]
theorem least_of (P : Nat → Prop) [DecidablePred P] (n : Nat) (h1 : 1 ≤ n) (hn : P n) : ∃ m, 1 ≤ m ∧ m ≤ n ∧ P m ∧ ∀ i, 1 ≤ i → i < m → ¬ P i := by
  induction n using Nat.strongRecOn with
  | _ n ih =>
    by_cases h : ∃ i, 1 ≤ i ∧ i < n ∧ P i
    · obtain ⟨i, hi1, hi2, hi3⟩ := h
      obtain ⟨m, a, b, c, d⟩ := ih i hi2 hi1 hi3
      exact ⟨m, a, by omega, c, d⟩
    · exact ⟨n, h1, Nat.le_refl _, hn, fun i hi hlt hP => h ⟨i, hi, hlt, hP⟩⟩
theorem string_same : ∀ (k : Nat) (p : Int) (acc : List Int) (x n s : Int), spec_srString.l0 k p acc x n s = impl_Star_stringOf.l0 k p acc x n s
  | 0, _, _, _, _, _ => by simp only [spec_srString.l0, impl_Star_stringOf.l0]
  | k + 1, p, acc, x, n, s => by simp only [spec_srString.l0, impl_Star_stringOf.l0, string_same k]
theorem srString_same (k : Nat) (n s p : Int) : spec_srString.f k n s p = impl_Star_stringOf.f k n s p := by
  unfold spec_srString.f impl_Star_stringOf.f
  simp only [string_same]
/-- The first m points of the string of p. -/
def strL (n s p : Int) (m : Nat) : List Int := (List.range m).map fun (i : Nat) => (p + (i : Int) * s) % n
/-- m lines lead all the way around, and no fewer do. -/
def Around (n s : Int) (m : Nat) : Prop := 1 ≤ m ∧ (m : Int) ≤ n ∧ ((m : Int) * s) % n = 0 ∧ ∀ i : Nat, 1 ≤ i → i < m → ¬ ((i : Int) * s) % n = 0
theorem around_ex (n s : Int) (hn : 3 ≤ n) : ∃ m, Around n s m := by
  obtain ⟨m, h1, h2, h3, h4⟩ := least_of (fun m => ((m : Int) * s) % n = 0) n.toNat (by omega) (by
    show ((n.toNat : Int) * s) % n = 0
    rw [Int.toNat_of_nonneg (by omega)]
    exact Int.mul_emod_right n s)
  exact ⟨m, h1, by omega, h3, h4⟩
theorem strL_succ (n s p : Int) (m : Nat) : strL n s p (m + 1) = strL n s p m ++ [(p + (m : Int) * s) % n] := by
  unfold strL; rw [List.range_succ, List.map_append]; rfl
theorem strL_len (n s p : Int) (m : Nat) : (strL n s p m).length = m := by unfold strL; simp
theorem stringOf_loop (n s p : Int) (m : Nat) (hs : isStar n s) (hp : 0 ≤ p ∧ p < n) (hA : Around n s m) (d : Nat) : ∀ (k j : Nat), 1 ≤ j → j ≤ m → m - j = d → d < k →
    impl_Star_stringOf.l0 k p (strL n s p j) ((p + (j : Int) * s) % n) n s = some (strL n s p m) := by
  unfold isStar at hs
  obtain ⟨a1, a2, a3, a4⟩ := hA
  induction d with
  | zero =>
    intro k j h1 h2 hd hk
    obtain ⟨k, rfl⟩ : ∃ t, k = t + 1 := ⟨k - 1, by omega⟩
    obtain rfl : j = m := by omega
    simp only [impl_Star_stringOf.l0]
    rw [if_pos ((mod_back p _ n hp.1 hp.2).2 a3)]
  | succ d ih =>
    intro k j h1 h2 hd hk
    obtain ⟨k, rfl⟩ : ∃ t, k = t + 1 := ⟨k - 1, by omega⟩
    simp only [impl_Star_stringOf.l0]
    have h3 := a4 j h1 (by omega)
    have b1 := Int.emod_nonneg (p + (j : Int) * s) (show n ≠ 0 by omega)
    have b2 := Int.emod_lt_of_pos (p + (j : Int) * s) (show 0 < n by omega)
    rw [if_neg (fun e => h3 ((mod_back p _ n hp.1 hp.2).1 e)), if_pos (by rw [strL_len]; omega), if_neg (by omega), wrap64_id (by omega) (by omega)]
    have e : Int.tmod ((p + (j : Int) * s) % n + s) n = (p + ((j + 1 : Nat) : Int) * s) % n := by
      rw [Int.tmod_eq_emod_of_nonneg (by omega), Int.emod_add_emod]
      congr 1
      rw [Int.natCast_add, Int.add_mul]
      omega
    rw [e, ← strL_succ]
    exact ih k (j + 1) (by omega) (by omega) (by omega) (by omega)
theorem stringOf_eq (n s p : Int) (m : Nat) (hs : isStar n s) (hp : 0 ≤ p ∧ p < n) (hA : Around n s m) (k : Nat) (hk : 61 ≤ k) : impl_Star_stringOf.f k n s p = some (strL n s p m) := by
  have hs' := hs
  unfold isStar at hs'
  have hm := hA.2.1
  have hm1 := hA.1
  unfold impl_Star_stringOf.f
  rw [if_neg (by omega), wrap64_id (by omega) (by omega)]
  have e : Int.tmod (p + s) n = (p + ((1 : Nat) : Int) * s) % n := by
    rw [Int.tmod_eq_emod_of_nonneg (by omega)]
    congr 1
    omega
  have e1 : ([p] : List Int) = strL n s p 1 := by
    unfold strL
    simp
    rw [Int.emod_eq_of_lt hp.1 hp.2]
  rw [e, e1]
  exact stringOf_loop n s p m hs hp hA (m - 1) k 1 (by omega) (by omega) rfl (by omega)
theorem srString_eq (n s p : Int) (m : Nat) (hs : isStar n s) (hp : 0 ≤ p ∧ p < n) (hA : Around n s m) (k : Nat) (hk : 61 ≤ k) : spec_srString.f k n s p = some (strL n s p m) := by
  rw [srString_same]; exact stringOf_eq n s p m hs hp hA k hk

end Go.Proofs.Ytknpnhgedcggkaa.Q
