/- The greatest common divisor: reference and program run the same loop; it ends, and tells the gcd. -/
import Derived.Test.YtknpnhgedcggkaaXx7
import Derived.Test.YtknpnhgedcggkaaXx9
namespace Go.Proofs.Ytknpnhgedcggkaa.Q
open Go.RowKit Go.Proofs.Ytknpnhgedcggkaa.X Go.Proofs.YtknpnhgedcggkaaW.PrintWords Go.Proofs.YtknpnhgedcggkaaW.PrintLast Go.Proofs.YtknpnhgedcggkaaW.PrintMore
set_option linter.unusedVariables false
set_option linter.unusedSimpArgs false

theorem common_same : ∀ (k : Nat) (a b : Int), spec_srCommon.l0 k a b = impl_divisor.l0 k a b
  | 0, _, _ => by simp only [spec_srCommon.l0, impl_divisor.l0]
  | k + 1, a, b => by simp only [spec_srCommon.l0, impl_divisor.l0, common_same k]
theorem gcd_emod_swap (a b : Int) : Int.gcd b (a % b) = Int.gcd a b := by
  rw [Int.gcd_comm a b, Int.emod_def, show a - b * (a / b) = a + (-(a / b)) * b by rw [Int.sub_eq_add_neg, Int.neg_mul, Int.mul_comm b], Int.gcd_add_mul_right_right]
theorem divisor_gcd (d : Nat) : ∀ (k : Nat) (a b : Int), 0 ≤ a → 0 ≤ b → b.toNat ≤ d → d < k → impl_divisor.l0 k a b = some ((Int.gcd a b : Nat) : Int) := by
  induction d with
  | zero =>
    intro k a b ha hb hd hk
    obtain ⟨k, rfl⟩ : ∃ m, k = m + 1 := ⟨k - 1, by omega⟩
    obtain rfl : b = 0 := by omega
    simp only [impl_divisor.l0]
    rw [if_neg (by omega)]
    simp [Int.gcd]
    omega
  | succ d ih =>
    intro k a b ha hb hd hk
    obtain ⟨k, rfl⟩ : ∃ m, k = m + 1 := ⟨k - 1, by omega⟩
    simp only [impl_divisor.l0]
    by_cases h : b > 0
    · rw [if_pos h, if_neg (by omega)]
      have hm : Int.tmod a b = a % b := Int.tmod_eq_emod_of_nonneg ha
      rw [hm]
      have h1 := Int.emod_nonneg a (show b ≠ 0 by omega)
      have h2 := Int.emod_lt_of_pos a h
      rw [ih k b (a % b) hb h1 (by omega) (by omega)]
      rw [gcd_emod_swap]
    · obtain rfl : b = 0 := by omega
      rw [if_neg h]
      simp [Int.gcd]
      omega
theorem divisor_eq (k : Nat) (a b : Int) (ha : 0 ≤ a) (hb : 0 ≤ b) (hk : b.toNat < k) : impl_divisor.f k a b = some ((Int.gcd a b : Nat) : Int) := by
  unfold impl_divisor.f; exact divisor_gcd b.toNat k a b ha hb (Nat.le_refl _) hk
theorem common_eq (k : Nat) (a b : Int) (ha : 0 ≤ a) (hb : 0 ≤ b) (hk : b.toNat < k) : spec_srCommon.f k a b = some ((Int.gcd a b : Nat) : Int) := by
  unfold spec_srCommon.f; rw [common_same]; exact divisor_gcd b.toNat k a b ha hb (Nat.le_refl _) hk
theorem strings_eq (k : Nat) (a b : Int) (ha : 0 ≤ a) (hb : 0 ≤ b) (hk : b.toNat < k) : impl_Star_strings.f k a b = some ((Int.gcd a b : Nat) : Int) := by
  unfold impl_Star_strings.f; rw [divisor_eq k a b ha hb hk]; rfl

end Go.Proofs.Ytknpnhgedcggkaa.Q
