/- Numbers below a hundred in decimal. -/
import Derived.Test.YtceoaondcnhaeaaDoorBWrap
import Derived.Test.YtceoaondcnhaeaaDoorXx14
import Derived.Test.YtceoaondcnhaeaaDoorXx19
namespace Go.Proofs.YtceoaondcnhaeaaDoor.Q
open Go.RowKit Go.Proofs.YtceoaondcnhaeaaDoor.X Go.Proofs.YtceoaondcnhaeaaDoorW.PrintWords Go.Proofs.YtceoaondcnhaeaaDoorW.PrintLast Go.Proofs.YtceoaondcnhaeaaDoorW.PrintMore
set_option linter.unusedVariables false
set_option linter.unusedSimpArgs false

/-- The digits of a number below a hundred. -/
def dd (n : Nat) : List UInt8 := if n < 10 then [UInt8.ofNat (48 + n)] else [UInt8.ofNat (48 + n / 10), UInt8.ofNat (48 + n % 10)]
theorem dd_eq (n : Nat) (h : n < 100) : Lib.decDigits n = dd n := by
  unfold dd
  rw [Lib.decDigits]
  by_cases h1 : n < 10
  · rw [dif_pos h1, if_pos h1]
  · rw [dif_neg h1, if_neg h1, Lib.decDigits, dif_pos (by omega)]
    rfl
theorem num_dd : ∀ n : Nat, n < 100 → spec_l1Num.f 10 (n : Int) = some ⟨(dd n).toArray⟩ := by decide +kernel
theorem num_up (n : Int) (r : ByteArray) : ∀ j, spec_l1Num.f 10 n = some r → spec_l1Num.f (10 + j) n = some r
  | 0, h => h
  | j + 1, h => spec_l1Num.mono n (10 + j) r (num_up n r j h)
theorem dd_len (n : Nat) : (dd n).length ≤ 2 := by unfold dd; split <;> simp
/-- A number's text. -/
def nt (n : Int) : ByteArray := ⟨(dd n.toNat).toArray⟩
theorem nt_size (n : Int) : (nt n).size ≤ 2 := by
  show (dd n.toNat).toArray.size ≤ 2
  rw [List.size_toArray]
  exact dd_len _
theorem num_eq (n : Int) (h : 0 ≤ n ∧ n < 100) (k : Nat) (hk : 10 ≤ k) : spec_l1Num.f k n = some (nt n) := by
  obtain ⟨j, rfl⟩ : ∃ j, k = 10 + j := ⟨k - 10, by omega⟩
  refine num_up n _ j ?_
  have h1 := num_dd n.toNat (by omega)
  rw [Int.toNat_of_nonneg h.1] at h1
  exact h1
theorem itoa_eq (n : Int) (h : 0 ≤ n ∧ n < 100) : strconv_Itoa.f n = some (nt n) := by
  unfold strconv_Itoa.f nt
  rw [if_pos h, dd_eq n.toNat (by omega)]

end Go.Proofs.YtceoaondcnhaeaaDoor.Q
