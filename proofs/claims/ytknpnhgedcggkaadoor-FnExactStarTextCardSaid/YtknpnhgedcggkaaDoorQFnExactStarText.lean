/- StarText: both tell a star by its two numbers in decimal. -/
import Derived.Test.YtknpnhgedcggkaaDoorBBase
import Derived.Test.YtknpnhgedcggkaaDoorXx1
import Derived.Test.YtknpnhgedcggkaaDoorXx2
import Derived.Test.YtknpnhgedcggkaaDoorXx3
namespace Go.Proofs.YtknpnhgedcggkaaDoor.Q
open Go.RowKit Go.Proofs.YtknpnhgedcggkaaDoor.X Go.Proofs.YtknpnhgedcggkaaDoorW.PrintWords Go.Proofs.YtknpnhgedcggkaaDoorW.PrintLast Go.Proofs.YtknpnhgedcggkaaDoorW.PrintMore
set_option linter.unusedVariables false
set_option linter.unusedSimpArgs false

/-- The digits of a number below a hundred. -/
def dd (n : Nat) : List UInt8 := if n < 10 then [UInt8.ofNat (48 + n)] else [UInt8.ofNat (48 + n / 10), UInt8.ofNat (48 + n % 10)]
theorem dd_eq (n : Nat) (h : n < 100) : Lib.decDigits n = dd n := by
  unfold dd
  rw [Lib.decDigits]
  by_cases h1 : n < 10
  · rw [dif_pos h1, if_pos h1]
  · rw [dif_neg h1, if_neg h1, Lib.decDigits, dif_pos (by omega)]
    rfl
theorem num_dd : ∀ n : Nat, n < 100 → spec_l1Num.f 10 (n : Int) = some ⟨(dd n).toArray⟩ := by decide +kernel
theorem num_all (n : Nat) (h : n < 100) : spec_l1Num.f 10 (n : Int) = some ⟨(Lib.decDigits n).toArray⟩ := by
  rw [dd_eq n h]; exact num_dd n h
theorem num_len (n : Nat) (h : n < 100) : (Lib.decDigits n).length ≤ 2 := by
  rw [dd_eq n h]; unfold dd; split <;> simp
theorem num_eq (n : Int) (h : 0 ≤ n ∧ n < 100) : spec_l1Num.f 10 n = some ⟨(Lib.decDigits n.toNat).toArray⟩ ∧ strconv_Itoa.f n = some ⟨(Lib.decDigits n.toNat).toArray⟩ ∧ (⟨(Lib.decDigits n.toNat).toArray⟩ : ByteArray).size ≤ 2 := by
  have h1 := num_all n.toNat (by omega)
  rw [Int.toNat_of_nonneg h.1] at h1
  refine ⟨h1, by unfold strconv_Itoa.f; rw [if_pos h], ?_⟩
  show (Lib.decDigits n.toNat).toArray.size ≤ 2
  rw [List.size_toArray]
  exact num_len n.toNat (by omega)
theorem starText_both (n s : Int) : ∃ r : ByteArray × Bool, spec_StarText.f 10 n s = some r ∧ impl_StarText.f n s = some r := by
  unfold spec_StarText.f impl_StarText.f spec_srGood.f impl_IsStar.f
  simp only [srPoints_eq, isCircle_eq, Option.bind_some, l1In_eq, within_eq]
  by_cases hn : 3 ≤ n ∧ n ≤ 60
  · have hw : wrap64 (n - 1) = n - 1 := wrap64_id (by omega) (by omega)
    simp only [decide_eq_true hn, if_true, hw, Option.bind_some]
    by_cases hs : 1 ≤ s ∧ s ≤ n - 1
    · obtain ⟨a1, a2, a3⟩ := num_eq n (by omega)
      obtain ⟨b1, b2, b3⟩ := num_eq s (by omega)
      unfold spec_srText.f
      simp only [decide_eq_true hs, if_true, a1, a2, b1, b2, Option.bind_some]
      generalize (⟨(Lib.decDigits n.toNat).toArray⟩ : ByteArray) = x at a3
      generalize (⟨(Lib.decDigits s.toNat).toArray⟩ : ByteArray) = y at b3
      have e1 : (⟨#[123]⟩ : ByteArray).size = 1 := rfl
      have e2 : (⟨#[47]⟩ : ByteArray).size = 1 := rfl
      have c1 : 1 + x.size ≤ 9223372036854775807 := by omega
      have c2 : ((⟨#[123]⟩ : ByteArray) ++ x).size + 1 ≤ 9223372036854775807 := by rw [ByteArray.size_append, e1]; omega
      have c3 : (((⟨#[123]⟩ : ByteArray) ++ x) ++ (⟨#[47]⟩ : ByteArray)).size + y.size ≤ 9223372036854775807 := by rw [ByteArray.size_append, ByteArray.size_append, e1, e2]; omega
      have c4 : ((((⟨#[123]⟩ : ByteArray) ++ x) ++ (⟨#[47]⟩ : ByteArray)) ++ y).size + 1 ≤ 9223372036854775807 := by rw [ByteArray.size_append, ByteArray.size_append, ByteArray.size_append, e1, e2]; omega
      simp only [if_pos c1, if_pos c2, if_pos c3, if_pos c4, Option.bind_some]
      exact ⟨_, rfl, rfl⟩
    · simp only [decide_eq_false hs]
      exact ⟨(⟨#[]⟩, false), by simp, by simp⟩
  · simp only [decide_eq_false hn]
    exact ⟨(⟨#[]⟩, false), by simp, by simp⟩
theorem FnExactStarText : ∀ (a0_0 : Int) (a0_1 : Int), (Lit.int .i64 a0_0).wf = true → (Lit.int .i64 a0_1).wf = true → ∃ k, laws_FnExactStarText.f k a0_0 a0_1 = some true := by
  intro n s _ _
  obtain ⟨r, h1, h2⟩ := starText_both n s
  refine ⟨10, ?_⟩
  unfold laws_FnExactStarText.f laws_toStar.f
  simp only [Option.bind_some, h1, h2]
  simp

end Go.Proofs.YtknpnhgedcggkaaDoor.Q
