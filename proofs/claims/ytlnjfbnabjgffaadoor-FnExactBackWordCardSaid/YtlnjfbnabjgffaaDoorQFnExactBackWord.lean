/- BackWord: reference and program walk the word from its end. -/
import Derived.Test.YtlnjfbnabjgffaaDoorBWrap
import Derived.Test.YtlnjfbnabjgffaaDoorBWord
import Derived.Test.YtlnjfbnabjgffaaDoorBMirror
import Derived.Test.YtlnjfbnabjgffaaDoorXx2
import Derived.Test.YtlnjfbnabjgffaaDoorXx52
namespace Go.Proofs.YtlnjfbnabjgffaaDoor.Q
open Go.RowKit Go.Proofs.YtlnjfbnabjgffaaDoor.X Go.Proofs.YtlnjfbnabjgffaaDoorW.PrintWords Go.Proofs.YtlnjfbnabjgffaaDoorW.PrintLast Go.Proofs.YtlnjfbnabjgffaaDoorW.PrintMore
set_option linter.unusedVariables false
set_option linter.unusedSimpArgs false

theorem swL_rev (w : ByteArray) (d i : Nat) (h : d + i + 1 = w.size) : (swL w).reverse.getD d 0 = ((swN (byN w i) : Nat) : Int) := by
  rw [← swL_get w i (by omega), List.getD_eq_getElem?_getD, List.getD_eq_getElem?_getD, List.getElem?_reverse (by rw [swL_len]; omega), swL_len, show w.size - 1 - d = i by omega]
theorem back_loop (w : ByteArray) (hw : w.size ≤ 1000) (hb : ∀ b ∈ w.data.toList, okB b = true) (e : Nat) : ∀ (k d : Nat) (x : Int), d + e = w.size → x = (w.size : Int) - 1 - d → e < k → spec_BackWord.l0 k w (msS (swL w).reverse d) x = some (strOfNums (swL w).reverse, true) := by
  induction e with
  | zero =>
    intro k d x hi hx hk
    obtain ⟨k, rfl⟩ : ∃ t, k = t + 1 := ⟨k - 1, by omega⟩
    simp only [spec_BackWord.l0]
    rw [if_neg (by omega), show d = (swL w).reverse.length by rw [List.length_reverse, swL_len]; omega]
    unfold msS
    rw [List.take_length]
  | succ e ih =>
    intro k d x hi hx hk
    obtain ⟨k, rfl⟩ : ∃ t, k = t + 1 := ⟨k - 1, by omega⟩
    have IH := ih k (d + 1) (x - 1) (by omega) (by omega) (by omega)
    have hsz := msS_size (swL w).reverse d
    have hn := msS_next (swL w).reverse d (by rw [List.length_reverse, swL_len]; omega)
    obtain ⟨i, hi2⟩ : ∃ i, d + i + 1 = w.size := ⟨e, by omega⟩
    obtain rfl : x = (i : Int) := by omega
    rw [swL_rev w d i hi2] at hn
    have ho := other_eq w hb i (by omega)
    have h1 : (⟨#[UInt8.ofNat ((swN (byN w i) : Nat) : Int).toNat]⟩ : ByteArray).size = 1 := rfl
    simp only [spec_BackWord.l0]
    rw [if_pos (by omega), if_pos (by omega), if_pos (by omega), ho, Option.bind_some, if_pos (by rw [h1]; omega), wrap64_id (x := (i : Int) - 1) (by omega) (by omega), ← hn]
    exact IH
theorem back_both (g : Int) (w : ByteArray) : ∃ r : ByteArray × Bool, ∀ k, 2000 ≤ k → spec_BackWord.f k g w = some r ∧ impl_BackWord.f g w = some r := by
  by_cases h : askedB g w = true
  · obtain ⟨hg, hw, hb⟩ := asked_of h
    refine ⟨(strOfNums (swL w).reverse, true), fun k hk => ⟨?_, ?_⟩⟩
    · unfold spec_BackWord.f
      rw [paAsked_eq g w k (by omega), Option.bind_some, if_pos h]
      have h0 : (⟨#[]⟩ : ByteArray) = msS (swL w).reverse 0 := rfl
      rw [h0, wrap64_id (x := (w.size : Int) - 1) (by omega) (by omega)]
      exact back_loop w (by omega) hb w.size k 0 _ (by omega) (by omega) (by omega)
    · unfold impl_BackWord.f
      rw [isWord_eq, Option.bind_some, if_pos h, if_pos (by omega)]
  · refine ⟨(⟨#[]⟩, false), fun k hk => ⟨?_, ?_⟩⟩
    · unfold spec_BackWord.f
      rw [paAsked_eq g w k (by omega), Option.bind_some, if_neg h]
    · unfold impl_BackWord.f
      rw [isWord_eq, Option.bind_some, if_neg h]
theorem FnExactBackWord : ∀ (a0 : Int) (a1 : ByteArray), (Lit.int .i64 a0).wf = true → a1.size ≤ 140737488351232 → ∃ k, laws_FnExactBackWord.f k a0 a1 = some true := by
  intro g w _ _
  obtain ⟨r, hr⟩ := back_both g w
  refine ⟨2000, ?_⟩
  unfold laws_FnExactBackWord.f
  by_cases h : (w.size : Int) > 1048576
  · rw [if_pos h]
  · rw [if_neg h, (hr 2000 (by omega)).1, (hr 2000 (by omega)).2]
    simp

end Go.Proofs.YtlnjfbnabjgffaaDoor.Q
