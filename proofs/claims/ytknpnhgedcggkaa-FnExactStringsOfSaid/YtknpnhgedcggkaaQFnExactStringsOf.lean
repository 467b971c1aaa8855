/- StringsOf: reference and program tell the same strings, and the result is memory of its own. -/
import Derived.Test.YtknpnhgedcggkaaBStar
import Derived.Test.YtknpnhgedcggkaaBGcd
import Derived.Test.YtknpnhgedcggkaaBString
import Derived.Test.YtknpnhgedcggkaaBMarksSS
import Derived.Test.YtknpnhgedcggkaaXx2
import Derived.Test.YtknpnhgedcggkaaXx8
import Derived.Test.YtknpnhgedcggkaaXx9
import Derived.Test.YtknpnhgedcggkaaXx10
namespace Go.Proofs.Ytknpnhgedcggkaa.Q
open Go.RowKit Go.Proofs.Ytknpnhgedcggkaa.X Go.Proofs.YtknpnhgedcggkaaW.PrintWords Go.Proofs.YtknpnhgedcggkaaW.PrintLast Go.Proofs.YtknpnhgedcggkaaW.PrintMore
set_option linter.unusedVariables false
set_option linter.unusedSimpArgs false

/-- The strings of the first g points. -/
def strsL (n s : Int) (m g : Nat) : List (List Int) := (List.range g).map fun (i : Nat) => strL n s (i : Int) m
theorem strsL_snoc (n s : Int) (m i : Nat) : strsL n s m (i + 1) = strsL n s m i ++ [strL n s (i : Int) m] := by
  unfold strsL
  rw [List.range_succ, List.map_append]
  rfl
theorem strsL_len (n s : Int) (m g : Nat) : (strsL n s m g).length = g := by unfold strsL; simp
theorem specStrings_loop (n s : Int) (m g : Nat) (hs : isStar n s) (hA : Around n s m) (hg : (Int.gcd n s : Nat) = g) (hgn : (g : Int) < n) (d : Nat) : ∀ (k i : Nat), i + d = g → 200 + d < k →
    spec_StringsOf.l0 k (strsL n s m i) (i : Int) n s = some (strsL n s m g, true) := by
  have hs' := hs
  unfold isStar at hs'
  induction d with
  | zero =>
    intro k i hi hk
    obtain ⟨k, rfl⟩ : ∃ t, k = t + 1 := ⟨k - 1, by omega⟩
    simp only [spec_StringsOf.l0]
    rw [common_eq k n s (by omega) (by omega) (by omega), Option.bind_some, hg, if_neg (by omega), show i = g by omega]
  | succ d ih =>
    intro k i hi hk
    obtain ⟨k, rfl⟩ : ∃ t, k = t + 1 := ⟨k - 1, by omega⟩
    have e1 : wrap64 ((i : Int) + 1) = ((i + 1 : Nat) : Int) := by rw [wrap64_id (by omega) (by omega)]; rfl
    have hl := strsL_len n s m i
    simp only [spec_StringsOf.l0]
    rw [common_eq k n s (by omega) (by omega) (by omega), Option.bind_some, hg, if_pos (by omega), srString_eq n s (i : Int) m hs ⟨by omega, by omega⟩ hA k (by omega), Option.bind_some, if_pos (by omega), ← strsL_snoc, e1]
    exact ih k (i + 1) (by omega) (by omega)
theorem implStrings_loop (n s : Int) (m g : Nat) (hs : isStar n s) (hA : Around n s m) (hgn : (g : Int) < n) (d : Nat) : ∀ (k i : Nat), i + d = g → 200 + d < k →
    impl_StringsOf.l0 k (strsL n s m i) (g : Int) (i : Int) n s = some (strsL n s m g, true) := by
  have hs' := hs
  unfold isStar at hs'
  induction d with
  | zero =>
    intro k i hi hk
    obtain ⟨k, rfl⟩ : ∃ t, k = t + 1 := ⟨k - 1, by omega⟩
    simp only [impl_StringsOf.l0]
    rw [if_neg (by omega), show i = g by omega]
  | succ d ih =>
    intro k i hi hk
    obtain ⟨k, rfl⟩ : ∃ t, k = t + 1 := ⟨k - 1, by omega⟩
    have e1 : wrap64 ((i : Int) + 1) = ((i + 1 : Nat) : Int) := by rw [wrap64_id (by omega) (by omega)]; rfl
    have hl := strsL_len n s m i
    simp only [impl_StringsOf.l0]
    rw [if_pos (by omega), stringOf_eq n s (i : Int) m hs ⟨by omega, by omega⟩ hA k (by omega), Option.bind_some, if_pos (by omega), ← strsL_snoc, e1]
    exact ih k (i + 1) (by omega) (by omega)
theorem stringsOf_both (n s : Int) : ∃ r : List (List Int) × Bool, (∀ x ∈ r.1, x.length ≤ 60) ∧ r.1.length ≤ 60 ∧ ∀ k, 1000 ≤ k → spec_StringsOf.f k n s = some r ∧ impl_StringsOf.f k n s = some r := by
  by_cases h : isStar n s
  · have h' := h
    unfold isStar at h'
    obtain ⟨m, hA⟩ := around_ex n s (by omega)
    have hm := hA.2.1
    obtain ⟨g, hg⟩ : ∃ g : Nat, (Int.gcd n s : Nat) = g := ⟨_, rfl⟩
    have hgs : (g : Int) ≤ s := by
      rw [← hg]
      exact Int.le_of_dvd (by omega) (Int.gcd_dvd_right ..)
    refine ⟨(strsL n s m g, true), ?_, by rw [strsL_len]; omega, fun k hk => ?_⟩
    · intro x hx
      unfold strsL at hx
      obtain ⟨i, _, rfl⟩ := List.mem_map.1 hx
      rw [strL_len]
      omega
    · have e1 := specStrings_loop n s m g h hA hg (by omega) g k 0 (by omega) (by omega)
      have e2 := implStrings_loop n s m g h hA (by omega) g k 0 (by omega) (by omega)
      have e0 : strsL n s m 0 = [] := rfl
      rw [e0] at e1 e2
      unfold spec_StringsOf.f impl_StringsOf.f
      rw [srGood_eq, implIsStar_eq]
      simp only [Option.bind_some, decide_eq_true h, if_true, strings_eq k n s (by omega) (by omega) (by omega), hg]
      exact ⟨e1, e2⟩
  · refine ⟨([], false), by simp, by simp, fun k hk => ?_⟩
    unfold spec_StringsOf.f impl_StringsOf.f
    rw [srGood_eq, implIsStar_eq]
    simp only [Option.bind_some, decide_eq_false h]
    exact ⟨by simp, by simp⟩
theorem FnExactStringsOf : ∀ (a0_0 : Int) (a0_1 : Int), (Lit.int .i64 a0_0).wf = true → (Lit.int .i64 a0_1).wf = true → ∃ k, laws_FnExactStringsOf.f k a0_0 a0_1 = some true := by
  intro n s _ _
  obtain ⟨K, hK⟩ : ∃ K, K = 2000 := ⟨_, rfl⟩
  refine ⟨K, ?_⟩
  obtain ⟨⟨r, b⟩, ht, hlen, hr⟩ := stringsOf_both n s
  simp only at ht hlen
  obtain ⟨y, m1, m2⟩ := mark_heldSS 60 (by omega) r ht (by omega) K (by omega)
  unfold laws_FnExactStringsOf.f laws_toStar.f
  simp only [Option.bind_some, (hr K (by omega)).1, (hr K (by omega)).2, eqSS_self 60 (by omega) r ht (by omega) K (by omega), m1, m2 K (by omega)]
  rw [if_pos ⟨trivial, trivial, by omega, trivial⟩]

end Go.Proofs.Ytknpnhgedcggkaa.Q
