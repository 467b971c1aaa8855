/- OneString: reference and program tell the same steps, and the result is memory of its own. -/
import Derived.Test.YtknpnhgedcggkaaBStar
import Derived.Test.YtknpnhgedcggkaaBMarks
import Derived.Test.YtknpnhgedcggkaaBGcd
import Derived.Test.YtknpnhgedcggkaaXx7
import Derived.Test.YtknpnhgedcggkaaXx8
namespace Go.Proofs.Ytknpnhgedcggkaa.Q
open Go.RowKit Go.Proofs.Ytknpnhgedcggkaa.X Go.Proofs.YtknpnhgedcggkaaW.PrintWords Go.Proofs.YtknpnhgedcggkaaW.PrintLast Go.Proofs.YtknpnhgedcggkaaW.PrintMore
set_option linter.unusedVariables false
set_option linter.unusedSimpArgs false

theorem oneString_loop (n : Int) (hn : 3 ≤ n ∧ n ≤ 60) (d : Nat) : ∀ (k : Nat) (acc : List Int) (x : Int), 1 ≤ x → x ≤ n / 2 + 1 → acc.length ≤ x → n / 2 + 1 - x = d → d + 62 < k →
    spec_OneString.l0 k n acc x = some (acc ++ nwList (impl_OneString.q n) x d, true) := by
  induction d with
  | zero =>
    intro k acc x h1 h2 h3 hd hk
    obtain ⟨k, rfl⟩ : ∃ m, k = m + 1 := ⟨k - 1, by omega⟩
    simp only [spec_OneString.l0, nwList]
    rw [wrap64_id (by omega) (by omega), if_neg (by omega)]
    simp
  | succ d ih =>
    intro k acc x h1 h2 h3 hd hk
    obtain ⟨k, rfl⟩ : ∃ m, k = m + 1 := ⟨k - 1, by omega⟩
    simp only [spec_OneString.l0, nwList]
    rw [wrap64_id (x := 2 * x) (by omega) (by omega), if_pos (by omega), wrap64_id (by omega) (by omega), common_eq k n x (by omega) (by omega) (by omega)]
    simp only [Option.bind_some]
    unfold impl_OneString.q
    by_cases e : ((Int.gcd n x : Nat) : Int) = 1
    · rw [if_pos e, if_pos (by omega), if_pos (beq_iff_eq.2 e)]
      rw [ih k (acc ++ [x]) (x + 1) (by omega) (by omega) (by simp; omega) (by omega) (by omega)]
      unfold impl_OneString.q
      simp
    · rw [if_neg e, if_neg (by simpa using e)]
      rw [ih k acc (x + 1) (by omega) (by omega) (by omega) (by omega) (by omega)]
      unfold impl_OneString.q
      rfl
theorem one_nwList_len (q : Int → Bool) : ∀ (m : Nat) (x : Int), (nwList q x m).length ≤ m
  | 0, _ => by simp [nwList]
  | m + 1, x => by
    simp only [nwList]
    have := one_nwList_len q m (x + 1)
    split
    · simp; omega
    · omega
theorem FnExactOneString : ∀ (a0 : Int), (Lit.int .i64 a0).wf = true → ∃ k, laws_FnExactOneString.f k a0 = some true := by
  intro n _
  refine ⟨200, ?_⟩
  have hsame : spec_OneString.f 200 n = impl_OneString.f n := by
    unfold spec_OneString.f impl_OneString.f impl_OneString.v
    rw [srPoints_eq]
    simp only [Option.bind_some]
    by_cases h : 3 ≤ n ∧ n ≤ 60
    · simp only [if_pos (decide_eq_true h), if_pos h]
      have e : (n / 2 - 1 + 1).toNat = (n / 2 + 1 - 1).toNat := by omega
      rw [e]
      exact oneString_loop n h (n / 2 + 1 - 1).toNat 200 [] 1 (by omega) (by omega) (by simp) (by omega) (by omega)
    · simp [decide_eq_false h, if_neg h]
  have hlen : (impl_OneString.v n).1.length ≤ 40 := by
    unfold impl_OneString.v
    split
    · have := one_nwList_len (impl_OneString.q n) (n / 2 - 1 + 1).toNat 1
      simp only
      omega
    · simp
  have hv : impl_OneString.f n = some (impl_OneString.v n) := rfl
  generalize impl_OneString.v n = v at *
  obtain ⟨l, b⟩ := v
  simp only at hlen
  obtain ⟨y, m1, m2, m3⟩ := mark_held 199 l 1 (by omega) (by omega)
  unfold laws_FnExactOneString.f
  rw [hsame, hv]
  simp only [Option.bind_some, eqIntS_self 200 l (by omega) (by omega), laws_FnExactOneString.j0, m1, m3 199 (by omega), hv, eqIntS_self 199 l (by omega) (by omega), laws_FnExactOneString.j1, m3 198 (by omega)]
  have e0 : ¬ (1 + (l.length : Int) < 0) := by omega
  simp [e0]

end Go.Proofs.Ytknpnhgedcggkaa.Q
