/- StarsOf: reference and program tell the same steps, and the result is memory of its own. -/
import Derived.Test.YtglaclhjnbfflaaBStar
import Derived.Test.YtglaclhjnbfflaaBMarks
import Derived.Test.YtglaclhjnbfflaaXx10
import Derived.Test.YtglaclhjnbfflaaXx12
namespace Go.Proofs.Ytglaclhjnbfflaa.Q
open Go.RowKit Go.Proofs.Ytglaclhjnbfflaa.X Go.Proofs.YtglaclhjnbfflaaW.PrintWords Go.Proofs.YtglaclhjnbfflaaW.PrintLast Go.Proofs.YtglaclhjnbfflaaW.PrintMore
set_option linter.unusedVariables false
set_option linter.unusedSimpArgs false

theorem starsOf_loop (n : Int) (hn : 3 ≤ n ∧ n ≤ 60) (d : Nat) : ∀ (k : Nat) (acc : List Int) (x : Int), 1 ≤ x → x ≤ n / 2 + 1 → acc.length ≤ x → n / 2 + 1 - x = d → d < k →
    spec_StarsOf.l0 k n acc x = some (acc ++ nwList (fun _ => true) x d, true) := by
  induction d with
  | zero =>
    intro k acc x h1 h2 h3 hd hk
    obtain ⟨k, rfl⟩ : ∃ m, k = m + 1 := ⟨k - 1, by omega⟩
    simp only [spec_StarsOf.l0, nwList]
    rw [wrap64_id (by omega) (by omega), if_neg (by omega)]
    simp
  | succ d ih =>
    intro k acc x h1 h2 h3 hd hk
    obtain ⟨k, rfl⟩ : ∃ m, k = m + 1 := ⟨k - 1, by omega⟩
    simp only [spec_StarsOf.l0, nwList]
    rw [wrap64_id (x := 2 * x) (by omega) (by omega), if_pos (by omega), if_pos (by omega), wrap64_id (by omega) (by omega)]
    rw [ih k (acc ++ [x]) (x + 1) (by omega) (by omega) (by simp; omega) (by omega) (by omega)]
    simp
theorem nwList_len (q : Int → Bool) : ∀ (m : Nat) (x : Int), (nwList q x m).length ≤ m
  | 0, _ => by simp [nwList]
  | m + 1, x => by
    simp only [nwList]
    have := nwList_len q m (x + 1)
    split
    · simp; omega
    · omega
theorem FnExactStarsOf : ∀ (a0 : Int), (Lit.int .i64 a0).wf = true → ∃ k, laws_FnExactStarsOf.f k a0 = some true := by
  intro n _
  refine ⟨100, ?_⟩
  have hsame : spec_StarsOf.f 100 n = impl_StarsOf.f n := by
    unfold spec_StarsOf.f impl_StarsOf.f impl_StarsOf.v
    rw [srPoints_eq]
    simp only [Option.bind_some]
    by_cases h : 3 ≤ n ∧ n ≤ 60
    · simp only [if_pos (decide_eq_true h), if_pos h]
      have e : (n / 2 - 1 + 1).toNat = (n / 2 + 1 - 1).toNat := by omega
      rw [e]
      exact starsOf_loop n h (n / 2 + 1 - 1).toNat 100 [] 1 (by omega) (by omega) (by simp) (by omega) (by omega)
    · simp [decide_eq_false h, if_neg h]
  have hlen : (impl_StarsOf.v n).1.length ≤ 40 := by
    unfold impl_StarsOf.v
    split
    · have := nwList_len (fun _ => true) (n / 2 - 1 + 1).toNat 1
      simp only
      omega
    · simp
  have hv : impl_StarsOf.f n = some (impl_StarsOf.v n) := rfl
  generalize impl_StarsOf.v n = v at *
  obtain ⟨l, b⟩ := v
  simp only at hlen
  obtain ⟨y, m1, m2, m3⟩ := mark_held 99 l 1 (by omega) (by omega)
  unfold laws_FnExactStarsOf.f
  rw [hsame, hv]
  simp only [Option.bind_some, eqIntS_self 100 l (by omega) (by omega), laws_FnExactStarsOf.j0, m1, m3 99 (by omega), hv, eqIntS_self 99 l (by omega) (by omega), laws_FnExactStarsOf.j1, m3 98 (by omega)]
  have e0 : ¬ (1 + (l.length : Int) < 0) := by omega
  simp [e0]

end Go.Proofs.Ytglaclhjnbfflaa.Q
