/- CountPairings: both count the same pairings. -/
import Derived.Test.YtkiookioejckbaaBBase
import Derived.Test.YtkiookioejckbaaBFree
import Derived.Test.YtkiookioejckbaaXx27
import Derived.Test.YtkiookioejckbaaXx29
namespace Go.Proofs.Ytkiookioejckbaa.Q
open Go.RowKit Go.Proofs.Ytkiookioejckbaa.X Go.Proofs.YtkiookioejckbaaW.PrintWords Go.Proofs.YtkiookioejckbaaW.PrintLast Go.Proofs.YtkiookioejckbaaW.PrintMore
set_option linter.unusedVariables false
set_option linter.unusedSimpArgs false

theorem free_all (n : Nat) : ∀ (m : Nat) (j : Int), freeF (List.replicate n false) j m = nwList (fun _ => true) j m
  | 0, j => rfl
  | m + 1, j => by
    have hr : rdOf false (List.replicate n false) j = false := by
      unfold rdOf
      rw [List.getD_eq_getElem?_getD, List.getElem?_replicate]
      split <;> rfl
    simp only [freeF, nwList, hr, Bool.false_eq_true, if_false, if_true, free_all n m]
theorem nw_len (m : Nat) : ∀ j : Int, (nwList (fun _ => true) j m).length = m := by
  induction m with
  | zero => intro j; rfl
  | succ m ih => intro j; simp [nwList, ih]
theorem FnExactCountPairings : ∀ (a0 : Int) (a1 : Int), (Lit.int .i64 a0).wf = true → (Lit.int .i64 a1).wf = true → ∃ k, laws_FnExactCountPairings.f k a0 a1 = some true := by
  intro n crs _ _
  obtain ⟨K, hK⟩ : ∃ K, K = 10000 := ⟨_, rfl⟩
  refine ⟨K, ?_⟩
  unfold laws_FnExactCountPairings.f spec_CountPairings.f impl_CountPairings.f impl_isEven.f
  simp only [l1In_eq, within_eq, isCircle_eq, Option.bind_some]
  by_cases hn : 4 ≤ n ∧ n ≤ 12
  · have hc : 3 ≤ n ∧ n ≤ 60 := by omega
    have hm : Int.tmod n 2 = n % 2 := Int.tmod_eq_emod_of_nonneg (by omega)
    simp only [decide_eq_true hn, decide_eq_true hc, if_true, hm]
    by_cases he : n % 2 = 1
    · have he0 : ¬ n % 2 = 0 := by omega
      simp only [if_pos he, if_neg he0]
      simp
    · have he0 : n % 2 = 0 := by omega
      simp only [if_neg he, if_pos he0]
      have h12 : n ≤ 12 := hn.2
      simp only [Option.bind_some, decide_eq_true h12, if_true]
      by_cases hcr : 0 ≤ crs ∧ crs ≤ 100
      · have g1 : 0 ≤ n := by omega
        have g2 : n.toNat ≤ 281474976710656 := by omega
        have g3 : 0 ≤ n ∧ n ≤ 60 := by omega
        simp only [decide_eq_true hcr, if_true, if_pos g1, if_pos g2, if_pos g3]
        have hrl : ((List.replicate n.toNat false).length : Int) = n := by simp; omega
        have hfa := free_all n.toNat n.toNat 0
        have hlen := nw_len n.toNat 0
        have e0 : (n - 1 - 0 + 1).toNat = n.toNat := by omega
        have c1 := cdCount_eq n crs (by omega) 13 (List.replicate n.toNat false) [] K hrl (by rw [hfa, hlen]; omega) (by omega) (by rw [hfa, hlen]; omega) (by rw [hfa, hlen]; simp; omega) (by simp) (by omega)
        rw [hfa] at c1
        have hP : Pts n (nwList (fun _ => true) 0 n.toNat) := by
          rw [← hfa]
          exact ⟨freeF_sorted _ _ _, fun x hx => by have := freeF_ge _ _ _ x hx; omega⟩
        have c2 := countPairings_eq n crs (by omega) 13 (nwList (fun _ => true) 0 n.toNat) [] K (by rw [hlen]; omega) (by omega) (by rw [hlen]; omega) (by simp) hP (by simp) (by rw [hlen]; simp; omega) (by omega)
        rw [show crs - ((pairsX ([] : List S52) : Nat) : Int) = crs by simp [pairsX]] at c2
        rw [c1, e0, c2]
        simp
      · simp only [decide_eq_false hcr]
        simp
  · simp only [decide_eq_false hn]
    by_cases hc : 3 ≤ n ∧ n ≤ 60
    · simp only [decide_eq_true hc, if_true]
      by_cases he : Int.tmod n 2 = 0
      · have hm : Int.tmod n 2 = n % 2 := Int.tmod_eq_emod_of_nonneg (by omega)
        have h12 : ¬ n ≤ 12 := by omega
        rw [if_pos he]
        simp [h12]
      · rw [if_neg he]
        simp
    · simp only [decide_eq_false hc]
      simp

end Go.Proofs.Ytkiookioejckbaa.Q
