/- Pairs that cross, counted by the reference. -/
import Derived.Test.YtkiookioejckbaaBWrap
import Derived.Test.YtkiookioejckbaaBOrd0
import Derived.Test.YtkiookioejckbaaBCount
import Derived.Test.YtkiookioejckbaaXx25
namespace Go.Proofs.Ytkiookioejckbaa.Q
open Go.RowKit Go.Proofs.Ytkiookioejckbaa.X Go.Proofs.YtkiookioejckbaaW.PrintWords Go.Proofs.YtkiookioejckbaaW.PrintLast Go.Proofs.YtkiookioejckbaaW.PrintMore
set_option linter.unusedVariables false
set_option linter.unusedSimpArgs false

theorem srCount_inner (l : List S52) (i : Int) (c : S52) (mid : List S52) (m : List S52) : ∀ (k : Nat) (pre : List S52) (cnt : Int) (r : Option Int), pre ++ m = mid → mid.length ≤ 1000000 → 0 ≤ cnt → cnt + m.length ≤ 4611686018427387904 → m.length < k →
    (∀ k', k ≤ k' + m.length + 1 → k' < k → spec_srCount.l0 k' l (cnt + countX c m) l (l.length : Int) (wrap64 (i + 1)) = r) →
    spec_srCount.l1 k l cnt l (l.length : Int) i mid (mid.length : Int) pre.length c.f0 c.f1 = r := by
  induction m with
  | nil =>
    intro k pre cnt r e hl h0 h1 hk hr
    obtain ⟨k, rfl⟩ : ∃ t, k = t + 1 := ⟨k - 1, by omega⟩
    rw [List.append_nil] at e
    subst e
    simp only [spec_srCount.l1]
    rw [if_neg (by omega)]
    simpa [countX] using hr k (by simp) (by omega)
  | cons x m ih =>
    intro k pre cnt r e hl h0 h1 hk hr
    obtain ⟨k, rfl⟩ : ∃ t, k = t + 1 := ⟨k - 1, by omega⟩
    simp only [List.length_cons] at h1 hk hr
    have hlen : (mid.length : Int) = pre.length + m.length + 1 := by rw [← e]; simp; omega
    simp only [spec_srCount.l1]
    have hx : rd_T52 mid (pre.length : Int) = x := by rw [← e]; exact rdC_append pre m x
    rw [if_pos (by omega), if_pos (by omega), if_pos (by omega), hx, srCross_cross]
    simp only [Option.bind_some]
    have hpl : (((pre ++ [x]).length : Nat) : Int) = (pre.length : Int) + 1 := by simp
    have IH := fun cnt h0 h1 hr => ih k (pre ++ [x]) cnt r (by simpa using e) hl h0 h1 (by omega) hr
    rw [hpl] at IH
    rw [wrap64_id (x := cnt + 1) (by omega) (by omega), wrap64_id (x := (pre.length : Int) + 1) (by omega) (by omega)]
    by_cases eX : crossB c x = true
    · rw [if_pos eX]
      refine IH (cnt + 1) (by omega) (by omega) (fun k' h1 h2 => ?_)
      have := hr k' (by omega) (by omega)
      unfold countX at this ⊢
      rw [List.countP_cons_of_pos eX] at this
      rw [← this]
      congr 1
      omega
    · rw [if_neg eX]
      refine IH cnt (by omega) (by omega) (fun k' h1 h2 => ?_)
      have := hr k' (by omega) (by omega)
      unfold countX at this ⊢
      rw [List.countP_cons_of_neg eX] at this
      exact this
theorem srCount_loop (l : List S52) (hl : l.length ≤ 10000) (m : List S52) : ∀ (k : Nat) (pre : List S52) (cnt : Int), pre ++ m = l → 0 ≤ cnt → cnt + m.length * 10000 ≤ 4611686018427387904 → m.length * (l.length + 3) < k →
    spec_srCount.l0 k l cnt l (l.length : Int) pre.length = some (cnt + pairsX m) := by
  induction m with
  | nil =>
    intro k pre cnt e h0 h1 hk
    obtain ⟨k, rfl⟩ : ∃ t, k = t + 1 := ⟨k - 1, by omega⟩
    rw [List.append_nil] at e
    simp only [spec_srCount.l0]
    rw [if_neg (by rw [e]; omega)]
    simp [pairsX]
  | cons x m ih =>
    intro k pre cnt e h0 h1 hk
    obtain ⟨k, rfl⟩ : ∃ t, k = t + 1 := ⟨k - 1, by omega⟩
    have hlen : (l.length : Int) = pre.length + m.length + 1 := by rw [← e]; simp; omega
    simp only [spec_srCount.l0]
    have hx : rd_T52 l (pre.length : Int) = x := by rw [← e]; exact rdC_append pre m x
    rw [wrap64_id (x := (pre.length : Int) + 1) (by omega) (by omega), if_pos (by omega), if_pos (by omega), if_pos (by omega), if_pos (by omega), if_pos (by omega), hx]
    simp only [Option.bind_some]
    have hdrop : l.drop (((pre.length : Int) + 1).toNat) = m := by
      rw [show ((pre.length : Int) + 1).toNat = pre.length + 1 by omega, ← e, ← List.drop_drop, List.drop_left]
      rfl
    rw [hdrop]
    simp only [List.length_cons] at h1 hk
    have hmul : (m.length + 1) * (l.length + 3) = m.length * (l.length + 3) + (l.length + 3) := by rw [Nat.add_mul, Nat.one_mul]
    have hin := srCount_inner l pre.length x m m k [] cnt (some (cnt + pairsX (x :: m))) rfl (by omega) h0 (by omega) (by omega) (fun k' h2 h3 => by
      have h4 := countX_le x m
      have := ih k' (pre ++ [x]) (cnt + countX x m) (by simpa using e) (by omega) (by omega) (by omega)
      have hpl : (((pre ++ [x]).length : Nat) : Int) = (pre.length : Int) + 1 := by simp
      rw [hpl] at this
      rw [wrap64_id (by omega) (by omega), this]
      simp only [pairsX]
      congr 1
      omega)
    simpa using hin
theorem srCount_eq (l : List S52) (hl : l.length ≤ 10000) (k : Nat) (hk : l.length * (l.length + 3) < k) : spec_srCount.f k l = some (pairsX l : Int) := by
  unfold spec_srCount.f
  have := srCount_loop l hl l k [] 0 rfl (by omega) (by omega) hk
  simpa using this

end Go.Proofs.Ytkiookioejckbaa.Q
