/- CountClosed: the reference counts sign by sign, the program state by state. -/
import Derived.Test.YtlnjfbnabjgffaaBWrap
import Derived.Test.YtlnjfbnabjgffaaBGrid
import Derived.Test.YtlnjfbnabjgffaaBGridA
import Derived.Test.YtlnjfbnabjgffaaXx2
import Derived.Test.YtlnjfbnabjgffaaXx3
import Derived.Test.YtlnjfbnabjgffaaXx4
import Derived.Test.YtlnjfbnabjgffaaXx5
import Derived.Test.YtlnjfbnabjgffaaXx56
namespace Go.Proofs.Ytlnjfbnabjgffaa.Q
open Go.RowKit Go.Proofs.Ytlnjfbnabjgffaa.X Go.Proofs.YtlnjfbnabjgffaaW.PrintWords Go.Proofs.YtlnjfbnabjgffaaW.PrintLast Go.Proofs.YtlnjfbnabjgffaaW.PrintMore
set_option linter.unusedVariables false
set_option linter.unusedSimpArgs false

theorem ccWay (g d : Int) (hg : g = 4 ∨ g = 6) (h0 : 0 ≤ d) (h1 : d < g) : spec_paWay.f g d = some ((wayL g).getD d.toNat ([] : List Int)) ∧ ((wayL g).length : Int) = g ∧ ((wayL g).getD d.toNat ([] : List Int)).length = 2 := by
  rcases hg with rfl | rfl
  · rcases (show d = 0 ∨ d = 1 ∨ d = 2 ∨ d = 3 by omega) with rfl | rfl | rfl | rfl <;> exact ⟨rfl, rfl, rfl⟩
  · rcases (show d = 0 ∨ d = 1 ∨ d = 2 ∨ d = 3 ∨ d = 4 ∨ d = 5 by omega) with rfl | rfl | rfl | rfl | rfl | rfl <;> exact ⟨rfl, rfl, rfl⟩
theorem paCount_eq (g : Int) (hg : g = 4 ∨ g = 6) (l : Nat) (hl : l ≤ 1000) : ∀ (k : Nat) (x y d : Int), 0 ≤ d → d < g → l < k → spec_paCount.f k g x y d (l : Int) = some (pcN g l (x, y, d)) := by
  induction l with
  | zero =>
    intro k x y d h0 h1 hk
    obtain ⟨k, rfl⟩ : ∃ t, k = t + 1 := ⟨k - 1, by omega⟩
    have e : pcN g 0 (x, y, d) = if (x, y, d) = ((0, 0, 0) : Int × Int × Int) then 1 else 0 := rfl
    rw [e]
    simp only [spec_paCount.f]
    rw [if_pos (by omega)]
    by_cases hx : x = 0
    · rw [if_pos hx]
      by_cases hy : y = 0
      · rw [if_pos hy]
        by_cases hd : d = 0
        · rw [if_pos hd, if_pos (by rw [hx, hy, hd])]
        · rw [if_neg hd, if_neg (fun h => hd (by injection h with _ h; injection h))]
      · rw [if_neg hy, if_neg (fun h => hy (by injection h with _ h; injection h))]
    · rw [if_neg hx, if_neg (fun h => hx (by injection h))]
  | succ l ih =>
    intro k x y d h0 h1 hk
    obtain ⟨k, rfl⟩ : ∃ t, k = t + 1 := ⟨k - 1, by omega⟩
    obtain ⟨w1, w2, w3⟩ := ccWay g d hg h0 h1
    have e70 : dW g (x, y, d) 70 = (wrap64 (x + rd ((wayL g).getD d.toNat ([] : List Int)) 0), wrap64 (y + rd ((wayL g).getD d.toNat ([] : List Int)) 1), d) := by
      unfold dW impl_walker_do.f
      rw [if_pos rfl, if_pos ⟨h0, show d < ((wayL g).length : Int) by omega⟩]
      rfl
    have e76 : dW g (x, y, d) 76 = (x, y, Int.tmod (wrap64 (d + 1)) g) := by
      unfold dW impl_walker_do.f
      rw [if_neg (by decide), if_pos rfl, if_neg (by omega)]
      rfl
    have e82 : dW g (x, y, d) 82 = (x, y, Int.tmod (wrap64 (wrap64 (d + g) - 1)) g) := by
      unfold dW impl_walker_do.f
      rw [if_neg (by decide), if_neg (by decide), if_pos rfl, if_neg (by omega)]
      rfl
    have m1 := Int.tmod_lt_of_pos (wrap64 (d + 1)) (show 0 < g by omega)
    have m2 := Int.tmod_lt_of_pos (wrap64 (wrap64 (d + g) - 1)) (show 0 < g by omega)
    have m3 : 0 ≤ Int.tmod (wrap64 (d + 1)) g := by rw [wrap64_id (by omega) (by omega)]; exact Int.tmod_nonneg _ (by omega)
    have m4 : 0 ≤ Int.tmod (wrap64 (wrap64 (d + g) - 1)) g := by rw [wrap64_id (x := d + g) (by omega) (by omega), wrap64_id (by omega) (by omega)]; exact Int.tmod_nonneg _ (by omega)
    have e : pcN g (l + 1) (x, y, d) = wrap64 (wrap64 (pcN g l (dW g (x, y, d) 70) + pcN g l (dW g (x, y, d) 76)) + pcN g l (dW g (x, y, d) 82)) := rfl
    have el : wrap64 (((l + 1 : Nat) : Int) - 1) = (l : Int) := by rw [wrap64_id (by omega) (by omega)]; omega
    rw [e, e70, e76, e82]
    generalize (wayL g).getD d.toNat ([] : List Int) = row at w1 w3
    simp only [spec_paCount.f]
    rw [if_neg (by omega), w1, Option.bind_some, if_pos (by omega), if_pos (by omega), el, ih (by omega) k _ _ _ h0 h1 (by omega), Option.bind_some, if_neg (by omega), ih (by omega) k _ _ _ m3 m1 (by omega), Option.bind_some, ih (by omega) k _ _ _ m4 m2 (by omega), Option.bind_some]
theorem closed_both (g n : Int) : ∃ r : Int × Bool, spec_CountClosed.f 100 g n = some r ∧ impl_CountClosed.f g n = some r := by
  unfold spec_CountClosed.f impl_CountClosed.f
  rw [paGrid_eq, isGrid_eq, Option.bind_some, Option.bind_some]
  by_cases hg : g = 4 ∨ g = 6
  · rw [if_pos (decide_eq_true hg), if_pos (decide_eq_true hg), if_pos hg, l1In_eq, within_eq, Option.bind_some, Option.bind_some]
    by_cases hn : 0 ≤ n ∧ n ≤ 10
    · rw [if_pos (decide_eq_true hn), if_pos (decide_eq_true hn), if_pos hn]
      obtain ⟨l, rfl⟩ : ∃ l : Nat, n = l := ⟨n.toNat, by omega⟩
      rw [paCount_eq g hg l (by omega) 100 0 0 0 (by omega) (by omega) (by omega), Option.bind_some, Int.toNat_natCast]
      exact ⟨_, rfl, rfl⟩
    · rw [if_neg (by simp [hn]), if_neg (by simp [hn])]
      exact ⟨_, rfl, rfl⟩
  · rw [if_neg (by simp [hg]), if_neg (by simp [hg])]
    exact ⟨_, rfl, rfl⟩
theorem FnExactCountClosed : ∀ (a0 : Int) (a1 : Int), (Lit.int .i64 a0).wf = true → (Lit.int .i64 a1).wf = true → ∃ k, laws_FnExactCountClosed.f k a0 a1 = some true := by
  intro g n _ _
  obtain ⟨r, h1, h2⟩ := closed_both g n
  refine ⟨100, ?_⟩
  unfold laws_FnExactCountClosed.f
  rw [h1, h2]
  simp

end Go.Proofs.Ytlnjfbnabjgffaa.Q
