/- Numbers of plane pairings: reference and program reckon the same ones. -/
import Derived.Test.YtoajjbkcilmnmaaBWrap
import Derived.Test.YtoajjbkcilmnmaaBBase
import Derived.Test.YtoajjbkcilmnmaaXx2
import Derived.Test.YtoajjbkcilmnmaaXx3
import Derived.Test.YtoajjbkcilmnmaaXx4
namespace Go.Proofs.Ytoajjbkcilmnmaa.Q
open Go.RowKit Go.Proofs.Ytoajjbkcilmnmaa.X Go.Proofs.YtoajjbkcilmnmaaW.PrintWords Go.Proofs.YtoajjbkcilmnmaaW.PrintLast Go.Proofs.YtoajjbkcilmnmaaW.PrintMore
set_option linter.unusedVariables false
set_option linter.unusedSimpArgs false

theorem planePoints_eq (a : Int) : spec_cdPlanePoints.f a = some (decide (4 ≤ a ∧ a ≤ 30 ∧ Int.tmod a 2 = 0)) := by
  unfold spec_cdPlanePoints.f
  rw [l1In_eq]
  simp only [Option.bind_some]
  by_cases h : 4 ≤ a ∧ a ≤ 30
  · rw [if_pos (decide_eq_true h)]
    refine congrArg some ?_
    rw [Bool.eq_iff_iff]; simp; omega
  · rw [if_neg (by simpa using h)]
    exact congrArg some (decide_eq_false (by omega)).symm
theorem isEven_eq (a b : Int) : impl_isEven.f a b = some (decide (3 ≤ a ∧ a ≤ 60 ∧ Int.tmod a 2 = 0 ∧ a ≤ b)) := by
  unfold impl_isEven.f
  rw [isCircle_eq]
  simp only [Option.bind_some]
  by_cases h : 3 ≤ a ∧ a ≤ 60
  · rw [if_pos (decide_eq_true h)]
    by_cases h2 : Int.tmod a 2 = 0
    · rw [if_pos h2]; exact congrArg some (decide_eq_decide.2 (by omega))
    · rw [if_neg h2]; exact congrArg some (decide_eq_false (by omega)).symm
  · rw [if_neg (by simpa using h)]
    exact congrArg some (decide_eq_false (by omega)).symm
/-- How many plane pairings of 2 m points there are. -/
def cat (m : Nat) : Int := ([1, 1, 2, 5, 14, 42, 132, 429, 1430, 4862, 16796, 58786, 208012, 742900, 2674440, 9694845] : List Int).getD m 1
theorem more_fuel {α : Type} (F : Nat → Option α) (hF : ∀ k, LeO (F k) (F (k + 1))) (k0 : Nat) (r : α) (h : F k0 = some r) : ∀ k, k0 ≤ k → F k = some r := by
  intro k hk
  obtain ⟨d, rfl⟩ : ∃ d, k = k0 + d := ⟨k - k0, by omega⟩
  clear hk
  induction d with
  | zero => exact h
  | succ d ih => exact hF (k0 + d) r ih
theorem countPlane_at : ∀ m : Fin 16, impl_countPlane.f 20 (2 * (m.val : Int)) = some (cat m.val) := by decide +kernel
theorem countPlane_eq (m : Nat) (hm : m ≤ 15) (k : Nat) (hk : 20 ≤ k) : impl_countPlane.f k (2 * (m : Int)) = some (cat m) :=
  more_fuel (fun k => impl_countPlane.f k (2 * (m : Int))) (fun k => impl_countPlane.mono _ k) 20 _ (countPlane_at ⟨m, by omega⟩) k hk
/-- The reference's table. -/
def waysL (n : Nat) : List Int := (List.range (n + 1)).map fun i => if i % 2 = 0 then cat (i / 2) else 0
theorem cdPlane_at : ∀ m : Fin 14, spec_cdPlane.f 300 (2 * (m.val : Int) + 4) = some (waysL (2 * m.val + 4)) := by decide +kernel
theorem cdPlane_eq (m : Nat) (h2 : 2 ≤ m) (hm : m ≤ 15) (k : Nat) (hk : 300 ≤ k) : spec_cdPlane.f k (2 * (m : Int)) = some (waysL (2 * m)) := by
  have h := cdPlane_at ⟨m - 2, by omega⟩
  simp only at h
  have e : 2 * ((m - 2 : Nat) : Int) + 4 = 2 * (m : Int) := by omega
  have e2 : 2 * (m - 2) + 4 = 2 * m := by omega
  rw [e, e2] at h
  exact more_fuel (fun k => spec_cdPlane.f k (2 * (m : Int))) (fun k => spec_cdPlane.mono _ k) 300 _ h k hk
theorem waysL_len (n : Nat) : (waysL n).length = n + 1 := by unfold waysL; simp
theorem waysL_rd (n j : Nat) (hj : 2 * j ≤ n) : rd (waysL n) (2 * (j : Int)) = cat j := by
  unfold rd waysL
  have e : (2 * (j : Int)).toNat = 2 * j := by omega
  rw [e, List.getD_eq_getElem?_getD, List.getElem?_map, List.getElem?_range (by omega)]
  simp
theorem cat_pos_at : ∀ m : Fin 16, 1 ≤ cat m.val ∧ cat m.val ≤ 10000000 := by decide +kernel
theorem cat_pos (m : Nat) (hm : m ≤ 15) : 1 ≤ cat m ∧ cat m ≤ 10000000 := cat_pos_at ⟨m, by omega⟩
theorem cat_mul (i j : Nat) (hi : i ≤ 15) (hj : j ≤ 15) : 1 ≤ cat i * cat j ∧ cat i * cat j ≤ 100000000000000 := by
  obtain ⟨a, b⟩ := cat_pos i hi
  obtain ⟨c, d⟩ := cat_pos j hj
  constructor
  · have := Int.mul_le_mul a c (by omega) (by omega); omega
  · have := Int.mul_le_mul b d (by omega) (by omega); omega
/-- Plane pairings of 2 m points whose first point is joined behind j, j + 1, .. (t of these) inner pairs. -/
def tot (m : Nat) : Nat → Nat → Int
  | 0, _ => 0
  | t + 1, j => cat j * cat (m - 1 - j) + tot m t (j + 1)
theorem tot_at : ∀ m : Fin 15, tot (m.val + 1) (m.val + 1) 0 = cat (m.val + 1) := by decide +kernel
theorem tot_eq (m : Nat) (h1 : 1 ≤ m) (hm : m ≤ 15) : tot m m 0 = cat m := by
  have := tot_at ⟨m - 1, by omega⟩
  simp only at this
  rwa [show m - 1 + 1 = m by omega] at this

end Go.Proofs.Ytoajjbkcilmnmaa.Q
