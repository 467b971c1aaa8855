/- DoubleArea: both add up the same along the same points. -/
import Derived.Test.YtkbokgpbfpncdaaDoorBClosed
import Derived.Test.YtkbokgpbfpncdaaDoorXx7
import Derived.Test.YtkbokgpbfpncdaaDoorXx8
namespace Go.Proofs.YtkbokgpbfpncdaaDoor.Q
open Go.RowKit Go.Proofs.YtkbokgpbfpncdaaDoor.X Go.Proofs.YtkbokgpbfpncdaaDoorW.PrintWords Go.Proofs.YtkbokgpbfpncdaaDoorW.PrintLast Go.Proofs.YtkbokgpbfpncdaaDoorW.PrintMore
set_option linter.unusedVariables false
set_option linter.unusedSimpArgs false

theorem area_same : ∀ (k : Nat) (ps : List (List Int)) (x i : Int), spec_DoubleArea.l0 k ps x i = impl_DoubleArea.l0 k ps x i
  | 0, _, _, _ => by simp only [spec_DoubleArea.l0, impl_DoubleArea.l0]
  | k + 1, _, _, _ => by simp only [spec_DoubleArea.l0, impl_DoubleArea.l0, area_same k]
/-- All rows have two numbers. -/
theorem pts_two (g : Int) : ∀ (l : List UInt8) (s : Int × Int × Int), ∀ p ∈ ptsL g l s, p.length = 2
  | [], s, p, h => by simp [ptsL] at h
  | b :: l, s, p, h => by
    simp only [ptsL] at h
    split at h
    · rcases List.mem_cons.1 h with rfl | h
      · rfl
      · exact pts_two g l _ p h
    · exact pts_two g l _ p h
theorem area_ex (ps : List (List Int)) (h2 : ∀ p ∈ ps, p.length = 2) (hl : ps.length ≤ 100000) (d : Nat) : ∀ (k i : Nat) (x : Int), 1 ≤ i → ps.length ≤ i + d → d < k → ∃ r, impl_DoubleArea.l0 k ps x (i : Int) = some (r, true) := by
  induction d with
  | zero =>
    intro k i x hi hd hk
    obtain ⟨k, rfl⟩ : ∃ t, k = t + 1 := ⟨k - 1, by omega⟩
    refine ⟨x, ?_⟩
    simp only [impl_DoubleArea.l0]
    rw [if_neg (by omega)]
  | succ d ih =>
    intro k i x hi hd hk
    obtain ⟨k, rfl⟩ : ∃ t, k = t + 1 := ⟨k - 1, by omega⟩
    by_cases hlt : i < ps.length
    · have e1 : wrap64 ((i : Int) + 1) = ((i + 1 : Nat) : Int) := by rw [wrap64_id (by omega) (by omega)]; rfl
      have e2 : wrap64 ((i : Int) - 1) = ((i - 1 : Nat) : Int) := by rw [wrap64_id (by omega) (by omega)]; omega
      have hlen : ∀ j : Nat, j < ps.length → (rd_L2 ps (j : Int)).length = 2 := by
        intro j hj
        unfold rd_L2
        rw [Int.toNat_natCast, List.getD_eq_getElem?_getD, List.getElem?_eq_getElem hj]
        exact h2 _ (List.getElem_mem hj)
      have l1 := hlen i hlt
      have l2 := hlen (i - 1) (by omega)
      simp only [impl_DoubleArea.l0, e1, e2]
      rw [if_pos (by omega), if_pos (by omega), if_pos (by omega), if_pos (by omega), if_pos (by omega), if_pos (by omega), if_pos (by omega), if_pos (by omega)]
      exact ih k (i + 1) _ (by omega) (by omega) (by omega)
    · refine ⟨x, ?_⟩
      simp only [impl_DoubleArea.l0]
      rw [if_neg (by omega)]
theorem area_fuel (ps : List (List Int)) (d : Nat) : ∀ (k k' i : Nat) (x : Int), ps.length ≤ i + d → d < k → d < k' → i + d ≤ 100000 → impl_DoubleArea.l0 k ps x (i : Int) = impl_DoubleArea.l0 k' ps x (i : Int) := by
  induction d with
  | zero =>
    intro k k' i x hd hk hk' hi
    obtain ⟨k, rfl⟩ : ∃ t, k = t + 1 := ⟨k - 1, by omega⟩
    obtain ⟨k', rfl⟩ : ∃ t, k' = t + 1 := ⟨k' - 1, by omega⟩
    simp only [impl_DoubleArea.l0]
    rw [if_neg (by omega), if_neg (by omega)]
  | succ d ih =>
    intro k k' i x hd hk hk' hi
    obtain ⟨k, rfl⟩ : ∃ t, k = t + 1 := ⟨k - 1, by omega⟩
    obtain ⟨k', rfl⟩ : ∃ t, k' = t + 1 := ⟨k' - 1, by omega⟩
    have e1 : wrap64 ((i : Int) + 1) = ((i + 1 : Nat) : Int) := by rw [wrap64_id (by omega) (by omega)]; rfl
    simp only [impl_DoubleArea.l0, e1, fun y => ih k k' (i + 1) y (by omega) (by omega) (by omega) (by omega)]
theorem area_both (g : Int) (w : ByteArray) (hg : g = 4 ∨ g = 6) (hs : w.size ≤ 120) (hB : ∀ b ∈ w.data.toList, okB b = true) (k k' : Nat) (hk : 1200 ≤ k) (hk' : 1200 ≤ k') :
    ∃ r : Int × Bool, ((spec_paPath.f k g w).bind fun b => spec_DoubleArea.l0 k b.1 0 1) = some r ∧ ((impl_walk.f k' g w 0 0 0).bind fun b => impl_DoubleArea.l0 k' b.1 0 1) = some r := by
  have hl := pts_len g w.data.toList z3
  rw [len_data] at hl
  have h2 : ∀ p ∈ pathL g w z3, p.length = 2 := by
    intro p hp
    rcases List.mem_cons.1 hp with rfl | hp
    · rfl
    · exact pts_two g _ _ p hp
  have hn : (pathL g w z3).length ≤ 1 + 1000 := by unfold pathL; rw [List.length_cons]; omega
  have e := walk_eq g w z3 0 hg (by omega) hB (near_z3 hg) (by omega) k' (by omega)
  rw [path_eq g w hg (by omega) hB k (by omega), show impl_walk.f k' g w 0 0 0 = _ from e]
  simp only [Option.bind_some, area_same]
  obtain ⟨r, hr⟩ := area_ex (pathL g w z3) h2 (by omega) 1000 k 1 0 (by omega) hn (by omega)
  obtain ⟨r', hr'⟩ := area_ex (pathL g w z3) h2 (by omega) 1000 k' 1 0 (by omega) hn (by omega)
  have hrr := area_fuel (pathL g w z3) 1000 k k' 1 0 hn (by omega) (by omega) (by omega)
  rw [hr, hr'] at hrr
  have := Option.some.inj hrr
  exact ⟨(r, true), hr, by rw [this]; exact hr'⟩
theorem FnExactDoubleArea : ∀ (a0 : Int) (a1 : ByteArray), (Lit.int .i64 a0).wf = true → a1.size ≤ 140737488351232 → ∃ k, laws_FnExactDoubleArea.f k a0 a1 = some true := by
  intro g w _ _
  refine ⟨2000, ?_⟩
  unfold laws_FnExactDoubleArea.f spec_DoubleArea.f impl_DoubleArea.f
  by_cases hb : (w.size : Int) > 1048576
  · rw [if_pos hb]
  · rw [if_neg hb, paAsked_eq g w 2000 (by omega), isWord_eq]
    simp only [Option.bind_some]
    cases ha : askedB g w with
    | false => simp [spec_DoubleArea.j0, impl_DoubleArea.j0]
    | true =>
      obtain ⟨hg, hs, hB⟩ := asked_of ha
      rw [if_pos rfl, if_pos rfl, paClosed_eq g w hg (by omega) hB 2000 (by omega), isClosed_eq g w hg (by omega) hB 2000 (by omega)]
      simp only [Option.bind_some]
      cases closedB g w.data.toList z3 with
      | false => simp [spec_DoubleArea.j0, impl_DoubleArea.j0]
      | true =>
        obtain ⟨r, h1, h2⟩ := area_both g w hg hs hB 1999 1999 (by omega) (by omega)
        simp only [spec_DoubleArea.j0, impl_DoubleArea.j0, Bool.not_true, Bool.false_eq_true, if_false, h1, h2]
        simp

end Go.Proofs.YtkbokgpbfpncdaaDoor.Q
