/- PathOf: both tell the same points, and the result is memory of its own. -/
import Derived.Test.YtceoaondcnhaeaaDoorBPath
import Derived.Test.YtceoaondcnhaeaaDoorBMarksSS
import Derived.Test.YtceoaondcnhaeaaDoorXx2
import Derived.Test.YtceoaondcnhaeaaDoorXx5
import Derived.Test.YtceoaondcnhaeaaDoorXx6
namespace Go.Proofs.YtceoaondcnhaeaaDoor.Q
open Go.RowKit Go.Proofs.YtceoaondcnhaeaaDoor.X Go.Proofs.YtceoaondcnhaeaaDoorW.PrintWords Go.Proofs.YtceoaondcnhaeaaDoorW.PrintLast Go.Proofs.YtceoaondcnhaeaaDoorW.PrintMore
set_option linter.unusedVariables false
set_option linter.unusedSimpArgs false

theorem pts_two (g : Int) : ∀ (l : List UInt8) (s : Int × Int × Int), ∀ x ∈ ptsL g l s, x.length ≤ 2
  | [], s, x, h => by simp [ptsL] at h
  | b :: l, s, x, h => by
    simp only [ptsL] at h
    split at h
    · rcases List.mem_cons.1 h with rfl | h
      · simp
      · exact pts_two g l _ x h
    · exact pts_two g l _ x h
theorem pathOf_both (g : Int) (w : ByteArray) : ∃ r : List (List Int) × Bool, (∀ x ∈ r.1, x.length ≤ 60) ∧ r.1.length ≤ 1000 ∧ ∀ k, 1001 ≤ k → spec_PathOf.f k g w = some r ∧ impl_PathOf.f k g w = some r := by
  unfold spec_PathOf.f impl_PathOf.f
  cases ha : askedB g w with
  | false =>
    refine ⟨([], false), by simp, by simp, fun k hk => ?_⟩
    rw [paAsked_eq g w k (by omega), isWord_eq, ha]
    simp
  | true =>
    obtain ⟨hg, hs, hB⟩ := asked_of ha
    have hl := pts_len g w.data.toList z3
    rw [len_data] at hl
    refine ⟨(pathL g w z3, true), ?_, ?_, fun k hk => ?_⟩
    · intro x hx
      unfold pathL at hx
      rcases List.mem_cons.1 hx with rfl | hx
      · simp
      · have := pts_two g _ _ x hx; omega
    · unfold pathL
      simp only [List.length_cons]
      omega
    · rw [paAsked_eq g w k (by omega), isWord_eq, ha, Option.bind_some, Option.bind_some, if_pos rfl, if_pos rfl, path_eq g w hg (by omega) hB k (by omega)]
      have e := walk_eq g w z3 0 hg (by omega) hB (near_z3 hg) (by omega) k (by omega)
      rw [show impl_walk.f k g w 0 0 0 = _ from e, Option.bind_some, Option.bind_some]
      exact ⟨rfl, rfl⟩
theorem FnExactPathOf : ∀ (a0 : Int) (a1 : ByteArray), (Lit.int .i64 a0).wf = true → a1.size ≤ 140737488351232 → ∃ k, laws_FnExactPathOf.f k a0 a1 = some true := by
  intro g w _ _
  obtain ⟨K, hK⟩ : ∃ K, K = 2000 := ⟨_, rfl⟩
  refine ⟨K, ?_⟩
  obtain ⟨⟨r, b⟩, ht, hlen, hr⟩ := pathOf_both g w
  simp only at ht hlen
  obtain ⟨y, m1, m2⟩ := mark_heldSS 60 (by omega) r ht (by omega) K (by omega)
  unfold laws_FnExactPathOf.f
  by_cases hb : w.size ≤ 1048576
  · rw [if_pos hb]
    simp only [Option.bind_some, (hr K (by omega)).1, (hr K (by omega)).2, eqSS_self 60 (by omega) r ht (by omega) K (by omega), m1, m2 K (by omega)]
    rw [if_pos ⟨trivial, trivial, by omega, trivial⟩]
  · rw [if_neg hb]

end Go.Proofs.YtceoaondcnhaeaaDoor.Q
