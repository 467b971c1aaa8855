/- EndOf: both tell the same three numbers, and the result is memory of its own. -/
import Derived.Test.YtkbokgpbfpncdaaDoorBPath
import Derived.Test.YtkbokgpbfpncdaaDoorBMarks
import Derived.Test.YtkbokgpbfpncdaaDoorXx10
import Derived.Test.YtkbokgpbfpncdaaDoorXx12
namespace Go.Proofs.YtkbokgpbfpncdaaDoor.Q
open Go.RowKit Go.Proofs.YtkbokgpbfpncdaaDoor.X Go.Proofs.YtkbokgpbfpncdaaDoorW.PrintWords Go.Proofs.YtkbokgpbfpncdaaDoorW.PrintLast Go.Proofs.YtkbokgpbfpncdaaDoorW.PrintMore
set_option linter.unusedVariables false
set_option linter.unusedSimpArgs false

theorem endOf_both (g : Int) (w : ByteArray) : ∃ r : List Int × Bool, r.1.length ≤ 60 ∧ ∀ k, 1001 ≤ k → spec_EndOf.f k g w = some r ∧ impl_EndOf.f k g w = some r := by
  unfold spec_EndOf.f impl_EndOf.f
  cases ha : askedB g w with
  | false =>
    refine ⟨([], false), by simp, fun k hk => ?_⟩
    rw [paAsked_eq g w k (by omega), isWord_eq, ha]
    simp
  | true =>
    obtain ⟨hg, hs, hB⟩ := asked_of ha
    refine ⟨([(endS g w.data.toList z3).1, (endS g w.data.toList z3).2.1, (endS g w.data.toList z3).2.2], true), by simp, fun k hk => ?_⟩
    rw [paAsked_eq g w k (by omega), isWord_eq, ha, Option.bind_some, Option.bind_some, if_pos rfl, if_pos rfl, path_eq g w hg (by omega) hB k (by omega)]
    have e := walk_eq g w z3 0 hg (by omega) hB (near_z3 hg) (by omega) k (by omega)
    rw [show impl_walk.f k g w 0 0 0 = _ from e, Option.bind_some, Option.bind_some]
    obtain ⟨e1, e2⟩ := path_last g w z3 (by omega)
    have hl : ((pathL g w z3).length : Int) = ((ptsL g w.data.toList z3).length : Int) + 1 := by unfold pathL; rw [List.length_cons]; omega
    simp only [e1, e2]
    rw [if_pos (by omega), if_pos (by omega), if_pos (by simp), if_pos (by simp)]
    refine ⟨?_, ?_⟩ <;> first | rfl | trivial
theorem FnExactEndOf : ∀ (a0 : Int) (a1 : ByteArray), (Lit.int .i64 a0).wf = true → a1.size ≤ 140737488351232 → ∃ k, laws_FnExactEndOf.f k a0 a1 = some true := by
  intro g w _ _
  refine ⟨2000, ?_⟩
  obtain ⟨⟨l, b⟩, hlen, hr⟩ := endOf_both g w
  simp only at hlen
  obtain ⟨y, m1, m2, m3⟩ := mark_held 1999 l 1 (by omega) (by omega)
  unfold laws_FnExactEndOf.f
  by_cases hb : (w.size : Int) > 1048576
  · rw [if_pos hb]
  · rw [if_neg hb]
    simp only [Option.bind_some, (hr 2000 (by omega)).1, (hr 2000 (by omega)).2, eqIntS_self 2000 l (by omega) (by omega), laws_FnExactEndOf.j0, m1, m3 1999 (by omega), (hr 1999 (by omega)).2, eqIntS_self 1999 l (by omega) (by omega), laws_FnExactEndOf.j1, m3 1998 (by omega)]
    have e0 : ¬ (1 + (l.length : Int) < 0) := by omega
    simp [e0]

end Go.Proofs.YtkbokgpbfpncdaaDoor.Q
