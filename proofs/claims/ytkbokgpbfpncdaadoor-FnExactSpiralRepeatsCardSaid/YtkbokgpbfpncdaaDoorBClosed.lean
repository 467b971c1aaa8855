/- Whether a word comes back: reference and program tell the same. -/
import Derived.Test.YtkbokgpbfpncdaaDoorBPath
import Derived.Test.YtkbokgpbfpncdaaDoorXx4
import Derived.Test.YtkbokgpbfpncdaaDoorXx6
namespace Go.Proofs.YtkbokgpbfpncdaaDoor.Q
open Go.RowKit Go.Proofs.YtkbokgpbfpncdaaDoor.X Go.Proofs.YtkbokgpbfpncdaaDoorW.PrintWords Go.Proofs.YtkbokgpbfpncdaaDoorW.PrintLast Go.Proofs.YtkbokgpbfpncdaaDoorW.PrintMore
set_option linter.unusedVariables false
set_option linter.unusedSimpArgs false

def closedB (g : Int) (l : List UInt8) (s : Int × Int × Int) : Bool := (endS g l s).1 == 0 && ((endS g l s).2.1 == 0 && ((endS g l s).2.2 == 0))
theorem paClosed_eq (g : Int) (w : ByteArray) (hg : g = 4 ∨ g = 6) (hw : w.size ≤ 1000) (hb : ∀ b ∈ w.data.toList, okB b = true) (k : Nat) (hk : 1001 ≤ k) :
    spec_paClosed.f k g w = some (closedB g w.data.toList z3) := by
  unfold spec_paClosed.f closedB
  rw [path_eq g w hg hw hb k hk, Option.bind_some]
  obtain ⟨e1, e2⟩ := path_last g w z3 hw
  have hl : ((pathL g w z3).length : Int) = ((ptsL g w.data.toList z3).length : Int) + 1 := by unfold pathL; rw [List.length_cons]; omega
  simp only [e1, e2]
  rw [if_pos (by omega), if_pos (by omega), if_pos (by simp)]
  have r0 : ∀ a b : Int, rd [a, b] 0 = a := fun _ _ => rfl
  have r1 : ∀ a b : Int, rd [a, b] 1 = b := fun _ _ => rfl
  rw [r0, r1]
  by_cases h0 : (endS g w.data.toList z3).1 = 0
  · rw [if_pos h0, if_pos (by simp)]
    by_cases h1 : (endS g w.data.toList z3).2.1 = 0
    · rw [if_pos h1]; simp [h0, h1]
    · rw [if_neg h1]; simp [h0, h1]
  · rw [if_neg h0]; simp [h0]
theorem isClosed_eq (g : Int) (w : ByteArray) (hg : g = 4 ∨ g = 6) (hw : w.size ≤ 1000) (hb : ∀ b ∈ w.data.toList, okB b = true) (k : Nat) (hk : 1001 ≤ k) :
    impl_isClosed.f k g w = some (closedB g w.data.toList z3) := by
  unfold impl_isClosed.f closedB
  have := walk_eq g w z3 0 hg hw hb (near_z3 hg) (by omega) k hk
  rw [show impl_walk.f k g w 0 0 0 = _ from this, Option.bind_some]

end Go.Proofs.YtkbokgpbfpncdaaDoor.Q
