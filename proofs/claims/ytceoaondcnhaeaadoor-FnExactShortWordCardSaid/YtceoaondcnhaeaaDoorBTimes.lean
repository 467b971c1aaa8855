/- A word told so many times. -/
import Derived.Lib.Repeat
import Derived.Test.YtceoaondcnhaeaaDoorBWord
import Derived.Test.YtceoaondcnhaeaaDoorXx8
import Derived.Test.YtceoaondcnhaeaaDoorXx10
namespace Go.Proofs.YtceoaondcnhaeaaDoor.Q
open Go.RowKit Go.Proofs.YtceoaondcnhaeaaDoor.X Go.Proofs.YtceoaondcnhaeaaDoorW.PrintWords Go.Proofs.YtceoaondcnhaeaaDoorW.PrintLast Go.Proofs.YtceoaondcnhaeaaDoorW.PrintMore
set_option linter.unusedVariables false
set_option linter.unusedSimpArgs false

def rep (w : ByteArray) (t : Nat) : ByteArray := ⟨(Lib.repeatL w.data.toList t).toArray⟩
theorem rep_size (w : ByteArray) (t : Nat) : (rep w t).size = w.size * t := by
  show (Lib.repeatL w.data.toList t).toArray.size = _
  simp [Lib.repeatL_length, Nat.mul_comm]
theorem timesW_loop (w : ByteArray) (d : Nat) : ∀ (k : Nat) (x : Int) (acc : ByteArray), x = d → d ≤ 100000 → acc.size + w.size * d ≤ 100000 → d < k → spec_paTimes.l0 k w x acc = some (acc ++ rep w d) := by
  induction d with
  | zero =>
    intro k x acc hx hd hs hk
    obtain ⟨k, rfl⟩ : ∃ t, k = t + 1 := ⟨k - 1, by omega⟩
    simp only [spec_paTimes.l0]
    rw [if_neg (by omega)]
    refine congrArg some (ByteArray.ext ?_)
    simp [rep, Lib.repeatL, ByteArray.data_append]
  | succ d ih =>
    intro k x acc hx hd hs hk
    obtain ⟨k, rfl⟩ : ∃ t, k = t + 1 := ⟨k - 1, by omega⟩
    have e0 : w.size * (d + 1) = w.size * d + w.size := Nat.mul_succ ..
    simp only [spec_paTimes.l0]
    rw [if_pos (by omega), if_pos (by omega), wrap64_id (by omega) (by omega), ih k (x - 1) (acc ++ w) (by omega) (by omega) (by rw [ByteArray.size_append]; omega) (by omega)]
    refine congrArg some (ByteArray.ext ?_)
    apply Array.toList_inj.1
    simp [rep, Lib.repeatL, ByteArray.data_append]
theorem timesW_eq (w : ByteArray) (t : Nat) (ht : t ≤ 100000) (hs : w.size * t ≤ 100000) (k : Nat) (hk : t < k) : spec_paTimes.f k w (t : Int) = some (rep w t) := by
  unfold spec_paTimes.f
  rw [timesW_loop w t k t ⟨#[]⟩ rfl ht (by show 0 + _ ≤ _; omega) hk]
  refine congrArg some (ByteArray.ext ?_)
  simp [ByteArray.data_append]
theorem repW_eq (w : ByteArray) (t : Nat) (ht : t ≤ 100000) (hs : w.size * t ≤ 100000) : strings_Repeat.f w (t : Int) = some (rep w t) := by
  unfold strings_Repeat.f
  rw [if_pos ⟨by omega, by omega, by simpa using (by omega : w.size * t ≤ 140737488355328)⟩]
  simp [rep]

end Go.Proofs.YtceoaondcnhaeaaDoor.Q
