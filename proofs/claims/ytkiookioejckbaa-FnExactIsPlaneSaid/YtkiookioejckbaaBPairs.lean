/- Pairs that cross, counted by the program. -/
import Derived.Test.YtkiookioejckbaaBWrap
import Derived.Test.YtkiookioejckbaaBOrd0
import Derived.Test.YtkiookioejckbaaBCount
import Derived.Test.YtkiookioejckbaaXx11
namespace Go.Proofs.Ytkiookioejckbaa.Q
open Go.RowKit Go.Proofs.Ytkiookioejckbaa.X Go.Proofs.YtkiookioejckbaaW.PrintWords Go.Proofs.YtkiookioejckbaaW.PrintLast Go.Proofs.YtkiookioejckbaaW.PrintMore
set_option linter.unusedVariables false
set_option linter.unusedSimpArgs false

theorem crossings_loop (n : Int) (m : List S52) : ∀ (k : Nat) (pre : List S52), (∀ x ∈ pre ++ m, Proper n x) → pre.length + m.length ≤ 1000000 → pre.length + m.length + m.length < k →
    impl_crossings.l0 k (pre ++ m) (pairsX pre) (pre ++ m) ((pre ++ m).length : Int) pre.length = some (pairsX (pre ++ m) : Int) := by
  induction m with
  | nil =>
    intro k pre hp hl hk
    obtain ⟨k, rfl⟩ : ∃ t, k = t + 1 := ⟨k - 1, by omega⟩
    simp only [impl_crossings.l0, List.append_nil]
    rw [if_neg (by omega)]
  | cons x m ih =>
    intro k pre hp hl hk
    obtain ⟨k, rfl⟩ : ∃ t, k = t + 1 := ⟨k - 1, by omega⟩
    simp only [List.length_cons] at hl hk
    have hlen : ((pre ++ x :: m).length : Int) = pre.length + m.length + 1 := by simp; omega
    simp only [impl_crossings.l0]
    have hpre : ∀ y ∈ pre, Proper n y := fun y hy => hp y (by simp [hy])
    have hx : Proper n x := hp x (by simp)
    rw [if_pos (by omega), if_pos (by omega), if_pos (by omega), if_pos (by omega), rdC_append, Int.toNat_natCast, List.take_left, crossed_eq n x hx pre hpre (by omega) k (by omega)]
    simp only [Option.bind_some]
    have h1 := pairsX_le pre
    have h2 := countX_le x pre
    have h3 : pre.length * pre.length ≤ 1000000 * 1000000 := Nat.mul_le_mul (by omega) (by omega)
    have IH := ih k (pre ++ [x]) (by simpa using hp) (by simp; omega) (by simp; omega)
    rw [pairsX_snoc n x hx pre hpre] at IH
    simp only [List.append_assoc, List.cons_append, List.nil_append] at IH
    have hpl : (((pre ++ [x]).length : Nat) : Int) = (pre.length : Int) + 1 := by simp
    rw [hpl, Int.natCast_add] at IH
    rw [wrap64_id (by omega) (by omega), wrap64_id (by omega) (by omega)]
    exact IH
theorem crossings_eq (n : Int) (l : List S52) (h : ∀ x ∈ l, Proper n x) (hl : l.length ≤ 1000000) (k : Nat) (hk : l.length + l.length < k) : impl_crossings.f k l = some (pairsX l : Int) := by
  unfold impl_crossings.f
  have := crossings_loop n l k [] (by simpa using h) (by simpa using hl) (by simpa using hk)
  simpa [pairsX] using this

end Go.Proofs.Ytkiookioejckbaa.Q
