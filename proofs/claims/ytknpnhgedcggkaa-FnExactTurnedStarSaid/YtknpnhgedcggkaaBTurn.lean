/- Chords turned. -/
import Derived.Test.YtknpnhgedcggkaaBStar
import Derived.Test.YtknpnhgedcggkaaBOrd
import Derived.Test.YtknpnhgedcggkaaBChords
import Derived.Test.YtknpnhgedcggkaaXx27
namespace Go.Proofs.Ytknpnhgedcggkaa.Q
open Go.RowKit Go.Proofs.Ytknpnhgedcggkaa.X Go.Proofs.YtknpnhgedcggkaaW.PrintWords Go.Proofs.YtknpnhgedcggkaaW.PrintLast Go.Proofs.YtknpnhgedcggkaaW.PrintMore
set_option linter.unusedVariables false
set_option linter.unusedSimpArgs false

def turnC (n t : Int) (c : S55) : S55 := mkC ((c.f0 + t) % n) ((c.f1 + t) % n)
theorem turn_tmod (n t x : Int) (hn : 3 ≤ n ∧ n ≤ 60) (ht : 0 ≤ t ∧ t < n) (hx : 0 ≤ x ∧ x < n) : Int.tmod (wrap64 (x + t)) n = (x + t) % n := by
  rw [wrap64_id (by omega) (by omega), Int.tmod_eq_emod_of_nonneg (by omega)]
theorem rdC_app (l m : List S55) (x : S55) : rd_T55 (l ++ x :: m) (l.length : Int) = x := by
  rw [rdC_get _ _ (by omega) (by simp; omega)]
  simp
theorem turned_loop (n t : Int) (hn : 3 ≤ n ∧ n ≤ 60) (ht : 0 ≤ t ∧ t < n) (m : List S55) : ∀ (k : Nat) (pre acc : List S55), (∀ x ∈ m, Proper n x) → pre.length + m.length ≤ 1000 → acc.length = pre.length → m.length < k →
    impl_turned.l0 k n t acc (pre ++ m) ((pre ++ m).length : Int) pre.length = some (ordL (acc ++ m.map (turnC n t))) := by
  induction m with
  | nil =>
    intro k pre acc _ hl ha hk
    obtain ⟨k, rfl⟩ : ∃ t, k = t + 1 := ⟨k - 1, by omega⟩
    simp only [List.length_nil, Nat.add_zero] at hl
    simp only [impl_turned.l0, List.append_nil, List.map_nil]
    rw [if_neg (by omega), ordered_eq acc (by omega)]
    rfl
  | cons x m ih =>
    intro k pre acc hp hl ha hk
    obtain ⟨k, rfl⟩ : ∃ t, k = t + 1 := ⟨k - 1, by omega⟩
    simp only [List.length_cons] at hl hk
    have hlen : ((pre ++ x :: m).length : Int) = pre.length + m.length + 1 := by simp; omega
    simp only [impl_turned.l0, List.map_cons]
    have hx := hp x (by simp)
    have hx' := hx
    unfold Proper at hx'
    rw [if_pos (by omega), if_pos (by omega), if_pos (by omega), if_neg (by omega), rdC_app, turn_tmod n t _ hn ht (by omega), turn_tmod n t _ hn ht (by omega), implChord_eq]
    simp only [Option.bind_some]
    rw [if_pos (by omega), wrap64_id (by omega) (by omega)]
    have IH := ih k (pre ++ [x]) (acc ++ [turnC n t x]) (fun y hy => hp y (by simp [hy])) (by simp; omega) (by simp [ha]) (by omega)
    simp only [List.append_assoc, List.cons_append, List.nil_append] at IH
    have hpl : (((pre ++ [x]).length : Nat) : Int) = (pre.length : Int) + 1 := by simp
    rw [hpl] at IH
    exact IH
theorem turned_eq (n t : Int) (hn : 3 ≤ n ∧ n ≤ 60) (ht : 0 ≤ t ∧ t < n) (m : List S55) (hm : ∀ x ∈ m, Proper n x) (hl : m.length ≤ 1000) (k : Nat) (hk : m.length < k) : impl_turned.f k n m t = some (ordL (m.map (turnC n t))) := by
  unfold impl_turned.f
  have := turned_loop n t hn ht m k [] [] hm (by simpa using hl) rfl hk
  simpa using this

end Go.Proofs.Ytknpnhgedcggkaa.Q
