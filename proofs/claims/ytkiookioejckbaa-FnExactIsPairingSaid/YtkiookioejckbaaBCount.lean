/- Crossings counted. -/
import Derived.Test.YtkiookioejckbaaBWrap
import Derived.Test.YtkiookioejckbaaBOrd0
import Derived.Test.YtkiookioejckbaaXx8
import Derived.Test.YtkiookioejckbaaXx10
namespace Go.Proofs.Ytkiookioejckbaa.Q
open Go.RowKit Go.Proofs.Ytkiookioejckbaa.X Go.Proofs.YtkiookioejckbaaW.PrintWords Go.Proofs.YtkiookioejckbaaW.PrintLast Go.Proofs.YtkiookioejckbaaW.PrintMore
set_option linter.unusedVariables false
set_option linter.unusedSimpArgs false

def crossB (c d : S52) : Bool := spec_srCross.b c.f0 c.f1 d.f0 d.f1
theorem srCross_cross (c d : S52) : spec_srCross.f c.f0 c.f1 d.f0 d.f1 = some (crossB c d) := rfl
theorem crossB_iff (n : Int) (c d : S52) (hc : Proper n c) (hd : Proper n d) : crossB c d = true ↔ (c.f0 < d.f0 ∧ d.f0 < c.f1 ∧ c.f1 < d.f1) ∨ (d.f0 < c.f0 ∧ c.f0 < d.f1 ∧ d.f1 < c.f1) := by
  unfold Proper at hc hd
  unfold crossB spec_srCross.b
  simp only [Bool.and_eq_true, Bool.not_eq_true', Bool.or_eq_false_iff, beq_eq_false_iff_ne, bne_iff_ne, ne_eq, ← Bool.decide_and]
  rw [decide_eq_decide]
  omega
theorem crossing_eq (n : Int) (c d : S52) (hc : Proper n c) (hd : Proper n d) : impl_crossing.f c.f0 c.f1 d.f0 d.f1 = some (crossB c d) := by
  have h := crossB_iff n c d hc hd
  unfold Proper at hc hd
  unfold impl_crossing.f
  by_cases e : crossB c d = true
  · have h1 := h.1 e
    rw [e]
    rcases h1 with h1 | h1
    · rw [if_pos (by omega), if_pos (by omega), if_pos (by omega)]
    · rw [if_neg (by omega), if_pos (by omega), if_pos (by omega), decide_eq_true (by omega)]
  · have h1 : ¬ ((c.f0 < d.f0 ∧ d.f0 < c.f1 ∧ c.f1 < d.f1) ∨ (d.f0 < c.f0 ∧ c.f0 < d.f1 ∧ d.f1 < c.f1)) := fun x => e (h.2 x)
    rw [Bool.eq_false_iff.2 e]
    repeat' split
    all_goals first | rfl | (exfalso; omega) | (refine congrArg some (decide_eq_false ?_); omega)
theorem crossB_symm (n : Int) (c d : S52) (hc : Proper n c) (hd : Proper n d) : crossB c d = crossB d c := by
  rw [Bool.eq_iff_iff, crossB_iff n c d hc hd, crossB_iff n d c hd hc]
  omega
/-- So many of the chords cross c. -/
def countX (c : S52) (l : List S52) : Nat := l.countP (crossB c)
theorem crossed_loop (n : Int) (c : S52) (hc : Proper n c) (m : List S52) : ∀ (k : Nat) (pre : List S52) (cnt : Int), (∀ x ∈ m, Proper n x) → pre.length + m.length ≤ 1000000 → 0 ≤ cnt → cnt + m.length ≤ 4611686018427387904 → m.length < k →
    impl_crossed.l0 k cnt (pre ++ m) ((pre ++ m).length : Int) pre.length c.f0 c.f1 = some (cnt + countX c m) := by
  induction m with
  | nil =>
    intro k pre cnt _ hl h0 h1 hk
    obtain ⟨k, rfl⟩ : ∃ t, k = t + 1 := ⟨k - 1, by omega⟩
    simp only [impl_crossed.l0, List.append_nil]
    rw [if_neg (by omega)]
    simp [countX]
  | cons x m ih =>
    intro k pre cnt hp hl h0 h1 hk
    obtain ⟨k, rfl⟩ : ∃ t, k = t + 1 := ⟨k - 1, by omega⟩
    simp only [List.length_cons] at hl h1 hk
    have hlen : ((pre ++ x :: m).length : Int) = pre.length + m.length + 1 := by simp; omega
    simp only [impl_crossed.l0]
    rw [if_pos (by omega), if_pos (by omega), if_pos (by omega), rdC_append, crossing_eq n c x hc (hp x (by simp))]
    simp only [Option.bind_some]
    have IH := fun cnt h0 h1 => ih k (pre ++ [x]) cnt (fun y hy => hp y (by simp [hy])) (by simp; omega) h0 h1 (by omega)
    simp only [List.append_assoc, List.cons_append, List.nil_append] at IH
    have hpl : (((pre ++ [x]).length : Nat) : Int) = (pre.length : Int) + 1 := by simp
    rw [hpl] at IH
    rw [wrap64_id (x := cnt + 1) (by omega) (by omega), wrap64_id (by omega) (by omega)]
    unfold countX at IH ⊢
    by_cases e : crossB c x = true
    · rw [if_pos e, IH (cnt + 1) (by omega) (by omega), List.countP_cons_of_pos e]
      congr 1; omega
    · rw [if_neg e, IH cnt (by omega) (by omega), List.countP_cons_of_neg e]
theorem crossed_eq (n : Int) (c : S52) (hc : Proper n c) (m : List S52) (hm : ∀ x ∈ m, Proper n x) (hl : m.length ≤ 1000000) (k : Nat) (hk : m.length < k) : impl_crossed.f k m c.f0 c.f1 = some (countX c m : Int) := by
  unfold impl_crossed.f
  have := crossed_loop n c hc m k [] 0 hm (by simpa using hl) (by omega) (by omega) hk
  simpa using this
theorem countX_le (c : S52) (l : List S52) : countX c l ≤ l.length := List.countP_le_length
/-- So many pairs of a list's chords cross. -/
def pairsX : List S52 → Nat
  | [] => 0
  | x :: l => countX x l + pairsX l
theorem pairsX_snoc (n : Int) (x : S52) (hx : Proper n x) : ∀ (l : List S52), (∀ y ∈ l, Proper n y) → pairsX (l ++ [x]) = pairsX l + countX x l
  | [], _ => by simp [pairsX, countX]
  | y :: l, h => by
    have ih := pairsX_snoc n x hx l (fun z hz => h z (by simp [hz]))
    simp only [List.cons_append, pairsX, ih]
    have e := crossB_symm n x y hx (h y (by simp))
    unfold countX
    rw [List.countP_append, List.countP_cons, List.countP_cons, e]
    simp only [List.countP_nil, Nat.zero_add]
    omega
theorem pairsX_le : ∀ (l : List S52), pairsX l ≤ l.length * l.length
  | [] => by simp [pairsX]
  | x :: l => by
    have h1 := pairsX_le l
    have h2 := countX_le x l
    simp only [pairsX, List.length_cons]
    rw [Nat.add_mul, Nat.mul_add]
    omega

end Go.Proofs.Ytkiookioejckbaa.Q
