/- ChordLengths: reference and program tell the same lengths, and the result is memory of its own. -/
import Derived.Test.YtkiookioejckbaaBWrap
import Derived.Test.YtkiookioejckbaaBOrd0
import Derived.Test.YtkiookioejckbaaBSet
import Derived.Test.YtkiookioejckbaaBToC
import Derived.Test.YtkiookioejckbaaBMarks
import Derived.Test.YtkiookioejckbaaBEqC
import Derived.Test.YtkiookioejckbaaBMarksC
import Derived.Test.YtkiookioejckbaaXx14
import Derived.Test.YtkiookioejckbaaXx16
namespace Go.Proofs.Ytkiookioejckbaa.Q
open Go.RowKit Go.Proofs.Ytkiookioejckbaa.X Go.Proofs.YtkiookioejckbaaW.PrintWords Go.Proofs.YtkiookioejckbaaW.PrintLast Go.Proofs.YtkiookioejckbaaW.PrintMore
set_option linter.unusedVariables false
set_option linter.unusedSimpArgs false

def lenC (n : Int) (c : S52) : Int := mn (c.f1 - c.f0) (n - c.f1 + c.f0)
theorem cdLength_eq (n : Int) (c : S52) (hn : 3 ≤ n ∧ n ≤ 60) (hc : Proper n c) : spec_cdLength.f n c.f0 c.f1 = some (lenC n c) := by
  unfold Proper at hc
  unfold spec_cdLength.f spec_l1Least.f lenC mn
  rw [wrap64_id (x := c.f1 - c.f0) (by omega) (by omega), wrap64_id (x := n - c.f1) (by omega) (by omega), wrap64_id (by omega) (by omega)]
  by_cases h : c.f1 - c.f0 < n - c.f1 + c.f0
  · simp [h]; try omega
  · simp [h]; try omega
theorem chordLengths_both_loop (n : Int) (hn : 3 ≤ n ∧ n ≤ 60) (m : List S52) : ∀ (k : Nat) (pre : List S52) (acc : List Int), (∀ x ∈ m, Proper n x) → pre.length + m.length ≤ 1000 → acc.length = pre.length → m.length < k →
    spec_ChordLengths.l0 k n acc (pre ++ m) ((pre ++ m).length : Int) pre.length = some (acc ++ m.map (lenC n), true) ∧ impl_ChordLengths.l0 k n acc (pre ++ m) ((pre ++ m).length : Int) pre.length = some (acc ++ m.map (lenC n), true) := by
  induction m with
  | nil =>
    intro k pre acc _ hl ha hk
    obtain ⟨k, rfl⟩ : ∃ t, k = t + 1 := ⟨k - 1, by omega⟩
    simp only [spec_ChordLengths.l0, impl_ChordLengths.l0, List.append_nil, List.map_nil]
    refine ⟨?_, ?_⟩ <;> rw [if_neg (by omega)]
  | cons x m ih =>
    intro k pre acc hp hl ha hk
    obtain ⟨k, rfl⟩ : ∃ t, k = t + 1 := ⟨k - 1, by omega⟩
    simp only [List.length_cons] at hl hk
    have hlen : ((pre ++ x :: m).length : Int) = pre.length + m.length + 1 := by simp; omega
    have hx := hp x (by simp)
    have hx' := hx
    unfold Proper at hx'
    have IH := ih k (pre ++ [x]) (acc ++ [lenC n x]) (fun y hy => hp y (by simp [hy])) (by simp; omega) (by simp [ha]) (by omega)
    simp only [List.append_assoc, List.cons_append, List.nil_append] at IH
    have hpl : (((pre ++ [x]).length : Nat) : Int) = (pre.length : Int) + 1 := by simp
    rw [hpl] at IH
    have hi : (pre.length : Int) < ((pre ++ x :: m).length : Int) := by omega
    have hi0 : (0 : Int) ≤ (pre.length : Int) := by omega
    have ha' : acc.length < 17592186044416 := by omega
    constructor
    · simp only [spec_ChordLengths.l0, if_pos hi, if_pos hi0, rdC_append, cdLength_eq n x hn hx, Option.bind_some, if_pos ha', wrap64_id (x := (pre.length : Int) + 1) (by omega) (by omega)]
      exact IH.1
    · simp only [impl_ChordLengths.l0, if_pos hi, if_pos hi0, rdC_append, if_pos ha', wrap64_id (x := (pre.length : Int) + 1) (by omega) (by omega), wrap64_id (x := x.f1 - x.f0) (by omega) (by omega), wrap64_id (x := n - x.f1) (by omega) (by omega), wrap64_id (x := n - x.f1 + x.f0) (by omega) (by omega)]
      exact IH.2
theorem chordLengths_both (n : Int) (l : List S52) (hl : l.length ≤ 1048576) : ∃ r : List Int × Bool, r.1.length ≤ 40 ∧ ∀ k, l.length + 100 ≤ k → spec_ChordLengths.f k n l = some r ∧ impl_ChordLengths.f k n l = some r := by
  by_cases h : goodB n l = true
  · obtain ⟨h1, h2, h3, h4⟩ := good_spec n l h
    refine ⟨(l.map (lenC n), true), by simpa using h2, fun k hk => ?_⟩
    have := chordLengths_both_loop n h1 l k [] [] h4 (by simp; omega) rfl (by omega)
    simp only [List.nil_append, List.length_nil, Int.natCast_zero] at this
    unfold spec_ChordLengths.f impl_ChordLengths.f
    simp only [cdGood_eq n l (by omega) k (by omega), isSet_eq n l (by omega) k (by omega), Option.bind_some, if_pos h]
    exact this
  · refine ⟨([], false), by simp, fun k hk => ?_⟩
    unfold spec_ChordLengths.f impl_ChordLengths.f
    simp only [cdGood_eq n l (by omega) k (by omega), isSet_eq n l (by omega) k (by omega), Option.bind_some, if_neg h]
    exact ⟨trivial, trivial⟩
theorem FnExactChordLengths : ∀ (a0 : Int) (l1 : List S50), (Lit.int .i64 a0).wf = true → l1.length ≤ 9223372036854775807 → ∃ k, laws_FnExactChordLengths.f k a0 l1 = some true := by
  intro n l _ hl
  obtain ⟨K, hK⟩ : ∃ K, K = l.length + 200 := ⟨_, rfl⟩
  refine ⟨K + 3, ?_⟩
  unfold laws_FnExactChordLengths.f
  rw [szChordS_eq l hl]
  simp only [Option.bind_some]
  by_cases h : l.length ≤ 1048576
  · have hc := conv_len l
    rw [if_pos h, if_neg (by omega)]
    obtain ⟨⟨r, b⟩, hlen, hr⟩ := chordLengths_both n (conv l) (by omega)
    simp only at hlen
    obtain ⟨y, m1, m2, m3⟩ := mark_held (K + 1) r 1 (by omega) (by omega)
    obtain ⟨yc, c1, c2, _⟩ := mark_heldC (K + 2) (conv l) 1 (by omega) (by omega)
    have T := fun k (hk : K ≤ k) => toChordS_eq l (by omega) k (by omega)
    have E := fun k (hk : K ≤ k) => eqIntS_self k r (by omega) (by omega)
    have E2 := fun k (hk : K ≤ k) => eqChordS_self k (conv l) (by omega) (by omega)
    simp only [T (K + 3) (by omega), (hr (K + 3) (by omega)).1, (hr (K + 3) (by omega)).2, Option.bind_some, E (K + 3) (by omega), laws_FnExactChordLengths.j0, bne_self_eq_false, Bool.false_eq_true, if_false, if_true, T (K + 2) (by omega), E2 (K + 2) (by omega), c1]
    have e1 : ¬ (1 + 2 * ((conv l).length : Int) < 0) := by omega
    have e0 : ¬ (1 + (r.length : Int) < 0) := by omega
    simp only [if_neg e1, E (K + 2) (by omega), Option.bind_some, if_true, laws_FnExactChordLengths.j1, Bool.false_eq_true, if_false, m1, m3 (K + 1) (by omega), if_neg e0, T (K + 1) (by omega), (hr (K + 1) (by omega)).2, E (K + 1) (by omega), laws_FnExactChordLengths.j2, m3 K (by omega)]
    simp
  · rw [if_neg h]
    rfl

end Go.Proofs.Ytkiookioejckbaa.Q
