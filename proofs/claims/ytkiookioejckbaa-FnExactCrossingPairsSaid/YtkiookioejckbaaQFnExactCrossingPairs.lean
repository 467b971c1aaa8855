/- CrossingPairs: reference and program tell the same pairs, and the result is memory of its own. -/
import Derived.Test.YtkiookioejckbaaBWrap
import Derived.Test.YtkiookioejckbaaBOrd0
import Derived.Test.YtkiookioejckbaaBCount
import Derived.Test.YtkiookioejckbaaBCdPairs
import Derived.Test.YtkiookioejckbaaBSet
import Derived.Test.YtkiookioejckbaaBToC
import Derived.Test.YtkiookioejckbaaBEqC
import Derived.Test.YtkiookioejckbaaBMarksC
import Derived.Test.YtkiookioejckbaaBMarksSS
import Derived.Test.YtkiookioejckbaaXx22
import Derived.Test.YtkiookioejckbaaXx23
import Derived.Test.YtkiookioejckbaaXx50
namespace Go.Proofs.Ytkiookioejckbaa.Q
open Go.RowKit Go.Proofs.Ytkiookioejckbaa.X Go.Proofs.YtkiookioejckbaaW.PrintWords Go.Proofs.YtkiookioejckbaaW.PrintLast Go.Proofs.YtkiookioejckbaaW.PrintMore
set_option linter.unusedVariables false
set_option linter.unusedSimpArgs false

theorem crossingPairs_inner (n : Int) (l : List S52) (hl : l.length ≤ 10000) (hP : ∀ x ∈ l, Proper n x) (c : S52) (hc : Proper n c) (i : Int) (m : List S52) : ∀ (k : Nat) (pre : List S52) (acc : List (List Int)) (r : Option (List (List Int) × Bool)), pre ++ m = l → acc.length + m.length ≤ 1000000000000 → m.length < k →
    (∀ k', k ≤ k' + m.length + 1 → k' < k → impl_CrossingPairs.l0 k' l (acc ++ rowP c i pre.length m) l (l.length : Int) (wrap64 (i + 1)) = r) →
    impl_CrossingPairs.l1 k l acc i pre.length l (l.length : Int) i c.f0 c.f1 = r := by
  induction m with
  | nil =>
    intro k pre acc r e h0 hk hr
    obtain ⟨k, rfl⟩ : ∃ t, k = t + 1 := ⟨k - 1, by omega⟩
    rw [List.append_nil] at e
    subst e
    simp only [impl_CrossingPairs.l1]
    rw [if_neg (by omega)]
    simpa [rowP] using hr k (by simp) (by omega)
  | cons x m ih =>
    intro k pre acc r e h0 hk hr
    obtain ⟨k, rfl⟩ : ∃ t, k = t + 1 := ⟨k - 1, by omega⟩
    simp only [List.length_cons] at h0 hk hr
    have hlen : (l.length : Int) = pre.length + m.length + 1 := by rw [← e]; simp; omega
    simp only [impl_CrossingPairs.l1]
    have hx : rd_T52 l (pre.length : Int) = x := by rw [← e]; exact rdC_append pre m x
    rw [if_pos (by omega), if_pos (by omega), hx, crossing_eq n c x hc (hP x (by rw [← e]; simp))]
    simp only [Option.bind_some]
    have hpl : (((pre ++ [x]).length : Nat) : Int) = (pre.length : Int) + 1 := by simp
    have IH := fun acc h0 hr => ih k (pre ++ [x]) acc r (by simpa using e) h0 (by omega) hr
    rw [hpl] at IH
    rw [wrap64_id (x := (pre.length : Int) + 1) (by omega) (by omega)]
    by_cases eX : crossB c x = true
    · rw [if_pos eX, if_pos (by omega)]
      refine IH _ (by simp; omega) (fun k' h1 h2 => ?_)
      have := hr k' (by omega) (by omega)
      unfold rowP at this
      rw [if_pos eX] at this
      rw [List.append_assoc]
      exact this
    · rw [if_neg eX]
      refine IH acc (by omega) (fun k' h1 h2 => ?_)
      have := hr k' (by omega) (by omega)
      unfold rowP at this
      rw [if_neg eX] at this
      exact this
theorem crossingPairs_loop (n : Int) (l : List S52) (hl : l.length ≤ 10000) (hP : ∀ x ∈ l, Proper n x) (m : List S52) : ∀ (k : Nat) (pre : List S52) (acc : List (List Int)), pre ++ m = l → acc.length + m.length * 10000 ≤ 1000000000 → m.length * (l.length + 3) < k →
    impl_CrossingPairs.l0 k l acc l (l.length : Int) pre.length = some (acc ++ allP pre.length m, true) := by
  induction m with
  | nil =>
    intro k pre acc e h0 hk
    obtain ⟨k, rfl⟩ : ∃ t, k = t + 1 := ⟨k - 1, by omega⟩
    rw [List.append_nil] at e
    simp only [impl_CrossingPairs.l0]
    rw [if_neg (by rw [e]; omega)]
    simp [allP]
  | cons x m ih =>
    intro k pre acc e h0 hk
    obtain ⟨k, rfl⟩ : ∃ t, k = t + 1 := ⟨k - 1, by omega⟩
    have hlen : (l.length : Int) = pre.length + m.length + 1 := by rw [← e]; simp; omega
    simp only [impl_CrossingPairs.l0]
    have hx : rd_T52 l (pre.length : Int) = x := by rw [← e]; exact rdC_append pre m x
    rw [if_pos (by omega), if_pos (by omega), if_pos (by omega), hx, wrap64_id (x := (pre.length : Int) + 1) (by omega) (by omega)]
    simp only [List.length_cons] at h0 hk
    have hmul : (m.length + 1) * (l.length + 3) = m.length * (l.length + 3) + (l.length + 3) := by rw [Nat.add_mul, Nat.one_mul]
    have hpl : (((pre ++ [x]).length : Nat) : Int) = (pre.length : Int) + 1 := by simp
    have hin := crossingPairs_inner n l hl hP x (hP x (by rw [← e]; simp)) pre.length m k (pre ++ [x]) acc (some (acc ++ allP pre.length (x :: m), true)) (by simpa using e) (by omega) (by omega) (fun k' h2 h3 => by
      have h4 := countX_le x m
      have h5 := rowP_len x pre.length m ((pre ++ [x]).length : Int)
      have := ih k' (pre ++ [x]) (acc ++ rowP x pre.length ((pre ++ [x]).length : Int) m) (by simpa using e) (by rw [List.length_append, h5]; omega) (by omega)
      rw [hpl] at this ⊢
      rw [wrap64_id (by omega) (by omega), this]
      simp only [allP, List.append_assoc])
    rw [hpl] at hin
    exact hin
theorem rowP_two (c : S52) (i : Int) : ∀ (m : List S52) (j : Int), ∀ r ∈ rowP c i j m, r.length ≤ 2
  | [], _, r, h => by simp [rowP] at h
  | x :: m, j, r, h => by
    unfold rowP at h
    split at h
    · rcases List.mem_cons.1 h with rfl | h
      · exact Nat.le_refl _
      · exact rowP_two c i m _ r h
    · exact rowP_two c i m _ r h
theorem allP_two : ∀ (m : List S52) (i : Int), ∀ r ∈ allP i m, r.length ≤ 2
  | [], _, r, h => by simp [allP] at h
  | x :: m, i, r, h => by
    unfold allP at h
    rcases List.mem_append.1 h with h | h
    · exact rowP_two x i m _ r h
    · exact allP_two m _ r h
theorem crossingPairs_both (n : Int) (l : List S52) (hl : l.length ≤ 1048576) : ∃ r : List (List Int) × Bool, (∀ x ∈ r.1, x.length ≤ 2) ∧ r.1.length ≤ 1600 ∧ ∀ k, l.length + 10000 ≤ k → spec_CrossingPairs.f k n l = some r ∧ impl_CrossingPairs.f k n l = some r := by
  by_cases h : goodB n l = true
  · obtain ⟨h1, h2, h3, h4⟩ := good_spec n l h
    have hm : l.length * (l.length + 3) ≤ 40 * 43 := Nat.mul_le_mul (by omega) (by omega)
    have hp := pairsX_le l
    have hp2 : l.length * l.length ≤ 40 * 40 := Nat.mul_le_mul (by omega) (by omega)
    refine ⟨(allP 0 l, true), allP_two l 0, by rw [allP_len]; omega, fun k hk => ?_⟩
    have e := crossingPairs_loop n l (by omega) h4 l k [] [] rfl (by simp; omega) (by omega)
    simp only [List.length_nil, Int.natCast_zero, List.nil_append] at e
    unfold spec_CrossingPairs.f impl_CrossingPairs.f
    simp only [cdGood_eq n l (by omega) k (by omega), isSet_eq n l (by omega) k (by omega), Option.bind_some, if_pos h, cdPairs_eq l (by omega) k (by omega), e]
    exact ⟨by first | rfl | trivial, by first | rfl | trivial⟩
  · refine ⟨([], false), by simp, by simp, fun k hk => ?_⟩
    unfold spec_CrossingPairs.f impl_CrossingPairs.f
    simp only [cdGood_eq n l (by omega) k (by omega), isSet_eq n l (by omega) k (by omega), Option.bind_some, if_neg h]
    exact ⟨trivial, trivial⟩
theorem FnExactCrossingPairs : ∀ (a0 : Int) (l1 : List S50), (Lit.int .i64 a0).wf = true → l1.length ≤ 9223372036854775807 → ∃ k, laws_FnExactCrossingPairs.f k a0 l1 = some true := by
  intro n l _ hl
  obtain ⟨K, hK⟩ : ∃ K, K = l.length + 20000 := ⟨_, rfl⟩
  refine ⟨K, ?_⟩
  unfold laws_FnExactCrossingPairs.f
  rw [szChordS_eq l hl, Option.bind_some]
  by_cases h : l.length ≤ 1048576
  · have hc := conv_len l
    rw [if_pos h, if_neg (by omega)]
    obtain ⟨⟨r, b⟩, ht, hlen, hr⟩ := crossingPairs_both n (conv l) (by omega)
    simp only at ht hlen
    obtain ⟨y, m1, m2⟩ := mark_heldSS 2 (by omega) r ht (by omega) K (by omega)
    obtain ⟨yc, c1, _, _⟩ := mark_heldC K (conv l) 1 (by omega) (by omega)
    simp only [toChordS_eq l (by omega) K (by omega), (hr K (by omega)).1, (hr K (by omega)).2, Option.bind_some, eqSS_self 2 (by omega) r ht (by omega) K (by omega), eqChordS_self K (conv l) (by omega) (by omega), c1, m1, m2 K (by omega)]
    rw [if_pos ⟨trivial, trivial, trivial, by omega, by omega, trivial⟩]
  · rw [if_neg h]
    rfl

end Go.Proofs.Ytkiookioejckbaa.Q
