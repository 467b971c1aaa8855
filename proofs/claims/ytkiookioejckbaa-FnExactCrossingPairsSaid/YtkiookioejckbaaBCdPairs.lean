/- The reference's pairs that cross. -/
import Derived.Test.YtkiookioejckbaaBWrap
import Derived.Test.YtkiookioejckbaaBOrd0
import Derived.Test.YtkiookioejckbaaBCount
import Derived.Test.YtkiookioejckbaaXx9
namespace Go.Proofs.Ytkiookioejckbaa.Q
open Go.RowKit Go.Proofs.Ytkiookioejckbaa.X Go.Proofs.YtkiookioejckbaaW.PrintWords Go.Proofs.YtkiookioejckbaaW.PrintLast Go.Proofs.YtkiookioejckbaaW.PrintMore
set_option linter.unusedVariables false
set_option linter.unusedSimpArgs false

/-- Index pairs (i, j), ahead the first i, j from o on, with chords of m that cross c. -/
def rowP (c : S52) (i : Int) : Int → List S52 → List (List Int)
  | _, [] => []
  | j, x :: m => if crossB c x = true then [i, j] :: rowP c i (j + 1) m else rowP c i (j + 1) m
def allP : Int → List S52 → List (List Int)
  | _, [] => []
  | i, c :: m => rowP c i (i + 1) m ++ allP (i + 1) m
theorem rowP_len (c : S52) (i : Int) : ∀ (m : List S52) (j : Int), (rowP c i j m).length = countX c m
  | [], _ => rfl
  | x :: m, j => by
    unfold rowP countX
    by_cases e : crossB c x = true
    · rw [if_pos e, List.countP_cons_of_pos e, List.length_cons, rowP_len c i m]; rfl
    · rw [if_neg e, List.countP_cons_of_neg e, rowP_len c i m]; rfl
theorem allP_len : ∀ (m : List S52) (i : Int), (allP i m).length = pairsX m
  | [], _ => rfl
  | c :: m, i => by
    unfold allP pairsX
    rw [List.length_append, rowP_len, allP_len m]
theorem cdPairs_inner (l : List S52) (hl : l.length ≤ 10000) (c : S52) (i : Int) (m : List S52) : ∀ (k : Nat) (pre : List S52) (acc : List (List Int)) (r : Option (List (List Int))), pre ++ m = l → acc.length + m.length ≤ 1000000000000 → m.length < k →
    (∀ k', k ≤ k' + m.length + 1 → k' < k → spec_cdPairs.l0 k' l (acc ++ rowP c i pre.length m) l (l.length : Int) (wrap64 (i + 1)) = r) →
    spec_cdPairs.l1 k l acc i pre.length l (l.length : Int) i c.f0 c.f1 = r := by
  induction m with
  | nil =>
    intro k pre acc r e h0 hk hr
    obtain ⟨k, rfl⟩ : ∃ t, k = t + 1 := ⟨k - 1, by omega⟩
    rw [List.append_nil] at e
    subst e
    simp only [spec_cdPairs.l1]
    rw [if_neg (by omega)]
    simpa [rowP] using hr k (by simp) (by omega)
  | cons x m ih =>
    intro k pre acc r e h0 hk hr
    obtain ⟨k, rfl⟩ : ∃ t, k = t + 1 := ⟨k - 1, by omega⟩
    simp only [List.length_cons] at h0 hk hr
    have hlen : (l.length : Int) = pre.length + m.length + 1 := by rw [← e]; simp; omega
    simp only [spec_cdPairs.l1]
    have hx : rd_T52 l (pre.length : Int) = x := by rw [← e]; exact rdC_append pre m x
    rw [if_pos (by omega), if_pos (by omega), hx, srCross_cross]
    simp only [Option.bind_some]
    have hpl : (((pre ++ [x]).length : Nat) : Int) = (pre.length : Int) + 1 := by simp
    have IH := fun acc h0 hr => ih k (pre ++ [x]) acc r (by simpa using e) h0 (by omega) hr
    rw [hpl] at IH
    rw [wrap64_id (x := (pre.length : Int) + 1) (by omega) (by omega)]
    by_cases eX : crossB c x = true
    · rw [if_pos eX, if_pos (by omega)]
      refine IH _ (by simp; omega) (fun k' h1 h2 => ?_)
      have := hr k' (by omega) (by omega)
      unfold rowP at this
      rw [if_pos eX] at this
      rw [List.append_assoc]
      exact this
    · rw [if_neg eX]
      refine IH acc (by omega) (fun k' h1 h2 => ?_)
      have := hr k' (by omega) (by omega)
      unfold rowP at this
      rw [if_neg eX] at this
      exact this
theorem cdPairs_loop (l : List S52) (hl : l.length ≤ 10000) (m : List S52) : ∀ (k : Nat) (pre : List S52) (acc : List (List Int)), pre ++ m = l → acc.length + m.length * 10000 ≤ 1000000000 → m.length * (l.length + 3) < k →
    spec_cdPairs.l0 k l acc l (l.length : Int) pre.length = some (acc ++ allP pre.length m) := by
  induction m with
  | nil =>
    intro k pre acc e h0 hk
    obtain ⟨k, rfl⟩ : ∃ t, k = t + 1 := ⟨k - 1, by omega⟩
    rw [List.append_nil] at e
    simp only [spec_cdPairs.l0]
    rw [if_neg (by rw [e]; omega)]
    simp [allP]
  | cons x m ih =>
    intro k pre acc e h0 hk
    obtain ⟨k, rfl⟩ : ∃ t, k = t + 1 := ⟨k - 1, by omega⟩
    have hlen : (l.length : Int) = pre.length + m.length + 1 := by rw [← e]; simp; omega
    simp only [spec_cdPairs.l0]
    have hx : rd_T52 l (pre.length : Int) = x := by rw [← e]; exact rdC_append pre m x
    rw [if_pos (by omega), if_pos (by omega), if_pos (by omega), hx, wrap64_id (x := (pre.length : Int) + 1) (by omega) (by omega)]
    simp only [List.length_cons] at h0 hk
    have hmul : (m.length + 1) * (l.length + 3) = m.length * (l.length + 3) + (l.length + 3) := by rw [Nat.add_mul, Nat.one_mul]
    have hpl : (((pre ++ [x]).length : Nat) : Int) = (pre.length : Int) + 1 := by simp
    have hin := cdPairs_inner l hl x pre.length m k (pre ++ [x]) acc (some (acc ++ allP pre.length (x :: m))) (by simpa using e) (by omega) (by omega) (fun k' h2 h3 => by
      have h4 := countX_le x m
      have h5 := rowP_len x pre.length m ((pre ++ [x]).length : Int)
      have := ih k' (pre ++ [x]) (acc ++ rowP x pre.length ((pre ++ [x]).length : Int) m) (by simpa using e) (by rw [List.length_append, h5]; omega) (by omega)
      rw [hpl] at this ⊢
      rw [wrap64_id (by omega) (by omega), this]
      simp only [allP, List.append_assoc])
    rw [hpl] at hin
    exact hin
theorem cdPairs_eq (l : List S52) (hl : l.length ≤ 10000) (k : Nat) (hk : l.length * (l.length + 3) < k) : spec_cdPairs.f k l = some (allP 0 l) := by
  unfold spec_cdPairs.f
  have := cdPairs_loop l hl l k [] [] rfl (by simp; omega) hk
  simpa using this

end Go.Proofs.Ytkiookioejckbaa.Q
