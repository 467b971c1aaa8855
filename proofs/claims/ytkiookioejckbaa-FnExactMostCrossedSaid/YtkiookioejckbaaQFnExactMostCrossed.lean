/- MostCrossed: reference and program tell the same chord. -/
import Derived.Lib.Slices
import Derived.Test.YtkiookioejckbaaBWrap
import Derived.Test.YtkiookioejckbaaBBase
import Derived.Test.YtkiookioejckbaaBOrd0
import Derived.Test.YtkiookioejckbaaBCount
import Derived.Test.YtkiookioejckbaaBSet
import Derived.Test.YtkiookioejckbaaBToC
import Derived.Test.YtkiookioejckbaaBEqC
import Derived.Test.YtkiookioejckbaaXx17
import Derived.Test.YtkiookioejckbaaXx18
namespace Go.Proofs.Ytkiookioejckbaa.Q
open Go.RowKit Go.Proofs.Ytkiookioejckbaa.X Go.Proofs.YtkiookioejckbaaW.PrintWords Go.Proofs.YtkiookioejckbaaW.PrintLast Go.Proofs.YtkiookioejckbaaW.PrintMore
set_option linter.unusedVariables false
set_option linter.unusedSimpArgs false

/-- Where the first greatest one of what has been looked at stands. -/
def Best (pre : List Int) (b m : Int) : Prop := ∃ j : Nat, b = j ∧ pre[j]? = some m ∧ (∀ (i : Nat) (v : Int), pre[i]? = some v → v ≤ m) ∧ ∀ (i : Nat) (v : Int), i < j → pre[i]? = some v → v ≠ m
theorem best_more {pre : List Int} {b m x : Int} (h : Best pre b m) (hx : x > m) : Best (pre ++ [x]) pre.length x := by
  obtain ⟨j, rfl, h1, h2, h3⟩ := h
  refine ⟨pre.length, rfl, by simp, ?_, ?_⟩
  · intro i v hv
    rw [List.getElem?_append] at hv
    split at hv
    · have := h2 i v hv; omega
    · rename_i hi
      obtain ⟨k, hk⟩ : ∃ k, i - pre.length = k := ⟨_, rfl⟩
      rw [hk] at hv
      cases k with
      | zero => simp at hv; omega
      | succ k => simp at hv
  · intro i v hi hv
    rw [List.getElem?_append_left hi] at hv
    have := h2 i v hv
    omega
theorem best_less {pre : List Int} {b m x : Int} (h : Best pre b m) (hx : ¬ x > m) : Best (pre ++ [x]) b m := by
  obtain ⟨j, rfl, h1, h2, h3⟩ := h
  have hj : j < pre.length := (List.getElem?_eq_some_iff.1 h1).1
  refine ⟨j, rfl, by rw [List.getElem?_append_left hj]; exact h1, ?_, ?_⟩
  · intro i v hv
    rw [List.getElem?_append] at hv
    split at hv
    · exact h2 i v hv
    · rename_i hi
      obtain ⟨k, hk⟩ : ∃ k, i - pre.length = k := ⟨_, rfl⟩
      rw [hk] at hv
      cases k with
      | zero => simp at hv; omega
      | succ k => simp at hv
  · intro i v hi hv
    rw [List.getElem?_append_left (by omega)] at hv
    exact h3 i v hi hv
theorem best_first (x : Int) : Best [x] 0 x := ⟨0, rfl, rfl, fun i v hv => by cases i with
  | zero => simp at hv; omega
  | succ i => simp at hv, fun i v hi _ => absurd hi (Nat.not_lt_zero _)⟩
theorem foldl_max_ge : ∀ (l : List Int) (a : Int), a ≤ l.foldl max a ∧ ∀ x ∈ l, x ≤ l.foldl max a
  | [], a => ⟨Int.le_refl _, by simp⟩
  | y :: l, a => by
    obtain ⟨h1, h2⟩ := foldl_max_ge l (max a y)
    simp only [List.foldl_cons]
    refine ⟨by omega, fun x hx => ?_⟩
    rcases List.mem_cons.1 hx with e | e
    · subst e; omega
    · exact h2 x e
theorem foldl_max_le (m : Int) : ∀ (l : List Int) (a : Int), a ≤ m → (∀ x ∈ l, x ≤ m) → l.foldl max a ≤ m
  | [], a, h, _ => h
  | y :: l, a, h, hl => by
    simp only [List.foldl_cons]
    exact foldl_max_le m l (max a y) (by have := hl y (by simp); omega) (fun x hx => hl x (by simp [hx]))
theorem best_max {l : List Int} {b m : Int} (h : Best l b m) : Lib.maxOf l = m := by
  obtain ⟨j, rfl, h1, h2, h3⟩ := h
  have hm : m ∈ l := List.mem_of_getElem? h1
  unfold Lib.maxOf
  obtain ⟨g1, g2⟩ := foldl_max_ge l (l.headD 0)
  have h4 := g2 m hm
  have h5 : l.headD 0 ≤ m := by
    cases l with
    | nil => simp at hm
    | cons y l => exact h2 0 y rfl
  have h6 := foldl_max_le m l (l.headD 0) h5 (fun x hx => by
    obtain ⟨i, hi⟩ := List.getElem?_of_mem hx
    exact h2 i x hi)
  omega
theorem rd_get? (l : List Int) (i : Nat) (v : Int) (h : l[i]? = some v) : rd l (i : Int) = v := by
  unfold rd
  simp [h]
theorem best_index {l : List Int} {b m : Int} (h : Best l b m) (hl : l.length ≤ 1000) (k : Nat) (hk : l.length < k) : slices_Index_int_int.f k l m = some b := by
  obtain ⟨j, rfl, h1, h2, h3⟩ := h
  have hj : j < l.length := (List.getElem?_eq_some_iff.1 h1).1
  have loop : ∀ (d k i : Nat), j - i = d → i ≤ j → d < k → slices_Index_int_int.l0 k l m l.length i = some (j : Int) := by
    intro d
    induction d with
    | zero =>
      intro k i hd hi hk
      obtain ⟨k, rfl⟩ : ∃ t, k = t + 1 := ⟨k - 1, by omega⟩
      obtain rfl : i = j := by omega
      simp only [slices_Index_int_int.l0]
      rw [if_pos (by omega), if_pos (by omega), if_pos (by omega), if_pos (rd_get? l i m h1).symm]
    | succ d ih =>
      intro k i hd hi hk
      obtain ⟨k, rfl⟩ : ∃ t, k = t + 1 := ⟨k - 1, by omega⟩
      simp only [slices_Index_int_int.l0]
      have hv := List.getElem?_eq_getElem (show i < l.length by omega)
      rw [if_pos (by omega), if_pos (by omega), if_pos (by omega), rd_get? l i _ hv, if_neg (fun e => h3 i _ (by omega) hv e.symm), wrap64_id (by omega) (by omega)]
      exact ih k (i + 1) (by omega) (by omega) (by omega)
  unfold slices_Index_int_int.f
  exact loop (j - 0) k 0 rfl (by omega) (by omega)
theorem mostSpec_inner (l : List S52) (hl : l.length ≤ 1000) (c : S52) (b mo i : Int) (m : List S52) : ∀ (k : Nat) (pre : List S52) (cnt : Int) (r : Option (Int × Bool)), pre ++ m = l → 0 ≤ cnt → cnt + m.length ≤ 1000000 → m.length < k →
    (∀ k', k ≤ k' + m.length + 1 → k' < k → (if cnt + countX c m > mo then spec_MostCrossed.l0 k' l i (cnt + countX c m) l (l.length : Int) (wrap64 (i + 1)) else spec_MostCrossed.l0 k' l b mo l (l.length : Int) (wrap64 (i + 1))) = r) →
    spec_MostCrossed.l1 k l b mo i cnt l (l.length : Int) i l (l.length : Int) pre.length c.f0 c.f1 = r := by
  induction m with
  | nil =>
    intro k pre cnt r e h0 h1 hk hr
    obtain ⟨k, rfl⟩ : ∃ t, k = t + 1 := ⟨k - 1, by omega⟩
    rw [List.append_nil] at e
    subst e
    simp only [spec_MostCrossed.l1]
    rw [if_neg (by omega)]
    simpa [countX] using hr k (by simp) (by omega)
  | cons x m ih =>
    intro k pre cnt r e h0 h1 hk hr
    obtain ⟨k, rfl⟩ : ∃ t, k = t + 1 := ⟨k - 1, by omega⟩
    simp only [List.length_cons] at h1 hk hr
    have hlen : (l.length : Int) = pre.length + m.length + 1 := by rw [← e]; simp; omega
    simp only [spec_MostCrossed.l1]
    have hx : rd_T52 l (pre.length : Int) = x := by rw [← e]; exact rdC_append pre m x
    rw [if_pos (by omega), if_pos (by omega), if_pos (by omega), hx, srCross_cross]
    simp only [Option.bind_some]
    have hpl : (((pre ++ [x]).length : Nat) : Int) = (pre.length : Int) + 1 := by simp
    have IH := fun cnt h0 h1 hr => ih k (pre ++ [x]) cnt r (by simpa using e) h0 h1 (by omega) hr
    rw [hpl] at IH
    rw [wrap64_id (x := cnt + 1) (by omega) (by omega), wrap64_id (x := (pre.length : Int) + 1) (by omega) (by omega)]
    by_cases eX : crossB c x = true
    · rw [if_pos eX]
      refine IH (cnt + 1) (by omega) (by omega) (fun k' h1 h2 => ?_)
      have := hr k' (by omega) (by omega)
      have e9 : cnt + ((countX c (x :: m) : Nat) : Int) = cnt + 1 + countX c m := by
        unfold countX; rw [List.countP_cons_of_pos eX]; omega
      rw [e9] at this
      exact this
    · rw [if_neg eX]
      refine IH cnt (by omega) (by omega) (fun k' h1 h2 => ?_)
      have := hr k' (by omega) (by omega)
      have e9 : cnt + ((countX c (x :: m) : Nat) : Int) = cnt + countX c m := by
        unfold countX; rw [List.countP_cons_of_neg eX]
      rw [e9] at this
      exact this
def bestOf : Int → Int → Int → List Int → Int × Int
  | _, b, m, [] => (b, m)
  | i, b, m, n :: ns => if n > m then bestOf (i + 1) i n ns else bestOf (i + 1) b m ns
theorem bestOf_best : ∀ (ns pre : List Int) (b m : Int), Best pre b m → Best (pre ++ ns) (bestOf pre.length b m ns).1 (bestOf pre.length b m ns).2
  | [], pre, b, m, h => by simpa [bestOf] using h
  | n :: ns, pre, b, m, h => by
    have hpl : (((pre ++ [n]).length : Nat) : Int) = (pre.length : Int) + 1 := by simp
    have e : pre ++ n :: ns = (pre ++ [n]) ++ ns := by simp
    unfold bestOf
    by_cases hgt : n > m
    · rw [if_pos hgt, e, ← hpl]
      exact bestOf_best ns (pre ++ [n]) _ _ (best_more h hgt)
    · rw [if_neg hgt, e, ← hpl]
      exact bestOf_best ns (pre ++ [n]) _ _ (best_less h hgt)
theorem bestOf_all (n : Int) (ns : List Int) (hn : 0 ≤ n) : Best (n :: ns) (bestOf 0 0 (-1) (n :: ns)).1 (bestOf 0 0 (-1) (n :: ns)).2 := by
  have h := bestOf_best ns [n] 0 n (best_first n)
  unfold bestOf
  rw [if_pos (by omega)]
  simpa using h
theorem mostSpec_loop (l : List S52) (hl : l.length ≤ 1000) (m : List S52) : ∀ (k : Nat) (pre : List S52) (b mo : Int), pre ++ m = l → m.length * (l.length + 3) < k →
    spec_MostCrossed.l0 k l b mo l (l.length : Int) pre.length = some ((bestOf pre.length b mo (m.map fun c => (countX c l : Int))).1, true) := by
  induction m with
  | nil =>
    intro k pre b mo e hk
    obtain ⟨k, rfl⟩ : ∃ t, k = t + 1 := ⟨k - 1, by omega⟩
    rw [List.append_nil] at e
    subst e
    simp only [spec_MostCrossed.l0]
    rw [if_neg (by omega)]
    rfl
  | cons x m ih =>
    intro k pre b mo e hk
    obtain ⟨k, rfl⟩ : ∃ t, k = t + 1 := ⟨k - 1, by omega⟩
    have hlen : (l.length : Int) = pre.length + m.length + 1 := by rw [← e]; simp; omega
    simp only [spec_MostCrossed.l0]
    have hx : rd_T52 l (pre.length : Int) = x := by rw [← e]; exact rdC_append pre m x
    rw [if_pos (by omega), if_pos (by omega), if_pos (by omega), hx]
    simp only [List.length_cons] at hk
    have hmul : (m.length + 1) * (l.length + 3) = m.length * (l.length + 3) + (l.length + 3) := by rw [Nat.add_mul, Nat.one_mul]
    have hpl : (((pre ++ [x]).length : Nat) : Int) = (pre.length : Int) + 1 := by simp
    refine mostSpec_inner l hl x b mo pre.length l k [] 0 _ rfl (by omega) (by omega) (by omega) (fun k' h3 h4 => ?_)
    rw [Int.zero_add, wrap64_id (by omega) (by omega), ← hpl]
    simp only [List.map_cons, bestOf]
    by_cases hgt : (countX x l : Int) > mo
    · rw [if_pos hgt, if_pos hgt, ih k' (pre ++ [x]) pre.length (countX x l) (by simpa using e) (by omega), hpl]
    · rw [if_neg hgt, if_neg hgt, ih k' (pre ++ [x]) b mo (by simpa using e) (by omega), hpl]
theorem mostImpl_loop (n : Int) (l : List S52) (hl : l.length ≤ 1000) (hp : ∀ c ∈ l, Proper n c) (m : List S52) : ∀ (k : Nat) (pre : List S52), pre ++ m = l → m.length + 1003 < k →
    impl_MostCrossed.l0 k l (pre.map fun c => (countX c l : Int)) l (l.length : Int) pre.length = (slices_Max_int_int.f (l.map fun c => (countX c l : Int))).bind fun t => (slices_Index_int_int.f (k - m.length - 1) (l.map fun c => (countX c l : Int)) t).bind fun u => some (u, true) := by
  induction m with
  | nil =>
    intro k pre e hk
    obtain ⟨k, rfl⟩ : ∃ t, k = t + 1 := ⟨k - 1, by omega⟩
    rw [List.append_nil] at e
    subst e
    simp only [impl_MostCrossed.l0]
    rw [if_neg (by omega)]
    simp
  | cons x m ih =>
    intro k pre e hk
    obtain ⟨k, rfl⟩ : ∃ t, k = t + 1 := ⟨k - 1, by omega⟩
    simp only [List.length_cons] at hk
    have hlen : (l.length : Int) = pre.length + m.length + 1 := by rw [← e]; simp; omega
    simp only [impl_MostCrossed.l0]
    have hx : rd_T52 l (pre.length : Int) = x := by rw [← e]; exact rdC_append pre m x
    have hxp : Proper n x := hp x (by rw [← e]; simp)
    rw [if_pos (by omega), if_pos (by omega), if_pos (by omega), hx, crossed_eq n x hxp l hp (by omega) k (by omega)]
    simp only [Option.bind_some]
    rw [if_pos (by simp; omega), wrap64_id (by omega) (by omega)]
    have hpl : (((pre ++ [x]).length : Nat) : Int) = (pre.length : Int) + 1 := by simp
    have IH := ih k (pre ++ [x]) (by simpa using e) (by omega)
    rw [hpl, List.map_append] at IH
    rw [show k + 1 - (x :: m).length - 1 = k - m.length - 1 by simp only [List.length_cons]; omega]
    exact IH
theorem mostCrossed_both (n : Int) (l : List S52) (hl : l.length ≤ 1048576) : ∃ r : Int × Bool, ∀ k, l.length + 10000 ≤ k → spec_MostCrossed.f k n l = some r ∧ impl_MostCrossed.f k n l = some r := by
  by_cases h : goodB n l = true
  · obtain ⟨h1, h2, h3, h4⟩ := good_spec n l h
    cases hl0 : l with
    | nil =>
      refine ⟨(0, false), fun k hk => ?_⟩
      subst hl0
      obtain ⟨k, rfl⟩ : ∃ t, k = t + 1 := ⟨k - 1, by simp at hk; omega⟩
      unfold spec_MostCrossed.f impl_MostCrossed.f
      simp only [cdGood_eq n [] (by simp) (k + 1) (by simp at hk ⊢; omega), isSet_eq n [] (by simp) (k + 1) (by simp at hk ⊢; omega), Option.bind_some, if_pos h, spec_MostCrossed.j0, impl_MostCrossed.j0]
      exact ⟨rfl, rfl⟩
    | cons x m =>
      rw [← hl0]
      have hpos : 0 < l.length := by rw [hl0]; simp
      have hB : Best (l.map fun c => (countX c l : Int)) (bestOf 0 0 (-1) (l.map fun c => (countX c l : Int))).1 (bestOf 0 0 (-1) (l.map fun c => (countX c l : Int))).2 := by
        rw [hl0]
        simp only [List.map_cons]
        exact bestOf_all _ _ (by omega)
      refine ⟨((bestOf 0 0 (-1) (l.map fun c => (countX c l : Int))).1, true), fun k hk => ?_⟩
      obtain ⟨k, rfl⟩ : ∃ t, k = t + 1 := ⟨k - 1, by omega⟩
      have hm : l.length * (l.length + 3) ≤ 40 * 43 := Nat.mul_le_mul (by omega) (by omega)
      have e1 := mostSpec_loop l (by omega) l k [] 0 (-1) rfl (by omega)
      have e2 := mostImpl_loop n l (by omega) h4 l k [] rfl (by omega)
      have hz : ((l.length : Int) == 0) = false := beq_eq_false_iff_ne.2 (by omega)
      unfold spec_MostCrossed.f impl_MostCrossed.f
      simp only [cdGood_eq n l (by omega) (k + 1) (by omega), isSet_eq n l (by omega) (k + 1) (by omega), Option.bind_some, if_pos h, spec_MostCrossed.j0, impl_MostCrossed.j0, hz, Bool.false_eq_true, if_false]
      simp only [List.map_nil, List.length_nil, Int.natCast_zero] at e1 e2
      refine ⟨e1, ?_⟩
      rw [e2]
      unfold slices_Max_int_int.f
      rw [if_pos (by simpa using hpos), best_max hB]
      simp only [Option.bind_some]
      rw [best_index hB (by simp; omega) (k - l.length - 1) (by simp; omega)]
      rfl
  · refine ⟨(0, false), fun k hk => ?_⟩
    obtain ⟨k, rfl⟩ : ∃ t, k = t + 1 := ⟨k - 1, by omega⟩
    unfold spec_MostCrossed.f impl_MostCrossed.f
    simp only [cdGood_eq n l (by omega) (k + 1) (by omega), isSet_eq n l (by omega) (k + 1) (by omega), Option.bind_some, if_neg h, spec_MostCrossed.j0, impl_MostCrossed.j0, if_true]
    exact ⟨trivial, trivial⟩
theorem FnExactMostCrossed : ∀ (a0 : Int) (l1 : List S50), (Lit.int .i64 a0).wf = true → l1.length ≤ 9223372036854775807 → ∃ k, laws_FnExactMostCrossed.f k a0 l1 = some true := by
  intro n l _ hl
  refine ⟨l.length + 10001, ?_⟩
  unfold laws_FnExactMostCrossed.f
  rw [szChordS_eq l hl]
  simp only [Option.bind_some]
  by_cases h : l.length ≤ 1048576
  · have hc := conv_len l
    rw [if_pos h, if_neg (by omega)]
    obtain ⟨⟨r, b⟩, hr⟩ := mostCrossed_both n (conv l) (by omega)
    simp only [toChordS_eq l (by omega) (l.length + 10001) (by omega), (hr (l.length + 10001) (by omega)).1, (hr (l.length + 10001) (by omega)).2, Option.bind_some]
    rw [if_pos trivial]
    simp only [laws_FnExactMostCrossed.j0, toChordS_eq l (by omega) (l.length + 10000) (by omega), eqChordS_self (l.length + 10000) (conv l) (by omega) (by omega), Option.bind_some]
    simp
  · rw [if_neg h]
    rfl

end Go.Proofs.Ytkiookioejckbaa.Q
