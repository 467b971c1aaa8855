/- RankOfPlanePairing: reference and program tell the same rank. -/
import Derived.Test.YtkiookioejckbaaZFnExactRankOfPlanePairing2
namespace Go.Proofs.Ytkiookioejckbaa.Q
open Go.RowKit Go.Proofs.Ytkiookioejckbaa.X Go.Proofs.YtkiookioejckbaaW.PrintWords Go.Proofs.YtkiookioejckbaaW.PrintLast Go.Proofs.YtkiookioejckbaaW.PrintMore
set_option linter.unusedVariables false
set_option linter.unusedSimpArgs false

/-! ### BWrap -/
theorem wrap64_id {x : Int} (h0 : -9223372036854775808 ≤ x) (h1 : x ≤ 9223372036854775807) : wrap64 x = x := by unfold wrap64; omega
theorem wrap_step {x : Int} (h0 : 0 ≤ x) (h1 : x ≤ 4611686018427387904) : wrap64 (x + 1) = x + 1 := by unfold wrap64; omega
/-! ### BBase -/
theorem l1In_eq (a b c : Int) : spec_l1In.f a b c = some (decide (b ≤ a ∧ a ≤ c)) := by
  unfold spec_l1In.f
  by_cases h : a ≥ b
  · rw [if_pos h]; exact congrArg some (decide_eq_decide.2 (by omega))
  · rw [if_neg h]; exact congrArg some (decide_eq_false (by omega)).symm
theorem within_eq (a b c : Int) : impl_within.f a b c = some (decide (b ≤ a ∧ a ≤ c)) := by
  unfold impl_within.f
  by_cases h : a ≥ b
  · rw [if_pos h]; exact congrArg some (decide_eq_decide.2 (by omega))
  · rw [if_neg h]; exact congrArg some (decide_eq_false (by omega)).symm
theorem srPoints_eq (a : Int) : spec_srPoints.f a = some (decide (3 ≤ a ∧ a ≤ 60)) := by
  unfold spec_srPoints.f; rw [l1In_eq]; rfl
theorem isCircle_eq (a : Int) : impl_isCircle.f a = some (decide (3 ≤ a ∧ a ≤ 60)) := by
  unfold impl_isCircle.f; rw [within_eq]; rfl
/-! ### BOrd0 -/
/-- The order of chords. -/
def cLt (x y : S52) : Bool := decide (x.f0 < y.f0 ∨ (x.f0 = y.f0 ∧ x.f1 < y.f1))
theorem cLt_iff (x y : S52) : cLt x y = true ↔ (x.f0 < y.f0 ∨ (x.f0 = y.f0 ∧ x.f1 < y.f1)) := by unfold cLt; exact decide_eq_true_iff
theorem chord_ext {x y : S52} (h0 : x.f0 = y.f0) (h1 : x.f1 = y.f1) : x = y := by cases x; cases y; simp_all
/-- Strictly in order. -/
def Strict (l : List S52) : Prop := l.Pairwise fun x y => cLt x y = true
/-- Two lists strictly in order with the same members are the same. -/
theorem strict_unique : ∀ (l m : List S52), Strict l → Strict m → (∀ x, x ∈ l ↔ x ∈ m) → l = m
  | [], [], _, _, _ => rfl
  | [], y :: m, _, _, h => by have := (h y).2 (by simp); simp at this
  | x :: l, [], _, _, h => by have := (h x).1 (by simp); simp at this
  | x :: l, y :: m, hl, hm, h => by
    unfold Strict at hl hm
    rw [List.pairwise_cons] at hl hm
    have e : x = y := by
      have h1 := (h x).1 (by simp)
      have h2 := (h y).2 (by simp)
      rcases List.mem_cons.1 h1 with h1 | h1
      · exact h1
      · rcases List.mem_cons.1 h2 with h2 | h2
        · exact h2.symm
        · have a := hl.1 y h2
          have b := hm.1 x h1
          rw [cLt_iff] at a b
          omega
    subst e
    rw [strict_unique l m hl.2 hm.2 (fun z => by
      have hz := h z
      simp only [List.mem_cons] at hz
      constructor
      · intro hzl
        rcases hz.1 (Or.inr hzl) with e | e
        · subst e; have := hl.1 z hzl; rw [cLt_iff] at this; omega
        · exact e
      · intro hzm
        rcases hz.2 (Or.inr hzm) with e | e
        · subst e; have := hm.1 z hzm; rw [cLt_iff] at this; omega
        · exact e)]
/-- A chord put in at its place. -/
def insL (c : S52) : List S52 → List S52
  | [] => [c]
  | x :: l => if cLt x c = true then x :: insL c l else if x.f0 = c.f0 ∧ x.f1 = c.f1 then x :: l else c :: x :: l
theorem insL_mem (c : S52) : ∀ (l : List S52) (x : S52), x ∈ insL c l ↔ x = c ∨ x ∈ l
  | [], x => by simp [insL]
  | y :: l, x => by
    unfold insL
    split
    · rw [List.mem_cons, insL_mem c l x, List.mem_cons]; constructor
      · rintro (h | h | h) <;> simp [h]
      · rintro (h | h | h) <;> simp [h]
    · split
      · rename_i e; have e := chord_ext e.1 e.2; subst e; simp
      · simp
theorem insL_strict (c : S52) : ∀ (l : List S52), Strict l → Strict (insL c l)
  | [], _ => by simp [insL, Strict]
  | y :: l, h => by
    unfold Strict at h
    rw [List.pairwise_cons] at h
    unfold insL
    split
    · rename_i hy
      unfold Strict
      rw [List.pairwise_cons]
      refine ⟨fun z hz => ?_, insL_strict c l h.2⟩
      rcases (insL_mem c l z).1 hz with e | e
      · subst e; exact hy
      · exact h.1 z e
    · split
      · unfold Strict; rw [List.pairwise_cons]; exact h
      · rename_i h1 h2
        have h3 : ¬ (y.f0 = c.f0 ∧ y.f1 = c.f1) := h2
        have h4 : cLt c y = true := by rw [cLt_iff] at h1 ⊢; omega
        unfold Strict
        rw [List.pairwise_cons, List.pairwise_cons]
        refine ⟨fun z hz => ?_, h⟩
        rcases List.mem_cons.1 hz with e | e
        · subst e; exact h4
        · have h5 := h.1 z e
          rw [cLt_iff] at h4 h5 ⊢
          omega
theorem insL_len (c : S52) : ∀ (l : List S52), (insL c l).length ≤ l.length + 1
  | [] => by simp [insL]
  | y :: l => by
    unfold insL
    have := insL_len c l
    split
    · simp; omega
    · split <;> simp
/-- All chords of a list put in, one by one. -/
def putAll (acc : List S52) : List S52 → List S52
  | [] => acc
  | c :: l => putAll (insL c acc) l
theorem putAll_spec : ∀ (l acc : List S52), Strict acc → Strict (putAll acc l) ∧ ∀ x, x ∈ putAll acc l ↔ x ∈ acc ∨ x ∈ l
  | [], acc, h => ⟨h, by simp [putAll]⟩
  | c :: l, acc, h => by
    obtain ⟨h1, h2⟩ := putAll_spec l (insL c acc) (insL_strict c acc h)
    refine ⟨h1, fun x => ?_⟩
    unfold putAll
    rw [h2, insL_mem, List.mem_cons]
    constructor
    · rintro ((h | h) | h) <;> simp [h]
    · rintro (h | h | h) <;> simp [h]
theorem putAll_len : ∀ (l acc : List S52), (putAll acc l).length ≤ acc.length + l.length
  | [], acc => by simp [putAll]
  | c :: l, acc => by
    have h1 := putAll_len l (insL c acc)
    have h2 := insL_len c acc
    unfold putAll
    simp only [List.length_cons]
    omega
theorem rdC_get (l : List S52) (i : Int) (h0 : 0 ≤ i) (h1 : i < l.length) : rd_T52 l i = l[i.toNat]'(by omega) := by
  unfold rd_T52
  have h : i.toNat < l.length := by omega
  simp [h]
theorem srLess_eq (a b c d : Int) : spec_srLess.f a b c d = some (cLt ⟨a, b⟩ ⟨c, d⟩) := by
  unfold spec_srLess.f cLt
  split
  · rename_i h; exact congrArg some (decide_eq_true (Or.inl h)).symm
  · split
    · rename_i h1 h2
      refine congrArg some (decide_eq_decide.2 ?_)
      simp only
      omega
    · rename_i h1 h2
      refine congrArg some (decide_eq_false ?_).symm
      simp only
      omega
theorem rdC_append (l m : List S52) (x : S52) : rd_T52 (l ++ x :: m) (l.length : Int) = x := by
  rw [rdC_get _ _ (by omega) (by simp; omega)]
  simp
def mkC (a b : Int) : S52 := ⟨mn a b, mx a b⟩
/-- A chord of n points. -/
def Proper (n : Int) (c : S52) : Prop := 0 ≤ c.f0 ∧ c.f0 < c.f1 ∧ c.f1 < n
theorem mkC_proper (n a b : Int) (ha : 0 ≤ a ∧ a < n) (hb : 0 ≤ b ∧ b < n) (h : a ≠ b) : Proper n (mkC a b) := by
  unfold Proper mkC mn mx
  simp only
  split <;> split <;> omega
/-! ### BCount -/
def crossB (c d : S52) : Bool := spec_srCross.b c.f0 c.f1 d.f0 d.f1
theorem srCross_cross (c d : S52) : spec_srCross.f c.f0 c.f1 d.f0 d.f1 = some (crossB c d) := rfl
theorem crossB_iff (n : Int) (c d : S52) (hc : Proper n c) (hd : Proper n d) : crossB c d = true ↔ (c.f0 < d.f0 ∧ d.f0 < c.f1 ∧ c.f1 < d.f1) ∨ (d.f0 < c.f0 ∧ c.f0 < d.f1 ∧ d.f1 < c.f1) := by
  unfold Proper at hc hd
  unfold crossB spec_srCross.b
  simp only [Bool.and_eq_true, Bool.not_eq_true', Bool.or_eq_false_iff, beq_eq_false_iff_ne, bne_iff_ne, ne_eq, ← Bool.decide_and]
  rw [decide_eq_decide]
  omega
theorem crossing_eq (n : Int) (c d : S52) (hc : Proper n c) (hd : Proper n d) : impl_crossing.f c.f0 c.f1 d.f0 d.f1 = some (crossB c d) := by
  have h := crossB_iff n c d hc hd
  unfold Proper at hc hd
  unfold impl_crossing.f
  by_cases e : crossB c d = true
  · have h1 := h.1 e
    rw [e]
    rcases h1 with h1 | h1
    · rw [if_pos (by omega), if_pos (by omega), if_pos (by omega)]
    · rw [if_neg (by omega), if_pos (by omega), if_pos (by omega), decide_eq_true (by omega)]
  · have h1 : ¬ ((c.f0 < d.f0 ∧ d.f0 < c.f1 ∧ c.f1 < d.f1) ∨ (d.f0 < c.f0 ∧ c.f0 < d.f1 ∧ d.f1 < c.f1)) := fun x => e (h.2 x)
    rw [Bool.eq_false_iff.2 e]
    repeat' split
    all_goals first | rfl | (exfalso; omega) | (refine congrArg some (decide_eq_false ?_); omega)
theorem crossB_symm (n : Int) (c d : S52) (hc : Proper n c) (hd : Proper n d) : crossB c d = crossB d c := by
  rw [Bool.eq_iff_iff, crossB_iff n c d hc hd, crossB_iff n d c hd hc]
  omega
/-- So many of the chords cross c. -/
def countX (c : S52) (l : List S52) : Nat := l.countP (crossB c)
theorem crossed_loop (n : Int) (c : S52) (hc : Proper n c) (m : List S52) : ∀ (k : Nat) (pre : List S52) (cnt : Int), (∀ x ∈ m, Proper n x) → pre.length + m.length ≤ 1000000 → 0 ≤ cnt → cnt + m.length ≤ 4611686018427387904 → m.length < k →
    impl_crossed.l0 k cnt (pre ++ m) ((pre ++ m).length : Int) pre.length c.f0 c.f1 = some (cnt + countX c m) := by
  induction m with
  | nil =>
    intro k pre cnt _ hl h0 h1 hk
    obtain ⟨k, rfl⟩ : ∃ t, k = t + 1 := ⟨k - 1, by omega⟩
    simp only [impl_crossed.l0, List.append_nil]
    rw [if_neg (by omega)]
    simp [countX]
  | cons x m ih =>
    intro k pre cnt hp hl h0 h1 hk
    obtain ⟨k, rfl⟩ : ∃ t, k = t + 1 := ⟨k - 1, by omega⟩
    simp only [List.length_cons] at hl h1 hk
    have hlen : ((pre ++ x :: m).length : Int) = pre.length + m.length + 1 := by simp; omega
    simp only [impl_crossed.l0]
    rw [if_pos (by omega), if_pos (by omega), if_pos (by omega), rdC_append, crossing_eq n c x hc (hp x (by simp))]
    simp only [Option.bind_some]
    have IH := fun cnt h0 h1 => ih k (pre ++ [x]) cnt (fun y hy => hp y (by simp [hy])) (by simp; omega) h0 h1 (by omega)
    simp only [List.append_assoc, List.cons_append, List.nil_append] at IH
    have hpl : (((pre ++ [x]).length : Nat) : Int) = (pre.length : Int) + 1 := by simp
    rw [hpl] at IH
    rw [wrap64_id (x := cnt + 1) (by omega) (by omega), wrap64_id (by omega) (by omega)]
    unfold countX at IH ⊢
    by_cases e : crossB c x = true
    · rw [if_pos e, IH (cnt + 1) (by omega) (by omega), List.countP_cons_of_pos e]
      congr 1; omega
    · rw [if_neg e, IH cnt (by omega) (by omega), List.countP_cons_of_neg e]
theorem crossed_eq (n : Int) (c : S52) (hc : Proper n c) (m : List S52) (hm : ∀ x ∈ m, Proper n x) (hl : m.length ≤ 1000000) (k : Nat) (hk : m.length < k) : impl_crossed.f k m c.f0 c.f1 = some (countX c m : Int) := by
  unfold impl_crossed.f
  have := crossed_loop n c hc m k [] 0 hm (by simpa using hl) (by omega) (by omega) hk
  simpa using this
theorem countX_le (c : S52) (l : List S52) : countX c l ≤ l.length := List.countP_le_length
/-- So many pairs of a list's chords cross. -/
def pairsX : List S52 → Nat
  | [] => 0
  | x :: l => countX x l + pairsX l
theorem pairsX_snoc (n : Int) (x : S52) (hx : Proper n x) : ∀ (l : List S52), (∀ y ∈ l, Proper n y) → pairsX (l ++ [x]) = pairsX l + countX x l
  | [], _ => by simp [pairsX, countX]
  | y :: l, h => by
    have ih := pairsX_snoc n x hx l (fun z hz => h z (by simp [hz]))
    simp only [List.cons_append, pairsX, ih]
    have e := crossB_symm n x y hx (h y (by simp))
    unfold countX
    rw [List.countP_append, List.countP_cons, List.countP_cons, e]
    simp only [List.countP_nil, Nat.zero_add]
    omega
theorem pairsX_le : ∀ (l : List S52), pairsX l ≤ l.length * l.length
  | [] => by simp [pairsX]
  | x :: l => by
    have h1 := pairsX_le l
    have h2 := countX_le x l
    simp only [pairsX, List.length_cons]
    rw [Nat.add_mul, Nat.mul_add]
    omega
/-! ### BPairs -/
theorem crossings_loop (n : Int) (m : List S52) : ∀ (k : Nat) (pre : List S52), (∀ x ∈ pre ++ m, Proper n x) → pre.length + m.length ≤ 1000000 → pre.length + m.length + m.length < k →
    impl_crossings.l0 k (pre ++ m) (pairsX pre) (pre ++ m) ((pre ++ m).length : Int) pre.length = some (pairsX (pre ++ m) : Int) := by
  induction m with
  | nil =>
    intro k pre hp hl hk
    obtain ⟨k, rfl⟩ : ∃ t, k = t + 1 := ⟨k - 1, by omega⟩
    simp only [impl_crossings.l0, List.append_nil]
    rw [if_neg (by omega)]
  | cons x m ih =>
    intro k pre hp hl hk
    obtain ⟨k, rfl⟩ : ∃ t, k = t + 1 := ⟨k - 1, by omega⟩
    simp only [List.length_cons] at hl hk
    have hlen : ((pre ++ x :: m).length : Int) = pre.length + m.length + 1 := by simp; omega
    simp only [impl_crossings.l0]
    have hpre : ∀ y ∈ pre, Proper n y := fun y hy => hp y (by simp [hy])
    have hx : Proper n x := hp x (by simp)
    rw [if_pos (by omega), if_pos (by omega), if_pos (by omega), if_pos (by omega), rdC_append, Int.toNat_natCast, List.take_left, crossed_eq n x hx pre hpre (by omega) k (by omega)]
    simp only [Option.bind_some]
    have h1 := pairsX_le pre
    have h2 := countX_le x pre
    have h3 : pre.length * pre.length ≤ 1000000 * 1000000 := Nat.mul_le_mul (by omega) (by omega)
    have IH := ih k (pre ++ [x]) (by simpa using hp) (by simp; omega) (by simp; omega)
    rw [pairsX_snoc n x hx pre hpre] at IH
    simp only [List.append_assoc, List.cons_append, List.nil_append] at IH
    have hpl : (((pre ++ [x]).length : Nat) : Int) = (pre.length : Int) + 1 := by simp
    rw [hpl, Int.natCast_add] at IH
    rw [wrap64_id (by omega) (by omega), wrap64_id (by omega) (by omega)]
    exact IH
theorem crossings_eq (n : Int) (l : List S52) (h : ∀ x ∈ l, Proper n x) (hl : l.length ≤ 1000000) (k : Nat) (hk : l.length + l.length < k) : impl_crossings.f k l = some (pairsX l : Int) := by
  unfold impl_crossings.f
  have := crossings_loop n l k [] (by simpa using h) (by simpa using hl) (by simpa using hk)
  simpa [pairsX] using this
/-! ### BCdPairs -/
/-- Index pairs (i, j), ahead the first i, j from o on, with chords of m that cross c. -/
def rowP (c : S52) (i : Int) : Int → List S52 → List (List Int)
  | _, [] => []
  | j, x :: m => if crossB c x = true then [i, j] :: rowP c i (j + 1) m else rowP c i (j + 1) m
def allP : Int → List S52 → List (List Int)
  | _, [] => []
  | i, c :: m => rowP c i (i + 1) m ++ allP (i + 1) m
theorem rowP_len (c : S52) (i : Int) : ∀ (m : List S52) (j : Int), (rowP c i j m).length = countX c m
  | [], _ => rfl
  | x :: m, j => by
    unfold rowP countX
    by_cases e : crossB c x = true
    · rw [if_pos e, List.countP_cons_of_pos e, List.length_cons, rowP_len c i m]; rfl
    · rw [if_neg e, List.countP_cons_of_neg e, rowP_len c i m]; rfl
theorem allP_len : ∀ (m : List S52) (i : Int), (allP i m).length = pairsX m
  | [], _ => rfl
  | c :: m, i => by
    unfold allP pairsX
    rw [List.length_append, rowP_len, allP_len m]
theorem cdPairs_inner (l : List S52) (hl : l.length ≤ 10000) (c : S52) (i : Int) (m : List S52) : ∀ (k : Nat) (pre : List S52) (acc : List (List Int)) (r : Option (List (List Int))), pre ++ m = l → acc.length + m.length ≤ 1000000000000 → m.length < k →
    (∀ k', k ≤ k' + m.length + 1 → k' < k → spec_cdPairs.l0 k' l (acc ++ rowP c i pre.length m) l (l.length : Int) (wrap64 (i + 1)) = r) →
    spec_cdPairs.l1 k l acc i pre.length l (l.length : Int) i c.f0 c.f1 = r := by
  induction m with
  | nil =>
    intro k pre acc r e h0 hk hr
    obtain ⟨k, rfl⟩ : ∃ t, k = t + 1 := ⟨k - 1, by omega⟩
    rw [List.append_nil] at e
    subst e
    simp only [spec_cdPairs.l1]
    rw [if_neg (by omega)]
    simpa [rowP] using hr k (by simp) (by omega)
  | cons x m ih =>
    intro k pre acc r e h0 hk hr
    obtain ⟨k, rfl⟩ : ∃ t, k = t + 1 := ⟨k - 1, by omega⟩
    simp only [List.length_cons] at h0 hk hr
    have hlen : (l.length : Int) = pre.length + m.length + 1 := by rw [← e]; simp; omega
    simp only [spec_cdPairs.l1]
    have hx : rd_T52 l (pre.length : Int) = x := by rw [← e]; exact rdC_append pre m x
    rw [if_pos (by omega), if_pos (by omega), hx, srCross_cross]
    simp only [Option.bind_some]
    have hpl : (((pre ++ [x]).length : Nat) : Int) = (pre.length : Int) + 1 := by simp
    have IH := fun acc h0 hr => ih k (pre ++ [x]) acc r (by simpa using e) h0 (by omega) hr
    rw [hpl] at IH
    rw [wrap64_id (x := (pre.length : Int) + 1) (by omega) (by omega)]
    by_cases eX : crossB c x = true
    · rw [if_pos eX, if_pos (by omega)]
      refine IH _ (by simp; omega) (fun k' h1 h2 => ?_)
      have := hr k' (by omega) (by omega)
      unfold rowP at this
      rw [if_pos eX] at this
      rw [List.append_assoc]
      exact this
    · rw [if_neg eX]
      refine IH acc (by omega) (fun k' h1 h2 => ?_)
      have := hr k' (by omega) (by omega)
      unfold rowP at this
      rw [if_neg eX] at this
      exact this
theorem cdPairs_loop (l : List S52) (hl : l.length ≤ 10000) (m : List S52) : ∀ (k : Nat) (pre : List S52) (acc : List (List Int)), pre ++ m = l → acc.length + m.length * 10000 ≤ 1000000000 → m.length * (l.length + 3) < k →
    spec_cdPairs.l0 k l acc l (l.length : Int) pre.length = some (acc ++ allP pre.length m) := by
  induction m with
  | nil =>
    intro k pre acc e h0 hk
    obtain ⟨k, rfl⟩ : ∃ t, k = t + 1 := ⟨k - 1, by omega⟩
    rw [List.append_nil] at e
    simp only [spec_cdPairs.l0]
    rw [if_neg (by rw [e]; omega)]
    simp [allP]
  | cons x m ih =>
    intro k pre acc e h0 hk
    obtain ⟨k, rfl⟩ : ∃ t, k = t + 1 := ⟨k - 1, by omega⟩
    have hlen : (l.length : Int) = pre.length + m.length + 1 := by rw [← e]; simp; omega
    simp only [spec_cdPairs.l0]
    have hx : rd_T52 l (pre.length : Int) = x := by rw [← e]; exact rdC_append pre m x
    rw [if_pos (by omega), if_pos (by omega), if_pos (by omega), hx, wrap64_id (x := (pre.length : Int) + 1) (by omega) (by omega)]
    simp only [List.length_cons] at h0 hk
    have hmul : (m.length + 1) * (l.length + 3) = m.length * (l.length + 3) + (l.length + 3) := by rw [Nat.add_mul, Nat.one_mul]
    have hpl : (((pre ++ [x]).length : Nat) : Int) = (pre.length : Int) + 1 := by simp
    have hin := cdPairs_inner l hl x pre.length m k (pre ++ [x]) acc (some (acc ++ allP pre.length (x :: m))) (by simpa using e) (by omega) (by omega) (fun k' h2 h3 => by
      have h4 := countX_le x m
      have h5 := rowP_len x pre.length m ((pre ++ [x]).length : Int)
      have := ih k' (pre ++ [x]) (acc ++ rowP x pre.length ((pre ++ [x]).length : Int) m) (by simpa using e) (by rw [List.length_append, h5]; omega) (by omega)
      rw [hpl] at this ⊢
      rw [wrap64_id (by omega) (by omega), this]
      simp only [allP, List.append_assoc])
    rw [hpl] at hin
    exact hin
theorem cdPairs_eq (l : List S52) (hl : l.length ≤ 10000) (k : Nat) (hk : l.length * (l.length + 3) < k) : spec_cdPairs.f k l = some (allP 0 l) := by
  unfold spec_cdPairs.f
  have := cdPairs_loop l hl l k [] [] rfl (by simp; omega) hk
  simpa using this
/-! ### BIsChord -/
def isCh (n a b : Int) : Prop := 0 ≤ a ∧ a < b ∧ b < n
instance (n a b : Int) : Decidable (isCh n a b) := by unfold isCh; infer_instance
theorem srIs_eq (n a b : Int) (hn : 3 ≤ n ∧ n ≤ 60) : spec_srIs.f n a b = some (decide (isCh n a b)) := by
  unfold spec_srIs.f
  rw [wrap64_id (by omega) (by omega), l1In_eq]
  simp only [Option.bind_some]
  by_cases h : 0 ≤ a ∧ a ≤ n - 1
  · rw [if_pos (decide_eq_true h), l1In_eq, wrap64_id (by omega) (by omega)]
    simp only [Option.bind_some]
    refine congrArg some (decide_eq_decide.2 ?_)
    unfold isCh
    omega
  · rw [if_neg (by simpa using h)]
    refine congrArg some (decide_eq_false ?_).symm
    unfold isCh
    omega
theorem implIsChord_eq (n a b : Int) : impl_isChord.f n a b = some (decide (isCh n a b)) := by
  unfold impl_isChord.f
  by_cases h1 : a ≥ 0
  · rw [if_pos h1]
    by_cases h2 : a < b
    · rw [if_pos h2]
      refine congrArg some (decide_eq_decide.2 ?_)
      unfold isCh
      omega
    · rw [if_neg h2]
      refine congrArg some (decide_eq_false ?_).symm
      unfold isCh
      omega
  · rw [if_neg h1]
    refine congrArg some (decide_eq_false ?_).symm
    unfold isCh
    omega
/-! ### BSet -/
theorem compare_eq (a b : Int) : cmp_Compare_int.f a b = some (if a < b then -1 else if a > b then 1 else 0) := by
  unfold cmp_Compare_int.f cmp_isNaN_int.f
  simp
  split
  · rfl
  · split <;> rfl
theorem compareChords_eq (x y : S52) (k : Nat) (hk : 4 ≤ k) : ∃ r : Int, impl_compareChords.f k x.f0 x.f1 y.f0 y.f1 = some r ∧ (r ≥ 0 ↔ ¬ cLt x y = true) := by
  unfold impl_compareChords.f
  simp only [compare_eq, Option.bind_some]
  obtain ⟨k, rfl⟩ : ∃ t, k = t + 4 := ⟨k - 4, by omega⟩
  have h0 : wrap64 (0 + 1) = 1 := wrap64_id (by omega) (by omega)
  have h1 : wrap64 (1 + 1) = 2 := wrap64_id (by omega) (by omega)
  simp only [cmp_Or_int.f, cmp_Or_int.l0, List.length_cons, List.length_nil, h0, h1, rd, cLt_iff]
  by_cases c0 : x.f0 < y.f0
  · simp [c0]
  · by_cases c1 : x.f0 > y.f0
    · simp [c0, c1]; omega
    · have e : x.f0 = y.f0 := by omega
      by_cases d0 : x.f1 < y.f1
      · simp [e, d0]
      · by_cases d1 : x.f1 > y.f1
        · simp [e, d0, d1]
        · simp [e, d0, d1]
def isChB (n : Int) (c : S52) : Bool := decide (isCh n c.f0 c.f1)
/-- Chords of n points in order, behind p. -/
def okFrom (n : Int) : Option S52 → List S52 → Bool
  | _, [] => true
  | none, c :: l => isChB n c && okFrom n (some c) l
  | some p, c :: l => isChB n c && (cLt p c && okFrom n (some c) l)
theorem okFrom_spec (n : Int) : ∀ (l : List S52) (p : Option S52), okFrom n p l = true → Strict l ∧ (∀ c ∈ l, Proper n c) ∧ ∀ q, p = some q → ∀ c ∈ l, cLt q c = true
  | [], p, _ => ⟨by simp [Strict], by simp, by simp⟩
  | c :: l, p, h => by
    have h1 : isChB n c = true ∧ okFrom n (some c) l = true ∧ ∀ q, p = some q → cLt q c = true := by
      cases p with
      | none => simp only [okFrom, Bool.and_eq_true] at h; exact ⟨h.1, h.2, by simp⟩
      | some q => simp only [okFrom, Bool.and_eq_true] at h; exact ⟨h.1, h.2.2, fun q' e => by cases e; exact h.2.1⟩
    obtain ⟨a, b, c1⟩ := okFrom_spec n l (some c) h1.2.1
    have c2 := c1 c rfl
    refine ⟨?_, ?_, ?_⟩
    · unfold Strict at a ⊢; rw [List.pairwise_cons]; exact ⟨c2, a⟩
    · intro d hd
      rcases List.mem_cons.1 hd with e | e
      · subst e; exact (of_decide_eq_true h1.1 : isCh n d.f0 d.f1)
      · exact b d e
    · intro q e d hd
      have h3 := h1.2.2 q e
      rcases List.mem_cons.1 hd with e | e
      · subst e; exact h3
      · have h4 := c2 d e
        rw [cLt_iff] at h3 h4 ⊢
        omega
theorem okFrom_none (n : Int) (c : S52) (m : List S52) : okFrom n none (c :: m) = (isChB n c && okFrom n (some c) m) := rfl
theorem okFrom_some (n : Int) (p c : S52) (m : List S52) : okFrom n (some p) (c :: m) = (isChB n c && (cLt p c && okFrom n (some c) m)) := rfl
def lastO (pre : List S52) : Option S52 := pre.getLast?
theorem rd_last (pre m : List S52) (p : S52) : rd_T52 ((pre ++ [p]) ++ m) ((pre.length : Int) + 1 - 1) = p := by
  rw [show (pre.length : Int) + 1 - 1 = pre.length by omega, List.append_assoc]
  exact rdC_append pre m p
theorem cdGood_loop (n : Int) (hn : 3 ≤ n ∧ n ≤ 60) (m : List S52) : ∀ (k : Nat) (pre : List S52), pre.length + m.length ≤ 1000000000 → m.length < k →
    spec_cdGood.l0 k n (pre ++ m) (pre ++ m) ((pre ++ m).length : Int) pre.length = some (okFrom n (lastO pre) m) := by
  induction m with
  | nil =>
    intro k pre hl hk
    obtain ⟨k, rfl⟩ : ∃ t, k = t + 1 := ⟨k - 1, by omega⟩
    simp only [spec_cdGood.l0, List.append_nil]
    rw [if_neg (by omega)]
    simp [okFrom]
  | cons x m ih =>
    intro k pre hl hk
    obtain ⟨k, rfl⟩ : ∃ t, k = t + 1 := ⟨k - 1, by omega⟩
    simp only [List.length_cons] at hl hk
    have hlen : ((pre ++ x :: m).length : Int) = pre.length + m.length + 1 := by simp; omega
    simp only [spec_cdGood.l0]
    rw [if_pos (by omega), if_pos (by omega), if_pos (by omega), rdC_append, srIs_eq n _ _ hn]
    simp only [Option.bind_some]
    have IH := ih k (pre ++ [x]) (by simp; omega) (by omega)
    simp only [List.append_assoc, List.cons_append, List.nil_append] at IH
    have hpl : (((pre ++ [x]).length : Nat) : Int) = (pre.length : Int) + 1 := by simp
    have hla : lastO (pre ++ [x]) = some x := by unfold lastO; simp
    rw [hpl, hla] at IH
    by_cases hc : isCh n x.f0 x.f1
    · have hcB : isChB n x = true := decide_eq_true hc
      rw [if_pos (decide_eq_true hc)]
      rcases List.eq_nil_or_concat pre with e | ⟨q, p, e⟩
      · subst e
        rw [if_neg (by simp)]
        rw [wrap64_id (by omega) (by omega), IH]
        have e1 : lastO ([] : List S52) = none := rfl
        rw [e1, okFrom_none, hcB, Bool.true_and]
      · rw [List.concat_eq_append] at e
        subst e
        have hql : (((q ++ [p]).length : Nat) : Int) = (q.length : Int) + 1 := by simp
        have hla2 : lastO (q ++ [p]) = some p := by unfold lastO; simp
        rw [if_pos (by omega), wrap64_id (by omega) (by omega), if_pos (by omega), if_pos (by omega), hql, rd_last, srLess_eq]
        simp only [Option.bind_some]
        have e0 : (⟨x.f0, x.f1⟩ : S52) = x := rfl
        have e1 : (⟨p.f0, p.f1⟩ : S52) = p := rfl
        rw [e0, e1, hla2, okFrom_some, hcB, Bool.true_and]
        rw [wrap64_id (by omega) (by omega)]
        rw [hql] at IH
        by_cases hp : cLt p x = true
        · rw [if_pos hp, IH, hp, Bool.true_and]
        · rw [if_neg hp]
          simp [hp]
    · have hcB : isChB n x = false := decide_eq_false hc
      rw [if_neg (by simpa using hc)]
      cases hlo : lastO pre with
      | none => rw [okFrom_none, hcB]; rfl
      | some p => rw [okFrom_some, hcB]; rfl
/-- A set of chords of n points. -/
def goodB (n : Int) (l : List S52) : Bool := decide (3 ≤ n ∧ n ≤ 60) && (decide (l.length ≤ 40) && okFrom n none l)
theorem cdGood_eq (n : Int) (l : List S52) (hl : l.length ≤ 1000000000) (k : Nat) (hk : l.length + 1 < k) : spec_cdGood.f k n l = some (goodB n l) := by
  unfold spec_cdGood.f goodB
  rw [srPoints_eq]
  obtain ⟨k, rfl⟩ : ∃ t, k = t + 1 := ⟨k - 1, by omega⟩
  simp only [Option.bind_some, spec_cdGood.j0]
  by_cases h : 3 ≤ n ∧ n ≤ 60
  · rw [if_pos (decide_eq_true h), decide_eq_true h, Bool.true_and]
    by_cases h2 : l.length ≤ 40
    · rw [if_neg (by simp; omega), decide_eq_true h2, Bool.true_and]
      exact cdGood_loop n h l k [] (by simpa using hl) (by omega)
    · rw [if_pos (by simp; omega), decide_eq_false h2, Bool.false_and]
  · rw [if_neg (by simpa using h), decide_eq_false h]
    rfl
theorem areChords_loop (n : Int) (hn : 3 ≤ n ∧ n ≤ 60) (m : List S52) : ∀ (k : Nat) (pre : List S52), pre.length + m.length ≤ 1000000000 → m.length + 4 < k →
    impl_AreChords.l0 k n (pre ++ m) (pre ++ m) ((pre ++ m).length : Int) pre.length = some (okFrom n (lastO pre) m && decide (pre.length + m.length ≤ 40)) := by
  induction m with
  | nil =>
    intro k pre hl hk
    obtain ⟨k, rfl⟩ : ∃ t, k = t + 1 := ⟨k - 1, by omega⟩
    simp only [impl_AreChords.l0, List.append_nil]
    rw [if_neg (by omega)]
    simp only [okFrom, Bool.true_and, List.length_nil, Nat.add_zero]
    exact congrArg some (decide_eq_decide.2 (by omega))
  | cons x m ih =>
    intro k pre hl hk
    obtain ⟨k, rfl⟩ : ∃ t, k = t + 1 := ⟨k - 1, by omega⟩
    simp only [List.length_cons] at hl hk
    have hlen : ((pre ++ x :: m).length : Int) = pre.length + m.length + 1 := by simp; omega
    simp only [impl_AreChords.l0]
    rw [if_pos (by omega), if_pos (by omega), if_pos (by omega), rdC_append, implIsChord_eq]
    simp only [Option.bind_some]
    have IH := ih k (pre ++ [x]) (by simp; omega) (by omega)
    simp only [List.append_assoc, List.cons_append, List.nil_append] at IH
    have hpl : (((pre ++ [x]).length : Nat) : Int) = (pre.length : Int) + 1 := by simp
    have hpn : (pre ++ [x]).length + m.length = pre.length + (x :: m).length := by simp; omega
    have hla : lastO (pre ++ [x]) = some x := by unfold lastO; simp
    rw [hpl, hla, hpn] at IH
    by_cases hc : isCh n x.f0 x.f1
    · have hcB : isChB n x = true := decide_eq_true hc
      rw [if_pos (decide_eq_true hc)]
      rcases List.eq_nil_or_concat pre with e | ⟨q, p, e⟩
      · subst e
        rw [if_neg (by simp)]
        rw [wrap64_id (by omega) (by omega), IH]
        have e1 : lastO ([] : List S52) = none := rfl
        rw [e1, okFrom_none, hcB, Bool.true_and]
      · rw [List.concat_eq_append] at e
        subst e
        have hql : (((q ++ [p]).length : Nat) : Int) = (q.length : Int) + 1 := by simp
        have hla2 : lastO (q ++ [p]) = some p := by unfold lastO; simp
        rw [if_pos (by omega), wrap64_id (by omega) (by omega), if_pos (by omega), if_pos (by omega), hql, rd_last]
        obtain ⟨r, hr1, hr2⟩ := compareChords_eq p x k (by omega)
        rw [hr1]
        simp only [Option.bind_some]
        rw [hla2, okFrom_some, hcB, Bool.true_and]
        rw [wrap64_id (by omega) (by omega)]
        rw [hql] at IH
        by_cases hp : cLt p x = true
        · rw [if_neg (fun z => hr2.1 z hp), IH, hp, Bool.true_and]
        · rw [if_pos (hr2.2 hp)]
          simp [hp]
    · have hcB : isChB n x = false := decide_eq_false hc
      rw [if_neg (by simpa using hc)]
      cases hlo : lastO pre with
      | none => rw [okFrom_none, hcB]; rfl
      | some p => rw [okFrom_some, hcB]; rfl
theorem areChords_eq (n : Int) (l : List S52) (hl : l.length ≤ 1000000000) (k : Nat) (hk : l.length + 4 < k) : impl_AreChords.f k n l = some (goodB n l) := by
  unfold impl_AreChords.f goodB
  rw [within_eq]
  simp only [Option.bind_some]
  by_cases h : 3 ≤ n ∧ n ≤ 60
  · rw [if_pos (decide_eq_true h), decide_eq_true h, Bool.true_and]
    have := areChords_loop n h l k [] (by simpa using hl) hk
    simp only [List.nil_append, List.length_nil, Nat.zero_add] at this
    rw [Bool.and_comm] at this
    exact this
  · rw [if_neg (by simpa using h), decide_eq_false h]
    rfl
theorem isSet_eq (n : Int) (l : List S52) (hl : l.length ≤ 1000000000) (k : Nat) (hk : l.length + 4 < k) : impl_isSet.f k n l = some (goodB n l) := by
  unfold impl_isSet.f
  rw [isCircle_eq, areChords_eq n l hl k hk]
  simp only [Option.bind_some]
  by_cases h : 3 ≤ n ∧ n ≤ 60
  · rw [if_pos (decide_eq_true h)]
  · rw [if_neg (by simpa using h)]
    unfold goodB
    rw [decide_eq_false h]
    rfl
theorem good_spec (n : Int) (l : List S52) (h : goodB n l = true) : (3 ≤ n ∧ n ≤ 60) ∧ l.length ≤ 40 ∧ Strict l ∧ ∀ c ∈ l, Proper n c := by
  unfold goodB at h
  simp only [Bool.and_eq_true, decide_eq_true_eq] at h
  obtain ⟨a, b, _⟩ := okFrom_spec n l none h.2.2
  exact ⟨h.1, h.2.1, a, b⟩
/-! ### BToC -/
def conv (l : List S50) : List S52 := l.map fun x => ⟨x.f0, x.f1⟩
theorem conv_len (l : List S50) : (conv l).length = l.length := by unfold conv; simp
theorem rdL_append (l m : List S50) (x : S50) : rd_T50 (l ++ x :: m) (l.length : Int) = x := by
  unfold rd_T50
  simp
theorem toChordS_loop (m : List S50) : ∀ (k : Nat) (pre : List S50), pre.length + m.length ≤ 1000000000 → m.length < k →
    laws_toChordS.l0 k (pre ++ m) (conv pre ++ List.replicate m.length z52) pre.length = some (conv (pre ++ m)) := by
  induction m with
  | nil =>
    intro k pre hl hk
    obtain ⟨k, rfl⟩ : ∃ t, k = t + 1 := ⟨k - 1, by omega⟩
    simp only [laws_toChordS.l0, List.append_nil, List.length_nil, List.replicate_zero]
    rw [if_neg (by omega)]
  | cons x m ih =>
    intro k pre hl hk
    obtain ⟨k, rfl⟩ : ∃ t, k = t + 1 := ⟨k - 1, by omega⟩
    simp only [List.length_cons] at hl hk
    have hlen : ((pre ++ x :: m).length : Int) = pre.length + m.length + 1 := by simp; omega
    have hlen2 : ((conv pre ++ List.replicate (x :: m).length z52).length : Int) = pre.length + m.length + 1 := by simp [conv_len]; omega
    simp only [laws_toChordS.l0]
    rw [if_pos (by omega), if_pos (by omega), rdL_append]
    unfold laws_toChord.f
    simp only [Option.bind_some]
    rw [if_pos (by omega), wrap64_id (by omega) (by omega), Int.toNat_natCast]
    have e : (conv pre ++ List.replicate (x :: m).length z52).set pre.length ⟨x.f0, x.f1⟩ = conv (pre ++ [x]) ++ List.replicate m.length z52 := by
      rw [List.length_cons, List.replicate_succ]
      conv => lhs; arg 2; rw [← conv_len pre]
      rw [List.set_append_right _ _ (Nat.le_refl _), Nat.sub_self]
      unfold Q.conv
      simp
    rw [e]
    have IH := ih k (pre ++ [x]) (by simp; omega) (by omega)
    simp only [List.append_assoc, List.cons_append, List.nil_append] at IH ⊢
    have hpl : (((pre ++ [x]).length : Nat) : Int) = (pre.length : Int) + 1 := by simp
    rw [hpl] at IH
    exact IH
theorem toChordS_eq (l : List S50) (hl : l.length ≤ 1000000000) (k : Nat) (hk : l.length < k) : laws_toChordS.f k l = some (conv l) := by
  unfold laws_toChordS.f
  rw [if_pos (by omega), if_pos (by omega), Int.toNat_natCast]
  simpa [conv] using toChordS_loop l k [] (by simpa using hl) hk
theorem szChordS_eq (l : List S50) (hl : l.length ≤ 9223372036854775807) : laws_szChordS.f l 1048576 = some (if l.length ≤ 1048576 then 1048576 - (l.length : Int) else -1) := by
  unfold laws_szChordS.f
  rw [wrap64_id (by omega) (by omega)]
  by_cases h : l.length ≤ 1048576
  · rw [if_neg (by omega), if_pos h]
  · rw [if_pos (by omega), if_neg h]
/-! ### BEqC -/
theorem eqChord_self (a b : Int) : laws_eqChord.f a b a b = some true := by unfold laws_eqChord.f; simp
theorem eqChordS_loop (l : List S52) (hl : l.length ≤ 4611686018427387904) (d : Nat) : ∀ (k : Nat) (i : Int), 0 ≤ i → i ≤ l.length → (l.length : Int) - i = d → d < k → laws_eqChordS.l0 k l l i = some true := by
  induction d with
  | zero =>
    intro k i h0 h1 hd hk
    obtain ⟨k, rfl⟩ : ∃ m, k = m + 1 := ⟨k - 1, by omega⟩
    simp only [laws_eqChordS.l0]
    rw [if_neg (by omega)]
  | succ d ih =>
    intro k i h0 h1 hd hk
    obtain ⟨k, rfl⟩ : ∃ m, k = m + 1 := ⟨k - 1, by omega⟩
    simp only [laws_eqChordS.l0]
    rw [if_pos (by omega), if_pos (by omega), if_pos (by omega), eqChord_self, wrap64_id (by omega) (by omega)]
    simp only [Option.bind_some, if_true]
    exact ih k (i + 1) (by omega) (by omega) (by omega) (by omega)
theorem eqChordS_self (k : Nat) (l : List S52) (hl : l.length ≤ 4611686018427387904) (hk : l.length < k) : laws_eqChordS.f k l l = some true := by
  unfold laws_eqChordS.f
  rw [if_pos rfl]
  exact eqChordS_loop l hl l.length k 0 (by omega) (by omega) (by omega) hk
/-! ### BPlane -/
theorem planePoints_eq (a : Int) : spec_cdPlanePoints.f a = some (decide (4 ≤ a ∧ a ≤ 30 ∧ Int.tmod a 2 = 0)) := by
  unfold spec_cdPlanePoints.f
  rw [l1In_eq]
  simp only [Option.bind_some]
  by_cases h : 4 ≤ a ∧ a ≤ 30
  · rw [if_pos (decide_eq_true h)]
    refine congrArg some ?_
    rw [Bool.eq_iff_iff]; simp; omega
  · rw [if_neg (by simpa using h)]
    exact congrArg some (decide_eq_false (by omega)).symm
theorem isEven_eq (a b : Int) : impl_isEven.f a b = some (decide (3 ≤ a ∧ a ≤ 60 ∧ Int.tmod a 2 = 0 ∧ a ≤ b)) := by
  unfold impl_isEven.f
  rw [isCircle_eq]
  simp only [Option.bind_some]
  by_cases h : 3 ≤ a ∧ a ≤ 60
  · rw [if_pos (decide_eq_true h)]
    by_cases h2 : Int.tmod a 2 = 0
    · rw [if_pos h2]; exact congrArg some (decide_eq_decide.2 (by omega))
    · rw [if_neg h2]; exact congrArg some (decide_eq_false (by omega)).symm
  · rw [if_neg (by simpa using h)]
    exact congrArg some (decide_eq_false (by omega)).symm
/-- How many plane pairings of 2 m points there are. -/
def cat (m : Nat) : Int := ([1, 1, 2, 5, 14, 42, 132, 429, 1430, 4862, 16796, 58786, 208012, 742900, 2674440, 9694845] : List Int).getD m 1
theorem more_fuel {α : Type} (F : Nat → Option α) (hF : ∀ k, LeO (F k) (F (k + 1))) (k0 : Nat) (r : α) (h : F k0 = some r) : ∀ k, k0 ≤ k → F k = some r := by
  intro k hk
  obtain ⟨d, rfl⟩ : ∃ d, k = k0 + d := ⟨k - k0, by omega⟩
  clear hk
  induction d with
  | zero => exact h
  | succ d ih => exact hF (k0 + d) r ih
theorem countPlane_at : ∀ m : Fin 16, impl_countPlane.f 20 (2 * (m.val : Int)) = some (cat m.val) := by decide +kernel
theorem countPlane_eq (m : Nat) (hm : m ≤ 15) (k : Nat) (hk : 20 ≤ k) : impl_countPlane.f k (2 * (m : Int)) = some (cat m) :=
  more_fuel (fun k => impl_countPlane.f k (2 * (m : Int))) (fun k => impl_countPlane.mono _ k) 20 _ (countPlane_at ⟨m, by omega⟩) k hk
/-- The reference's table. -/
def waysL (n : Nat) : List Int := (List.range (n + 1)).map fun i => if i % 2 = 0 then cat (i / 2) else 0
theorem cdPlane_at : ∀ m : Fin 14, spec_cdPlane.f 300 (2 * (m.val : Int) + 4) = some (waysL (2 * m.val + 4)) := by decide +kernel
theorem cdPlane_eq (m : Nat) (h2 : 2 ≤ m) (hm : m ≤ 15) (k : Nat) (hk : 300 ≤ k) : spec_cdPlane.f k (2 * (m : Int)) = some (waysL (2 * m)) := by
  have h := cdPlane_at ⟨m - 2, by omega⟩
  simp only at h
  have e : 2 * ((m - 2 : Nat) : Int) + 4 = 2 * (m : Int) := by omega
  have e2 : 2 * (m - 2) + 4 = 2 * m := by omega
  rw [e, e2] at h
  exact more_fuel (fun k => spec_cdPlane.f k (2 * (m : Int))) (fun k => spec_cdPlane.mono _ k) 300 _ h k hk
theorem waysL_len (n : Nat) : (waysL n).length = n + 1 := by unfold waysL; simp
theorem waysL_rd (n j : Nat) (hj : 2 * j ≤ n) : rd (waysL n) (2 * (j : Int)) = cat j := by
  unfold rd waysL
  have e : (2 * (j : Int)).toNat = 2 * j := by omega
  rw [e, List.getD_eq_getElem?_getD, List.getElem?_map, List.getElem?_range (by omega)]
  simp
theorem cat_pos_at : ∀ m : Fin 16, 1 ≤ cat m.val ∧ cat m.val ≤ 10000000 := by decide +kernel
theorem cat_pos (m : Nat) (hm : m ≤ 15) : 1 ≤ cat m ∧ cat m ≤ 10000000 := cat_pos_at ⟨m, by omega⟩
theorem cat_mul (i j : Nat) (hi : i ≤ 15) (hj : j ≤ 15) : 1 ≤ cat i * cat j ∧ cat i * cat j ≤ 100000000000000 := by
  obtain ⟨a, b⟩ := cat_pos i hi
  obtain ⟨c, d⟩ := cat_pos j hj
  constructor
  · have := Int.mul_le_mul a c (by omega) (by omega); omega
  · have := Int.mul_le_mul b d (by omega) (by omega); omega
/-- Plane pairings of 2 m points whose first point is joined behind j, j + 1, .. (t of these) inner pairs. -/
def tot (m : Nat) : Nat → Nat → Int
  | 0, _ => 0
  | t + 1, j => cat j * cat (m - 1 - j) + tot m t (j + 1)
theorem tot_at : ∀ m : Fin 15, tot (m.val + 1) (m.val + 1) 0 = cat (m.val + 1) := by decide +kernel
theorem tot_eq (m : Nat) (h1 : 1 ≤ m) (hm : m ≤ 15) : tot m m 0 = cat m := by
  have := tot_at ⟨m - 1, by omega⟩
  simp only at this
  rwa [show m - 1 + 1 = m by omega] at this
/-! ### BMarks -/
theorem eqIntS_loop (l : List Int) (hl : l.length ≤ 4611686018427387904) (d : Nat) : ∀ (k : Nat) (i : Int), 0 ≤ i → i ≤ l.length → (l.length : Int) - i = d → d < k → laws_eqIntS.l0 k l l i = some true := by
  induction d with
  | zero =>
    intro k i h0 h1 hd hk
    obtain ⟨k, rfl⟩ : ∃ m, k = m + 1 := ⟨k - 1, by omega⟩
    simp only [laws_eqIntS.l0]
    rw [if_neg (by omega)]
  | succ d ih =>
    intro k i h0 h1 hd hk
    obtain ⟨k, rfl⟩ : ∃ m, k = m + 1 := ⟨k - 1, by omega⟩
    simp only [laws_eqIntS.l0]
    rw [if_pos (by omega), if_pos (by omega), if_pos (by omega), if_pos trivial, wrap_step h0 (by omega)]
    exact ih k (i + 1) (by omega) (by omega) (by omega) (by omega)
theorem eqIntS_self (k : Nat) (l : List Int) (hl : l.length ≤ 4611686018427387904) (hk : l.length < k) : laws_eqIntS.f k l l = some true := by
  unfold laws_eqIntS.f
  rw [if_pos rfl]
  exact eqIntS_loop l hl l.length k 0 (by omega) (by omega) (by omega) hk
/-- The first i elements bear the marks from m on. -/
def Marked (y : List Int) (m : Int) (i : Nat) : Prop := ∀ j : Nat, j < i → rd y j = m + j
theorem rd_set_same (x : List Int) (i : Nat) (v : Int) (hi : i < x.length) : rd (x.set i v) i = v := by
  unfold rd; simp [hi]
theorem rd_set_other (x : List Int) (i j : Nat) (v : Int) (hj : j ≠ i) : rd (x.set i v) j = rd x j := by
  unfold rd; simp [List.getElem?_set, Ne.symm hj]
theorem markIntS_loop (m0 : Int) (n : Nat) (hm : 0 ≤ m0 ∧ m0 + n ≤ 4611686018427387904) (hn : n ≤ 4611686018427387904) (d : Nat) : ∀ (k : Nat) (x : List Int) (i : Nat), x.length = n → i ≤ n → n - i = d → d < k → Marked x m0 i →
    ∃ y, laws_markIntS.l0 k x (m0 + i) i = some (m0 + n, y) ∧ y.length = n ∧ Marked y m0 n := by
  induction d with
  | zero =>
    intro k x i hx hi hd hk hM
    obtain ⟨k, rfl⟩ : ∃ m, k = m + 1 := ⟨k - 1, by omega⟩
    obtain rfl : i = n := by omega
    refine ⟨x, ?_, hx, hM⟩
    simp only [laws_markIntS.l0]
    rw [if_neg (by omega)]
  | succ d ih =>
    intro k x i hx hi hd hk hM
    obtain ⟨k, rfl⟩ : ∃ m, k = m + 1 := ⟨k - 1, by omega⟩
    simp only [laws_markIntS.l0]
    rw [if_pos (by omega), if_pos (by omega), wrap_step (by omega) (by omega), wrap_step (by omega) (by omega), show (Int.toNat (i : Int)) = i from by omega]
    have := ih k (x.set i (m0 + i)) (i + 1) (by simpa using hx) (by omega) (by omega) (by omega) (by
      intro j hj
      by_cases e : j = i
      · subst e; rw [rd_set_same _ _ _ (by omega)]
      · rw [rd_set_other _ _ _ _ e]; exact hM j (by omega))
    rw [show m0 + (i : Int) + 1 = m0 + ((i + 1 : Nat) : Int) by omega, show (i : Int) + 1 = ((i + 1 : Nat) : Int) by omega]
    exact this
theorem heldIntS_loop (m0 : Int) (n : Nat) (hm : 0 ≤ m0 ∧ m0 + n ≤ 4611686018427387904) (hn : n ≤ 4611686018427387904) (x : List Int) (hx : x.length = n) (hM : Marked x m0 n) (d : Nat) : ∀ (k : Nat) (i : Nat), i ≤ n → n - i = d → d < k →
    laws_heldIntS.l0 k x (m0 + i) i = some (m0 + n) := by
  induction d with
  | zero =>
    intro k i hi hd hk
    obtain ⟨k, rfl⟩ : ∃ m, k = m + 1 := ⟨k - 1, by omega⟩
    obtain rfl : i = n := by omega
    simp only [laws_heldIntS.l0]
    rw [if_neg (by omega)]
  | succ d ih =>
    intro k i hi hd hk
    obtain ⟨k, rfl⟩ : ∃ m, k = m + 1 := ⟨k - 1, by omega⟩
    simp only [laws_heldIntS.l0]
    rw [if_pos (by omega), if_pos (by omega), if_pos (hM i (by omega)), wrap_step (by omega) (by omega), wrap_step (by omega) (by omega)]
    have := ih k (i + 1) (by omega) (by omega) (by omega)
    rw [show m0 + (i : Int) + 1 = m0 + ((i + 1 : Nat) : Int) by omega, show (i : Int) + 1 = ((i + 1 : Nat) : Int) by omega]
    exact this
/-- A list is marked, and then held. -/
theorem mark_held (k : Nat) (l : List Int) (m : Int) (hm : 0 ≤ m ∧ m + l.length ≤ 4611686018427387904) (hk : l.length < k) :
    ∃ y, laws_markIntS.f k l m = some (m + l.length, y) ∧ y.length = l.length ∧ ∀ k', l.length < k' → laws_heldIntS.f k' y m = some (m + l.length) := by
  obtain ⟨y, h1, h2, h3⟩ := markIntS_loop m l.length hm (by omega) l.length k l 0 rfl (by omega) (by omega) hk (fun j hj => by omega)
  refine ⟨y, ?_, h2, ?_⟩
  · unfold laws_markIntS.f
    simpa using h1
  · intro k' hk'
    unfold laws_heldIntS.f
    simpa using heldIntS_loop m l.length hm (by omega) y h2 h3 l.length k' 0 (by omega) (by omega) hk'
/-! ### BPairing -/
/-- Each chord counts once for each of its points. -/
def incL : List S52 → List Int → List Int
  | [], t => t
  | c :: l, t => incL l ((t.set c.f0.toNat (rd t c.f0 + 1)).set c.f1.toNat (rd t c.f1 + 1))
def allOne (t : List Int) : Bool := t.all fun x => x == 1
theorem rdN (t : List Int) (i : Nat) (hi : i < t.length) : t[i] = rd t (i : Int) := by
  unfold rd; simp [hi]
theorem allOne_iff (t : List Int) : allOne t = true ↔ ∀ i : Nat, i < t.length → rd t i = 1 := by
  unfold allOne
  rw [List.all_eq_true]
  constructor
  · intro h i hi
    have := h t[i] (List.getElem_mem hi)
    rw [rdN] at this
    simpa using this
  · intro h x hx
    obtain ⟨i, hi, rfl⟩ := List.getElem_of_mem hx
    rw [rdN, h i hi]; rfl
theorem rd_two (t : List Int) (a b p : Nat) (u v : Int) (ha : a < t.length) (hb : b < t.length) (hab : a ≠ b) : rd ((t.set a u).set b v) p = if p = b then v else if p = a then u else rd t p := by
  by_cases h1 : p = b
  · subst h1; rw [rd_set_same _ _ _ (by simpa using hb), if_pos rfl]
  · rw [rd_set_other _ _ _ _ h1, if_neg h1]
    by_cases h2 : p = a
    · subst h2; rw [rd_set_same _ _ _ ha, if_pos rfl]
    · rw [rd_set_other _ _ _ _ h2, if_neg h2]
theorem incL_len : ∀ (m : List S52) (t : List Int), (incL m t).length = t.length
  | [], t => rfl
  | c :: m, t => by rw [incL, incL_len m]; simp
theorem incL_mono (n : Nat) : ∀ (m : List S52) (t : List Int), t.length = n → (∀ c ∈ m, Proper n c) → ∀ p : Nat, p < n → rd t p ≤ rd (incL m t) p
  | [], t, _, _, p, _ => Int.le_refl _
  | c :: m, t, hl, hp, p, hpn => by
    obtain ⟨h0, h1, h2⟩ := hp c (by simp)
    obtain ⟨a, ha⟩ : ∃ a : Nat, c.f0 = a := ⟨c.f0.toNat, by omega⟩
    obtain ⟨b, hb⟩ : ∃ b : Nat, c.f1 = b := ⟨c.f1.toNat, by omega⟩
    have ih := incL_mono n m ((t.set c.f0.toNat (rd t c.f0 + 1)).set c.f1.toNat (rd t c.f1 + 1)) (by simp [hl]) (fun d hd => hp d (by simp [hd])) p hpn
    rw [incL]
    refine Int.le_trans ?_ ih
    rw [ha, hb, Int.toNat_natCast, Int.toNat_natCast, rd_two t a b p _ _ (by omega) (by omega) (by omega)]
    split
    · subst p; omega
    · split
      · subst p; omega
      · omega
/-- The reference's last loop. -/
theorem cdPairing_last (t : List Int) (hl : t.length ≤ 1000000000) (d : Nat) : ∀ (k i : Nat), i + d = t.length → d < k → spec_cdPairing.l1 k t t.length i = some (allOne (t.drop i)) := by
  induction d with
  | zero =>
    intro k i hd hk
    obtain ⟨k, rfl⟩ : ∃ m, k = m + 1 := ⟨k - 1, by omega⟩
    simp only [spec_cdPairing.l1]
    rw [if_neg (by omega), List.drop_of_length_le (by omega)]
    rfl
  | succ d ih =>
    intro k i hd hk
    obtain ⟨k, rfl⟩ : ∃ m, k = m + 1 := ⟨k - 1, by omega⟩
    simp only [spec_cdPairing.l1]
    have hi : i < t.length := by omega
    rw [if_pos (by omega), if_pos (by omega), if_pos (by omega), List.drop_eq_getElem_cons hi, rdN t i hi]
    by_cases h : rd t i = 1
    · rw [if_pos h, wrap_step (by omega) (by omega)]
      have := ih k (i + 1) (by omega) (by omega)
      rw [show ((i + 1 : Nat) : Int) = (i : Int) + 1 by omega] at this
      rw [this]
      simp [allOne, h]
    · rw [if_neg h]
      simp [allOne, h]
theorem rdC_mid (pre m : List S52) (c : S52) : rd_T52 (pre ++ c :: m) (pre.length : Int) = c := by
  unfold rd_T52; simp
/-- The reference's first loop. -/
theorem cdPairing_loop (n : Nat) (hn : n ≤ 100) (m : List S52) : ∀ (k : Nat) (pre : List S52) (t : List Int), t.length = n → (∀ c ∈ m, Proper n c) → (∀ p : Nat, p < n → 0 ≤ rd t p ∧ rd t p ≤ pre.length) → pre.length + m.length ≤ 1000 → m.length + n + 1 < k →
    spec_cdPairing.l0 k t (pre ++ m) ((pre ++ m).length : Int) pre.length = some (allOne (incL m t)) := by
  induction m with
  | nil =>
    intro k pre t ht _ _ hl hk
    obtain ⟨k, rfl⟩ : ∃ q, k = q + 1 := ⟨k - 1, by omega⟩
    simp only [spec_cdPairing.l0]
    rw [if_neg (by simp)]
    have := cdPairing_last t (by omega) t.length k 0 (by omega) (by simp at hk; omega)
    rw [List.drop_zero] at this
    exact this
  | cons c m ih =>
    intro k pre t ht hp hb hl hk
    obtain ⟨k, rfl⟩ : ∃ q, k = q + 1 := ⟨k - 1, by omega⟩
    obtain ⟨h0, h1, h2⟩ := hp c (by simp)
    obtain ⟨a, ha⟩ : ∃ a : Nat, c.f0 = a := ⟨c.f0.toNat, by omega⟩
    obtain ⟨b, hbb⟩ : ∃ b : Nat, c.f1 = b := ⟨c.f1.toNat, by omega⟩
    rw [List.length_cons] at hl hk
    have ba := hb a (by omega)
    have bb := hb b (by omega)
    have w1 : wrap64 (rd t a + 1) = rd t a + 1 := wrap_step ba.1 (by omega)
    have w2 : wrap64 (rd t b + 1) = rd t b + 1 := wrap_step bb.1 (by omega)
    have ws : wrap64 ((pre.length : Int) + 1) = ((pre ++ [c]).length : Int) := by rw [wrap_step (by omega) (by omega)]; simp
    have hne : a ≠ b := by omega
    simp only [spec_cdPairing.l0, rdC_mid]
    rw [if_pos (by simp; omega), if_pos (by omega), if_pos (by simp; omega), if_pos (by omega), if_pos (by omega)]
    simp only [Option.bind_some]
    rw [if_pos (by omega), if_pos (by omega), ha, hbb, Int.toNat_natCast, Int.toNat_natCast, w1, rd_set_other _ _ _ _ (Ne.symm hne), w2, ws]
    have := ih k (pre ++ [c]) ((t.set a (rd t a + 1)).set b (rd t b + 1)) (by simp [ht]) (fun d hd => hp d (by simp [hd])) (fun p hpn => by
      have := hb p hpn
      rw [rd_two t a b p _ _ (by omega) (by omega) hne]
      rw [List.length_append, List.length_singleton]
      split
      · omega
      · split <;> omega) (by simp; omega) (by omega)
    rw [List.append_assoc, List.singleton_append] at this
    rw [this, incL, ha, hbb, Int.toNat_natCast, Int.toNat_natCast]
theorem rd_rep (n p : Nat) (x : Int) (hp : p < n) : rd (List.replicate n x) p = x := by
  unfold rd; simp [hp]
theorem cdPairing_eq (n : Nat) (hn : n ≤ 100) (l : List S52) (hp : ∀ c ∈ l, Proper n c) (hl : l.length ≤ 1000) (k : Nat) (hk : l.length + n + 1 < k) : spec_cdPairing.f k n l = some (allOne (incL l (List.replicate n 0))) := by
  unfold spec_cdPairing.f
  rw [if_pos (by omega), if_pos (by omega), Int.toNat_natCast]
  have := cdPairing_loop n hn l k [] (List.replicate n 0) (by simp) hp (fun p hpn => by rw [rd_rep n p 0 hpn]; simp) (by simpa using hl) hk
  simpa using this
/-- The program's joined points tell the same. -/
theorem join_inc (n : Nat) : ∀ (m : List S52) (xs t : List Int), xs.length = n → t.length = n → (∀ p : Nat, p < n → (rd t p = 0 ∧ rd xs p = -1) ∨ (rd t p = 1 ∧ 0 ≤ rd xs p)) → (∀ c ∈ m, Proper n c) →
    (joinL m xs = some none ∧ allOne (incL m t) = false) ∨ ∃ ys, joinL m xs = some (some ys) ∧ ys.length = n ∧ (allOne (incL m t) = !decide ((-1 : Int) ∈ ys))
  | [], xs, t, hx, ht, hI, _ => by
    refine .inr ⟨xs, rfl, hx, ?_⟩
    by_cases h : (-1 : Int) ∈ xs
    · rw [decide_eq_true h]
      obtain ⟨i, hi, he⟩ := List.getElem_of_mem h
      rw [rdN] at he
      have := hI i (by omega)
      cases h2 : allOne (incL [] t) with
      | false => rfl
      | true =>
        have := (allOne_iff t).1 h2 i (by omega)
        omega
    · rw [decide_eq_false h]
      refine (allOne_iff t).2 fun i hi => ?_
      rcases hI i (by omega) with h1 | h1
      · refine absurd ?_ h
        rw [← h1.2, ← rdN xs i (by omega)]
        exact List.getElem_mem _
      · exact h1.1
  | c :: m, xs, t, hx, ht, hI, hp => by
    obtain ⟨h0, h1, h2⟩ := hp c (by simp)
    obtain ⟨a, ha⟩ : ∃ a : Nat, c.f0 = a := ⟨c.f0.toNat, by omega⟩
    obtain ⟨b, hb⟩ : ∃ b : Nat, c.f1 = b := ⟨c.f1.toNat, by omega⟩
    have hne : a ≠ b := by omega
    have hm : ∀ d ∈ m, Proper n d := fun d hd => hp d (by simp [hd])
    simp only [joinL, incL, ha, hb, Int.toNat_natCast]
    rw [if_pos (by omega)]
    have hset : ∀ p : Nat, rd ((t.set a (rd t a + 1)).set b (rd t b + 1)) p = if p = b then rd t b + 1 else if p = a then rd t a + 1 else rd t p := fun p => rd_two t a b p _ _ (by omega) (by omega) hne
    have hsx : ∀ p : Nat, rd ((xs.set a b).set b a) p = if p = b then (a : Int) else if p = a then (b : Int) else rd xs p := fun p => rd_two xs a b p _ _ (by omega) (by omega) hne
    have hl2 : ((t.set a (rd t a + 1)).set b (rd t b + 1)).length = n := by simp [ht]
    by_cases hv : rd xs a ≥ 0 ∨ rd xs b ≥ 0
    · rw [if_pos hv]
      refine .inl ⟨rfl, ?_⟩
      cases h3 : allOne (incL m ((t.set a (rd t a + 1)).set b (rd t b + 1))) with
      | false => rfl
      | true =>
        have h4 := (allOne_iff _).1 h3
        rw [incL_len, hl2] at h4
        have m1 := incL_mono n m _ hl2 hm a (by omega)
        have m2 := incL_mono n m _ hl2 hm b (by omega)
        rw [h4 a (by omega), hset, if_neg hne, if_pos rfl] at m1
        rw [h4 b (by omega), hset, if_pos rfl] at m2
        have i1 := hI a (by omega)
        have i2 := hI b (by omega)
        omega
    · rw [if_neg hv]
      refine join_inc n m _ _ (by simp [hx]) hl2 (fun p hpn => ?_) hm
      rw [hset, hsx]
      have i1 := hI a (by omega)
      have i2 := hI b (by omega)
      have i3 := hI p hpn
      by_cases q1 : p = b
      · rw [if_pos q1, if_pos q1]; omega
      · rw [if_neg q1, if_neg q1]
        by_cases q2 : p = a
        · rw [if_pos q2, if_pos q2]; omega
        · rw [if_neg q2, if_neg q2]; exact i3
theorem contains_loop (l : List Int) (x : Int) (hl : l.length ≤ 1000000000) (d : Nat) : ∀ (k i : Nat), i + d = l.length → d < k → ∃ r, slices_Index_int_int.l0 k l x l.length i = some r ∧ (decide (r ≥ 0) = decide (x ∈ l.drop i)) := by
  induction d with
  | zero =>
    intro k i hd hk
    obtain ⟨k, rfl⟩ : ∃ m, k = m + 1 := ⟨k - 1, by omega⟩
    simp only [slices_Index_int_int.l0]
    rw [if_neg (by omega), List.drop_of_length_le (by omega)]
    exact ⟨_, rfl, by simp⟩
  | succ d ih =>
    intro k i hd hk
    obtain ⟨k, rfl⟩ : ∃ m, k = m + 1 := ⟨k - 1, by omega⟩
    simp only [slices_Index_int_int.l0]
    have hi : i < l.length := by omega
    rw [if_pos (by omega), if_pos (by omega), if_pos (by omega), List.drop_eq_getElem_cons hi, rdN l i hi]
    by_cases h : x = rd l i
    · rw [if_pos h]
      exact ⟨_, rfl, by simp [h]⟩
    · rw [if_neg h, wrap_step (by omega) (by omega)]
      obtain ⟨r, h1, h2⟩ := ih k (i + 1) (by omega) (by omega)
      rw [show ((i + 1 : Nat) : Int) = (i : Int) + 1 by omega] at h1
      exact ⟨r, h1, by rw [h2]; simp [h]⟩
theorem contains_eq (l : List Int) (x : Int) (hl : l.length ≤ 1000000000) (k : Nat) (hk : l.length < k) : slices_Contains_int_int.f k l x = some (decide (x ∈ l)) := by
  unfold slices_Contains_int_int.f slices_Index_int_int.f
  obtain ⟨r, h1, h2⟩ := contains_loop l x hl l.length k 0 (by omega) hk
  rw [List.drop_zero] at h2
  simp only [Int.natCast_zero] at h1
  rw [h1, Option.bind_some, h2]
theorem repeat_eq (n : Nat) (h : 1 ≤ n) (hn : n ≤ 100) : slices_Repeat_int_int.f [-1] n = some (List.replicate n (-1)) := by
  unfold slices_Repeat_int_int.f
  simp only
  rw [if_pos (by omega)]
  rfl
theorem partners_eq (n : Nat) (h1 : 1 ≤ n) (hn : n ≤ 100) (l : List S52) (hp : ∀ c ∈ l, Proper n c) (k : Nat) (hk : n < k) :
    (impl_partners.f k n l = some ([], false) ∧ allOne (incL l (List.replicate n 0)) = false) ∨ ∃ ys, joinL l (List.replicate n (-1)) = some (some ys) ∧ ys.length = n ∧ impl_partners.f k n l = some (ys, allOne (incL l (List.replicate n 0))) := by
  unfold impl_partners.f
  rw [repeat_eq n h1 hn, Option.bind_some]
  rcases join_inc n l (List.replicate n (-1)) (List.replicate n 0) (by simp) (by simp) (fun p hpn => .inl ⟨rd_rep _ _ _ hpn, rd_rep _ _ _ hpn⟩) hp with ⟨e, h⟩ | ⟨ys, e, hy, h⟩
  · rw [e]; exact .inl ⟨rfl, h⟩
  · rw [e, Option.bind_some]
    refine .inr ⟨ys, rfl, hy, ?_⟩
    simp only
    rw [contains_eq ys (-1) (by omega) k (by omega), Option.bind_some, h]
/-! ### BRank -/
theorem join_spec (n : Nat) : ∀ (m : List S52) (xs ys : List Int), xs.length = n → (∀ c ∈ m, Proper n c) → joinL m xs = some (some ys) →
    (∀ p : Nat, p < n → rd xs p ≥ 0 → rd ys p = rd xs p) ∧ (∀ c ∈ m, rd ys c.f0 = c.f1 ∧ rd ys c.f1 = c.f0) ∧ (∀ p : Nat, p < n → rd ys p = rd xs p ∨ ∃ c ∈ m, c.f0 = p ∨ c.f1 = p)
  | [], xs, ys, hx, _, h => by
    simp only [joinL, Option.some.injEq] at h
    subst h
    exact ⟨fun _ _ _ => rfl, by simp, fun _ _ => .inl rfl⟩
  | c :: m, xs, ys, hx, hp, h => by
    obtain ⟨h0, h1, h2⟩ := hp c (by simp)
    obtain ⟨a, ha⟩ : ∃ a : Nat, c.f0 = a := ⟨c.f0.toNat, by omega⟩
    obtain ⟨b, hb⟩ : ∃ b : Nat, c.f1 = b := ⟨c.f1.toNat, by omega⟩
    have hne : a ≠ b := by omega
    simp only [joinL] at h
    rw [if_pos (by omega), ha, hb, Int.toNat_natCast, Int.toNat_natCast] at h
    by_cases hv : rd xs a ≥ 0 ∨ rd xs b ≥ 0
    · rw [if_pos hv] at h; simp at h
    · rw [if_neg hv] at h
      have hsx : ∀ p : Nat, rd ((xs.set a b).set b a) p = if p = b then (a : Int) else if p = a then (b : Int) else rd xs p := fun p => rd_two xs a b p _ _ (by omega) (by omega) hne
      obtain ⟨i1, i2, i3⟩ := join_spec n m _ ys (by simp [hx]) (fun d hd => hp d (by simp [hd])) h
      have ya : rd ys a = b := by rw [i1 a (by omega) (by rw [hsx, if_neg hne, if_pos rfl]; omega), hsx, if_neg hne, if_pos rfl]
      have yb : rd ys b = a := by rw [i1 b (by omega) (by rw [hsx, if_pos rfl]; omega), hsx, if_pos rfl]
      refine ⟨fun p hp0 hp1 => ?_, fun d hd => ?_, fun p hp0 => ?_⟩
      · have e1 : p ≠ a := fun e => by subst e; omega
        have e2 : p ≠ b := fun e => by subst e; omega
        have := i1 p hp0 (by rw [hsx, if_neg e2, if_neg e1]; exact hp1)
        rw [this, hsx, if_neg e2, if_neg e1]
      · rcases List.mem_cons.1 hd with e | e
        · subst e; rw [ha, hb]; exact ⟨ya, yb⟩
        · exact i2 d e
      · by_cases e1 : p = a
        · exact .inr ⟨c, by simp, .inl (by omega)⟩
        · by_cases e2 : p = b
          · exact .inr ⟨c, by simp, .inr (by omega)⟩
          · rcases i3 p hp0 with e | ⟨d, hd, e⟩
            · rw [hsx, if_neg e2, if_neg e1] at e; exact .inl e
            · exact .inr ⟨d, by simp [hd], e⟩
theorem pairs_none (n : Int) : ∀ (l : List S52), (∀ c ∈ l, Proper n c) → pairsX l = 0 → ∀ c ∈ l, ∀ d ∈ l, ¬ (c.f0 < d.f0 ∧ d.f0 < c.f1 ∧ c.f1 < d.f1)
  | [], _, _ => by simp
  | x :: l, hp, h => by
    simp only [pairsX] at h
    have h1 : countX x l = 0 := by omega
    have ih := pairs_none n l (fun c hc => hp c (by simp [hc])) (by omega)
    have hx : ∀ d ∈ l, ¬ crossB x d = true := by
      unfold countX at h1
      rw [List.countP_eq_zero] at h1
      exact h1
    intro c hc d hd
    rcases List.mem_cons.1 hc with e | e <;> rcases List.mem_cons.1 hd with e2 | e2
    · subst e; subst e2; omega
    · subst e
      intro hh
      exact hx d e2 ((crossB_iff n c d (hp c (by simp)) (hp d (by simp [e2]))).2 (.inl hh))
    · subst e2
      intro hh
      exact hx c e ((crossB_iff n d c (hp d (by simp)) (hp c (by simp [e]))).2 (.inr hh))
    · exact ih c e d e2
/-- Points joined in pairs by a plane set of chords. -/
structure PlaneJ (n : Nat) (l : List S52) (J : List Int) : Prop where
  len : J.length = n
  inv : ∀ p : Nat, p < n → ∃ q : Nat, q < n ∧ rd J p = q ∧ rd J q = p ∧ q ≠ p
  mem : ∀ p q : Nat, p < q → q < n → (rd J p = q ↔ ∃ c ∈ l, c.f0 = p ∧ c.f1 = q)
  nc : ∀ p q r s : Nat, p < q → q < r → r < s → s < n → rd J p = r → rd J q = s → False
theorem planeJ_of (n : Nat) (l : List S52) (ys : List Int) (hp : ∀ c ∈ l, Proper n c) (hj : joinL l (List.replicate n (-1)) = some (some ys)) (hy : ys.length = n) (hm : ¬ (-1 : Int) ∈ ys) (hx : pairsX l = 0) : PlaneJ n l ys := by
  obtain ⟨i1, i2, i3⟩ := join_spec n l _ ys (by simp) hp hj
  have hc : ∀ p : Nat, p < n → ∃ c ∈ l, c.f0 = p ∨ c.f1 = p := by
    intro p hpn
    rcases i3 p hpn with e | e
    · rw [rd_rep n p (-1) hpn] at e
      refine absurd ?_ hm
      rw [← e, ← rdN ys p (by omega)]
      exact List.getElem_mem _
    · exact e
  have mem : ∀ p q : Nat, p < q → q < n → (rd ys p = q ↔ ∃ c ∈ l, c.f0 = p ∧ c.f1 = q) := by
    intro p q hpq hq
    constructor
    · intro h
      obtain ⟨c, hcl, e⟩ := hc p (by omega)
      obtain ⟨y1, y2⟩ := i2 c hcl
      obtain ⟨h0, h1, h2⟩ := hp c hcl
      rcases e with e | e
      · rw [e, h] at y1; exact ⟨c, hcl, e, y1.symm⟩
      · rw [e, h] at y2; omega
    · rintro ⟨c, hcl, e1, e2⟩
      have := (i2 c hcl).1
      rw [e1, e2] at this
      exact this
  refine ⟨hy, fun p hpn => ?_, mem, ?_⟩
  · obtain ⟨c, hcl, e⟩ := hc p hpn
    obtain ⟨y1, y2⟩ := i2 c hcl
    obtain ⟨h0, h1, h2⟩ := hp c hcl
    rcases e with e | e
    · refine ⟨c.f1.toNat, by omega, ?_, ?_, by omega⟩
      · rw [← e, y1]; omega
      · rw [show ((c.f1.toNat : Nat) : Int) = c.f1 by omega, y2, e]
    · refine ⟨c.f0.toNat, by omega, ?_, ?_, by omega⟩
      · rw [← e, y2]; omega
      · rw [show ((c.f0.toNat : Nat) : Int) = c.f0 by omega, y1, e]
  · intro p q r s h1 h2 h3 h4 e1 e2
    obtain ⟨c, hcl, c1, c2⟩ := (mem p r (by omega) (by omega)).1 e1
    obtain ⟨d, hdl, d1, d2⟩ := (mem q s (by omega) (by omega)).1 e2
    exact pairs_none n l hp hx c hcl d hdl (by omega)
/-- The numbers of the pairings whose first point is joined nearer than behind i pairs, summed up. -/
def prt (h : Nat) : Nat → Int
  | 0 => 0
  | i + 1 => prt h i + cat i * cat (h - 1 - i)
theorem prt_at : ∀ h : Fin 16, ∀ i : Fin 16, i.val < h.val → 0 ≤ prt h.val i.val ∧ prt h.val (i.val + 1) ≤ cat h.val := by decide +kernel
theorem prt_le (h i : Nat) (hh : h ≤ 15) (hi : i < h) : 0 ≤ prt h i ∧ prt h (i + 1) ≤ cat h := prt_at ⟨h, by omega⟩ ⟨i, by omega⟩ hi
/-- The program's loop. -/
theorem rankLoop (J : List Int) (f e h i g : Nat) (hn : e ≤ 30) (he : e = f + 2 * h) (hh : h = i + g + 1) (r1 r2 : Int) (hr1 : 0 ≤ r1 ∧ r1 < cat i) (hr2 : 0 ≤ r2 ∧ r2 < cat g) (B : Nat) (hB : 20 ≤ B)
    (H1 : ∀ k, B ≤ k → impl_rankOfPlane.f k J ((f + 1 : Nat) : Int) ((f + 1 + 2 * i : Nat) : Int) = some r1) (H2 : ∀ k, B ≤ k → impl_rankOfPlane.f k J ((f + 2 + 2 * i : Nat) : Int) (e : Int) = some r2) :
    ∀ (d j k : Nat), j + d = i → B + d < k → impl_rankOfPlane.l0 k J f e ((2 * i : Nat) : Int) ((2 * g : Nat) : Int) (prt h j) ((2 * j : Nat) : Int) = some (prt h i + r1 * cat g + r2)
  | 0, j, k, hj, hk => by
    obtain ⟨k, rfl⟩ : ∃ q, k = q + 1 := ⟨k - 1, by omega⟩
    obtain rfl : j = i := by omega
    have hp := prt_le h j (by omega) (by omega)
    have hm : r1 * cat g + cat g ≤ cat j * cat g := by
      have hg := cat_pos g (by omega)
      have := Int.mul_le_mul_of_nonneg_right (show r1 + 1 ≤ cat j by omega) (show 0 ≤ cat g by omega)
      rwa [Int.add_mul, Int.one_mul] at this
    have hm0 : 0 ≤ r1 * cat g := Int.mul_nonneg hr1.1 (by have := cat_pos g (by omega); omega)
    have hc := cat_pos h (by omega)
    have hs : prt h (j + 1) = prt h j + cat j * cat g := by rw [prt, show h - 1 - j = g by omega]
    have w1 := Aside0.mk (show wrap64 ((f : Int) + 1) = ((f + 1 : Nat) : Int) from by rw [wrap64_id (by omega) (by omega)]; omega)
    have w2 := Aside0.mk (show wrap64 (((f + 1 : Nat) : Int) + ((2 * j : Nat) : Int)) = ((f + 1 + 2 * j : Nat) : Int) from by rw [wrap64_id (by omega) (by omega)]; omega)
    have w3 := Aside0.mk (show wrap64 ((f : Int) + 2) = ((f + 2 : Nat) : Int) from by rw [wrap64_id (by omega) (by omega)]; omega)
    have w4 := Aside0.mk (show wrap64 (((f + 2 : Nat) : Int) + ((2 * j : Nat) : Int)) = ((f + 2 + 2 * j : Nat) : Int) from by rw [wrap64_id (by omega) (by omega)]; omega)
    have w5 := Aside0.mk (show ((2 * g : Nat) : Int) = 2 * (g : Int) from by omega)
    have w6 := Aside0.mk (show wrap64 (r1 * cat g) = r1 * cat g from wrap64_id (by omega) (by omega))
    have w7 := Aside0.mk (show wrap64 (prt h j + r1 * cat g) = prt h j + r1 * cat g from wrap64_id (by omega) (by omega))
    have w8 := Aside0.mk (show wrap64 (prt h j + r1 * cat g + r2) = prt h j + r1 * cat g + r2 from wrap64_id (by omega) (by omega))
    simp only [impl_rankOfPlane.l0]
    rw [if_neg (by omega), w1.out, w2.out, w3.out, w4.out, H1 k (by omega), H2 k (by omega), w5.out, countPlane_eq g (by omega) k (by omega)]
    simp only [Option.bind_some]
    rw [w6.out, w7.out, w8.out]
  | d + 1, j, k, hj, hk => by
    obtain ⟨k, rfl⟩ : ∃ q, k = q + 1 := ⟨k - 1, by omega⟩
    have hp := prt_le h j (by omega) (by omega)
    have hc := cat_pos h (by omega)
    have hmul := cat_mul j (h - 1 - j) (by omega) (by omega)
    have hs : prt h (j + 1) = prt h j + cat j * cat (h - 1 - j) := rfl
    have w1 := Aside0.mk (show wrap64 ((e : Int) - f) = ((2 * h : Nat) : Int) from by rw [wrap64_id (by omega) (by omega)]; omega)
    have w2 := Aside0.mk (show wrap64 (((2 * h : Nat) : Int) - 2) = ((2 * h - 2 : Nat) : Int) from by rw [wrap64_id (by omega) (by omega)]; omega)
    have w3 := Aside0.mk (show wrap64 (((2 * h - 2 : Nat) : Int) - ((2 * j : Nat) : Int)) = 2 * ((h - 1 - j : Nat) : Int) from by rw [wrap64_id (by omega) (by omega)]; omega)
    have w4 := Aside0.mk (show wrap64 (((2 * j : Nat) : Int) + 2) = ((2 * (j + 1) : Nat) : Int) from by rw [wrap64_id (by omega) (by omega)]; omega)
    have w5 := Aside0.mk (show ((2 * j : Nat) : Int) = 2 * (j : Int) from by omega)
    have w6 := Aside0.mk (show wrap64 (cat j * cat (h - 1 - j)) = cat j * cat (h - 1 - j) from wrap64_id (by omega) (by omega))
    have w7 := Aside0.mk (show wrap64 (prt h j + cat j * cat (h - 1 - j)) = prt h (j + 1) from by rw [hs]; exact wrap64_id (by omega) (by omega))
    simp only [impl_rankOfPlane.l0]
    rw [if_pos (by omega), w1.out, w2.out, w3.out, w4.out, w5.out, countPlane_eq j (by omega) k (by omega), countPlane_eq (h - 1 - j) (by omega) k (by omega)]
    simp only [Option.bind_some]
    rw [w6.out, w7.out]
    exact rankLoop J f e h i g hn he hh r1 r2 hr1 hr2 B hB H1 H2 d (j + 1) k (by omega) (by omega)
/-- The reference looks for the chord from f to f + kk. -/
theorem rank_hit (l : List S52) (f q : Nat) (pts : Int) (ways : List Int) (rank kk behind : Int) (hq : wrap64 ((f : Int) + kk) = q) (R : Int) (B : Nat)
    (H : ∀ k, B ≤ k → ((spec_cdRank.f k l (wrap64 ((f : Int) + 1)) (wrap64 (kk - 1)) ways).bind fun t => ((spec_cdRank.f k l (wrap64 ((q : Int) + 1)) (wrap64 ((wrap64 (pts - 1)) - kk)) ways).bind fun u => (some (wrap64 ((wrap64 (rank + (wrap64 (t * behind)))) + u))))) = some R) :
    ∀ (m pre : List S52) (k : Nat), l = pre ++ m → l.length ≤ 1000 → (∃ c ∈ m, c.f0 = f ∧ c.f1 = q) → B + 2 * m.length ≤ k → spec_cdRank.l1 k l f pts ways rank kk behind l l.length pre.length = some R
  | [], pre, k, _, _, hc, _ => by simp at hc
  | c :: m, pre, k, hl, hs, hc, hk => by
    rw [List.length_cons] at hk
    obtain ⟨k, rfl⟩ : ∃ t, k = t + 2 := ⟨k - 2, by omega⟩
    have hL : l.length = pre.length + (m.length + 1) := by rw [hl]; simp
    have hrd : rd_T52 l (pre.length : Int) = c := by rw [hl]; exact rdC_mid pre m c
    simp only [spec_cdRank.l1, hrd]
    rw [if_pos (by omega), if_pos (by omega), if_pos (by omega)]
    by_cases h1 : c.f0 = f
    · rw [if_pos h1]
      simp only [spec_cdRank.j2, hq]
      by_cases h2 : c.f1 = q
      · rw [if_pos (by simp [h2])]
        exact H k (by omega)
      · rw [if_neg (by simp [h2]), wrap_step (by omega) (by omega)]
        have := rank_hit l f q pts ways rank kk behind hq R B H m (pre ++ [c]) k (by simp [hl]) hs (by
          obtain ⟨d, hd, e1, e2⟩ := hc
          rcases List.mem_cons.1 hd with e | e
          · subst e; exact absurd e2 h2
          · exact ⟨d, e, e1, e2⟩) (by omega)
        simpa using this
    · rw [if_neg h1]
      simp only [spec_cdRank.j2]
      rw [if_neg (by simp), wrap_step (by omega) (by omega)]
      have := rank_hit l f q pts ways rank kk behind hq R B H m (pre ++ [c]) k (by simp [hl]) hs (by
        obtain ⟨d, hd, e1, e2⟩ := hc
        rcases List.mem_cons.1 hd with e | e
        · subst e; exact absurd e1 h1
        · exact ⟨d, e, e1, e2⟩) (by omega)
      simpa using this
theorem rank_miss (l : List S52) (f q : Nat) (pts : Int) (ways : List Int) (rank kk behind : Int) (hq : wrap64 ((f : Int) + kk) = q) (R : Int) (B : Nat)
    (H : ∀ k, B ≤ k → (if 0 ≤ (wrap64 (kk - 1)) then (if (wrap64 (kk - 1)) < (ways.length : Int) then (spec_cdRank.l0 k l f pts ways (wrap64 (rank + (wrap64 ((rd ways (wrap64 (kk - 1))) * behind)))) (wrap64 (kk + 2))) else (none)) else (none)) = some R) :
    ∀ (m pre : List S52) (k : Nat), l = pre ++ m → l.length ≤ 1000 → (∀ c ∈ m, ¬ (c.f0 = f ∧ c.f1 = q)) → B + 2 * m.length < k → spec_cdRank.l1 k l f pts ways rank kk behind l l.length pre.length = some R
  | [], pre, k, hl, hs, _, hk => by
    obtain ⟨k, rfl⟩ : ∃ t, k = t + 1 := ⟨k - 1, by omega⟩
    have hL : l.length = pre.length := by rw [hl]; simp
    simp only [spec_cdRank.l1]
    rw [if_neg (by omega)]
    exact H k (by simp at hk; omega)
  | c :: m, pre, k, hl, hs, hc, hk => by
    rw [List.length_cons] at hk
    obtain ⟨k, rfl⟩ : ∃ t, k = t + 2 := ⟨k - 2, by omega⟩
    have hL : l.length = pre.length + (m.length + 1) := by rw [hl]; simp
    have hrd : rd_T52 l (pre.length : Int) = c := by rw [hl]; exact rdC_mid pre m c
    have ih := rank_miss l f q pts ways rank kk behind hq R B H m (pre ++ [c]) k (by simp [hl]) hs (fun d hd => hc d (by simp [hd])) (by omega)
    have ih2 : spec_cdRank.l1 k l f pts ways rank kk behind l l.length ((pre.length : Int) + 1) = some R := by simpa using ih
    simp only [spec_cdRank.l1, hrd]
    rw [if_pos (by omega), if_pos (by omega), if_pos (by omega)]
    by_cases h1 : c.f0 = f
    · rw [if_pos h1]
      simp only [spec_cdRank.j2, hq]
      have h2 : ¬ c.f1 = q := fun e => hc c (by simp) ⟨h1, e⟩
      rw [if_neg (by simp [h2]), wrap_step (by omega) (by omega)]
      exact ih2
    · rw [if_neg h1]
      simp only [spec_cdRank.j2]
      rw [if_neg (by simp), wrap_step (by omega) (by omega)]
      exact ih2
/-- The reference's loop. -/
theorem cdRankLoop (n : Nat) (hn : n ≤ 30) (l : List S52) (hl : l.length ≤ 40) (f h i g : Nat) (he : f + 2 * h ≤ n) (hh : h = i + g + 1) (r1 r2 : Int) (hr1 : 0 ≤ r1 ∧ r1 < cat i) (hr2 : 0 ≤ r2 ∧ r2 < cat g)
    (hit : ∃ c ∈ l, c.f0 = (f : Int) ∧ c.f1 = ((f + 2 * i + 1 : Nat) : Int)) (miss : ∀ j : Nat, j < i → ∀ c ∈ l, ¬ (c.f0 = (f : Int) ∧ c.f1 = ((f + 2 * j + 1 : Nat) : Int))) (B : Nat)
    (H1 : ∀ k, B ≤ k → spec_cdRank.f k l ((f + 1 : Nat) : Int) ((2 * i : Nat) : Int) (waysL n) = some r1) (H2 : ∀ k, B ≤ k → spec_cdRank.f k l ((f + 2 * i + 2 : Nat) : Int) ((2 * g : Nat) : Int) (waysL n) = some r2) :
    ∀ (d j k : Nat), j + d = i → B + 100 * (d + 1) ≤ k → spec_cdRank.l0 k l f ((2 * h : Nat) : Int) (waysL n) (prt h j) ((2 * j + 1 : Nat) : Int) = some (prt h i + r1 * cat g + r2)
  | 0, j, k, hj, hk => by
    obtain ⟨k, rfl⟩ : ∃ q, k = q + 1 := ⟨k - 1, by omega⟩
    obtain rfl : j = i := by omega
    have hp := prt_le h j (by omega) (by omega)
    have hm : r1 * cat g + cat g ≤ cat j * cat g := by
      have hg := cat_pos g (by omega)
      have := Int.mul_le_mul_of_nonneg_right (show r1 + 1 ≤ cat j by omega) (show 0 ≤ cat g by omega)
      rwa [Int.add_mul, Int.one_mul] at this
    have hm0 : 0 ≤ r1 * cat g := Int.mul_nonneg hr1.1 (by have := cat_pos g (by omega); omega)
    have hc := cat_pos h (by omega)
    have hs : prt h (j + 1) = prt h j + cat j * cat g := by rw [prt, show h - 1 - j = g by omega]
    have w0 := Aside0.mk (show wrap64 (((2 * h : Nat) : Int) - 1) = ((2 * h - 1 : Nat) : Int) from by rw [wrap64_id (by omega) (by omega)]; omega)
    have w1 := Aside0.mk (show wrap64 (((2 * h - 1 : Nat) : Int) - ((2 * j + 1 : Nat) : Int)) = 2 * (g : Int) from by rw [wrap64_id (by omega) (by omega)]; omega)
    have w2 := Aside0.mk (show wrap64 ((f : Int) + 1) = ((f + 1 : Nat) : Int) from by rw [wrap64_id (by omega) (by omega)]; omega)
    have w3 := Aside0.mk (show wrap64 ((f : Int) + ((2 * j + 1 : Nat) : Int)) = ((f + 2 * j + 1 : Nat) : Int) from by rw [wrap64_id (by omega) (by omega)]; omega)
    have w4 := Aside0.mk (show wrap64 (((f + 2 * j + 1 : Nat) : Int) + 1) = ((f + 2 * j + 2 : Nat) : Int) from by rw [wrap64_id (by omega) (by omega)]; omega)
    have w5 := Aside0.mk (show wrap64 (((2 * j + 1 : Nat) : Int) - 1) = ((2 * j : Nat) : Int) from by rw [wrap64_id (by omega) (by omega)]; omega)
    have w6 := Aside0.mk (show wrap64 (r1 * cat g) = r1 * cat g from wrap64_id (by omega) (by omega))
    have w7 := Aside0.mk (show wrap64 (prt h j + r1 * cat g) = prt h j + r1 * cat g from wrap64_id (by omega) (by omega))
    have w8 := Aside0.mk (show wrap64 (prt h j + r1 * cat g + r2) = prt h j + r1 * cat g + r2 from wrap64_id (by omega) (by omega))
    have w9 := Aside0.mk (show ((2 * g : Nat) : Int) = 2 * (g : Int) from by omega)
    have hwl := waysL_len n
    simp only [spec_cdRank.l0]
    rw [if_pos (by omega), w0.out, w1.out, if_pos (by omega), if_pos (by omega), waysL_rd n g (by omega)]
    have := rank_hit l f (f + 2 * j + 1) ((2 * h : Nat) : Int) (waysL n) (prt h j) ((2 * j + 1 : Nat) : Int) (cat g) w3.out (prt h j + r1 * cat g + r2) B (fun k hk => by
      rw [w2.out, w5.out, w4.out, w0.out, w1.out, H1 k hk, ← w9.out, H2 k hk]
      simp only [Option.bind_some]
      rw [w6.out, w7.out, w8.out]) l [] k rfl (by omega) hit (by omega)
    simpa using this
  | d + 1, j, k, hj, hk => by
    obtain ⟨k, rfl⟩ : ∃ q, k = q + 1 := ⟨k - 1, by omega⟩
    have hp := prt_le h j (by omega) (by omega)
    have hc := cat_pos h (by omega)
    have hmul := cat_mul j (h - 1 - j) (by omega) (by omega)
    have hs : prt h (j + 1) = prt h j + cat j * cat (h - 1 - j) := rfl
    have w0 := Aside0.mk (show wrap64 (((2 * h : Nat) : Int) - 1) = ((2 * h - 1 : Nat) : Int) from by rw [wrap64_id (by omega) (by omega)]; omega)
    have w1 := Aside0.mk (show wrap64 (((2 * h - 1 : Nat) : Int) - ((2 * j + 1 : Nat) : Int)) = 2 * ((h - 1 - j : Nat) : Int) from by rw [wrap64_id (by omega) (by omega)]; omega)
    have w3 := Aside0.mk (show wrap64 ((f : Int) + ((2 * j + 1 : Nat) : Int)) = ((f + 2 * j + 1 : Nat) : Int) from by rw [wrap64_id (by omega) (by omega)]; omega)
    have w5 := Aside0.mk (show wrap64 (((2 * j + 1 : Nat) : Int) - 1) = 2 * (j : Int) from by rw [wrap64_id (by omega) (by omega)]; omega)
    have w6 := Aside0.mk (show wrap64 (cat j * cat (h - 1 - j)) = cat j * cat (h - 1 - j) from wrap64_id (by omega) (by omega))
    have w7 := Aside0.mk (show wrap64 (prt h j + cat j * cat (h - 1 - j)) = prt h (j + 1) from by rw [hs]; exact wrap64_id (by omega) (by omega))
    have w8 := Aside0.mk (show wrap64 (((2 * j + 1 : Nat) : Int) + 2) = ((2 * (j + 1) + 1 : Nat) : Int) from by rw [wrap64_id (by omega) (by omega)]; omega)
    have hwl := waysL_len n
    simp only [spec_cdRank.l0]
    rw [if_pos (by omega), w0.out, w1.out, if_pos (by omega), if_pos (by omega), waysL_rd n (h - 1 - j) (by omega)]
    have := rank_miss l f (f + 2 * j + 1) ((2 * h : Nat) : Int) (waysL n) (prt h j) ((2 * j + 1 : Nat) : Int) (cat (h - 1 - j)) w3.out (prt h i + r1 * cat g + r2) (B + 100 * (d + 1)) (fun k hk => by
      rw [w5.out, if_pos (by omega), if_pos (by omega), waysL_rd n j (by omega), w6.out, w7.out, w8.out]
      exact cdRankLoop n hn l hl f h i g he hh r1 r2 hr1 hr2 hit miss B H1 H2 d (j + 1) k (by omega) hk) l [] k rfl (by omega) (miss j (by omega)) (by omega)
    simpa using this
theorem rank_main (n : Nat) (hn : n ≤ 30) (l : List S52) (hl : l.length ≤ 40) (J : List Int) (P : PlaneJ n l J) : ∀ (d f e : Nat), e - f ≤ d → f ≤ e → e ≤ n → (∀ p : Nat, f ≤ p → p < e → (f : Int) ≤ rd J p ∧ rd J p < e) →
    ∃ (h : Nat) (r : Int), e = f + 2 * h ∧ 0 ≤ r ∧ r < cat h ∧ (∀ k, 40 * (h + 1) ≤ k → impl_rankOfPlane.f k J f e = some r) ∧ (∀ k, 2000 * (h + 1) ≤ k → spec_cdRank.f k l f ((2 * h : Nat) : Int) (waysL n) = some r) := by
  intro d
  induction d with
  | zero =>
    intro f e hd hfe hen _
    obtain rfl : e = f := by omega
    refine ⟨0, 0, rfl, Int.le_refl _, by decide, fun k hk => ?_, fun k hk => ?_⟩
    · obtain ⟨k, rfl⟩ : ∃ q, k = q + 1 := ⟨k - 1, by omega⟩
      simp only [impl_rankOfPlane.f]
      rw [if_pos trivial]
    · obtain ⟨k, rfl⟩ : ∃ q, k = q + 1 := ⟨k - 1, by omega⟩
      simp only [spec_cdRank.f]
      rw [if_pos (by omega)]
  | succ d ih =>
    intro f e hd hfe hen hcl
    by_cases hfe2 : e = f
    · exact ih f e (by omega) hfe hen hcl
    · obtain ⟨q, hq, jf, jq, hne⟩ := P.inv f (by omega)
      have hq2 := hcl f (Nat.le_refl _) (by omega)
      rw [jf] at hq2
      have hin : ∀ p : Nat, f + 1 ≤ p → p < q → ((f + 1 : Nat) : Int) ≤ rd J p ∧ rd J p < q := by
        intro p h1 h2
        obtain ⟨s, hs, jp, js, hsp⟩ := P.inv p (by omega)
        have hb := hcl p (by omega) (by omega)
        rw [jp] at hb ⊢
        have e1 : s ≠ f := fun e => by subst e; rw [jf] at js; omega
        have e2 : s ≠ q := fun e => by subst e; rw [jq] at js; omega
        have e3 : ¬ q < s := fun h => P.nc f p q s (by omega) h2 h (by omega) jf jp
        omega
      have hout : ∀ p : Nat, q + 1 ≤ p → p < e → ((q + 1 : Nat) : Int) ≤ rd J p ∧ rd J p < e := by
        intro p h1 h2
        obtain ⟨s, hs, jp, js, hsp⟩ := P.inv p (by omega)
        have hb := hcl p (by omega) (by omega)
        rw [jp] at hb ⊢
        have e1 : s ≠ f := fun e => by subst e; rw [jf] at js; omega
        have e2 : s ≠ q := fun e => by subst e; rw [jq] at js; omega
        have e3 : ¬ s < q := fun h => by have := hin s (by omega) h; rw [js] at this; omega
        omega
      obtain ⟨i, r1, he1, hr1, hr1', I1, S1⟩ := ih (f + 1) q (by omega) (by omega) (by omega) hin
      obtain ⟨g, r2, he2, hr2, hr2', I2, S2⟩ := ih (q + 1) e (by omega) (by omega) hen hout
      obtain ⟨h, hh⟩ : ∃ h, h = i + g + 1 := ⟨_, rfl⟩
      have hp := prt_le h i (by omega) (by omega)
      have hm : r1 * cat g + cat g ≤ cat i * cat g := by
        have hg := cat_pos g (by omega)
        have := Int.mul_le_mul_of_nonneg_right (show r1 + 1 ≤ cat i by omega) (show 0 ≤ cat g by omega)
        rwa [Int.add_mul, Int.one_mul] at this
      have hm0 : 0 ≤ r1 * cat g := Int.mul_nonneg hr1 (by have := cat_pos g (by omega); omega)
      have hs : prt h (i + 1) = prt h i + cat i * cat g := by rw [prt, show h - 1 - i = g by omega]
      refine ⟨h, prt h i + r1 * cat g + r2, by omega, by omega, by omega, fun k hk => ?_, fun k hk => ?_⟩
      · obtain ⟨k, rfl⟩ : ∃ q, k = q + 1 := ⟨k - 1, by omega⟩
        have hJl := P.len
        have w1 := Aside0.mk (show wrap64 ((q : Int) - f) = ((2 * i + 1 : Nat) : Int) from by rw [wrap64_id (by omega) (by omega)]; omega)
        have w2 := Aside0.mk (show wrap64 (((2 * i + 1 : Nat) : Int) - 1) = ((2 * i : Nat) : Int) from by rw [wrap64_id (by omega) (by omega)]; omega)
        have w3 := Aside0.mk (show wrap64 ((e : Int) - f) = ((2 * h : Nat) : Int) from by rw [wrap64_id (by omega) (by omega)]; omega)
        have w4 := Aside0.mk (show wrap64 (((2 * h : Nat) : Int) - 2) = ((2 * h - 2 : Nat) : Int) from by rw [wrap64_id (by omega) (by omega)]; omega)
        have w5 := Aside0.mk (show wrap64 (((2 * h - 2 : Nat) : Int) - ((2 * i : Nat) : Int)) = ((2 * g : Nat) : Int) from by rw [wrap64_id (by omega) (by omega)]; omega)
        simp only [impl_rankOfPlane.f]
        rw [if_neg (by omega), if_pos (by omega), if_pos (by omega), jf, w1.out, w2.out, w3.out, w4.out, w5.out]
        have := rankLoop J f e h i g (by omega) (by omega) hh r1 r2 ⟨hr1, hr1'⟩ ⟨hr2, hr2'⟩ (40 * h) (by omega) (fun k hk => by
          have := I1 k (by omega)
          rwa [he1] at this) (fun k hk => by
          have := I2 k (by omega)
          rwa [show q + 1 = f + 2 + 2 * i by omega] at this) i 0 k (by omega) (by omega)
        exact this
      · obtain ⟨k, rfl⟩ : ∃ q, k = q + 1 := ⟨k - 1, by omega⟩
        simp only [spec_cdRank.f]
        rw [if_neg (by omega)]
        have := cdRankLoop n hn l hl f h i g (by omega) hh r1 r2 ⟨hr1, hr1'⟩ ⟨hr2, hr2'⟩ (by
          have := (P.mem f q (by omega) (by omega)).1 jf
          rwa [show q = f + 2 * i + 1 by omega] at this) (by
          intro j hj c hc hcc
          have := (P.mem f (f + 2 * j + 1) (by omega) (by omega)).2 ⟨c, hc, hcc⟩
          rw [jf] at this
          omega) (2000 * h) (fun k hk => S1 k (by omega)) (fun k hk => by
          have := S2 k (by omega)
          rwa [show q + 1 = f + 2 * i + 2 by omega] at this) i 0 k (by omega) (by omega)
        exact this
/-! ### QFnExactRankOfPlanePairing -/
theorem rank_both (n : Int) (l : List S52) (hl : l.length ≤ 1048576) : ∃ r : Int × Bool, ∀ k, l.length + 100000 ≤ k → spec_RankOfPlanePairing.f k n l = some r ∧ impl_RankOfPlanePairing.f k n l = some r := by
  by_cases hn : 4 ≤ n ∧ n ≤ 30 ∧ Int.tmod n 2 = 0
  · by_cases h : goodB n l = true
    · obtain ⟨h1, h2, h3, h4⟩ := good_spec n l h
      obtain ⟨p, rfl⟩ : ∃ p : Nat, n = p := ⟨n.toNat, by omega⟩
      have hm : l.length * (l.length + 3) ≤ 40 * 43 := Nat.mul_le_mul (by omega) (by omega)
      have hJ := partners_eq p (by omega) (by omega) l h4
      by_cases hx : pairsX l = 0
      · by_cases ho : allOne (incL l (List.replicate p 0)) = true
        · rcases hJ 100000 (by omega) with ⟨_, e⟩ | ⟨ys, ej, ey, _⟩
          · rw [ho] at e; cases e
          · have hmem : ¬ (-1 : Int) ∈ ys := by
              rcases join_inc p l (List.replicate p (-1)) (List.replicate p 0) (by simp) (by simp) (fun q hq => .inl ⟨rd_rep _ _ _ hq, rd_rep _ _ _ hq⟩) h4 with ⟨e, _⟩ | ⟨zs, e, _, e2⟩
              · rw [ej] at e; simp at e
              · rw [ej] at e
                simp only [Option.some.injEq] at e
                subst e
                rw [ho] at e2
                intro hh
                rw [decide_eq_true hh] at e2
                cases e2
            have P := planeJ_of p l ys h4 ej ey hmem hx
            obtain ⟨m, r, e1, _, _, I, S⟩ := rank_main p (by omega) l (by omega) ys P p 0 p (by omega) (by omega) (by omega) (fun q _ hq => by
              obtain ⟨s, hs, e, _, _⟩ := P.inv q hq
              rw [e]; omega)
            refine ⟨(r, true), fun k hk => ?_⟩
            obtain ⟨t, rfl⟩ : ∃ t, k = t + 1 := ⟨k - 1, by omega⟩
            have hpm : (p : Int) = 2 * (m : Int) := by omega
            have hways := cdPlane_eq m (by omega) (by omega) t (by omega)
            rw [← hpm, show 2 * m = p by omega] at hways
            have hI := I t (by omega)
            have hS := S t (by omega)
            rw [show 2 * m = p by omega] at hS
            simp only [Int.natCast_zero] at hI hS
            unfold spec_RankOfPlanePairing.f impl_RankOfPlanePairing.f
            have hev : (3 ≤ (p : Int) ∧ (p : Int) ≤ 60 ∧ Int.tmod p 2 = 0 ∧ (p : Int) ≤ 30) := by omega
            simp only [planePoints_eq, isEven_eq, decide_eq_true hn, decide_eq_true hev, Option.bind_some, if_true, cdGood_eq (p : Int) l (by omega) (t + 1) (by omega), areChords_eq (p : Int) l (by omega) (t + 1) (by omega), h, cdPairing_eq p (by omega) l h4 (by omega) (t + 1) (by omega), ho, cdPairs_eq l (by omega) (t + 1) (by omega), crossings_eq (p : Int) l h4 (by omega) (t + 1) (by omega), allP_len, hx, spec_RankOfPlanePairing.j0, impl_RankOfPlanePairing.j0, hways]
            rcases hJ t (by omega) with ⟨_, e⟩ | ⟨zs, ej2, _, e⟩
            · rw [ho] at e; cases e
            · rw [ej] at ej2
              simp only [Option.some.injEq] at ej2
              subst ej2
              rw [e, ho]
              simp [hI, hS]
        · refine ⟨(0, false), fun k hk => ?_⟩
          obtain ⟨t, rfl⟩ : ∃ t, k = t + 1 := ⟨k - 1, by omega⟩
          have ho' := Bool.eq_false_iff.2 ho
          unfold spec_RankOfPlanePairing.f impl_RankOfPlanePairing.f
          have hev : (3 ≤ (p : Int) ∧ (p : Int) ≤ 60 ∧ Int.tmod p 2 = 0 ∧ (p : Int) ≤ 30) := by omega
          simp only [planePoints_eq, isEven_eq, decide_eq_true hn, decide_eq_true hev, Option.bind_some, if_true, cdGood_eq (p : Int) l (by omega) (t + 1) (by omega), areChords_eq (p : Int) l (by omega) (t + 1) (by omega), h, cdPairing_eq p (by omega) l h4 (by omega) (t + 1) (by omega), ho', crossings_eq (p : Int) l h4 (by omega) (t + 1) (by omega), hx, spec_RankOfPlanePairing.j0, impl_RankOfPlanePairing.j0]
          rcases hJ t (by omega) with ⟨e, _⟩ | ⟨zs, _, _, e⟩
          · rw [e]; simp
          · rw [e, ho']; simp
      · refine ⟨(0, false), fun k hk => ?_⟩
        obtain ⟨t, rfl⟩ : ∃ t, k = t + 1 := ⟨k - 1, by omega⟩
        have hx1 : ((pairsX l : Nat) : Int) > 0 := by omega
        unfold spec_RankOfPlanePairing.f impl_RankOfPlanePairing.f
        have hev : (3 ≤ (p : Int) ∧ (p : Int) ≤ 60 ∧ Int.tmod p 2 = 0 ∧ (p : Int) ≤ 30) := by omega
        simp only [planePoints_eq, isEven_eq, decide_eq_true hn, decide_eq_true hev, Option.bind_some, if_true, cdGood_eq (p : Int) l (by omega) (t + 1) (by omega), areChords_eq (p : Int) l (by omega) (t + 1) (by omega), h, cdPairing_eq p (by omega) l h4 (by omega) (t + 1) (by omega), cdPairs_eq l (by omega) (t + 1) (by omega), crossings_eq (p : Int) l h4 (by omega) (t + 1) (by omega), allP_len, decide_eq_true hx1, spec_RankOfPlanePairing.j0, impl_RankOfPlanePairing.j0]
        simp
    · refine ⟨(0, false), fun k hk => ?_⟩
      obtain ⟨t, rfl⟩ : ∃ t, k = t + 1 := ⟨k - 1, by omega⟩
      have hev : (3 ≤ n ∧ n ≤ 60 ∧ Int.tmod n 2 = 0 ∧ n ≤ 30) := by omega
      have h' := Bool.eq_false_iff.2 h
      unfold spec_RankOfPlanePairing.f impl_RankOfPlanePairing.f
      simp only [planePoints_eq, isEven_eq, decide_eq_true hn, decide_eq_true hev, Option.bind_some, if_true, cdGood_eq n l (by omega) (t + 1) (by omega), areChords_eq n l (by omega) (t + 1) (by omega), h', spec_RankOfPlanePairing.j0, impl_RankOfPlanePairing.j0]
      simp
  · refine ⟨(0, false), fun k hk => ?_⟩
    obtain ⟨t, rfl⟩ : ∃ t, k = t + 1 := ⟨k - 1, by omega⟩
    have hev : ¬ (3 ≤ n ∧ n ≤ 60 ∧ Int.tmod n 2 = 0 ∧ n ≤ 30) := by
      by_cases e3 : n = 3
      · subst e3; decide
      · exact fun hh => hn ⟨by omega, hh.2.2.2, hh.2.2.1⟩
    unfold spec_RankOfPlanePairing.f impl_RankOfPlanePairing.f
    simp only [planePoints_eq, isEven_eq, decide_eq_false hn, decide_eq_false hev, Option.bind_some, spec_RankOfPlanePairing.j0, impl_RankOfPlanePairing.j0]
    simp
theorem FnExactRankOfPlanePairing : ∀ (a0 : Int) (l1 : List S50), (Lit.int .i64 a0).wf = true → l1.length ≤ 9223372036854775807 → ∃ k, laws_FnExactRankOfPlanePairing.f k a0 l1 = some true := by
  intro n l _ hl
  refine ⟨l.length + 100001, ?_⟩
  unfold laws_FnExactRankOfPlanePairing.f
  rw [szChordS_eq l hl]
  simp only [Option.bind_some]
  by_cases h : l.length ≤ 1048576
  · have hc := conv_len l
    rw [if_pos h, if_neg (by omega)]
    obtain ⟨⟨r, b⟩, hr⟩ := rank_both n (conv l) (by omega)
    simp only [toChordS_eq l (by omega) (l.length + 100001) (by omega), (hr (l.length + 100001) (by omega)).1, (hr (l.length + 100001) (by omega)).2, Option.bind_some]
    simp only [bne_self_eq_false, Bool.false_eq_true, if_false]
    simp only [laws_FnExactRankOfPlanePairing.j0, toChordS_eq l (by omega) (l.length + 100000) (by omega), eqChordS_self (l.length + 100000) (conv l) (by omega) (by omega), Option.bind_some]
    simp
  · rw [if_neg h]
    rfl

end Go.Proofs.Ytkiookioejckbaa.Q
