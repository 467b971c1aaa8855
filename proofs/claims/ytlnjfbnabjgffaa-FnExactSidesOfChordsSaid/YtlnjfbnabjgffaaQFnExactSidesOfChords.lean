/- SidesOfChords: reference and program tell the same sides. -/
import Derived.Test.YtlnjfbnabjgffaaZFnExactSidesOfChords3
namespace Go.Proofs.Ytlnjfbnabjgffaa.Q
open Go.RowKit Go.Proofs.Ytlnjfbnabjgffaa.X Go.Proofs.YtlnjfbnabjgffaaW.PrintWords Go.Proofs.YtlnjfbnabjgffaaW.PrintLast Go.Proofs.YtlnjfbnabjgffaaW.PrintMore
set_option linter.unusedVariables false
set_option linter.unusedSimpArgs false

/-! ### BWrap -/
theorem wrap64_id {x : Int} (h0 : -9223372036854775808 ≤ x) (h1 : x ≤ 9223372036854775807) : wrap64 x = x := by unfold wrap64; omega
theorem wrap_step {x : Int} (h0 : 0 ≤ x) (h1 : x ≤ 4611686018427387904) : wrap64 (x + 1) = x + 1 := by unfold wrap64; omega
/-! ### BOrd0 -/
/-- The order of chords. -/
def cLt (x y : S50) : Bool := decide (x.f0 < y.f0 ∨ (x.f0 = y.f0 ∧ x.f1 < y.f1))
theorem cLt_iff (x y : S50) : cLt x y = true ↔ (x.f0 < y.f0 ∨ (x.f0 = y.f0 ∧ x.f1 < y.f1)) := by unfold cLt; exact decide_eq_true_iff
theorem chord_ext {x y : S50} (h0 : x.f0 = y.f0) (h1 : x.f1 = y.f1) : x = y := by cases x; cases y; simp_all
/-- Strictly in order. -/
def Strict (l : List S50) : Prop := l.Pairwise fun x y => cLt x y = true
/-- Two lists strictly in order with the same members are the same. -/
theorem strict_unique : ∀ (l m : List S50), Strict l → Strict m → (∀ x, x ∈ l ↔ x ∈ m) → l = m
  | [], [], _, _, _ => rfl
  | [], y :: m, _, _, h => by have := (h y).2 (by simp); simp at this
  | x :: l, [], _, _, h => by have := (h x).1 (by simp); simp at this
  | x :: l, y :: m, hl, hm, h => by
    unfold Strict at hl hm
    rw [List.pairwise_cons] at hl hm
    have e : x = y := by
      have h1 := (h x).1 (by simp)
      have h2 := (h y).2 (by simp)
      rcases List.mem_cons.1 h1 with h1 | h1
      · exact h1
      · rcases List.mem_cons.1 h2 with h2 | h2
        · exact h2.symm
        · have a := hl.1 y h2
          have b := hm.1 x h1
          rw [cLt_iff] at a b
          omega
    subst e
    rw [strict_unique l m hl.2 hm.2 (fun z => by
      have hz := h z
      simp only [List.mem_cons] at hz
      constructor
      · intro hzl
        rcases hz.1 (Or.inr hzl) with e | e
        · subst e; have := hl.1 z hzl; rw [cLt_iff] at this; omega
        · exact e
      · intro hzm
        rcases hz.2 (Or.inr hzm) with e | e
        · subst e; have := hm.1 z hzm; rw [cLt_iff] at this; omega
        · exact e)]
/-- A chord put in at its place. -/
def insL (c : S50) : List S50 → List S50
  | [] => [c]
  | x :: l => if cLt x c = true then x :: insL c l else if x.f0 = c.f0 ∧ x.f1 = c.f1 then x :: l else c :: x :: l
theorem insL_mem (c : S50) : ∀ (l : List S50) (x : S50), x ∈ insL c l ↔ x = c ∨ x ∈ l
  | [], x => by simp [insL]
  | y :: l, x => by
    unfold insL
    split
    · rw [List.mem_cons, insL_mem c l x, List.mem_cons]; constructor
      · rintro (h | h | h) <;> simp [h]
      · rintro (h | h | h) <;> simp [h]
    · split
      · rename_i e; have e := chord_ext e.1 e.2; subst e; simp
      · simp
theorem insL_strict (c : S50) : ∀ (l : List S50), Strict l → Strict (insL c l)
  | [], _ => by simp [insL, Strict]
  | y :: l, h => by
    unfold Strict at h
    rw [List.pairwise_cons] at h
    unfold insL
    split
    · rename_i hy
      unfold Strict
      rw [List.pairwise_cons]
      refine ⟨fun z hz => ?_, insL_strict c l h.2⟩
      rcases (insL_mem c l z).1 hz with e | e
      · subst e; exact hy
      · exact h.1 z e
    · split
      · unfold Strict; rw [List.pairwise_cons]; exact h
      · rename_i h1 h2
        have h3 : ¬ (y.f0 = c.f0 ∧ y.f1 = c.f1) := h2
        have h4 : cLt c y = true := by rw [cLt_iff] at h1 ⊢; omega
        unfold Strict
        rw [List.pairwise_cons, List.pairwise_cons]
        refine ⟨fun z hz => ?_, h⟩
        rcases List.mem_cons.1 hz with e | e
        · subst e; exact h4
        · have h5 := h.1 z e
          rw [cLt_iff] at h4 h5 ⊢
          omega
theorem insL_len (c : S50) : ∀ (l : List S50), (insL c l).length ≤ l.length + 1
  | [] => by simp [insL]
  | y :: l => by
    unfold insL
    have := insL_len c l
    split
    · simp; omega
    · split <;> simp
/-- All chords of a list put in, one by one. -/
def putAll (acc : List S50) : List S50 → List S50
  | [] => acc
  | c :: l => putAll (insL c acc) l
theorem putAll_spec : ∀ (l acc : List S50), Strict acc → Strict (putAll acc l) ∧ ∀ x, x ∈ putAll acc l ↔ x ∈ acc ∨ x ∈ l
  | [], acc, h => ⟨h, by simp [putAll]⟩
  | c :: l, acc, h => by
    obtain ⟨h1, h2⟩ := putAll_spec l (insL c acc) (insL_strict c acc h)
    refine ⟨h1, fun x => ?_⟩
    unfold putAll
    rw [h2, insL_mem, List.mem_cons]
    constructor
    · rintro ((h | h) | h) <;> simp [h]
    · rintro (h | h | h) <;> simp [h]
theorem putAll_len : ∀ (l acc : List S50), (putAll acc l).length ≤ acc.length + l.length
  | [], acc => by simp [putAll]
  | c :: l, acc => by
    have h1 := putAll_len l (insL c acc)
    have h2 := insL_len c acc
    unfold putAll
    simp only [List.length_cons]
    omega
theorem rdC_get (l : List S50) (i : Int) (h0 : 0 ≤ i) (h1 : i < l.length) : rd_T50 l i = l[i.toNat]'(by omega) := by
  unfold rd_T50
  have h : i.toNat < l.length := by omega
  simp [h]
theorem srLess_eq (a b c d : Int) : spec_srLess.f a b c d = some (cLt ⟨a, b⟩ ⟨c, d⟩) := by
  unfold spec_srLess.f cLt
  split
  · rename_i h; exact congrArg some (decide_eq_true (Or.inl h)).symm
  · split
    · rename_i h1 h2
      refine congrArg some (decide_eq_decide.2 ?_)
      simp only
      omega
    · rename_i h1 h2
      refine congrArg some (decide_eq_false ?_).symm
      simp only
      omega
theorem rdC_append (l m : List S50) (x : S50) : rd_T50 (l ++ x :: m) (l.length : Int) = x := by
  rw [rdC_get _ _ (by omega) (by simp; omega)]
  simp
def mkC (a b : Int) : S50 := ⟨mn a b, mx a b⟩
/-- A chord of n points. -/
def Proper (n : Int) (c : S50) : Prop := 0 ≤ c.f0 ∧ c.f0 < c.f1 ∧ c.f1 < n
theorem mkC_proper (n a b : Int) (ha : 0 ≤ a ∧ a < n) (hb : 0 ≤ b ∧ b < n) (h : a ≠ b) : Proper n (mkC a b) := by
  unfold Proper mkC mn mx
  simp only
  split <;> split <;> omega
/-! ### BCount -/
def crossB (c d : S50) : Bool := spec_srCross.b c.f0 c.f1 d.f0 d.f1
theorem srCross_cross (c d : S50) : spec_srCross.f c.f0 c.f1 d.f0 d.f1 = some (crossB c d) := rfl
theorem crossB_iff (n : Int) (c d : S50) (hc : Proper n c) (hd : Proper n d) : crossB c d = true ↔ (c.f0 < d.f0 ∧ d.f0 < c.f1 ∧ c.f1 < d.f1) ∨ (d.f0 < c.f0 ∧ c.f0 < d.f1 ∧ d.f1 < c.f1) := by
  unfold Proper at hc hd
  unfold crossB spec_srCross.b
  simp only [Bool.and_eq_true, Bool.not_eq_true', Bool.or_eq_false_iff, beq_eq_false_iff_ne, bne_iff_ne, ne_eq, ← Bool.decide_and]
  rw [decide_eq_decide]
  omega
theorem crossing_eq (n : Int) (c d : S50) (hc : Proper n c) (hd : Proper n d) : impl_crossing.f c.f0 c.f1 d.f0 d.f1 = some (crossB c d) := by
  have h := crossB_iff n c d hc hd
  unfold Proper at hc hd
  unfold impl_crossing.f
  by_cases e : crossB c d = true
  · have h1 := h.1 e
    rw [e]
    rcases h1 with h1 | h1
    · rw [if_pos (by omega), if_pos (by omega), if_pos (by omega)]
    · rw [if_neg (by omega), if_pos (by omega), if_pos (by omega), decide_eq_true (by omega)]
  · have h1 : ¬ ((c.f0 < d.f0 ∧ d.f0 < c.f1 ∧ c.f1 < d.f1) ∨ (d.f0 < c.f0 ∧ c.f0 < d.f1 ∧ d.f1 < c.f1)) := fun x => e (h.2 x)
    rw [Bool.eq_false_iff.2 e]
    repeat' split
    all_goals first | rfl | (exfalso; omega) | (refine congrArg some (decide_eq_false ?_); omega)
theorem crossB_symm (n : Int) (c d : S50) (hc : Proper n c) (hd : Proper n d) : crossB c d = crossB d c := by
  rw [Bool.eq_iff_iff, crossB_iff n c d hc hd, crossB_iff n d c hd hc]
  omega
/-- So many of the chords cross c. -/
def countX (c : S50) (l : List S50) : Nat := l.countP (crossB c)
theorem crossed_loop (n : Int) (c : S50) (hc : Proper n c) (m : List S50) : ∀ (k : Nat) (pre : List S50) (cnt : Int), (∀ x ∈ m, Proper n x) → pre.length + m.length ≤ 1000000 → 0 ≤ cnt → cnt + m.length ≤ 4611686018427387904 → m.length < k →
    impl_crossed.l0 k cnt (pre ++ m) ((pre ++ m).length : Int) pre.length c.f0 c.f1 = some (cnt + countX c m) := by
  induction m with
  | nil =>
    intro k pre cnt _ hl h0 h1 hk
    obtain ⟨k, rfl⟩ : ∃ t, k = t + 1 := ⟨k - 1, by omega⟩
    simp only [impl_crossed.l0, List.append_nil]
    rw [if_neg (by omega)]
    simp [countX]
  | cons x m ih =>
    intro k pre cnt hp hl h0 h1 hk
    obtain ⟨k, rfl⟩ : ∃ t, k = t + 1 := ⟨k - 1, by omega⟩
    simp only [List.length_cons] at hl h1 hk
    have hlen : ((pre ++ x :: m).length : Int) = pre.length + m.length + 1 := by simp; omega
    simp only [impl_crossed.l0]
    rw [if_pos (by omega), if_pos (by omega), if_pos (by omega), rdC_append, crossing_eq n c x hc (hp x (by simp))]
    simp only [Option.bind_some]
    have IH := fun cnt h0 h1 => ih k (pre ++ [x]) cnt (fun y hy => hp y (by simp [hy])) (by simp; omega) h0 h1 (by omega)
    simp only [List.append_assoc, List.cons_append, List.nil_append] at IH
    have hpl : (((pre ++ [x]).length : Nat) : Int) = (pre.length : Int) + 1 := by simp
    rw [hpl] at IH
    rw [wrap64_id (x := cnt + 1) (by omega) (by omega), wrap64_id (by omega) (by omega)]
    unfold countX at IH ⊢
    by_cases e : crossB c x = true
    · rw [if_pos e, IH (cnt + 1) (by omega) (by omega), List.countP_cons_of_pos e]
      congr 1; omega
    · rw [if_neg e, IH cnt (by omega) (by omega), List.countP_cons_of_neg e]
theorem crossed_eq (n : Int) (c : S50) (hc : Proper n c) (m : List S50) (hm : ∀ x ∈ m, Proper n x) (hl : m.length ≤ 1000000) (k : Nat) (hk : m.length < k) : impl_crossed.f k m c.f0 c.f1 = some (countX c m : Int) := by
  unfold impl_crossed.f
  have := crossed_loop n c hc m k [] 0 hm (by simpa using hl) (by omega) (by omega) hk
  simpa using this
theorem countX_le (c : S50) (l : List S50) : countX c l ≤ l.length := List.countP_le_length
/-- So many pairs of a list's chords cross. -/
def pairsX : List S50 → Nat
  | [] => 0
  | x :: l => countX x l + pairsX l
theorem pairsX_snoc (n : Int) (x : S50) (hx : Proper n x) : ∀ (l : List S50), (∀ y ∈ l, Proper n y) → pairsX (l ++ [x]) = pairsX l + countX x l
  | [], _ => by simp [pairsX, countX]
  | y :: l, h => by
    have ih := pairsX_snoc n x hx l (fun z hz => h z (by simp [hz]))
    simp only [List.cons_append, pairsX, ih]
    have e := crossB_symm n x y hx (h y (by simp))
    unfold countX
    rw [List.countP_append, List.countP_cons, List.countP_cons, e]
    simp only [List.countP_nil, Nat.zero_add]
    omega
theorem pairsX_le : ∀ (l : List S50), pairsX l ≤ l.length * l.length
  | [] => by simp [pairsX]
  | x :: l => by
    have h1 := pairsX_le l
    have h2 := countX_le x l
    simp only [pairsX, List.length_cons]
    rw [Nat.add_mul, Nat.mul_add]
    omega
/-! ### BCdPairs -/
/-- Index pairs (i, j), ahead the first i, j from o on, with chords of m that cross c. -/
def rowP (c : S50) (i : Int) : Int → List S50 → List (List Int)
  | _, [] => []
  | j, x :: m => if crossB c x = true then [i, j] :: rowP c i (j + 1) m else rowP c i (j + 1) m
def allP : Int → List S50 → List (List Int)
  | _, [] => []
  | i, c :: m => rowP c i (i + 1) m ++ allP (i + 1) m
theorem rowP_len (c : S50) (i : Int) : ∀ (m : List S50) (j : Int), (rowP c i j m).length = countX c m
  | [], _ => rfl
  | x :: m, j => by
    unfold rowP countX
    by_cases e : crossB c x = true
    · rw [if_pos e, List.countP_cons_of_pos e, List.length_cons, rowP_len c i m]; rfl
    · rw [if_neg e, List.countP_cons_of_neg e, rowP_len c i m]; rfl
theorem allP_len : ∀ (m : List S50) (i : Int), (allP i m).length = pairsX m
  | [], _ => rfl
  | c :: m, i => by
    unfold allP pairsX
    rw [List.length_append, rowP_len, allP_len m]
theorem cdPairs_inner (l : List S50) (hl : l.length ≤ 10000) (c : S50) (i : Int) (m : List S50) : ∀ (k : Nat) (pre : List S50) (acc : List (List Int)) (r : Option (List (List Int))), pre ++ m = l → acc.length + m.length ≤ 1000000000000 → m.length < k →
    (∀ k', k ≤ k' + m.length + 1 → k' < k → spec_cdPairs.l0 k' l (acc ++ rowP c i pre.length m) l (l.length : Int) (wrap64 (i + 1)) = r) →
    spec_cdPairs.l1 k l acc i pre.length l (l.length : Int) i c.f0 c.f1 = r := by
  induction m with
  | nil =>
    intro k pre acc r e h0 hk hr
    obtain ⟨k, rfl⟩ : ∃ t, k = t + 1 := ⟨k - 1, by omega⟩
    rw [List.append_nil] at e
    subst e
    simp only [spec_cdPairs.l1]
    rw [if_neg (by omega)]
    simpa [rowP] using hr k (by simp) (by omega)
  | cons x m ih =>
    intro k pre acc r e h0 hk hr
    obtain ⟨k, rfl⟩ : ∃ t, k = t + 1 := ⟨k - 1, by omega⟩
    simp only [List.length_cons] at h0 hk hr
    have hlen : (l.length : Int) = pre.length + m.length + 1 := by rw [← e]; simp; omega
    simp only [spec_cdPairs.l1]
    have hx : rd_T50 l (pre.length : Int) = x := by rw [← e]; exact rdC_append pre m x
    rw [if_pos (by omega), if_pos (by omega), hx, srCross_cross]
    simp only [Option.bind_some]
    have hpl : (((pre ++ [x]).length : Nat) : Int) = (pre.length : Int) + 1 := by simp
    have IH := fun acc h0 hr => ih k (pre ++ [x]) acc r (by simpa using e) h0 (by omega) hr
    rw [hpl] at IH
    rw [wrap64_id (x := (pre.length : Int) + 1) (by omega) (by omega)]
    by_cases eX : crossB c x = true
    · rw [if_pos eX, if_pos (by omega)]
      refine IH _ (by simp; omega) (fun k' h1 h2 => ?_)
      have := hr k' (by omega) (by omega)
      unfold rowP at this
      rw [if_pos eX] at this
      rw [List.append_assoc]
      exact this
    · rw [if_neg eX]
      refine IH acc (by omega) (fun k' h1 h2 => ?_)
      have := hr k' (by omega) (by omega)
      unfold rowP at this
      rw [if_neg eX] at this
      exact this
theorem cdPairs_loop (l : List S50) (hl : l.length ≤ 10000) (m : List S50) : ∀ (k : Nat) (pre : List S50) (acc : List (List Int)), pre ++ m = l → acc.length + m.length * 10000 ≤ 1000000000 → m.length * (l.length + 3) < k →
    spec_cdPairs.l0 k l acc l (l.length : Int) pre.length = some (acc ++ allP pre.length m) := by
  induction m with
  | nil =>
    intro k pre acc e h0 hk
    obtain ⟨k, rfl⟩ : ∃ t, k = t + 1 := ⟨k - 1, by omega⟩
    rw [List.append_nil] at e
    simp only [spec_cdPairs.l0]
    rw [if_neg (by rw [e]; omega)]
    simp [allP]
  | cons x m ih =>
    intro k pre acc e h0 hk
    obtain ⟨k, rfl⟩ : ∃ t, k = t + 1 := ⟨k - 1, by omega⟩
    have hlen : (l.length : Int) = pre.length + m.length + 1 := by rw [← e]; simp; omega
    simp only [spec_cdPairs.l0]
    have hx : rd_T50 l (pre.length : Int) = x := by rw [← e]; exact rdC_append pre m x
    rw [if_pos (by omega), if_pos (by omega), if_pos (by omega), hx, wrap64_id (x := (pre.length : Int) + 1) (by omega) (by omega)]
    simp only [List.length_cons] at h0 hk
    have hmul : (m.length + 1) * (l.length + 3) = m.length * (l.length + 3) + (l.length + 3) := by rw [Nat.add_mul, Nat.one_mul]
    have hpl : (((pre ++ [x]).length : Nat) : Int) = (pre.length : Int) + 1 := by simp
    have hin := cdPairs_inner l hl x pre.length m k (pre ++ [x]) acc (some (acc ++ allP pre.length (x :: m))) (by simpa using e) (by omega) (by omega) (fun k' h2 h3 => by
      have h4 := countX_le x m
      have h5 := rowP_len x pre.length m ((pre ++ [x]).length : Int)
      have := ih k' (pre ++ [x]) (acc ++ rowP x pre.length ((pre ++ [x]).length : Int) m) (by simpa using e) (by rw [List.length_append, h5]; omega) (by omega)
      rw [hpl] at this ⊢
      rw [wrap64_id (by omega) (by omega), this]
      simp only [allP, List.append_assoc])
    rw [hpl] at hin
    exact hin
theorem cdPairs_eq (l : List S50) (hl : l.length ≤ 10000) (k : Nat) (hk : l.length * (l.length + 3) < k) : spec_cdPairs.f k l = some (allP 0 l) := by
  unfold spec_cdPairs.f
  have := cdPairs_loop l hl l k [] [] rfl (by simp; omega) hk
  simpa using this
/-! ### BImplPairs -/
theorem crossingPairs_inner (n : Int) (l : List S50) (hl : l.length ≤ 10000) (hP : ∀ x ∈ l, Proper n x) (c : S50) (hc : Proper n c) (i : Int) (m : List S50) : ∀ (k : Nat) (pre : List S50) (acc : List (List Int)) (r : Option (List (List Int) × Bool)), pre ++ m = l → acc.length + m.length ≤ 1000000000000 → m.length < k →
    (∀ k', k ≤ k' + m.length + 1 → k' < k → impl_CrossingPairs.l0 k' l (acc ++ rowP c i pre.length m) l (l.length : Int) (wrap64 (i + 1)) = r) →
    impl_CrossingPairs.l1 k l acc i pre.length l (l.length : Int) i c.f0 c.f1 = r := by
  induction m with
  | nil =>
    intro k pre acc r e h0 hk hr
    obtain ⟨k, rfl⟩ : ∃ t, k = t + 1 := ⟨k - 1, by omega⟩
    rw [List.append_nil] at e
    subst e
    simp only [impl_CrossingPairs.l1]
    rw [if_neg (by omega)]
    simpa [rowP] using hr k (by simp) (by omega)
  | cons x m ih =>
    intro k pre acc r e h0 hk hr
    obtain ⟨k, rfl⟩ : ∃ t, k = t + 1 := ⟨k - 1, by omega⟩
    simp only [List.length_cons] at h0 hk hr
    have hlen : (l.length : Int) = pre.length + m.length + 1 := by rw [← e]; simp; omega
    simp only [impl_CrossingPairs.l1]
    have hx : rd_T50 l (pre.length : Int) = x := by rw [← e]; exact rdC_append pre m x
    rw [if_pos (by omega), if_pos (by omega), hx, crossing_eq n c x hc (hP x (by rw [← e]; simp))]
    simp only [Option.bind_some]
    have hpl : (((pre ++ [x]).length : Nat) : Int) = (pre.length : Int) + 1 := by simp
    have IH := fun acc h0 hr => ih k (pre ++ [x]) acc r (by simpa using e) h0 (by omega) hr
    rw [hpl] at IH
    rw [wrap64_id (x := (pre.length : Int) + 1) (by omega) (by omega)]
    by_cases eX : crossB c x = true
    · rw [if_pos eX, if_pos (by omega)]
      refine IH _ (by simp; omega) (fun k' h1 h2 => ?_)
      have := hr k' (by omega) (by omega)
      unfold rowP at this
      rw [if_pos eX] at this
      rw [List.append_assoc]
      exact this
    · rw [if_neg eX]
      refine IH acc (by omega) (fun k' h1 h2 => ?_)
      have := hr k' (by omega) (by omega)
      unfold rowP at this
      rw [if_neg eX] at this
      exact this
theorem crossingPairs_loop (n : Int) (l : List S50) (hl : l.length ≤ 10000) (hP : ∀ x ∈ l, Proper n x) (m : List S50) : ∀ (k : Nat) (pre : List S50) (acc : List (List Int)), pre ++ m = l → acc.length + m.length * 10000 ≤ 1000000000 → m.length * (l.length + 3) < k →
    impl_CrossingPairs.l0 k l acc l (l.length : Int) pre.length = some (acc ++ allP pre.length m, true) := by
  induction m with
  | nil =>
    intro k pre acc e h0 hk
    obtain ⟨k, rfl⟩ : ∃ t, k = t + 1 := ⟨k - 1, by omega⟩
    rw [List.append_nil] at e
    simp only [impl_CrossingPairs.l0]
    rw [if_neg (by rw [e]; omega)]
    simp [allP]
  | cons x m ih =>
    intro k pre acc e h0 hk
    obtain ⟨k, rfl⟩ : ∃ t, k = t + 1 := ⟨k - 1, by omega⟩
    have hlen : (l.length : Int) = pre.length + m.length + 1 := by rw [← e]; simp; omega
    simp only [impl_CrossingPairs.l0]
    have hx : rd_T50 l (pre.length : Int) = x := by rw [← e]; exact rdC_append pre m x
    rw [if_pos (by omega), if_pos (by omega), if_pos (by omega), hx, wrap64_id (x := (pre.length : Int) + 1) (by omega) (by omega)]
    simp only [List.length_cons] at h0 hk
    have hmul : (m.length + 1) * (l.length + 3) = m.length * (l.length + 3) + (l.length + 3) := by rw [Nat.add_mul, Nat.one_mul]
    have hpl : (((pre ++ [x]).length : Nat) : Int) = (pre.length : Int) + 1 := by simp
    have hin := crossingPairs_inner n l hl hP x (hP x (by rw [← e]; simp)) pre.length m k (pre ++ [x]) acc (some (acc ++ allP pre.length (x :: m), true)) (by simpa using e) (by omega) (by omega) (fun k' h2 h3 => by
      have h4 := countX_le x m
      have h5 := rowP_len x pre.length m ((pre ++ [x]).length : Int)
      have := ih k' (pre ++ [x]) (acc ++ rowP x pre.length ((pre ++ [x]).length : Int) m) (by simpa using e) (by rw [List.length_append, h5]; omega) (by omega)
      rw [hpl] at this ⊢
      rw [wrap64_id (by omega) (by omega), this]
      simp only [allP, List.append_assoc])
    rw [hpl] at hin
    exact hin
/-! ### BGroups -/
theorem getD_set {α : Type} (l : List α) (i j : Nat) (v d : α) (hi : i < l.length) : (l.set i v).getD j d = if j = i then v else l.getD j d := by
  simp only [List.getD_eq_getElem?_getD, List.getElem?_set]
  by_cases h : i = j
  · subst h
    simp [hi]
  · rw [if_neg h, if_neg (fun e => h e.symm)]
/-- How many are in no group yet. -/
def freeG (g : List Int) : Nat := g.countP (fun x => decide (x < 0))
theorem freeG_set (g : List Int) (i : Nat) (v : Int) (hi : i < g.length) (h0 : g.getD i 0 < 0) (hv : 0 ≤ v) : freeG (g.set i v) + 1 = freeG g := by
  unfold freeG
  rw [List.countP_set hi]
  have e : g.getD i 0 = g[i] := by simp [List.getD_eq_getElem?_getD, hi]
  rw [e] at h0
  have hpos : 0 < g.countP (fun x => decide (x < 0)) := List.countP_pos_iff.2 ⟨g[i], List.getElem_mem hi, by simpa using h0⟩
  simp [h0, Int.not_lt.2 hv]
  omega
/-- The members of the group a, in order. -/
def rowG (n : Nat) (g : List Int) (a : Nat) : List Int := ((List.range n).filter fun i => decide (g.getD i 0 = (a : Int))).map fun (i : Nat) => (i : Int)
/-- The groups below m that are not empty. -/
def rowsG (n : Nat) (g : List Int) : Nat → List (List Int)
  | 0 => []
  | m + 1 => rowsG n g m ++ (if rowG n g m = [] then [] else [rowG n g m])
theorem rowG_same (n : Nat) (g g' : List Int) (a : Nat) (h : ∀ i, i < n → (g'.getD i 0 = (a : Int) ↔ g.getD i 0 = (a : Int))) : rowG n g' a = rowG n g a := by
  unfold rowG
  congr 1
  apply List.filter_congr
  intro i hi
  have := h i (List.mem_range.1 hi)
  simpa only [decide_eq_decide] using this
theorem rowsG_same (n : Nat) (g g' : List Int) : ∀ (m : Nat), (∀ a, a < m → rowG n g' a = rowG n g a) → rowsG n g' m = rowsG n g m
  | 0, _ => rfl
  | m + 1, h => by
    rw [rowsG, rowsG, rowsG_same n g g' m (fun a ha => h a (by omega)), h m (by omega)]
theorem rowG_mem (n : Nat) (g : List Int) (a : Nat) (x : Int) : x ∈ rowG n g a ↔ 0 ≤ x ∧ x < n ∧ g.getD x.toNat 0 = (a : Int) := by
  unfold rowG
  simp only [List.mem_map, List.mem_filter, List.mem_range, decide_eq_true_eq]
  constructor
  · rintro ⟨i, ⟨h1, h2⟩, rfl⟩
    exact ⟨by omega, by omega, by simpa using h2⟩
  · rintro ⟨h1, h2, h3⟩
    exact ⟨x.toNat, ⟨by omega, h3⟩, by omega⟩
theorem rowG_sorted (n : Nat) (g : List Int) (a : Nat) : (rowG n g a).Pairwise (· < ·) := by
  unfold rowG
  rw [List.pairwise_map]
  exact (List.Pairwise.filter _ List.pairwise_lt_range).imp (fun h => by omega)
theorem srt_row (n : Nat) (g : List Int) (a : Nat) (own : List Int) (hn : own.Nodup) (hm : ∀ x, x ∈ own ↔ x ∈ rowG n g a) : srtI own = rowG n g a := by
  have h1 : (srtI own).Pairwise (fun x y => x ≤ y) := by
    have := List.pairwise_mergeSort (le := fun x y : Int => decide (x ≤ y)) (fun a b c h1 h2 => by simp at *; omega) (fun a b => by simp; omega) own
    exact this.imp (fun h => by simpa using h)
  have h2 : (rowG n g a).Pairwise (fun x y => x ≤ y) := (rowG_sorted n g a).imp (fun h => Int.le_of_lt h)
  have hp : (srtI own).Perm (rowG n g a) := by
    refine (List.mergeSort_perm own _).trans ?_
    rw [List.perm_ext_iff_of_nodup hn ((rowG_sorted n g a).imp (fun h => Int.ne_of_lt h))]
    exact hm
  exact hp.eq_of_pairwise (fun a b _ _ h1 h2 => by omega) h1 h2
/-- What both know: groups g and distances fa of the reference, what the program has seen, and which are even. -/
structure St (n : Nat) (g fa : List Int) (s e : List Bool) : Prop where
  lg : g.length = n
  lf : fa.length = n
  ls : s.length = n
  le : e.length = n
  seen : ∀ i, i < n → s.getD i false = decide (0 ≤ g.getD i 0)
  even : ∀ i, i < n → 0 ≤ g.getD i 0 → e.getD i false = decide (fa.getD i 0 % 2 = 0)
  zero : ∀ i, i < n → g.getD i 0 < 0 → fa.getD i 0 = 0
  far : ∀ i, i < n → 0 ≤ fa.getD i 0 ∧ fa.getD i 0 + freeG g ≤ n
/-- The queue of the group f. -/
structure Ow (n : Nat) (g : List Int) (f : Nat) (own : List Int) : Prop where
  nodup : own.Nodup
  mem : ∀ x, x ∈ own ↔ x ∈ rowG n g f
  low : ∀ i, i < n → g.getD i 0 ≤ (f : Int)
  old : ∀ i, i ≤ f → i < n → 0 ≤ g.getD i 0
  ne : own ≠ []
theorem St.push {n : Nat} {g fa : List Int} {s e : List Bool} (h : St n g fa s e) (q j : Nat) (v : Int) (hq : q < n) (hj : j < n) (hqj : 0 ≤ g.getD q 0) (hg : g.getD j 0 < 0) (hv : 0 ≤ v) :
    St n (g.set j v) (fa.set j (fa.getD q 0 + 1)) (s.set j true) (e.set j (!(e.getD q false))) := by
  have hU := freeG_set g j v (by rw [h.lg]; exact hj) hg hv
  have hfq := h.far q hq
  refine ⟨by simp [h.lg], by simp [h.lf], by simp [h.ls], by simp [h.le], fun i hi => ?_, fun i hi hgi => ?_, fun i hi hgi => ?_, fun i hi => ?_⟩
  · rw [getD_set _ _ _ _ _ (by rw [h.ls]; exact hj), getD_set _ _ _ _ _ (by rw [h.lg]; exact hj)]
    by_cases e1 : i = j
    · rw [if_pos e1, if_pos e1]; simp [hv]
    · rw [if_neg e1, if_neg e1]; exact h.seen i hi
  · rw [getD_set _ _ _ _ _ (by rw [h.lg]; exact hj)] at hgi
    rw [getD_set _ _ _ _ _ (by rw [h.le]; exact hj), getD_set _ _ _ _ _ (by rw [h.lf]; exact hj)]
    by_cases e1 : i = j
    · rw [if_pos e1, if_pos e1, h.even q hq hqj]
      by_cases e2 : fa.getD q 0 % 2 = 0
      · rw [decide_eq_true e2, decide_eq_false (by omega)]; rfl
      · rw [decide_eq_false e2, decide_eq_true (by omega)]; rfl
    · rw [if_neg e1] at hgi
      rw [if_neg e1, if_neg e1]; exact h.even i hi hgi
  · rw [getD_set _ _ _ _ _ (by rw [h.lg]; exact hj)] at hgi
    rw [getD_set _ _ _ _ _ (by rw [h.lf]; exact hj)]
    by_cases e1 : i = j
    · rw [if_pos e1] at hgi; omega
    · rw [if_neg e1] at hgi
      rw [if_neg e1]; exact h.zero i hi hgi
  · have := h.far i hi
    rw [getD_set _ _ _ _ _ (by rw [h.lf]; exact hj)]
    split <;> omega
theorem Ow.push {n : Nat} {g : List Int} {f : Nat} {own : List Int} (h : Ow n g f own) (lg : g.length = n) (j : Nat) (hj : j < n) (hg : g.getD j 0 < 0) : Ow n (g.set j (f : Int)) f (own ++ [(j : Int)]) := by
  have hset := fun i => getD_set g j i (f : Int) 0 (by rw [lg]; exact hj)
  refine ⟨?_, fun x => ?_, fun i hi => ?_, fun i hif hi => ?_, by simp⟩
  · rw [List.nodup_append]
    refine ⟨h.nodup, by simp, ?_⟩
    intro a ha b hb e
    simp at hb
    subst hb
    rw [e] at ha
    obtain ⟨_, _, h3⟩ := (rowG_mem n g f _).1 ((h.mem _).1 ha)
    rw [Int.toNat_natCast] at h3
    omega
  · rw [List.mem_append, h.mem, rowG_mem, rowG_mem, hset]
    simp only [List.mem_singleton]
    constructor
    · rintro (⟨h1, h2, h3⟩ | rfl)
      · refine ⟨h1, h2, ?_⟩
        rw [if_neg (fun e => by rw [e] at h3; omega)]
        exact h3
      · exact ⟨by omega, by omega, by simp⟩
    · rintro ⟨h1, h2, h3⟩
      by_cases e : x.toNat = j
      · right; omega
      · left
        rw [if_neg e] at h3
        exact ⟨h1, h2, h3⟩
  · rw [hset]
    have := h.low i hi
    split <;> omega
  · rw [hset]
    have := h.old i hif hi
    split <;> omega
theorem rowsG_push {n : Nat} {g : List Int} (f : Nat) (lg : g.length = n) (j : Nat) (hj : j < n) (hg : g.getD j 0 < 0) : rowsG n (g.set j (f : Int)) f = rowsG n g f := by
  apply rowsG_same
  intro a ha
  apply rowG_same
  intro i hi
  rw [getD_set g j i (f : Int) 0 (by rw [lg]; exact hj)]
  by_cases e : i = j
  · rw [if_pos e, e]; constructor <;> intro h <;> omega
  · rw [if_neg e]
/-- What both tell in the end: G the groups, F the distances, O the rows, E which are even. -/
def EndG (n : Nat) (G F : List Int) (O : List (List Int)) (E : List Bool) : Prop := G.length = n ∧ F.length = n ∧ E.length = n ∧ (∀ i, i < n → 0 ≤ G.getD i 0 ∧ G.getD i 0 < n) ∧ O = rowsG n G n ∧ (∀ i, i < n → 0 ≤ F.getD i 0 ∧ F.getD i 0 ≤ n) ∧ ∀ i, i < n → E.getD i false = decide (F.getD i 0 % 2 = 0)
/-- From here on both come to an end alike. -/
def Both (n : Nat) (S : Nat → Option (List Int × List Int)) (I : Nat → Option (List (List Int) × List Bool)) : Prop := ∃ K G F O E, (∀ k, K ≤ k → S k = some (G, F)) ∧ (∀ k, K ≤ k → I k = some (O, E)) ∧ EndG n G F O E
theorem Both.step {n : Nat} {S S' : Nat → Option (List Int × List Int)} {I I' : Nat → Option (List (List Int) × List Bool)} (h : Both n S I) (hs : ∀ k, S' (k + 1) = S k) (hi : ∀ k, I' (k + 1) = I k) : Both n S' I' := by
  obtain ⟨K, G, F, O, E, h1, h2, h3⟩ := h
  refine ⟨K + 1, G, F, O, E, fun k hk => ?_, fun k hk => ?_, h3⟩
  · obtain ⟨k, rfl⟩ : ∃ t, k = t + 1 := ⟨k - 1, by omega⟩
    rw [hs]; exact h1 k (by omega)
  · obtain ⟨k, rfl⟩ : ∃ t, k = t + 1 := ⟨k - 1, by omega⟩
    rw [hi]; exact h2 k (by omega)
theorem rd_nat (g : List Int) (i : Nat) : rd g (i : Int) = g.getD i 0 := rfl
theorem rdOf_nat (s : List Bool) (i : Nat) : rdOf false s (i : Int) = s.getD i false := rfl
theorem wrapN (n : Nat) (h : n ≤ 4000000000) : wrap64 ((n : Int) + 1) = ((n + 1 : Nat) : Int) := by
  rw [wrap_step (by omega) (by omega)]; omega
theorem inner_loop (n : Nat) (l : List S50) (hl : l.length = n) (hn : n ≤ 1000) (P : Int) (hP : ∀ x ∈ l, Proper P x) (f i : Nat) (U : Nat) (hUn : U ≤ n) (out : List (List Int)) (d : Nat) :
    ∀ (j : Nat) (g fa : List Int) (s e : List Bool) (own : List Int), j + d = n → St n g fa s e → Ow n g f own → i < own.length → own.length + freeG g = U → out = rowsG n g f →
    (∀ g fa s e own, St n g fa s e → Ow n g f own → i < own.length → own.length + freeG g = U → out = rowsG n g f →
      Both n (fun k => spec_cdGroups.l2 k l g fa (f : Int) own ((i + 1 : Nat) : Int) (n : Int) (f : Int)) (fun k => impl_groups.l1 k l s e out own ((i + 1 : Nat) : Int) (n : Int) (f : Int))) →
    Both n (fun k => spec_cdGroups.l3 k l g fa (f : Int) own (i : Int) (n : Int) (f : Int) (n : Int) (j : Int)) (fun k => impl_groups.l2 k l s e out own (i : Int) (n : Int) (f : Int) (n : Int) (j : Int)) := by
  induction d with
  | zero =>
    intro j g fa s e own hj hS hO hi hU ho H
    refine (H g fa s e own hS hO hi hU ho).step (fun k => ?_) (fun k => ?_)
    · simp only [spec_cdGroups.l3]
      rw [if_neg (by omega), wrapN i (by omega)]
    · simp only [impl_groups.l2]
      rw [if_neg (by omega), wrapN i (by omega)]
  | succ d ih =>
    intro j g fa s e own hj hS hO hi hU ho H
    have hjn : j < n := by omega
    have hseen := hS.seen j hjn
    have hlg := hS.lg
    have hls := hS.ls
    have hlf := hS.lf
    have hle := hS.le
    by_cases hg : g.getD j 0 < 0
    · -- not in a group yet
      obtain ⟨q, hq⟩ : ∃ q : Int, own.getD i 0 = q := ⟨_, rfl⟩
      have hqm : q ∈ own := by rw [← hq, List.getD_eq_getElem?_getD, List.getElem?_eq_getElem hi]; exact List.getElem_mem hi
      obtain ⟨q0, q1, q2⟩ := (rowG_mem n g f q).1 ((hO.mem q).1 hqm)
      obtain ⟨Q, rfl⟩ : ∃ Q : Nat, q = (Q : Int) := ⟨q.toNat, by omega⟩
      rw [Int.toNat_natCast] at q2
      have hQ : Q < n := by omega
      have hc := srCross_cross (rd_T50 l (Q : Int)) (rd_T50 l (j : Int))
      have hPQ : ∀ t : Nat, t < n → Proper P (rd_T50 l (t : Int)) := fun t ht => by rw [rdC_get l t (by omega) (by omega)]; exact hP _ (List.getElem_mem _)
      have hc2 := crossing_eq P _ _ (hPQ Q hQ) (hPQ j hjn)
      by_cases hx : crossB (rd_T50 l (Q : Int)) (rd_T50 l (j : Int)) = true
      · rw [hx] at hc hc2
        have hS2 := hS.push Q j (f : Int) hQ hjn (by rw [q2]; omega) hg (by omega)
        have hO2 := hO.push hlg j hjn hg
        have hU2 := freeG_set g j (f : Int) (by omega) hg (by omega)
        have hr2 := rowsG_push f hlg j hjn hg
        have hfar := hS.far Q hQ
        have IH := ih (j + 1) _ _ _ _ _ (by omega) hS2 hO2 (by simp; omega) (by simp; omega) (by rw [hr2]; exact ho) H
        refine IH.step (fun k => ?_) (fun k => ?_)
        · simp only [spec_cdGroups.l3]
          rw [if_pos (by omega), if_pos (by omega), if_pos (by omega), rd_nat g j, if_pos hg, if_pos (by omega), if_pos (by omega), rd_nat own i, hq, if_pos (by omega), if_pos (by omega), if_pos (by omega), hc]
          simp only [Option.bind_some, if_true]
          rw [if_pos (by omega), if_pos (by omega), if_pos (by omega), rd_nat fa Q, Int.toNat_natCast, wrap_step (by omega) (by omega), wrapN j (by omega)]
        · simp only [impl_groups.l2]
          rw [if_pos (by omega), if_pos (by omega), if_pos (by omega), rdOf_nat s j, if_neg (by rw [hseen, decide_eq_false (by omega)]; simp), if_pos (by omega), if_pos (by omega), rd_nat own i, hq, if_pos (by omega), if_pos (by omega), if_pos (by omega), hc2]
          simp only [Option.bind_some, if_true]
          rw [if_pos (by omega), if_pos (by omega), if_pos (by omega), rdOf_nat e Q, Int.toNat_natCast, wrapN j (by omega)]
      · have hx2 : crossB (rd_T50 l (Q : Int)) (rd_T50 l (j : Int)) = false := by simpa using hx
        rw [hx2] at hc hc2
        refine (ih (j + 1) g fa s e own (by omega) hS hO hi hU ho H).step (fun k => ?_) (fun k => ?_)
        · simp only [spec_cdGroups.l3]
          rw [if_pos (by omega), if_pos (by omega), if_pos (by omega), rd_nat g j, if_pos hg, if_pos (by omega), if_pos (by omega), rd_nat own i, hq, if_pos (by omega), if_pos (by omega), if_pos (by omega), hc]
          simp only [Option.bind_some, Bool.false_eq_true, if_false]
          rw [wrapN j (by omega)]
        · simp only [impl_groups.l2]
          rw [if_pos (by omega), if_pos (by omega), if_pos (by omega), rdOf_nat s j, if_neg (by rw [hseen, decide_eq_false (by omega)]; simp), if_pos (by omega), if_pos (by omega), rd_nat own i, hq, if_pos (by omega), if_pos (by omega), if_pos (by omega), hc2]
          simp only [Option.bind_some, Bool.false_eq_true, if_false]
          rw [wrapN j (by omega)]
    · refine (ih (j + 1) g fa s e own (by omega) hS hO hi hU ho H).step (fun k => ?_) (fun k => ?_)
      · simp only [spec_cdGroups.l3]
        rw [if_pos (by omega), if_pos (by omega), if_pos (by omega), rd_nat g j, if_neg hg, wrapN j (by omega)]
      · simp only [impl_groups.l2]
        rw [if_pos (by omega), if_pos (by omega), if_pos (by omega), rdOf_nat s j, if_pos (by rw [hseen, decide_eq_true (by omega)]), wrapN j (by omega)]
theorem rowsG_len (n : Nat) (g : List Int) : ∀ m, (rowsG n g m).length ≤ m
  | 0 => by simp [rowsG]
  | m + 1 => by
    have := rowsG_len n g m
    rw [rowsG, List.length_append]
    split <;> simp <;> omega
theorem bfs_loop (n : Nat) (l : List S50) (hl : l.length = n) (hn : n ≤ 1000) (P : Int) (hP : ∀ x ∈ l, Proper P x) (f : Nat) (hf : f < n) (U : Nat) (hUn : U ≤ n) (out : List (List Int))
    (Hend : ∀ g fa s e own, St n g fa s e → Ow n g f own → out = rowsG n g f →
      Both n (fun k => spec_cdGroups.l1 k l g fa (n : Int) ((f + 1 : Nat) : Int)) (fun k => impl_groups.l0 k l s e (out ++ [rowG n g f]) (n : Int) ((f + 1 : Nat) : Int))) (d : Nat) :
    ∀ (i : Nat) (g fa : List Int) (s e : List Bool) (own : List Int), i + d = U → i ≤ own.length → St n g fa s e → Ow n g f own → own.length + freeG g = U → out = rowsG n g f →
    Both n (fun k => spec_cdGroups.l2 k l g fa (f : Int) own (i : Int) (n : Int) (f : Int)) (fun k => impl_groups.l1 k l s e out own (i : Int) (n : Int) (f : Int)) := by
  have fin : ∀ (i : Nat) (g fa : List Int) (s e : List Bool) (own : List Int), own.length ≤ i → own.length ≤ n → St n g fa s e → Ow n g f own → out = rowsG n g f →
      Both n (fun k => spec_cdGroups.l2 k l g fa (f : Int) own (i : Int) (n : Int) (f : Int)) (fun k => impl_groups.l1 k l s e out own (i : Int) (n : Int) (f : Int)) := by
    intro i g fa s e own hi hlen hS hO ho
    have hol := rowsG_len n g f
    rw [← ho] at hol
    have hpos : 0 < own.length := List.length_pos_iff.2 hO.ne
    refine (Hend g fa s e own hS hO ho).step (fun k => ?_) (fun k => ?_)
    · simp only [spec_cdGroups.l2]
      rw [if_neg (by omega), wrapN f (by omega)]
    · simp only [impl_groups.l1]
      rw [if_neg (by omega)]
      unfold slices_Sort_int_int.f
      rw [if_pos ⟨by omega, by omega⟩, srt_row n g f own hO.nodup hO.mem]
      simp only [Option.bind_some]
      rw [if_pos (by omega), wrapN f (by omega)]
  induction d with
  | zero =>
    intro i g fa s e own hi hle hS hO hU ho
    exact fin i g fa s e own (by omega) (by omega) hS hO ho
  | succ d ih =>
    intro i g fa s e own hi hle hS hO hU ho
    by_cases hx : i < own.length
    · have IN := inner_loop n l hl hn P hP f i U hUn out n 0 g fa s e own (by omega) hS hO hx hU ho (fun g fa s e own hS hO hi2 hU ho => ih (i + 1) g fa s e own (by omega) (by omega) hS hO hU ho)
      refine IN.step (fun k => ?_) (fun k => ?_)
      · simp only [spec_cdGroups.l2]
        rw [if_pos (by omega), hl]
        rfl
      · simp only [impl_groups.l1]
        rw [if_pos (by omega), hl]
        rfl
    · exact fin i g fa s e own (by omega) (by omega) hS hO ho
theorem first_loop (n : Nat) (l : List S50) (hl : l.length = n) (hn : n ≤ 1000) (P : Int) (hP : ∀ x ∈ l, Proper P x) (d : Nat) :
    ∀ (f : Nat) (g fa : List Int) (s e : List Bool) (out : List (List Int)), f + d = n → St n g fa s e → (∀ i, i < n → g.getD i 0 < (f : Int)) → (∀ i, i < f → i < n → 0 ≤ g.getD i 0) → out = rowsG n g f →
    Both n (fun k => spec_cdGroups.l1 k l g fa (n : Int) (f : Int)) (fun k => impl_groups.l0 k l s e out (n : Int) (f : Int)) := by
  induction d with
  | zero =>
    intro f g fa s e out hf hS hlow hold ho
    obtain rfl : f = n := by omega
    refine ⟨1, g, fa, out, e, fun k hk => ?_, fun k hk => ?_, hS.lg, hS.lf, hS.le, fun i hi => ⟨hold i hi hi, hlow i hi⟩, ho, fun i hi => ?_, fun i hi => hS.even i hi (hold i hi hi)⟩
    · obtain ⟨k, rfl⟩ : ∃ t, k = t + 1 := ⟨k - 1, by omega⟩
      simp only [spec_cdGroups.l1]
      rw [if_neg (by omega)]
    · obtain ⟨k, rfl⟩ : ∃ t, k = t + 1 := ⟨k - 1, by omega⟩
      simp only [impl_groups.l0]
      rw [if_neg (by omega)]
    · have := hS.far i hi
      omega
  | succ d ih =>
    intro f g fa s e out hf hS hlow hold ho
    have hfn : f < n := by omega
    have hlg := hS.lg
    have hls := hS.ls
    have hle := hS.le
    have hlf := hS.lf
    have hseen := hS.seen f hfn
    by_cases hg : g.getD f 0 < 0
    · have hset := fun i => getD_set g f i (f : Int) 0 (by omega)
      have hU := freeG_set g f (f : Int) (by omega) hg (by omega)
      have hUn : freeG g ≤ n := by rw [← hlg]; exact List.countP_le_length
      have hS2 : St n (g.set f (f : Int)) fa (s.set f true) (e.set f true) := by
        refine ⟨by simp [hlg], hlf, by simp [hls], by simp [hle], fun i hi => ?_, fun i hi hgi => ?_, fun i hi hgi => ?_, fun i hi => ?_⟩
        · rw [hset, getD_set _ _ _ _ _ (by omega)]
          by_cases e1 : i = f
          · rw [if_pos e1, if_pos e1]; simp
          · rw [if_neg e1, if_neg e1]; exact hS.seen i hi
        · rw [hset] at hgi
          rw [getD_set _ _ _ _ _ (by omega)]
          by_cases e1 : i = f
          · rw [if_pos e1, e1, hS.zero f hfn hg]; rfl
          · rw [if_neg e1] at hgi
            rw [if_neg e1]; exact hS.even i hi hgi
        · rw [hset] at hgi
          by_cases e1 : i = f
          · rw [if_pos e1] at hgi; omega
          · rw [if_neg e1] at hgi; exact hS.zero i hi hgi
        · have := hS.far i hi
          omega
      have hO2 : Ow n (g.set f (f : Int)) f [(f : Int)] := by
        refine ⟨by simp, fun x => ?_, fun i hi => ?_, fun i hif hi => ?_, by simp⟩
        · rw [rowG_mem, hset]
          simp only [List.mem_singleton]
          constructor
          · rintro rfl
            exact ⟨by omega, by omega, by simp⟩
          · rintro ⟨h1, h2, h3⟩
            by_cases e1 : x.toNat = f
            · omega
            · rw [if_neg e1] at h3
              have := hlow x.toNat (by omega)
              omega
        · rw [hset]
          have := hlow i hi
          split <;> omega
        · rw [hset]
          by_cases e1 : i = f
          · rw [if_pos e1]; omega
          · rw [if_neg e1]; exact hold i (by omega) hi
      have IH := bfs_loop n l hl hn P hP f hfn (freeG g) hUn out (fun g fa s e own hS hO ho => by
        refine ih (f + 1) g fa s e (out ++ [rowG n g f]) (by omega) hS (fun i hi => ?_) (fun i hif hi => hO.old i (by omega) hi) ?_
        · have := hO.low i hi
          omega
        · rw [rowsG, ← ho, if_neg]
          intro e0
          have hpos := List.length_pos_iff.2 hO.ne
          have := (hO.mem own[0]).1 (List.getElem_mem hpos)
          rw [e0] at this
          simp at this) (freeG g) 0 (g.set f (f : Int)) fa (s.set f true) (e.set f true) [(f : Int)] (by omega) (by simp) hS2 hO2 (by simp; omega) (by rw [rowsG_push f hlg f hfn hg]; exact ho)
      refine IH.step (fun k => ?_) (fun k => ?_)
      · simp only [spec_cdGroups.l1]
        rw [if_pos (by omega), if_pos (by omega), if_pos (by omega), rd_nat g f, if_neg (by omega), Int.toNat_natCast]
        rfl
      · simp only [impl_groups.l0]
        rw [if_pos (by omega), if_pos (by omega), if_pos (by omega), rdOf_nat s f, if_neg (by rw [hseen, decide_eq_false (by omega)]; simp), if_pos (by omega), Int.toNat_natCast]
        rfl
    · refine (ih (f + 1) g fa s e out (by omega) hS (fun i hi => by have := hlow i hi; omega) (fun i hif hi => ?_) ?_).step (fun k => ?_) (fun k => ?_)
      · by_cases e1 : i = f
        · rw [e1]; omega
        · exact hold i (by omega) hi
      · have e0 : rowG n g f = [] := by
          rw [List.eq_nil_iff_forall_not_mem]
          intro x hx
          obtain ⟨h1, h2, h3⟩ := (rowG_mem n g f x).1 hx
          have := hlow x.toNat (by omega)
          omega
        rw [rowsG, if_pos e0, List.append_nil]; exact ho
      · simp only [spec_cdGroups.l1]
        rw [if_pos (by omega), if_pos (by omega), if_pos (by omega), rd_nat g f, if_pos (by omega), wrapN f (by omega)]
      · simp only [impl_groups.l0]
        rw [if_pos (by omega), if_pos (by omega), if_pos (by omega), rdOf_nat s f, if_pos (by rw [hseen, decide_eq_true (by omega)]), wrapN f (by omega)]
theorem start_loop (l : List S50) (n : Nat) (hn : n ≤ 1000) (fa : List Int) (d : Nat) : ∀ (k i : Nat) (r : List Int × List Int), i + d = n → (∀ j, k ≤ j + d + 1 → spec_cdGroups.l1 j l (List.replicate n (-1)) fa (l.length : Int) 0 = some r) → d < k →
    spec_cdGroups.l0 k l (List.replicate i (-1) ++ List.replicate d 0) fa (n : Int) (i : Int) = some r := by
  induction d with
  | zero =>
    intro k i r hi h hk
    obtain ⟨k, rfl⟩ : ∃ t, k = t + 1 := ⟨k - 1, by omega⟩
    obtain rfl : i = n := by omega
    simp only [spec_cdGroups.l0]
    rw [if_neg (by omega)]
    simpa using h k (by omega)
  | succ d ih =>
    intro k i r hi h hk
    obtain ⟨k, rfl⟩ : ∃ t, k = t + 1 := ⟨k - 1, by omega⟩
    have IH := ih k (i + 1) r (by omega) (fun j hj => h j (by omega)) (by omega)
    have e : (List.replicate i (-1 : Int) ++ List.replicate (d + 1) 0).set i (-1) = List.replicate (i + 1) (-1) ++ List.replicate d 0 := by
      rw [List.set_append_right _ _ (by simp), List.length_replicate, Nat.sub_self, List.replicate_succ (n := d), List.set_cons_zero, List.replicate_succ' (n := i), List.append_assoc]
      rfl
    simp only [spec_cdGroups.l0]
    rw [if_pos (by omega), if_pos (by omega), if_pos (by simp; omega), Int.toNat_natCast, e, wrapN i (by omega)]
    exact IH
theorem groups_both (l : List S50) (hn : l.length ≤ 1000) (P : Int) (hP : ∀ x ∈ l, Proper P x) : Both l.length (fun k => spec_cdGroups.f k l) (fun k => impl_groups.f k l) := by
  obtain ⟨n, hl⟩ : ∃ n, l.length = n := ⟨_, rfl⟩
  rw [hl]
  have hfree : freeG (List.replicate n (-1)) ≤ n := by
    have : freeG (List.replicate n (-1)) ≤ (List.replicate n (-1 : Int)).length := List.countP_le_length
    simpa using this
  have gm : ∀ i, i < n → (List.replicate n (-1 : Int)).getD i 0 = -1 := fun i hi => by simp [List.getD_eq_getElem?_getD, hi]
  have gz : ∀ i, i < n → (List.replicate n (0 : Int)).getD i 0 = 0 := fun i hi => by simp [List.getD_eq_getElem?_getD, hi]
  have gf : ∀ i, i < n → (List.replicate n false).getD i false = false := fun i hi => by simp [List.getD_eq_getElem?_getD, hi]
  obtain ⟨K, G, F, O, E, h1, h2, h3⟩ := first_loop n l hl (by omega) P hP n 0 (List.replicate n (-1)) (List.replicate n 0) (List.replicate n false) (List.replicate n false) [] (by omega)
    ⟨by simp, by simp, by simp, by simp, fun i hi => by rw [gm i hi, gf i hi]; rfl, fun i hi hg => by rw [gm i hi] at hg; omega, fun i hi _ => gz i hi, fun i hi => by rw [gz i hi]; omega⟩
    (fun i hi => by rw [gm i hi]; omega) (fun i hi _ => by omega) rfl
  refine ⟨K + n + 5, G, F, O, E, fun k hk => ?_, fun k hk => ?_, h3⟩
  · show spec_cdGroups.f k l = some (G, F)
    unfold spec_cdGroups.f
    rw [if_pos (by omega), hl, Int.toNat_natCast, if_pos (by omega)]
    simp only [Option.bind_some]
    have := start_loop l n (by omega) (List.replicate n 0) n k 0 (G, F) (by omega) (fun j hj => by rw [hl]; exact h1 j (by omega)) (by omega)
    simpa using this
  · show impl_groups.f k l = some (O, E)
    unfold impl_groups.f
    rw [if_pos (by omega), hl, Int.toNat_natCast, if_pos (by omega)]
    exact h2 k (by omega)
/-! ### BBase -/
theorem l1In_eq (a b c : Int) : spec_l1In.f a b c = some (decide (b ≤ a ∧ a ≤ c)) := by
  unfold spec_l1In.f
  by_cases h : a ≥ b
  · rw [if_pos h]; exact congrArg some (decide_eq_decide.2 (by omega))
  · rw [if_neg h]; exact congrArg some (decide_eq_false (by omega)).symm
theorem within_eq (a b c : Int) : impl_within.f a b c = some (decide (b ≤ a ∧ a ≤ c)) := by
  unfold impl_within.f
  by_cases h : a ≥ b
  · rw [if_pos h]; exact congrArg some (decide_eq_decide.2 (by omega))
  · rw [if_neg h]; exact congrArg some (decide_eq_false (by omega)).symm
theorem srPoints_eq (a : Int) : spec_srPoints.f a = some (decide (3 ≤ a ∧ a ≤ 60)) := by
  unfold spec_srPoints.f; rw [l1In_eq]; rfl
theorem isCircle_eq (a : Int) : impl_isCircle.f a = some (decide (3 ≤ a ∧ a ≤ 60)) := by
  unfold impl_isCircle.f; rw [within_eq]; rfl
/-! ### BIsChord -/
def isCh (n a b : Int) : Prop := 0 ≤ a ∧ a < b ∧ b < n
instance (n a b : Int) : Decidable (isCh n a b) := by unfold isCh; infer_instance
theorem srIs_eq (n a b : Int) (hn : 3 ≤ n ∧ n ≤ 60) : spec_srIs.f n a b = some (decide (isCh n a b)) := by
  unfold spec_srIs.f
  rw [wrap64_id (by omega) (by omega), l1In_eq]
  simp only [Option.bind_some]
  by_cases h : 0 ≤ a ∧ a ≤ n - 1
  · rw [if_pos (decide_eq_true h), l1In_eq, wrap64_id (by omega) (by omega)]
    simp only [Option.bind_some]
    refine congrArg some (decide_eq_decide.2 ?_)
    unfold isCh
    omega
  · rw [if_neg (by simpa using h)]
    refine congrArg some (decide_eq_false ?_).symm
    unfold isCh
    omega
theorem implIsChord_eq (n a b : Int) : impl_isChord.f n a b = some (decide (isCh n a b)) := by
  unfold impl_isChord.f
  by_cases h1 : a ≥ 0
  · rw [if_pos h1]
    by_cases h2 : a < b
    · rw [if_pos h2]
      refine congrArg some (decide_eq_decide.2 ?_)
      unfold isCh
      omega
    · rw [if_neg h2]
      refine congrArg some (decide_eq_false ?_).symm
      unfold isCh
      omega
  · rw [if_neg h1]
    refine congrArg some (decide_eq_false ?_).symm
    unfold isCh
    omega
/-! ### BSet -/
theorem compare_eq (a b : Int) : cmp_Compare_int.f a b = some (if a < b then -1 else if a > b then 1 else 0) := by
  unfold cmp_Compare_int.f cmp_isNaN_int.f
  simp
  split
  · rfl
  · split <;> rfl
theorem compareChords_eq (x y : S50) (k : Nat) (hk : 4 ≤ k) : ∃ r : Int, impl_compareChords.f k x.f0 x.f1 y.f0 y.f1 = some r ∧ (r ≥ 0 ↔ ¬ cLt x y = true) := by
  unfold impl_compareChords.f
  simp only [compare_eq, Option.bind_some]
  obtain ⟨k, rfl⟩ : ∃ t, k = t + 4 := ⟨k - 4, by omega⟩
  have h0 : wrap64 (0 + 1) = 1 := wrap64_id (by omega) (by omega)
  have h1 : wrap64 (1 + 1) = 2 := wrap64_id (by omega) (by omega)
  simp only [cmp_Or_int.f, cmp_Or_int.l0, List.length_cons, List.length_nil, h0, h1, rd, cLt_iff]
  by_cases c0 : x.f0 < y.f0
  · simp [c0]
  · by_cases c1 : x.f0 > y.f0
    · simp [c0, c1]; omega
    · have e : x.f0 = y.f0 := by omega
      by_cases d0 : x.f1 < y.f1
      · simp [e, d0]
      · by_cases d1 : x.f1 > y.f1
        · simp [e, d0, d1]
        · simp [e, d0, d1]
def isChB (n : Int) (c : S50) : Bool := decide (isCh n c.f0 c.f1)
/-- Chords of n points in order, behind p. -/
def okFrom (n : Int) : Option S50 → List S50 → Bool
  | _, [] => true
  | none, c :: l => isChB n c && okFrom n (some c) l
  | some p, c :: l => isChB n c && (cLt p c && okFrom n (some c) l)
theorem okFrom_spec (n : Int) : ∀ (l : List S50) (p : Option S50), okFrom n p l = true → Strict l ∧ (∀ c ∈ l, Proper n c) ∧ ∀ q, p = some q → ∀ c ∈ l, cLt q c = true
  | [], p, _ => ⟨by simp [Strict], by simp, by simp⟩
  | c :: l, p, h => by
    have h1 : isChB n c = true ∧ okFrom n (some c) l = true ∧ ∀ q, p = some q → cLt q c = true := by
      cases p with
      | none => simp only [okFrom, Bool.and_eq_true] at h; exact ⟨h.1, h.2, by simp⟩
      | some q => simp only [okFrom, Bool.and_eq_true] at h; exact ⟨h.1, h.2.2, fun q' e => by cases e; exact h.2.1⟩
    obtain ⟨a, b, c1⟩ := okFrom_spec n l (some c) h1.2.1
    have c2 := c1 c rfl
    refine ⟨?_, ?_, ?_⟩
    · unfold Strict at a ⊢; rw [List.pairwise_cons]; exact ⟨c2, a⟩
    · intro d hd
      rcases List.mem_cons.1 hd with e | e
      · subst e; exact (of_decide_eq_true h1.1 : isCh n d.f0 d.f1)
      · exact b d e
    · intro q e d hd
      have h3 := h1.2.2 q e
      rcases List.mem_cons.1 hd with e | e
      · subst e; exact h3
      · have h4 := c2 d e
        rw [cLt_iff] at h3 h4 ⊢
        omega
theorem okFrom_none (n : Int) (c : S50) (m : List S50) : okFrom n none (c :: m) = (isChB n c && okFrom n (some c) m) := rfl
theorem okFrom_some (n : Int) (p c : S50) (m : List S50) : okFrom n (some p) (c :: m) = (isChB n c && (cLt p c && okFrom n (some c) m)) := rfl
def lastO (pre : List S50) : Option S50 := pre.getLast?
theorem rd_last (pre m : List S50) (p : S50) : rd_T50 ((pre ++ [p]) ++ m) ((pre.length : Int) + 1 - 1) = p := by
  rw [show (pre.length : Int) + 1 - 1 = pre.length by omega, List.append_assoc]
  exact rdC_append pre m p
theorem cdGood_loop (n : Int) (hn : 3 ≤ n ∧ n ≤ 60) (m : List S50) : ∀ (k : Nat) (pre : List S50), pre.length + m.length ≤ 1000000000 → m.length < k →
    spec_cdGood.l0 k n (pre ++ m) (pre ++ m) ((pre ++ m).length : Int) pre.length = some (okFrom n (lastO pre) m) := by
  induction m with
  | nil =>
    intro k pre hl hk
    obtain ⟨k, rfl⟩ : ∃ t, k = t + 1 := ⟨k - 1, by omega⟩
    simp only [spec_cdGood.l0, List.append_nil]
    rw [if_neg (by omega)]
    simp [okFrom]
  | cons x m ih =>
    intro k pre hl hk
    obtain ⟨k, rfl⟩ : ∃ t, k = t + 1 := ⟨k - 1, by omega⟩
    simp only [List.length_cons] at hl hk
    have hlen : ((pre ++ x :: m).length : Int) = pre.length + m.length + 1 := by simp; omega
    simp only [spec_cdGood.l0]
    rw [if_pos (by omega), if_pos (by omega), if_pos (by omega), rdC_append, srIs_eq n _ _ hn]
    simp only [Option.bind_some]
    have IH := ih k (pre ++ [x]) (by simp; omega) (by omega)
    simp only [List.append_assoc, List.cons_append, List.nil_append] at IH
    have hpl : (((pre ++ [x]).length : Nat) : Int) = (pre.length : Int) + 1 := by simp
    have hla : lastO (pre ++ [x]) = some x := by unfold lastO; simp
    rw [hpl, hla] at IH
    by_cases hc : isCh n x.f0 x.f1
    · have hcB : isChB n x = true := decide_eq_true hc
      rw [if_pos (decide_eq_true hc)]
      rcases List.eq_nil_or_concat pre with e | ⟨q, p, e⟩
      · subst e
        rw [if_neg (by simp)]
        rw [wrap64_id (by omega) (by omega), IH]
        have e1 : lastO ([] : List S50) = none := rfl
        rw [e1, okFrom_none, hcB, Bool.true_and]
      · rw [List.concat_eq_append] at e
        subst e
        have hql : (((q ++ [p]).length : Nat) : Int) = (q.length : Int) + 1 := by simp
        have hla2 : lastO (q ++ [p]) = some p := by unfold lastO; simp
        rw [if_pos (by omega), wrap64_id (by omega) (by omega), if_pos (by omega), if_pos (by omega), hql, rd_last, srLess_eq]
        simp only [Option.bind_some]
        have e0 : (⟨x.f0, x.f1⟩ : S50) = x := rfl
        have e1 : (⟨p.f0, p.f1⟩ : S50) = p := rfl
        rw [e0, e1, hla2, okFrom_some, hcB, Bool.true_and]
        rw [wrap64_id (by omega) (by omega)]
        rw [hql] at IH
        by_cases hp : cLt p x = true
        · rw [if_pos hp, IH, hp, Bool.true_and]
        · rw [if_neg hp]
          simp [hp]
    · have hcB : isChB n x = false := decide_eq_false hc
      rw [if_neg (by simpa using hc)]
      cases hlo : lastO pre with
      | none => rw [okFrom_none, hcB]; rfl
      | some p => rw [okFrom_some, hcB]; rfl
/-- A set of chords of n points. -/
def goodB (n : Int) (l : List S50) : Bool := decide (3 ≤ n ∧ n ≤ 60) && (decide (l.length ≤ 40) && okFrom n none l)
theorem cdGood_eq (n : Int) (l : List S50) (hl : l.length ≤ 1000000000) (k : Nat) (hk : l.length + 1 < k) : spec_cdGood.f k n l = some (goodB n l) := by
  unfold spec_cdGood.f goodB
  rw [srPoints_eq]
  obtain ⟨k, rfl⟩ : ∃ t, k = t + 1 := ⟨k - 1, by omega⟩
  simp only [Option.bind_some, spec_cdGood.j0]
  by_cases h : 3 ≤ n ∧ n ≤ 60
  · rw [if_pos (decide_eq_true h), decide_eq_true h, Bool.true_and]
    by_cases h2 : l.length ≤ 40
    · rw [if_neg (by simp; omega), decide_eq_true h2, Bool.true_and]
      exact cdGood_loop n h l k [] (by simpa using hl) (by omega)
    · rw [if_pos (by simp; omega), decide_eq_false h2, Bool.false_and]
  · rw [if_neg (by simpa using h), decide_eq_false h]
    rfl
theorem areChords_loop (n : Int) (hn : 3 ≤ n ∧ n ≤ 60) (m : List S50) : ∀ (k : Nat) (pre : List S50), pre.length + m.length ≤ 1000000000 → m.length + 4 < k →
    impl_AreChords.l0 k n (pre ++ m) (pre ++ m) ((pre ++ m).length : Int) pre.length = some (okFrom n (lastO pre) m && decide (pre.length + m.length ≤ 40)) := by
  induction m with
  | nil =>
    intro k pre hl hk
    obtain ⟨k, rfl⟩ : ∃ t, k = t + 1 := ⟨k - 1, by omega⟩
    simp only [impl_AreChords.l0, List.append_nil]
    rw [if_neg (by omega)]
    simp only [okFrom, Bool.true_and, List.length_nil, Nat.add_zero]
    exact congrArg some (decide_eq_decide.2 (by omega))
  | cons x m ih =>
    intro k pre hl hk
    obtain ⟨k, rfl⟩ : ∃ t, k = t + 1 := ⟨k - 1, by omega⟩
    simp only [List.length_cons] at hl hk
    have hlen : ((pre ++ x :: m).length : Int) = pre.length + m.length + 1 := by simp; omega
    simp only [impl_AreChords.l0]
    rw [if_pos (by omega), if_pos (by omega), if_pos (by omega), rdC_append, implIsChord_eq]
    simp only [Option.bind_some]
    have IH := ih k (pre ++ [x]) (by simp; omega) (by omega)
    simp only [List.append_assoc, List.cons_append, List.nil_append] at IH
    have hpl : (((pre ++ [x]).length : Nat) : Int) = (pre.length : Int) + 1 := by simp
    have hpn : (pre ++ [x]).length + m.length = pre.length + (x :: m).length := by simp; omega
    have hla : lastO (pre ++ [x]) = some x := by unfold lastO; simp
    rw [hpl, hla, hpn] at IH
    by_cases hc : isCh n x.f0 x.f1
    · have hcB : isChB n x = true := decide_eq_true hc
      rw [if_pos (decide_eq_true hc)]
      rcases List.eq_nil_or_concat pre with e | ⟨q, p, e⟩
      · subst e
        rw [if_neg (by simp)]
        rw [wrap64_id (by omega) (by omega), IH]
        have e1 : lastO ([] : List S50) = none := rfl
        rw [e1, okFrom_none, hcB, Bool.true_and]
      · rw [List.concat_eq_append] at e
        subst e
        have hql : (((q ++ [p]).length : Nat) : Int) = (q.length : Int) + 1 := by simp
        have hla2 : lastO (q ++ [p]) = some p := by unfold lastO; simp
        rw [if_pos (by omega), wrap64_id (by omega) (by omega), if_pos (by omega), if_pos (by omega), hql, rd_last]
        obtain ⟨r, hr1, hr2⟩ := compareChords_eq p x k (by omega)
        rw [hr1]
        simp only [Option.bind_some]
        rw [hla2, okFrom_some, hcB, Bool.true_and]
        rw [wrap64_id (by omega) (by omega)]
        rw [hql] at IH
        by_cases hp : cLt p x = true
        · rw [if_neg (fun z => hr2.1 z hp), IH, hp, Bool.true_and]
        · rw [if_pos (hr2.2 hp)]
          simp [hp]
    · have hcB : isChB n x = false := decide_eq_false hc
      rw [if_neg (by simpa using hc)]
      cases hlo : lastO pre with
      | none => rw [okFrom_none, hcB]; rfl
      | some p => rw [okFrom_some, hcB]; rfl
theorem areChords_eq (n : Int) (l : List S50) (hl : l.length ≤ 1000000000) (k : Nat) (hk : l.length + 4 < k) : impl_AreChords.f k n l = some (goodB n l) := by
  unfold impl_AreChords.f goodB
  rw [within_eq]
  simp only [Option.bind_some]
  by_cases h : 3 ≤ n ∧ n ≤ 60
  · rw [if_pos (decide_eq_true h), decide_eq_true h, Bool.true_and]
    have := areChords_loop n h l k [] (by simpa using hl) hk
    simp only [List.nil_append, List.length_nil, Nat.zero_add] at this
    rw [Bool.and_comm] at this
    exact this
  · rw [if_neg (by simpa using h), decide_eq_false h]
    rfl
theorem isSet_eq (n : Int) (l : List S50) (hl : l.length ≤ 1000000000) (k : Nat) (hk : l.length + 4 < k) : impl_isSet.f k n l = some (goodB n l) := by
  unfold impl_isSet.f
  rw [isCircle_eq, areChords_eq n l hl k hk]
  simp only [Option.bind_some]
  by_cases h : 3 ≤ n ∧ n ≤ 60
  · rw [if_pos (decide_eq_true h)]
  · rw [if_neg (by simpa using h)]
    unfold goodB
    rw [decide_eq_false h]
    rfl
theorem good_spec (n : Int) (l : List S50) (h : goodB n l = true) : (3 ≤ n ∧ n ≤ 60) ∧ l.length ≤ 40 ∧ Strict l ∧ ∀ c ∈ l, Proper n c := by
  unfold goodB at h
  simp only [Bool.and_eq_true, decide_eq_true_eq] at h
  obtain ⟨a, b, _⟩ := okFrom_spec n l none h.2.2
  exact ⟨h.1, h.2.1, a, b⟩
/-! ### BToC -/
def conv (l : List S68) : List S50 := l.map fun x => ⟨x.f0, x.f1⟩
theorem conv_len (l : List S68) : (conv l).length = l.length := by unfold conv; simp
theorem rdL_append (l m : List S68) (x : S68) : rd_T68 (l ++ x :: m) (l.length : Int) = x := by
  unfold rd_T68
  simp
theorem toChordS_loop (m : List S68) : ∀ (k : Nat) (pre : List S68), pre.length + m.length ≤ 1000000000 → m.length < k →
    laws_toChordS.l0 k (pre ++ m) (conv pre ++ List.replicate m.length z50) pre.length = some (conv (pre ++ m)) := by
  induction m with
  | nil =>
    intro k pre hl hk
    obtain ⟨k, rfl⟩ : ∃ t, k = t + 1 := ⟨k - 1, by omega⟩
    simp only [laws_toChordS.l0, List.append_nil, List.length_nil, List.replicate_zero]
    rw [if_neg (by omega)]
  | cons x m ih =>
    intro k pre hl hk
    obtain ⟨k, rfl⟩ : ∃ t, k = t + 1 := ⟨k - 1, by omega⟩
    simp only [List.length_cons] at hl hk
    have hlen : ((pre ++ x :: m).length : Int) = pre.length + m.length + 1 := by simp; omega
    have hlen2 : ((conv pre ++ List.replicate (x :: m).length z50).length : Int) = pre.length + m.length + 1 := by simp [conv_len]; omega
    simp only [laws_toChordS.l0]
    rw [if_pos (by omega), if_pos (by omega), rdL_append]
    unfold laws_toChord.f
    simp only [Option.bind_some]
    rw [if_pos (by omega), wrap64_id (by omega) (by omega), Int.toNat_natCast]
    have e : (conv pre ++ List.replicate (x :: m).length z50).set pre.length ⟨x.f0, x.f1⟩ = conv (pre ++ [x]) ++ List.replicate m.length z50 := by
      rw [List.length_cons, List.replicate_succ]
      conv => lhs; arg 2; rw [← conv_len pre]
      rw [List.set_append_right _ _ (Nat.le_refl _), Nat.sub_self]
      unfold Q.conv
      simp
    rw [e]
    have IH := ih k (pre ++ [x]) (by simp; omega) (by omega)
    simp only [List.append_assoc, List.cons_append, List.nil_append] at IH ⊢
    have hpl : (((pre ++ [x]).length : Nat) : Int) = (pre.length : Int) + 1 := by simp
    rw [hpl] at IH
    exact IH
theorem toChordS_eq (l : List S68) (hl : l.length ≤ 1000000000) (k : Nat) (hk : l.length < k) : laws_toChordS.f k l = some (conv l) := by
  unfold laws_toChordS.f
  rw [if_pos (by omega), if_pos (by omega), Int.toNat_natCast]
  simpa [conv] using toChordS_loop l k [] (by simpa using hl) hk
theorem szChordS_eq (l : List S68) (hl : l.length ≤ 9223372036854775807) : laws_szChordS.f l 1048576 = some (if l.length ≤ 1048576 then 1048576 - (l.length : Int) else -1) := by
  unfold laws_szChordS.f
  rw [wrap64_id (by omega) (by omega)]
  by_cases h : l.length ≤ 1048576
  · rw [if_neg (by omega), if_pos h]
  · rw [if_pos (by omega), if_neg h]
/-! ### BEqC -/
theorem eqChord_self (a b : Int) : laws_eqChord.f a b a b = some true := by unfold laws_eqChord.f; simp
theorem eqChordS_loop (l : List S50) (hl : l.length ≤ 4611686018427387904) (d : Nat) : ∀ (k : Nat) (i : Int), 0 ≤ i → i ≤ l.length → (l.length : Int) - i = d → d < k → laws_eqChordS.l0 k l l i = some true := by
  induction d with
  | zero =>
    intro k i h0 h1 hd hk
    obtain ⟨k, rfl⟩ : ∃ m, k = m + 1 := ⟨k - 1, by omega⟩
    simp only [laws_eqChordS.l0]
    rw [if_neg (by omega)]
  | succ d ih =>
    intro k i h0 h1 hd hk
    obtain ⟨k, rfl⟩ : ∃ m, k = m + 1 := ⟨k - 1, by omega⟩
    simp only [laws_eqChordS.l0]
    rw [if_pos (by omega), if_pos (by omega), if_pos (by omega), eqChord_self, wrap64_id (by omega) (by omega)]
    simp only [Option.bind_some, if_true]
    exact ih k (i + 1) (by omega) (by omega) (by omega) (by omega)
theorem eqChordS_self (k : Nat) (l : List S50) (hl : l.length ≤ 4611686018427387904) (hk : l.length < k) : laws_eqChordS.f k l l = some true := by
  unfold laws_eqChordS.f
  rw [if_pos rfl]
  exact eqChordS_loop l hl l.length k 0 (by omega) (by omega) (by omega) hk
/-! ### QFnExactSidesOfChords -/
/-- A pair of indices below n. -/
def PairIn (n : Nat) (p : List Int) : Prop := ∃ i j : Nat, p = [(i : Int), (j : Int)] ∧ i < n ∧ j < n
theorem rowP_in (c : S50) (n i : Nat) (hi : i < n) : ∀ (m : List S50) (j : Nat), j + m.length ≤ n → ∀ p ∈ rowP c (i : Int) (j : Int) m, PairIn n p
  | [], _, _, p, h => by simp [rowP] at h
  | x :: m, j, hj, p, h => by
    simp only [List.length_cons] at hj
    have ih := rowP_in c n i hi m (j + 1) (by omega)
    rw [show (((j + 1 : Nat)) : Int) = (j : Int) + 1 by omega] at ih
    simp only [rowP] at h
    split at h
    · rcases List.mem_cons.1 h with rfl | h
      · exact ⟨i, j, rfl, hi, by omega⟩
      · exact ih p h
    · exact ih p h
theorem allP_in (n : Nat) : ∀ (m : List S50) (i : Nat), i + m.length ≤ n → ∀ p ∈ allP (i : Int) m, PairIn n p
  | [], _, _, p, h => by simp [allP] at h
  | c :: m, i, hi, p, h => by
    simp only [List.length_cons] at hi
    rw [allP, List.mem_append] at h
    rw [show (i : Int) + 1 = ((i + 1 : Nat) : Int) by omega] at h
    rcases h with h | h
    · exact rowP_in c n i (by omega) m (i + 1) (by omega) p h
    · exact allP_in n m (i + 1) (by omega) p h
theorem rdLLs (done rest : List (List Int)) (x : List Int) : rd_L1 (done ++ x :: rest) (done.length : Int) = x := by
  unfold rd_L1
  simp
/-- Both ends an even number of crossings away, or both an odd one. -/
def sameP (F : List Int) (p : List Int) : Bool := decide (F.getD (p.getD 0 0).toNat 0 % 2 = F.getD (p.getD 1 0).toNat 0 % 2)
theorem side_pairs (n : Nat) (F : List Int) (hF : F.length = n) (hF0 : ∀ i, i < n → 0 ≤ F.getD i 0) (ps : List (List Int)) (hps : ∀ p ∈ ps, PairIn n p) (hl : ps.length ≤ 100000) (rest : List (List Int)) : ∀ (done : List (List Int)) (k : Nat) (r : Option (ByteArray × Bool)), done ++ rest = ps → rest.length < k →
    (rest.any (sameP F) = true → r = some (⟨#[]⟩, false)) → (rest.any (sameP F) = false → ∀ k', k ≤ k' + rest.length + 1 → spec_SidesOfChords.l1 k' ⟨#[]⟩ F (F.length : Int) 0 = r) →
    spec_SidesOfChords.l0 k F ps (ps.length : Int) (done.length : Int) = r := by
  induction rest with
  | nil =>
    intro done k r e hk h1 h2
    obtain ⟨k, rfl⟩ : ∃ t, k = t + 1 := ⟨k - 1, by omega⟩
    rw [List.append_nil] at e
    subst e
    have h2 := h2 rfl k (by simp)
    simp only [spec_SidesOfChords.l0]
    rw [if_neg (by omega)]
    exact h2
  | cons p rest ih =>
    intro done k r e hk h1 h2
    obtain ⟨k, rfl⟩ : ∃ t, k = t + 1 := ⟨k - 1, by omega⟩
    simp only [List.length_cons] at hk h2
    have hlr : ps.length = done.length + rest.length + 1 := by rw [← e]; simp; omega
    have hrd : rd_L1 ps (done.length : Int) = p := by rw [← e]; exact rdLLs done rest p
    obtain ⟨i, j, rfl, hi, hj⟩ := hps p (by rw [← e]; simp)
    have r0 : rd [(i : Int), (j : Int)] 0 = (i : Int) := rfl
    have r1 : rd [(i : Int), (j : Int)] 1 = (j : Int) := rfl
    have hfi := hF0 i hi
    have hfj := hF0 j hj
    have hs : sameP F [(i : Int), (j : Int)] = decide (F.getD i 0 % 2 = F.getD j 0 % 2) := rfl
    simp only [spec_SidesOfChords.l0]
    rw [hrd, if_pos (by omega), if_pos (by omega), if_pos (by omega), if_pos (by simp), r0, r1, if_pos (by omega), if_pos (by omega), if_pos (by simp), if_pos (by omega), if_pos (by omega), rd_nat F i, rd_nat F j, Int.tmod_eq_emod_of_nonneg hfi, Int.tmod_eq_emod_of_nonneg hfj, wrap64_id (x := (done.length : Int) + 1) (by omega) (by omega)]
    rw [List.any_cons, hs] at h1 h2
    by_cases h : F.getD i 0 % 2 = F.getD j 0 % 2
    · rw [if_pos h]
      rw [decide_eq_true h] at h1
      exact (h1 rfl).symm
    · rw [if_neg h]
      rw [decide_eq_false h, Bool.false_or] at h1 h2
      have IH := ih (done ++ [[(i : Int), (j : Int)]]) k r (by simpa using e) (by omega) h1 (fun hn k' hk' => h2 hn k' (by omega))
      rw [show (((done ++ [[(i : Int), (j : Int)]]).length : Nat) : Int) = (done.length : Int) + 1 by simp] at IH
      exact IH
/-- The sides so far. -/
def sideS (E : List Bool) (i : Nat) : ByteArray := ⟨((E.take i).map fun b => if b = true then (105 : UInt8) else 111).toArray⟩
theorem sideS_succ (E : List Bool) (i : Nat) (hi : i < E.length) : sideS E (i + 1) = sideS E i ++ (⟨#[if E.getD i false = true then 105 else 111]⟩ : ByteArray) := by
  have e : E.take (i + 1) = E.take i ++ [E[i]] := List.take_succ_eq_append_getElem hi
  have e2 : E.getD i false = E[i] := by rw [List.getD_eq_getElem?_getD, List.getElem?_eq_getElem hi, Option.getD_some]
  unfold sideS
  rw [e, e2, List.map_append]
  apply ByteArray.ext
  simp
theorem sideS_size (E : List Bool) (i : Nat) : (sideS E i).size ≤ i := by
  unfold sideS
  simp only [ByteArray.size, List.size_toArray, List.length_map, List.length_take]
  omega
theorem side_bytes (n : Nat) (F : List Int) (E : List Bool) (hF : F.length = n) (hE : E.length = n) (hn : n ≤ 1000) (hF0 : ∀ i, i < n → 0 ≤ F.getD i 0) (hFE : ∀ i, i < n → E.getD i false = decide (F.getD i 0 % 2 = 0)) (d : Nat) : ∀ (k i : Nat), i + d = n → d < k →
    spec_SidesOfChords.l1 k (sideS E i) F (n : Int) (i : Int) = some (sideS E n, true) := by
  induction d with
  | zero =>
    intro k i hi hk
    obtain ⟨k, rfl⟩ : ∃ t, k = t + 1 := ⟨k - 1, by omega⟩
    obtain rfl : i = n := by omega
    simp only [spec_SidesOfChords.l1]
    rw [if_neg (by omega)]
  | succ d ih =>
    intro k i hi hk
    obtain ⟨k, rfl⟩ : ∃ t, k = t + 1 := ⟨k - 1, by omega⟩
    have IH := ih k (i + 1) (by omega) (by omega)
    have hsz := sideS_size E i
    have h1 := sideS_succ E i (by omega)
    have hf := hF0 i (by omega)
    have he := hFE i (by omega)
    simp only [spec_SidesOfChords.l1]
    rw [if_pos (by omega), if_pos (by omega), if_pos (by omega), rd_nat F i, Int.tmod_eq_emod_of_nonneg hf, wrap64_id (x := (i : Int) + 1) (by omega) (by omega)]
    rw [he] at h1
    by_cases h : F.getD i 0 % 2 = 0
    · rw [if_pos h, if_pos (by omega)]
      rw [decide_eq_true h, if_pos rfl] at h1
      rw [← h1]
      exact IH
    · rw [if_neg h, if_pos (by omega)]
      rw [decide_eq_false h, if_neg (by simp)] at h1
      rw [← h1]
      exact IH
theorem sideS_nums (E : List Bool) : strOfNums (sideL E) = sideS E E.length := by
  apply ByteArray.ext
  apply Array.toList_inj.1
  rw [strOfNums_data]
  unfold sideL sideS
  rw [List.take_length, List.map_map]
  apply List.map_congr_left
  intro b _
  cases b <;> rfl
theorem same_ev (n : Nat) (F : List Int) (E : List Bool) (hFE : ∀ i, i < n → E.getD i false = decide (F.getD i 0 % 2 = 0)) (hF0 : ∀ i, i < n → 0 ≤ F.getD i 0) (p : List Int) (hp : PairIn n p) : evP E p = sameP F p := by
  obtain ⟨i, j, rfl, hi, hj⟩ := hp
  have r0 : rd [(i : Int), (j : Int)] 0 = (i : Int) := rfl
  have r1 : rd [(i : Int), (j : Int)] 1 = (j : Int) := rfl
  have hs : sameP F [(i : Int), (j : Int)] = decide (F.getD i 0 % 2 = F.getD j 0 % 2) := rfl
  unfold evP
  rw [r0, r1, rdOf_nat E i, rdOf_nat E j, hFE i hi, hFE j hj, hs]
  have a := hF0 i hi
  have b := hF0 j hj
  by_cases h1 : F.getD i 0 % 2 = 0 <;> by_cases h2 : F.getD j 0 % 2 = 0
  · rw [decide_eq_true h1, decide_eq_true h2, decide_eq_true (by omega)]; rfl
  · rw [decide_eq_true h1, decide_eq_false h2, decide_eq_false (by omega)]; rfl
  · rw [decide_eq_false h1, decide_eq_true h2, decide_eq_false (by omega)]; rfl
  · rw [decide_eq_false h1, decide_eq_false h2, decide_eq_true (by omega)]; rfl
theorem any_same (n : Nat) (F : List Int) (E : List Bool) (hFE : ∀ i, i < n → E.getD i false = decide (F.getD i 0 % 2 = 0)) (hF0 : ∀ i, i < n → 0 ≤ F.getD i 0) : ∀ (ps : List (List Int)), (∀ p ∈ ps, PairIn n p) → ps.any (evP E) = ps.any (sameP F)
  | [], _ => rfl
  | p :: ps, h => by
    rw [List.any_cons, List.any_cons, same_ev n F E hFE hF0 p (h p (by simp)), any_same n F E hFE hF0 ps (fun q hq => h q (by simp [hq]))]
theorem sidesOfChords_both (n : Int) (l : List S50) (hl : l.length ≤ 1048576) : ∃ r : ByteArray × Bool, ∃ K, ∀ k, K ≤ k → spec_SidesOfChords.f k n l = some r ∧ impl_SidesOfChords.f k n l = some r := by
  by_cases h : goodB n l = true
  · obtain ⟨h1, h2, h3, h4⟩ := good_spec n l h
    obtain ⟨K, G, F, O, E, e1, e2, hG, hF, hE, _, _, hF1, hFE⟩ := groups_both l (by omega) n h4
    have hF0 : ∀ i, i < l.length → 0 ≤ F.getD i 0 := fun i hi => (hF1 i hi).1
    have hin := allP_in l.length l 0 (by omega)
    rw [show ((0 : Nat) : Int) = 0 from rfl] at hin
    have hany := any_same l.length F E hFE hF0 (allP 0 l) hin
    have hal := allP_len l 0
    have hpx := pairsX_le l
    have hsq : l.length * l.length ≤ 40 * 40 := Nat.mul_le_mul h2 h2
    have hm : l.length * (l.length + 3) ≤ 40 * 43 := Nat.mul_le_mul h2 (by omega)
    have hok : (allP 0 l).all (evOk E) = true := by
      rw [List.all_eq_true]
      intro p hp
      obtain ⟨i, j, rfl, hi, hj⟩ := hin p hp
      have r0 : rd [(i : Int), (j : Int)] 0 = (i : Int) := rfl
      have r1 : rd [(i : Int), (j : Int)] 1 = (j : Int) := rfl
      unfold evOk
      have a1 : decide ([(i : Int), (j : Int)].length = 2) = true := rfl
      have a2 : decide (0 ≤ (i : Int) ∧ (i : Int) < (l.length : Int)) = true := decide_eq_true (by omega)
      have a3 : decide (0 ≤ (j : Int) ∧ (j : Int) < (l.length : Int)) = true := decide_eq_true (by omega)
      rw [r0, r1, hE, a1, a2, a3]
      rfl
    have cP : ∀ k, 2000 ≤ k → impl_CrossingPairs.f k n l = some (allP 0 l, true) := by
      intro k hk
      unfold impl_CrossingPairs.f
      have h := crossingPairs_loop n l (by omega) h4 l k [] [] rfl (by simp; omega) (by omega)
      rw [isSet_eq n l (by omega) k (by omega), Option.bind_some, if_pos ‹_›]
      simpa using h
    refine ⟨if (allP 0 l).any (sameP F) = true then (⟨#[]⟩, false) else (sideS E l.length, true), K + 10000 + l.length, fun k hk => ⟨?_, ?_⟩⟩
    · unfold spec_SidesOfChords.f
      have e1 := e1 k (by omega)
      simp only at e1
      rw [cdGood_eq n l (by omega) k (by omega), Option.bind_some, if_pos h, e1, Option.bind_some, cdPairs_eq l (by omega) k (by omega), Option.bind_some]
      refine side_pairs l.length F hF hF0 (allP 0 l) hin (by omega) (allP 0 l) [] k _ rfl (by omega) (fun ha => by rw [if_pos ha]) (fun ha k' hk' => ?_)
      rw [if_neg (by rw [ha]; simp), hF]
      have h0 : (⟨#[]⟩ : ByteArray) = sideS E 0 := by unfold sideS; simp
      rw [h0]
      exact side_bytes l.length F E hF hE (by omega) hF0 hFE l.length k' 0 (by omega) (by omega)
    · unfold impl_SidesOfChords.f
      have e2 := e2 k (by omega)
      simp only at e2
      rw [cP k (by omega), Option.bind_some]
      simp only [Bool.true_eq_false, if_false, e2, Option.bind_some]
      rw [if_pos ⟨hok, by omega, by omega⟩, hany, sideS_nums, hE]
      by_cases ha : (allP 0 l).any (sameP F) = true
      · rw [if_pos ha, if_pos ha]
      · rw [if_neg ha, if_neg ha]
  · refine ⟨(⟨#[]⟩, false), l.length + 1000, fun k hk => ⟨?_, ?_⟩⟩
    · unfold spec_SidesOfChords.f
      rw [cdGood_eq n l (by omega) k (by omega), Option.bind_some, if_neg h]
    · unfold impl_SidesOfChords.f impl_CrossingPairs.f
      rw [isSet_eq n l (by omega) k (by omega), Option.bind_some, if_neg h]
      rfl
theorem FnExactSidesOfChords : ∀ (a0 : Int) (l1 : List S68), (Lit.int .i64 a0).wf = true → l1.length ≤ 9223372036854775807 → ∃ k, laws_FnExactSidesOfChords.f k a0 l1 = some true := by
  intro n l _ hl
  by_cases h : l.length ≤ 1048576
  · have hc := conv_len l
    obtain ⟨⟨r, b⟩, K0, hr⟩ := sidesOfChords_both n (conv l) (by omega)
    obtain ⟨K, hK⟩ : ∃ K, K = l.length + 20000 + K0 := ⟨_, rfl⟩
    refine ⟨K + 1, ?_⟩
    unfold laws_FnExactSidesOfChords.f
    rw [szChordS_eq l hl, Option.bind_some, if_pos h, if_neg (by omega)]
    simp only [toChordS_eq l (by omega) (K + 1) (by omega), (hr (K + 1) (by omega)).1, (hr (K + 1) (by omega)).2, Option.bind_some, if_true, bne_self_eq_false]
    simp only [laws_FnExactSidesOfChords.j0, Bool.false_eq_true, if_false, toChordS_eq l (by omega) K (by omega), eqChordS_self K (conv l) (by omega) (by omega), Option.bind_some, if_true]
  · refine ⟨1, ?_⟩
    unfold laws_FnExactSidesOfChords.f
    rw [szChordS_eq l hl, Option.bind_some, if_neg h]
    rfl

end Go.Proofs.Ytlnjfbnabjgffaa.Q
