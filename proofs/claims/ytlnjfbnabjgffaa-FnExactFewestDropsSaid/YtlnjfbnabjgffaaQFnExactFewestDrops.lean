/- FewestDrops: reference and program tell the same chords, and the result is memory of its own. -/
import Derived.Test.YtlnjfbnabjgffaaZFnExactFewestDrops2
namespace Go.Proofs.Ytlnjfbnabjgffaa.Q
open Go.RowKit Go.Proofs.Ytlnjfbnabjgffaa.X Go.Proofs.YtlnjfbnabjgffaaW.PrintWords Go.Proofs.YtlnjfbnabjgffaaW.PrintLast Go.Proofs.YtlnjfbnabjgffaaW.PrintMore
set_option linter.unusedVariables false
set_option linter.unusedSimpArgs false

/-! ### BWrap -/
theorem wrap64_id {x : Int} (h0 : -9223372036854775808 ≤ x) (h1 : x ≤ 9223372036854775807) : wrap64 x = x := by unfold wrap64; omega
theorem wrap_step {x : Int} (h0 : 0 ≤ x) (h1 : x ≤ 4611686018427387904) : wrap64 (x + 1) = x + 1 := by unfold wrap64; omega
/-! ### BOrd0 -/
/-- The order of chords. -/
def cLt (x y : S50) : Bool := decide (x.f0 < y.f0 ∨ (x.f0 = y.f0 ∧ x.f1 < y.f1))
theorem cLt_iff (x y : S50) : cLt x y = true ↔ (x.f0 < y.f0 ∨ (x.f0 = y.f0 ∧ x.f1 < y.f1)) := by unfold cLt; exact decide_eq_true_iff
theorem chord_ext {x y : S50} (h0 : x.f0 = y.f0) (h1 : x.f1 = y.f1) : x = y := by cases x; cases y; simp_all
/-- Strictly in order. -/
def Strict (l : List S50) : Prop := l.Pairwise fun x y => cLt x y = true
/-- Two lists strictly in order with the same members are the same. -/
theorem strict_unique : ∀ (l m : List S50), Strict l → Strict m → (∀ x, x ∈ l ↔ x ∈ m) → l = m
  | [], [], _, _, _ => rfl
  | [], y :: m, _, _, h => by have := (h y).2 (by simp); simp at this
  | x :: l, [], _, _, h => by have := (h x).1 (by simp); simp at this
  | x :: l, y :: m, hl, hm, h => by
    unfold Strict at hl hm
    rw [List.pairwise_cons] at hl hm
    have e : x = y := by
      have h1 := (h x).1 (by simp)
      have h2 := (h y).2 (by simp)
      rcases List.mem_cons.1 h1 with h1 | h1
      · exact h1
      · rcases List.mem_cons.1 h2 with h2 | h2
        · exact h2.symm
        · have a := hl.1 y h2
          have b := hm.1 x h1
          rw [cLt_iff] at a b
          omega
    subst e
    rw [strict_unique l m hl.2 hm.2 (fun z => by
      have hz := h z
      simp only [List.mem_cons] at hz
      constructor
      · intro hzl
        rcases hz.1 (Or.inr hzl) with e | e
        · subst e; have := hl.1 z hzl; rw [cLt_iff] at this; omega
        · exact e
      · intro hzm
        rcases hz.2 (Or.inr hzm) with e | e
        · subst e; have := hm.1 z hzm; rw [cLt_iff] at this; omega
        · exact e)]
/-- A chord put in at its place. -/
def insL (c : S50) : List S50 → List S50
  | [] => [c]
  | x :: l => if cLt x c = true then x :: insL c l else if x.f0 = c.f0 ∧ x.f1 = c.f1 then x :: l else c :: x :: l
theorem insL_mem (c : S50) : ∀ (l : List S50) (x : S50), x ∈ insL c l ↔ x = c ∨ x ∈ l
  | [], x => by simp [insL]
  | y :: l, x => by
    unfold insL
    split
    · rw [List.mem_cons, insL_mem c l x, List.mem_cons]; constructor
      · rintro (h | h | h) <;> simp [h]
      · rintro (h | h | h) <;> simp [h]
    · split
      · rename_i e; have e := chord_ext e.1 e.2; subst e; simp
      · simp
theorem insL_strict (c : S50) : ∀ (l : List S50), Strict l → Strict (insL c l)
  | [], _ => by simp [insL, Strict]
  | y :: l, h => by
    unfold Strict at h
    rw [List.pairwise_cons] at h
    unfold insL
    split
    · rename_i hy
      unfold Strict
      rw [List.pairwise_cons]
      refine ⟨fun z hz => ?_, insL_strict c l h.2⟩
      rcases (insL_mem c l z).1 hz with e | e
      · subst e; exact hy
      · exact h.1 z e
    · split
      · unfold Strict; rw [List.pairwise_cons]; exact h
      · rename_i h1 h2
        have h3 : ¬ (y.f0 = c.f0 ∧ y.f1 = c.f1) := h2
        have h4 : cLt c y = true := by rw [cLt_iff] at h1 ⊢; omega
        unfold Strict
        rw [List.pairwise_cons, List.pairwise_cons]
        refine ⟨fun z hz => ?_, h⟩
        rcases List.mem_cons.1 hz with e | e
        · subst e; exact h4
        · have h5 := h.1 z e
          rw [cLt_iff] at h4 h5 ⊢
          omega
theorem insL_len (c : S50) : ∀ (l : List S50), (insL c l).length ≤ l.length + 1
  | [] => by simp [insL]
  | y :: l => by
    unfold insL
    have := insL_len c l
    split
    · simp; omega
    · split <;> simp
/-- All chords of a list put in, one by one. -/
def putAll (acc : List S50) : List S50 → List S50
  | [] => acc
  | c :: l => putAll (insL c acc) l
theorem putAll_spec : ∀ (l acc : List S50), Strict acc → Strict (putAll acc l) ∧ ∀ x, x ∈ putAll acc l ↔ x ∈ acc ∨ x ∈ l
  | [], acc, h => ⟨h, by simp [putAll]⟩
  | c :: l, acc, h => by
    obtain ⟨h1, h2⟩ := putAll_spec l (insL c acc) (insL_strict c acc h)
    refine ⟨h1, fun x => ?_⟩
    unfold putAll
    rw [h2, insL_mem, List.mem_cons]
    constructor
    · rintro ((h | h) | h) <;> simp [h]
    · rintro (h | h | h) <;> simp [h]
theorem putAll_len : ∀ (l acc : List S50), (putAll acc l).length ≤ acc.length + l.length
  | [], acc => by simp [putAll]
  | c :: l, acc => by
    have h1 := putAll_len l (insL c acc)
    have h2 := insL_len c acc
    unfold putAll
    simp only [List.length_cons]
    omega
theorem rdC_get (l : List S50) (i : Int) (h0 : 0 ≤ i) (h1 : i < l.length) : rd_T50 l i = l[i.toNat]'(by omega) := by
  unfold rd_T50
  have h : i.toNat < l.length := by omega
  simp [h]
theorem srLess_eq (a b c d : Int) : spec_srLess.f a b c d = some (cLt ⟨a, b⟩ ⟨c, d⟩) := by
  unfold spec_srLess.f cLt
  split
  · rename_i h; exact congrArg some (decide_eq_true (Or.inl h)).symm
  · split
    · rename_i h1 h2
      refine congrArg some (decide_eq_decide.2 ?_)
      simp only
      omega
    · rename_i h1 h2
      refine congrArg some (decide_eq_false ?_).symm
      simp only
      omega
theorem rdC_append (l m : List S50) (x : S50) : rd_T50 (l ++ x :: m) (l.length : Int) = x := by
  rw [rdC_get _ _ (by omega) (by simp; omega)]
  simp
def mkC (a b : Int) : S50 := ⟨mn a b, mx a b⟩
/-- A chord of n points. -/
def Proper (n : Int) (c : S50) : Prop := 0 ≤ c.f0 ∧ c.f0 < c.f1 ∧ c.f1 < n
theorem mkC_proper (n a b : Int) (ha : 0 ≤ a ∧ a < n) (hb : 0 ≤ b ∧ b < n) (h : a ≠ b) : Proper n (mkC a b) := by
  unfold Proper mkC mn mx
  simp only
  split <;> split <;> omega
/-! ### BCount -/
def crossB (c d : S50) : Bool := spec_srCross.b c.f0 c.f1 d.f0 d.f1
theorem srCross_cross (c d : S50) : spec_srCross.f c.f0 c.f1 d.f0 d.f1 = some (crossB c d) := rfl
theorem crossB_iff (n : Int) (c d : S50) (hc : Proper n c) (hd : Proper n d) : crossB c d = true ↔ (c.f0 < d.f0 ∧ d.f0 < c.f1 ∧ c.f1 < d.f1) ∨ (d.f0 < c.f0 ∧ c.f0 < d.f1 ∧ d.f1 < c.f1) := by
  unfold Proper at hc hd
  unfold crossB spec_srCross.b
  simp only [Bool.and_eq_true, Bool.not_eq_true', Bool.or_eq_false_iff, beq_eq_false_iff_ne, bne_iff_ne, ne_eq, ← Bool.decide_and]
  rw [decide_eq_decide]
  omega
theorem crossing_eq (n : Int) (c d : S50) (hc : Proper n c) (hd : Proper n d) : impl_crossing.f c.f0 c.f1 d.f0 d.f1 = some (crossB c d) := by
  have h := crossB_iff n c d hc hd
  unfold Proper at hc hd
  unfold impl_crossing.f
  by_cases e : crossB c d = true
  · have h1 := h.1 e
    rw [e]
    rcases h1 with h1 | h1
    · rw [if_pos (by omega), if_pos (by omega), if_pos (by omega)]
    · rw [if_neg (by omega), if_pos (by omega), if_pos (by omega), decide_eq_true (by omega)]
  · have h1 : ¬ ((c.f0 < d.f0 ∧ d.f0 < c.f1 ∧ c.f1 < d.f1) ∨ (d.f0 < c.f0 ∧ c.f0 < d.f1 ∧ d.f1 < c.f1)) := fun x => e (h.2 x)
    rw [Bool.eq_false_iff.2 e]
    repeat' split
    all_goals first | rfl | (exfalso; omega) | (refine congrArg some (decide_eq_false ?_); omega)
theorem crossB_symm (n : Int) (c d : S50) (hc : Proper n c) (hd : Proper n d) : crossB c d = crossB d c := by
  rw [Bool.eq_iff_iff, crossB_iff n c d hc hd, crossB_iff n d c hd hc]
  omega
/-- So many of the chords cross c. -/
def countX (c : S50) (l : List S50) : Nat := l.countP (crossB c)
theorem crossed_loop (n : Int) (c : S50) (hc : Proper n c) (m : List S50) : ∀ (k : Nat) (pre : List S50) (cnt : Int), (∀ x ∈ m, Proper n x) → pre.length + m.length ≤ 1000000 → 0 ≤ cnt → cnt + m.length ≤ 4611686018427387904 → m.length < k →
    impl_crossed.l0 k cnt (pre ++ m) ((pre ++ m).length : Int) pre.length c.f0 c.f1 = some (cnt + countX c m) := by
  induction m with
  | nil =>
    intro k pre cnt _ hl h0 h1 hk
    obtain ⟨k, rfl⟩ : ∃ t, k = t + 1 := ⟨k - 1, by omega⟩
    simp only [impl_crossed.l0, List.append_nil]
    rw [if_neg (by omega)]
    simp [countX]
  | cons x m ih =>
    intro k pre cnt hp hl h0 h1 hk
    obtain ⟨k, rfl⟩ : ∃ t, k = t + 1 := ⟨k - 1, by omega⟩
    simp only [List.length_cons] at hl h1 hk
    have hlen : ((pre ++ x :: m).length : Int) = pre.length + m.length + 1 := by simp; omega
    simp only [impl_crossed.l0]
    rw [if_pos (by omega), if_pos (by omega), if_pos (by omega), rdC_append, crossing_eq n c x hc (hp x (by simp))]
    simp only [Option.bind_some]
    have IH := fun cnt h0 h1 => ih k (pre ++ [x]) cnt (fun y hy => hp y (by simp [hy])) (by simp; omega) h0 h1 (by omega)
    simp only [List.append_assoc, List.cons_append, List.nil_append] at IH
    have hpl : (((pre ++ [x]).length : Nat) : Int) = (pre.length : Int) + 1 := by simp
    rw [hpl] at IH
    rw [wrap64_id (x := cnt + 1) (by omega) (by omega), wrap64_id (by omega) (by omega)]
    unfold countX at IH ⊢
    by_cases e : crossB c x = true
    · rw [if_pos e, IH (cnt + 1) (by omega) (by omega), List.countP_cons_of_pos e]
      congr 1; omega
    · rw [if_neg e, IH cnt (by omega) (by omega), List.countP_cons_of_neg e]
theorem crossed_eq (n : Int) (c : S50) (hc : Proper n c) (m : List S50) (hm : ∀ x ∈ m, Proper n x) (hl : m.length ≤ 1000000) (k : Nat) (hk : m.length < k) : impl_crossed.f k m c.f0 c.f1 = some (countX c m : Int) := by
  unfold impl_crossed.f
  have := crossed_loop n c hc m k [] 0 hm (by simpa using hl) (by omega) (by omega) hk
  simpa using this
theorem countX_le (c : S50) (l : List S50) : countX c l ≤ l.length := List.countP_le_length
/-- So many pairs of a list's chords cross. -/
def pairsX : List S50 → Nat
  | [] => 0
  | x :: l => countX x l + pairsX l
theorem pairsX_snoc (n : Int) (x : S50) (hx : Proper n x) : ∀ (l : List S50), (∀ y ∈ l, Proper n y) → pairsX (l ++ [x]) = pairsX l + countX x l
  | [], _ => by simp [pairsX, countX]
  | y :: l, h => by
    have ih := pairsX_snoc n x hx l (fun z hz => h z (by simp [hz]))
    simp only [List.cons_append, pairsX, ih]
    have e := crossB_symm n x y hx (h y (by simp))
    unfold countX
    rw [List.countP_append, List.countP_cons, List.countP_cons, e]
    simp only [List.countP_nil, Nat.zero_add]
    omega
theorem pairsX_le : ∀ (l : List S50), pairsX l ≤ l.length * l.length
  | [] => by simp [pairsX]
  | x :: l => by
    have h1 := pairsX_le l
    have h2 := countX_le x l
    simp only [pairsX, List.length_cons]
    rw [Nat.add_mul, Nat.mul_add]
    omega
/-! ### BPairs -/
theorem crossings_loop (n : Int) (m : List S50) : ∀ (k : Nat) (pre : List S50), (∀ x ∈ pre ++ m, Proper n x) → pre.length + m.length ≤ 1000000 → pre.length + m.length + m.length < k →
    impl_crossings.l0 k (pre ++ m) (pairsX pre) (pre ++ m) ((pre ++ m).length : Int) pre.length = some (pairsX (pre ++ m) : Int) := by
  induction m with
  | nil =>
    intro k pre hp hl hk
    obtain ⟨k, rfl⟩ : ∃ t, k = t + 1 := ⟨k - 1, by omega⟩
    simp only [impl_crossings.l0, List.append_nil]
    rw [if_neg (by omega)]
  | cons x m ih =>
    intro k pre hp hl hk
    obtain ⟨k, rfl⟩ : ∃ t, k = t + 1 := ⟨k - 1, by omega⟩
    simp only [List.length_cons] at hl hk
    have hlen : ((pre ++ x :: m).length : Int) = pre.length + m.length + 1 := by simp; omega
    simp only [impl_crossings.l0]
    have hpre : ∀ y ∈ pre, Proper n y := fun y hy => hp y (by simp [hy])
    have hx : Proper n x := hp x (by simp)
    rw [if_pos (by omega), if_pos (by omega), if_pos (by omega), if_pos (by omega), rdC_append, Int.toNat_natCast, List.take_left, crossed_eq n x hx pre hpre (by omega) k (by omega)]
    simp only [Option.bind_some]
    have h1 := pairsX_le pre
    have h2 := countX_le x pre
    have h3 : pre.length * pre.length ≤ 1000000 * 1000000 := Nat.mul_le_mul (by omega) (by omega)
    have IH := ih k (pre ++ [x]) (by simpa using hp) (by simp; omega) (by simp; omega)
    rw [pairsX_snoc n x hx pre hpre] at IH
    simp only [List.append_assoc, List.cons_append, List.nil_append] at IH
    have hpl : (((pre ++ [x]).length : Nat) : Int) = (pre.length : Int) + 1 := by simp
    rw [hpl, Int.natCast_add] at IH
    rw [wrap64_id (by omega) (by omega), wrap64_id (by omega) (by omega)]
    exact IH
theorem crossings_eq (n : Int) (l : List S50) (h : ∀ x ∈ l, Proper n x) (hl : l.length ≤ 1000000) (k : Nat) (hk : l.length + l.length < k) : impl_crossings.f k l = some (pairsX l : Int) := by
  unfold impl_crossings.f
  have := crossings_loop n l k [] (by simpa using h) (by simpa using hl) (by simpa using hk)
  simpa [pairsX] using this
/-! ### BCdPairs -/
/-- Index pairs (i, j), ahead the first i, j from o on, with chords of m that cross c. -/
def rowP (c : S50) (i : Int) : Int → List S50 → List (List Int)
  | _, [] => []
  | j, x :: m => if crossB c x = true then [i, j] :: rowP c i (j + 1) m else rowP c i (j + 1) m
def allP : Int → List S50 → List (List Int)
  | _, [] => []
  | i, c :: m => rowP c i (i + 1) m ++ allP (i + 1) m
theorem rowP_len (c : S50) (i : Int) : ∀ (m : List S50) (j : Int), (rowP c i j m).length = countX c m
  | [], _ => rfl
  | x :: m, j => by
    unfold rowP countX
    by_cases e : crossB c x = true
    · rw [if_pos e, List.countP_cons_of_pos e, List.length_cons, rowP_len c i m]; rfl
    · rw [if_neg e, List.countP_cons_of_neg e, rowP_len c i m]; rfl
theorem allP_len : ∀ (m : List S50) (i : Int), (allP i m).length = pairsX m
  | [], _ => rfl
  | c :: m, i => by
    unfold allP pairsX
    rw [List.length_append, rowP_len, allP_len m]
theorem cdPairs_inner (l : List S50) (hl : l.length ≤ 10000) (c : S50) (i : Int) (m : List S50) : ∀ (k : Nat) (pre : List S50) (acc : List (List Int)) (r : Option (List (List Int))), pre ++ m = l → acc.length + m.length ≤ 1000000000000 → m.length < k →
    (∀ k', k ≤ k' + m.length + 1 → k' < k → spec_cdPairs.l0 k' l (acc ++ rowP c i pre.length m) l (l.length : Int) (wrap64 (i + 1)) = r) →
    spec_cdPairs.l1 k l acc i pre.length l (l.length : Int) i c.f0 c.f1 = r := by
  induction m with
  | nil =>
    intro k pre acc r e h0 hk hr
    obtain ⟨k, rfl⟩ : ∃ t, k = t + 1 := ⟨k - 1, by omega⟩
    rw [List.append_nil] at e
    subst e
    simp only [spec_cdPairs.l1]
    rw [if_neg (by omega)]
    simpa [rowP] using hr k (by simp) (by omega)
  | cons x m ih =>
    intro k pre acc r e h0 hk hr
    obtain ⟨k, rfl⟩ : ∃ t, k = t + 1 := ⟨k - 1, by omega⟩
    simp only [List.length_cons] at h0 hk hr
    have hlen : (l.length : Int) = pre.length + m.length + 1 := by rw [← e]; simp; omega
    simp only [spec_cdPairs.l1]
    have hx : rd_T50 l (pre.length : Int) = x := by rw [← e]; exact rdC_append pre m x
    rw [if_pos (by omega), if_pos (by omega), hx, srCross_cross]
    simp only [Option.bind_some]
    have hpl : (((pre ++ [x]).length : Nat) : Int) = (pre.length : Int) + 1 := by simp
    have IH := fun acc h0 hr => ih k (pre ++ [x]) acc r (by simpa using e) h0 (by omega) hr
    rw [hpl] at IH
    rw [wrap64_id (x := (pre.length : Int) + 1) (by omega) (by omega)]
    by_cases eX : crossB c x = true
    · rw [if_pos eX, if_pos (by omega)]
      refine IH _ (by simp; omega) (fun k' h1 h2 => ?_)
      have := hr k' (by omega) (by omega)
      unfold rowP at this
      rw [if_pos eX] at this
      rw [List.append_assoc]
      exact this
    · rw [if_neg eX]
      refine IH acc (by omega) (fun k' h1 h2 => ?_)
      have := hr k' (by omega) (by omega)
      unfold rowP at this
      rw [if_neg eX] at this
      exact this
theorem cdPairs_loop (l : List S50) (hl : l.length ≤ 10000) (m : List S50) : ∀ (k : Nat) (pre : List S50) (acc : List (List Int)), pre ++ m = l → acc.length + m.length * 10000 ≤ 1000000000 → m.length * (l.length + 3) < k →
    spec_cdPairs.l0 k l acc l (l.length : Int) pre.length = some (acc ++ allP pre.length m) := by
  induction m with
  | nil =>
    intro k pre acc e h0 hk
    obtain ⟨k, rfl⟩ : ∃ t, k = t + 1 := ⟨k - 1, by omega⟩
    rw [List.append_nil] at e
    simp only [spec_cdPairs.l0]
    rw [if_neg (by rw [e]; omega)]
    simp [allP]
  | cons x m ih =>
    intro k pre acc e h0 hk
    obtain ⟨k, rfl⟩ : ∃ t, k = t + 1 := ⟨k - 1, by omega⟩
    have hlen : (l.length : Int) = pre.length + m.length + 1 := by rw [← e]; simp; omega
    simp only [spec_cdPairs.l0]
    have hx : rd_T50 l (pre.length : Int) = x := by rw [← e]; exact rdC_append pre m x
    rw [if_pos (by omega), if_pos (by omega), if_pos (by omega), hx, wrap64_id (x := (pre.length : Int) + 1) (by omega) (by omega)]
    simp only [List.length_cons] at h0 hk
    have hmul : (m.length + 1) * (l.length + 3) = m.length * (l.length + 3) + (l.length + 3) := by rw [Nat.add_mul, Nat.one_mul]
    have hpl : (((pre ++ [x]).length : Nat) : Int) = (pre.length : Int) + 1 := by simp
    have hin := cdPairs_inner l hl x pre.length m k (pre ++ [x]) acc (some (acc ++ allP pre.length (x :: m))) (by simpa using e) (by omega) (by omega) (fun k' h2 h3 => by
      have h4 := countX_le x m
      have h5 := rowP_len x pre.length m ((pre ++ [x]).length : Int)
      have := ih k' (pre ++ [x]) (acc ++ rowP x pre.length ((pre ++ [x]).length : Int) m) (by simpa using e) (by rw [List.length_append, h5]; omega) (by omega)
      rw [hpl] at this ⊢
      rw [wrap64_id (by omega) (by omega), this]
      simp only [allP, List.append_assoc])
    rw [hpl] at hin
    exact hin
theorem cdPairs_eq (l : List S50) (hl : l.length ≤ 10000) (k : Nat) (hk : l.length * (l.length + 3) < k) : spec_cdPairs.f k l = some (allP 0 l) := by
  unfold spec_cdPairs.f
  have := cdPairs_loop l hl l k [] [] rfl (by simp; omega) hk
  simpa using this
/-! ### BKept -/
/-- What is kept of m, whose first index is i, where b tells which indices are dropped. -/
def keepL (b : Int → Bool) : Int → List S50 → List S50
  | _, [] => []
  | i, c :: m => if b i = true then keepL b (i + 1) m else c :: keepL b (i + 1) m
theorem keepL_len (b : Int → Bool) : ∀ (m : List S50) (i : Int), (keepL b i m).length ≤ m.length
  | [], _ => Nat.le_refl _
  | c :: m, i => by
    have := keepL_len b m (i + 1)
    simp only [keepL]
    split <;> simp <;> omega
theorem keepL_mem (b : Int → Bool) : ∀ (m : List S50) (i : Int), ∀ x ∈ keepL b i m, x ∈ m
  | [], _, x, h => h
  | c :: m, i, x, h => by
    simp only [keepL] at h
    split at h
    · exact List.mem_cons_of_mem _ (keepL_mem b m (i + 1) x h)
    · rcases List.mem_cons.1 h with rfl | h
      · exact List.mem_cons_self
      · exact List.mem_cons_of_mem _ (keepL_mem b m (i + 1) x h)
/-- At least one of the pair is dropped. -/
def hitB (b : Int → Bool) (p : List Int) : Bool := b (p.getD 0 0) || b (p.getD 1 0)
theorem row_hit (b : Int → Bool) (c : S50) (i : Int) (hi : b i = true) : ∀ (m : List S50) (j : Int), (rowP c i j m).all (hitB b) = true
  | [], _ => rfl
  | x :: m, j => by
    have ih := row_hit b c i hi m (j + 1)
    simp only [rowP]
    split
    · rw [List.all_cons, ih]; simp [hitB, hi]
    · exact ih
theorem row_kept (b : Int → Bool) (c : S50) (i : Int) (hi : b i = false) : ∀ (m : List S50) (j : Int), (rowP c i j m).all (hitB b) = true ↔ countX c (keepL b j m) = 0
  | [], _ => by simp [rowP, keepL, countX]
  | x :: m, j => by
    have ih := row_kept b c i hi m (j + 1)
    simp only [rowP, keepL]
    by_cases h1 : crossB c x = true
    · rw [if_pos h1, List.all_cons, Bool.and_eq_true, ih]
      by_cases h2 : b j = true
      · rw [if_pos h2]; simp [hitB, h2]
      · rw [if_neg h2]
        unfold countX
        rw [List.countP_cons_of_pos h1]
        simp [hitB, hi, h2]
    · rw [if_neg h1, ih]
      by_cases h2 : b j = true
      · rw [if_pos h2]
      · rw [if_neg h2]
        unfold countX
        rw [List.countP_cons_of_neg h1]
/-- What is kept has no crossing just if each pair that crosses has a dropped one. -/
theorem all_kept (b : Int → Bool) : ∀ (m : List S50) (i : Int), (allP i m).all (hitB b) = true ↔ pairsX (keepL b i m) = 0
  | [], _ => by simp [allP, keepL, pairsX]
  | c :: m, i => by
    have ih := all_kept b m (i + 1)
    simp only [allP, keepL, List.all_append, Bool.and_eq_true]
    by_cases h : b i = true
    · rw [if_pos h, ih, row_hit b c i h]
      simp
    · rw [if_neg h, ih, row_kept b c i (by simpa using h)]
      simp only [pairsX]
      omega
/-! ### BBest -/
/-- a comes before b, or is b, in the order of the first place in which they differ. -/
def lexLe : List Int → List Int → Prop
  | [], _ => True
  | _ :: _, [] => False
  | x :: a, y :: b => x < y ∨ (x = y ∧ lexLe a b)
theorem lexLe_refl : ∀ a : List Int, lexLe a a
  | [] => trivial
  | _ :: a => .inr ⟨rfl, lexLe_refl a⟩
theorem lexLe_antisymm : ∀ a b : List Int, lexLe a b → lexLe b a → a = b
  | [], [], _, _ => rfl
  | [], _ :: _, _, h => h.elim
  | _ :: _, [], h, _ => h.elim
  | x :: a, y :: b, h1, h2 => by
    simp only [lexLe] at h1 h2
    rcases h1 with h1 | ⟨rfl, h1⟩
    · rcases h2 with h2 | ⟨h2, _⟩ <;> omega
    · rcases h2 with h2 | ⟨_, h2⟩
      · omega
      · rw [lexLe_antisymm a b h1 h2]
theorem lexLe_total : ∀ a b : List Int, lexLe a b ∨ lexLe b a
  | [], _ => .inl trivial
  | _ :: _, [] => .inr trivial
  | x :: a, y :: b => by
    simp only [lexLe]
    rcases lexLe_total a b with h | h <;> rcases Int.lt_trichotomy x y with g | g | g <;> simp [g, h]
theorem lexLe_trans : ∀ a b c : List Int, lexLe a b → lexLe b c → lexLe a c
  | [], _, _, _, _ => trivial
  | _ :: _, [], _, h, _ => h.elim
  | _ :: _, _ :: _, [], _, h => h.elim
  | x :: a, y :: b, z :: c, h1, h2 => by
    simp only [lexLe] at *
    rcases h1 with h1 | ⟨rfl, h1⟩
    · rcases h2 with h2 | ⟨rfl, h2⟩
      · exact .inl (by omega)
      · exact .inl h1
    · rcases h2 with h2 | ⟨rfl, h2⟩
      · exact .inl h2
      · exact .inr ⟨rfl, lexLe_trans a b c h1 h2⟩
/-- Fewer come first, then those that come before. -/
def bestLe (a b : List Int) : Prop := a.length < b.length ∨ (a.length = b.length ∧ lexLe a b)
theorem bestLe_refl (a : List Int) : bestLe a a := .inr ⟨rfl, lexLe_refl a⟩
theorem bestLe_trans {a b c : List Int} (h1 : bestLe a b) (h2 : bestLe b c) : bestLe a c := by
  rcases h1 with h1 | ⟨e1, h1⟩ <;> rcases h2 with h2 | ⟨e2, h2⟩
  · exact .inl (by omega)
  · exact .inl (by omega)
  · exact .inl (by omega)
  · exact .inr ⟨by omega, lexLe_trans a b c h1 h2⟩
theorem bestLe_total (a b : List Int) : bestLe a b ∨ bestLe b a := by
  unfold bestLe
  rcases Nat.lt_trichotomy a.length b.length with h | h | h
  · exact .inl (.inl h)
  · rcases lexLe_total a b with g | g
    · exact .inl (.inr ⟨h, g⟩)
    · exact .inr (.inr ⟨h.symm, g⟩)
  · exact .inr (.inl h)
theorem bestLe_antisymm {a b : List Int} (h1 : bestLe a b) (h2 : bestLe b a) : a = b := by
  rcases h1 with h1 | ⟨e1, h1⟩ <;> rcases h2 with h2 | ⟨e2, h2⟩
  · omega
  · omega
  · omega
  · exact lexLe_antisymm a b h1 h2
/-- Rising numbers from f on, below n. -/
def Inc (f n : Int) : List Int → Prop
  | [] => True
  | x :: l => f ≤ x ∧ x < n ∧ Inc (x + 1) n l
theorem Inc.mono {f f' n : Int} (h : f' ≤ f) : ∀ {l : List Int}, Inc f n l → Inc f' n l
  | [], _ => trivial
  | _ :: _, ⟨a, b, c⟩ => ⟨by omega, b, c⟩
def IsBest (n : Int) (P : List Int → Bool) (r : List Int) : Prop := Inc 0 n r ∧ P r = true ∧ ∀ D, Inc 0 n D → P D = true → bestLe r D
theorem isBest_unique {n : Int} {P : List Int → Bool} {r s : List Int} (h1 : IsBest n P r) (h2 : IsBest n P s) : r = s :=
  bestLe_antisymm (h1.2.2 s h2.1 h2.2.1) (h2.2.2 r h1.1 h1.2.1)
/-- The reference's search: m more from f on; d of them are left to try. -/
def dfsL (P : List Int → Bool) : Nat → Nat → List Int → Int → Option (List Int)
  | 0, _, D, _ => if P D = true then some D else none
  | _ + 1, 0, _, _ => none
  | m + 1, d + 1, D, f => match dfsL P m d (D ++ [f]) (f + 1) with | some r => some r | none => dfsL P (m + 1) d D (f + 1)
theorem dfsL_spec (P : List Int → Bool) : ∀ (d m : Nat) (D : List Int) (f : Int),
    match dfsL P m d D f with
    | some r => ∃ E, r = D ++ E ∧ Inc f (f + d) E ∧ E.length = m ∧ P r = true ∧ ∀ E', Inc f (f + d) E' → E'.length = m → P (D ++ E') = true → lexLe E E'
    | none => ∀ E', Inc f (f + d) E' → E'.length = m → P (D ++ E') = true → False
  | d, 0, D, f => by
    have hz : dfsL P 0 d D f = if P D = true then some D else none := by cases d <;> rfl
    rw [hz]
    by_cases h : P D = true
    · rw [if_pos h]
      exact ⟨[], by simp, trivial, rfl, h, fun _ _ _ _ => trivial⟩
    · rw [if_neg h]
      intro E' _ hl hp
      rw [List.length_eq_zero_iff.1 hl, List.append_nil] at hp
      exact h hp
  | 0, m + 1, D, f => by
    simp only [dfsL]
    intro E' hi hl _
    match E', hl with
    | x :: E', _ => have := hi.1; have := hi.2.1; omega
  | d + 1, m + 1, D, f => by
    have i1 := dfsL_spec P d m (D ++ [f]) (f + 1)
    have i2 := dfsL_spec P d (m + 1) D (f + 1)
    have ed : f + 1 + (d : Int) = f + (d + 1 : Nat) := by omega
    rw [ed] at i1 i2
    simp only [dfsL]
    cases h1 : dfsL P m d (D ++ [f]) (f + 1) with
    | some r =>
      rw [h1] at i1
      simp only at i1 ⊢
      obtain ⟨E, e1, e2, e3, e4, e5⟩ := i1
      refine ⟨f :: E, by rw [e1]; simp, ⟨by omega, by omega, e2⟩, by simp [e3], e4, ?_⟩
      intro E' hi hl hp
      match E', hl with
      | x :: E', hl =>
        obtain ⟨a, b, c⟩ := hi
        by_cases hx : x = f
        · subst hx
          exact .inr ⟨rfl, e5 E' c (by simpa using hl) (by simpa using hp)⟩
        · exact .inl (by omega)
    | none =>
      rw [h1] at i1
      simp only at i1 ⊢
      have key : ∀ E', Inc f (f + (d + 1 : Nat)) E' → E'.length = m + 1 → P (D ++ E') = true → Inc (f + 1) (f + (d + 1 : Nat)) E' := by
        intro E' hi hl hp
        match E', hl with
        | x :: E', hl =>
          obtain ⟨a, b, c⟩ := hi
          by_cases hx : x = f
          · subst hx
            exact (i1 E' c (by simpa using hl) (by simpa using hp)).elim
          · exact ⟨by omega, b, c⟩
      cases h2 : dfsL P (m + 1) d D (f + 1) with
      | some r =>
        rw [h2] at i2
        simp only at i2 ⊢
        obtain ⟨E, e1, e2, e3, e4, e5⟩ := i2
        exact ⟨E, e1, e2.mono (by omega), e3, e4, fun E' hi hl hp => e5 E' (key E' hi hl hp) hl hp⟩
      | none =>
        rw [h2] at i2
        simp only at i2 ⊢
        exact fun E' hi hl hp => i2 E' (key E' hi hl hp) hl hp
theorem inc_len {f n : Int} : ∀ {l : List Int}, Inc f n l → f ≤ n → (l.length : Int) ≤ n - f
  | [], _, h => by simp; omega
  | x :: l, ⟨a, b, c⟩, h => by have := inc_len c (by omega); simp; omega
/-- The search with m more, m the least number at which one is found, finds the best. -/
theorem dfsL_best (P : List Int → Bool) (n m : Nat) (r : List Int) (h : dfsL P m n [] 0 = some r) (hno : ∀ j, j < m → dfsL P j n [] 0 = none) : IsBest n P r := by
  have h1 := dfsL_spec P n m [] 0
  rw [h] at h1
  simp only [List.nil_append, Int.zero_add] at h1
  obtain ⟨E, rfl, e2, e3, e4, e5⟩ := h1
  refine ⟨e2, e4, fun D hD hP => ?_⟩
  rcases Nat.lt_trichotomy D.length m with g | g | g
  · exfalso
    have h2 := dfsL_spec P n D.length [] 0
    rw [hno _ g] at h2
    simp only [List.nil_append, Int.zero_add] at h2
    exact h2 D hD rfl hP
  · exact .inr ⟨by omega, e5 D hD g hP⟩
  · exact .inl (by omega)
theorem dfsL_some (P : List Int → Bool) (n m : Nat) (D : List Int) (hD : Inc 0 n D) (hl : D.length = m) (hP : P D = true) : ∃ r, dfsL P m n [] 0 = some r := by
  have h1 := dfsL_spec P n m [] 0
  cases h : dfsL P m n [] 0 with
  | some r => exact ⟨r, rfl⟩
  | none =>
    rw [h] at h1
    simp only [List.nil_append, Int.zero_add] at h1
    exact (h1 D hD hl hP).elim
/-- The places i of n, from f on, whose bit is set. -/
def bitsL (set : Nat) : Nat → Nat → List Int
  | _, 0 => []
  | f, d + 1 => if set.testBit f = true then (f : Int) :: bitsL set (f + 1) d else bitsL set (f + 1) d
theorem bitsL_inc (set : Nat) : ∀ (d f : Nat), Inc f ((f : Int) + d) (bitsL set f d)
  | 0, _ => trivial
  | d + 1, f => by
    have ih := bitsL_inc set d (f + 1)
    rw [show (((f + 1 : Nat) : Int) + (d : Int)) = (f : Int) + ((d + 1 : Nat) : Int) by omega] at ih
    simp only [bitsL]
    split
    · exact ⟨by omega, by omega, by simpa using ih⟩
    · exact ih.mono (by omega)
theorem bitsL_same (s t : Nat) : ∀ (d f : Nat), (∀ i, f ≤ i → s.testBit i = t.testBit i) → bitsL s f d = bitsL t f d
  | 0, _, _ => rfl
  | d + 1, f, h => by simp only [bitsL]; rw [h f (Nat.le_refl _), bitsL_same s t d (f + 1) (fun i hi => h i (by omega))]
theorem bitsL_shift (s : Nat) : ∀ (d f : Nat), bitsL (2 * s) (f + 1) d = (bitsL s f d).map (· + 1)
  | 0, _ => rfl
  | d + 1, f => by
    simp only [bitsL]
    rw [bitsL_shift s d (f + 1), show (2 * s).testBit (f + 1) = s.testBit f by rw [Nat.testBit_add_one, Nat.mul_div_cancel_left _ (by omega)]]
    split <;> simp
theorem inc_shift {f n : Int} (c : Int) : ∀ {l : List Int}, Inc f n l → Inc (f + c) (n + c) (l.map (· + c))
  | [], _ => trivial
  | x :: l, ⟨a, b, h⟩ => ⟨by show f + c ≤ x + c; omega, by show x + c < n + c; omega, by have := inc_shift c h; rwa [show x + 1 + c = x + c + 1 by omega] at this⟩
/-- Each rising list is that of some number. -/
theorem bitsL_all : ∀ (n : Nat) (D : List Int), Inc 0 n D → ∃ set, set < 2 ^ n ∧ bitsL set 0 n = D
  | 0, D, h => by
    match D, h with
    | [], _ => exact ⟨0, by decide, rfl⟩
    | x :: D, h => exact absurd h.2.1 (by have := h.1; omega)
  | n + 1, D, h => by
    have tail : ∀ E : List Int, Inc 1 ((n : Int) + 1) E → ∃ set, set < 2 ^ n ∧ bitsL (2 * set) 1 n = E := by
      intro E hE
      have h1 := inc_shift (-1) hE
      rw [show (1 : Int) + -1 = 0 by omega, show (n : Int) + 1 + -1 = n by omega] at h1
      obtain ⟨s, s1, s2⟩ := bitsL_all n _ h1
      refine ⟨s, s1, ?_⟩
      rw [bitsL_shift s n 0, s2, List.map_map]
      conv => rhs; rw [← List.map_id E]
      apply List.map_congr_left
      intro x _
      simp; omega
    match D, h with
    | [], _ =>
      obtain ⟨s, s1, s2⟩ := tail [] trivial
      refine ⟨2 * s, by rw [Nat.pow_succ]; omega, ?_⟩
      simp only [bitsL]
      rw [if_neg (by simp [Nat.testBit_zero]), s2]
    | x :: D, h =>
      obtain ⟨a, b, c⟩ := h
      by_cases hx : x = 0
      · subst hx
        obtain ⟨s, s1, s2⟩ := tail D (by simpa using c)
        refine ⟨2 * s + 1, by rw [Nat.pow_succ]; omega, ?_⟩
        simp only [bitsL]
        rw [if_pos (by simp [Nat.testBit_zero]), bitsL_same (2 * s + 1) (2 * s) n 1, s2]
        · rfl
        · intro i hi
          obtain ⟨i, rfl⟩ : ∃ j, i = j + 1 := ⟨i - 1, by omega⟩
          rw [Nat.testBit_add_one, Nat.testBit_add_one]
          congr 1
          omega
      · obtain ⟨s, s1, s2⟩ := tail (x :: D) ⟨by omega, by omega, c⟩
        refine ⟨2 * s, by rw [Nat.pow_succ]; omega, ?_⟩
        simp only [bitsL]
        rw [if_neg (by simp [Nat.testBit_zero]), s2]
/-- What the program knows of the first t numbers. -/
def Known (P : List Int → Bool) (n t : Nat) : Option (List Int) → Prop
  | none => ∀ s, s < t → ¬ P (bitsL s 0 n) = true
  | some b => Inc 0 n b ∧ P b = true ∧ ∀ s, s < t → P (bitsL s 0 n) = true → bestLe b (bitsL s 0 n)
theorem known_skip {P : List Int → Bool} {n t : Nat} {b : List Int} (h : Known P n t (some b)) (hb : ¬ bestLe (bitsL t 0 n) b) : Known P n (t + 1) (some b) := by
  refine ⟨h.1, h.2.1, fun s hs hp => ?_⟩
  by_cases e : s = t
  · subst e
    exact (bestLe_total _ _).resolve_right hb
  · exact h.2.2 s (by omega) hp
theorem known_not {P : List Int → Bool} {n t : Nat} {o : Option (List Int)} (h : Known P n t o) (hp : ¬ P (bitsL t 0 n) = true) : Known P n (t + 1) o := by
  cases o with
  | none =>
    intro s hs
    by_cases e : s = t
    · subst e; exact hp
    · exact h s (by omega)
  | some b =>
    refine ⟨h.1, h.2.1, fun s hs hq => ?_⟩
    by_cases e : s = t
    · subst e; exact absurd hq hp
    · exact h.2.2 s (by omega) hq
theorem known_take {P : List Int → Bool} {n t : Nat} {o : Option (List Int)} (h : Known P n t o) (hp : P (bitsL t 0 n) = true) (hb : ∀ b, o = some b → bestLe (bitsL t 0 n) b) : Known P n (t + 1) (some (bitsL t 0 n)) := by
  refine ⟨by have := bitsL_inc t n 0; simpa using this, hp, fun s hs hq => ?_⟩
  by_cases e : s = t
  · subst e; exact bestLe_refl _
  · cases o with
    | none => exact absurd hq (h s (by omega))
    | some b => exact bestLe_trans (hb b rfl) (h.2.2 s (by omega) hq)
theorem known_end {P : List Int → Bool} {n : Nat} {b : List Int} (h : Known P n (2 ^ n) (some b)) : IsBest n P b := by
  refine ⟨h.1, h.2.1, fun D hD hp => ?_⟩
  obtain ⟨s, s1, s2⟩ := bitsL_all n D hD
  rw [← s2]
  exact h.2.2 s s1 (by rw [s2]; exact hp)
/-! ### BDrops -/
theorem l1Has_loop (x : Int) (l : List Int) (hl : l.length ≤ 100000) (rest : List Int) : ∀ (done : List Int) (k : Nat), done ++ rest = l → rest.length < k → spec_l1Has.l0 k x l (l.length : Int) (done.length : Int) = some (rest.contains x) := by
  induction rest with
  | nil =>
    intro done k e hk
    obtain ⟨k, rfl⟩ : ∃ t, k = t + 1 := ⟨k - 1, by omega⟩
    rw [List.append_nil] at e
    subst e
    simp only [spec_l1Has.l0]
    rw [if_neg (by omega)]
    rfl
  | cons y rest ih =>
    intro done k e hk
    obtain ⟨k, rfl⟩ : ∃ t, k = t + 1 := ⟨k - 1, by omega⟩
    simp only [List.length_cons] at hk
    have hlr : l.length = done.length + rest.length + 1 := by rw [← e]; simp; omega
    have hrd : rd l (done.length : Int) = y := by rw [← e]; unfold rd; simp
    have IH := ih (done ++ [y]) k (by simpa using e) (by omega)
    rw [show (((done ++ [y]).length : Nat) : Int) = (done.length : Int) + 1 by simp] at IH
    simp only [spec_l1Has.l0]
    rw [if_pos (by omega), if_pos (by omega), if_pos (by omega), hrd, wrap64_id (x := (done.length : Int) + 1) (by omega) (by omega)]
    by_cases h : y = x
    · rw [if_pos h]; simp [h]
    · rw [if_neg h, IH]
      have h' : ¬ x = y := fun e => h e.symm
      simp [h']
theorem l1Has_eq (x : Int) (l : List Int) (hl : l.length ≤ 100000) (k : Nat) (hk : l.length < k) : spec_l1Has.f k l x = some (l.contains x) := by
  unfold spec_l1Has.f
  exact l1Has_loop x l hl l [] k rfl hk
theorem rowP_two (c : S50) (i : Int) : ∀ (m : List S50) (j : Int), ∀ p ∈ rowP c i j m, p.length = 2
  | [], _, p, h => by simp [rowP] at h
  | x :: m, j, p, h => by
    simp only [rowP] at h
    split at h
    · rcases List.mem_cons.1 h with rfl | h
      · rfl
      · exact rowP_two c i m (j + 1) p h
    · exact rowP_two c i m (j + 1) p h
theorem allP_two : ∀ (m : List S50) (i : Int), ∀ p ∈ allP i m, p.length = 2
  | [], _, p, h => by simp [allP] at h
  | c :: m, i, p, h => by
    rw [allP, List.mem_append] at h
    rcases h with h | h
    · exact rowP_two c i m _ p h
    · exact allP_two m _ p h
theorem rdLLp (done rest : List (List Int)) (x : List Int) : rd_L1 (done ++ x :: rest) (done.length : Int) = x := by
  unfold rd_L1
  simp
def hitR (D : List Int) : Bool → List Int × Bool | true => (D, true) | false => ([], false)
theorem hit_loop (D : List Int) (hD : D.length ≤ 100) (ps : List (List Int)) (hp : ∀ p ∈ ps, p.length = 2) (hl : ps.length ≤ 100000) (rest : List (List Int)) : ∀ (done : List (List Int)) (k : Nat), done ++ rest = ps → rest.length + 101 < k →
    spec_cdDrops.l0 k D ps (ps.length : Int) (done.length : Int) = some (hitR D (rest.all (hitB D.contains))) := by
  induction rest with
  | nil =>
    intro done k e hk
    obtain ⟨k, rfl⟩ : ∃ t, k = t + 1 := ⟨k - 1, by omega⟩
    rw [List.append_nil] at e
    subst e
    simp only [spec_cdDrops.l0]
    rw [if_neg (by omega)]
    rfl
  | cons p rest ih =>
    intro done k e hk
    obtain ⟨k, rfl⟩ : ∃ t, k = t + 1 := ⟨k - 1, by omega⟩
    simp only [List.length_cons] at hk
    have hlr : ps.length = done.length + rest.length + 1 := by rw [← e]; simp; omega
    have hrd : rd_L1 ps (done.length : Int) = p := by rw [← e]; exact rdLLp done rest p
    have h2 := hp p (by rw [← e]; simp)
    have IH := ih (done ++ [p]) k (by simpa using e) (by omega)
    rw [show (((done ++ [p]).length : Nat) : Int) = (done.length : Int) + 1 by simp] at IH
    simp only [spec_cdDrops.l0]
    rw [hrd, if_pos (by omega), if_pos (by omega), if_pos (by omega), if_pos (by omega), l1Has_eq _ D (by omega) k (by omega), wrap64_id (x := (done.length : Int) + 1) (by omega) (by omega)]
    simp only [Option.bind_some, List.all_cons, hitB]
    have r0 : rd p 0 = p.getD 0 0 := rfl
    have r1 : rd p 1 = p.getD 1 0 := rfl
    rw [r0]
    by_cases h : D.contains (p.getD 0 0) = true
    · rw [if_pos h, IH, h, Bool.true_or, Bool.true_and]
    · rw [if_neg h, if_pos (by omega), l1Has_eq _ D (by omega) k (by omega), Option.bind_some, r1]
      by_cases h' : D.contains (p.getD 1 0) = true
      · rw [if_pos h', IH, h', Bool.or_true, Bool.true_and]
      · rw [if_neg h', Bool.eq_false_iff.2 h, Bool.eq_false_iff.2 h']
        rfl
/-- Whether each pair that crosses has a dropped one. -/
def planeB (l : List S50) (D : List Int) : Bool := (allP 0 l).all (hitB D.contains)
def told (o : Option (List Int)) : List Int × Bool := match o with | some r => (r, true) | none => ([], false)
theorem cdDrops_eq (l : List S50) (hl : l.length ≤ 40) : ∀ (m d : Nat) (D : List Int) (f : Int) (k : Nat), f + d = l.length → 0 ≤ f → D.length + m ≤ 100 → 5000 + 2 * d + 1 < k → spec_cdDrops.f k l D f m = some (told (dfsL (planeB l) m d D f))
  | 0, d, D, f, k, hf, h0, hD, hk => by
    obtain ⟨k, rfl⟩ : ∃ t, k = t + 1 := ⟨k - 1, by omega⟩
    have hm : l.length * (l.length + 3) ≤ 40 * 43 := Nat.mul_le_mul (by omega) (by omega)
    have hal := allP_len l 0
    have hpl := pairsX_le l
    have hsq : l.length * l.length ≤ 40 * 40 := Nat.mul_le_mul hl hl
    have hz : dfsL (planeB l) 0 d D f = if planeB l D = true then some D else none := by cases d <;> rfl
    have h := hit_loop D (by omega) (allP 0 l) (allP_two l 0) (by omega) (allP 0 l) [] k rfl (by omega)
    simp only [spec_cdDrops.f]
    rw [if_pos (by rfl), cdPairs_eq l (by omega) k (by omega), Option.bind_some, hz]
    rw [show (([] : List (List Int)).length : Int) = 0 from rfl] at h
    rw [h]
    unfold planeB told
    cases (allP 0 l).all (hitB D.contains) <;> rfl
  | m + 1, d, D, f, k, hf, h0, hD, hk => by
    obtain ⟨k, rfl⟩ : ∃ t, k = t + 1 := ⟨k - 1, by omega⟩
    have loop : ∀ (d : Nat) (f : Int) (k : Nat), f + d = l.length → 0 ≤ f → 5000 + 2 * d < k → spec_cdDrops.l1 k l D ((m + 1 : Nat) : Int) f = some (told (dfsL (planeB l) (m + 1) d D f)) := by
      intro d
      induction d with
      | zero =>
        intro f k hf h0 hk
        obtain ⟨k, rfl⟩ : ∃ t, k = t + 1 := ⟨k - 1, by omega⟩
        simp only [spec_cdDrops.l1]
        rw [if_neg (by omega)]
        rfl
      | succ d ih =>
        intro f k hf h0 hk
        obtain ⟨k, rfl⟩ : ∃ t, k = t + 1 := ⟨k - 1, by omega⟩
        have c1 : spec_l1Own.f D = some D := by
          unfold spec_l1Own.f
          simp only [Option.bind_some, List.nil_append, List.length_nil]
          rw [if_pos (by omega)]
        have c2 := cdDrops_eq l hl m d (D ++ [f]) (f + 1) k (by omega) (by omega) (by simp; omega) (by omega)
        have c3 := ih (f + 1) k (by omega) (by omega) (by omega)
        simp only [spec_cdDrops.l1]
        rw [if_pos (by omega), c1, Option.bind_some, if_pos (by omega), wrap64_id (x := f + 1) (by omega) (by omega), wrap64_id (by omega) (by omega), show ((m + 1 : Nat) : Int) - 1 = (m : Int) by omega, c2, Option.bind_some]
        simp only [dfsL]
        cases h : dfsL (planeB l) m d (D ++ [f]) (f + 1) with
        | some r => simp [told]
        | none =>
          simp only [told, Bool.false_eq_true, if_false]
          exact c3
    have h := loop d f k hf h0 (by omega)
    simp only [spec_cdDrops.f]
    rw [if_neg (by omega)]
    exact h
/-! the program's side -/
theorem compare_lex (a b : List Int) (hl : a.length = b.length) (hb : a.length ≤ 100000) : ∀ (ra rb da db : List Int) (k : Nat), da ++ ra = a → db ++ rb = b → da.length = db.length → ra.length < k → ∃ q : Int, slices_Compare_int_int.l0 k a b a (a.length : Int) (da.length : Int) = some q ∧ (q > 0 ↔ ¬ lexLe ra rb)
  | [], rb, da, db, k, ea, eb, ed, hk => by
    obtain ⟨k, rfl⟩ : ∃ t, k = t + 1 := ⟨k - 1, by omega⟩
    refine ⟨0, ?_, by simp [lexLe]⟩
    rw [List.append_nil] at ea
    subst ea
    simp only [slices_Compare_int_int.l0]
    rw [if_neg (by omega), if_neg (by omega)]
  | x :: ra, rb, da, db, k, ea, eb, ed, hk => by
    obtain ⟨k, rfl⟩ : ∃ t, k = t + 1 := ⟨k - 1, by omega⟩
    have hla : a.length = da.length + ra.length + 1 := by rw [← ea]; simp; omega
    have hlb : b.length = db.length + rb.length := by rw [← eb]; simp
    match rb, hlb, eb with
    | [], hlb, _ => simp at hlb; omega
    | y :: rb, hlb, eb =>
      simp only [List.length_cons] at hlb hk
      have r1 : rd a (da.length : Int) = x := by rw [← ea]; unfold rd; simp
      have r2 : rd b (da.length : Int) = y := by rw [ed, ← eb]; unfold rd; simp
      have hc : cmp_Compare_int.f x y = some (if x < y then -1 else if x > y then 1 else 0) := by
        unfold cmp_Compare_int.f cmp_isNaN_int.f
        simp
        split
        · rfl
        · split <;> rfl
      simp only [slices_Compare_int_int.l0]
      rw [if_pos (by omega), if_pos (by omega), if_pos (by omega), if_neg (by omega), if_pos (by omega), r1, r2, hc, Option.bind_some]
      by_cases h1 : x < y
      · rw [if_pos h1, if_neg (by omega)]
        exact ⟨-1, rfl, by simp [lexLe, h1]⟩
      · rw [if_neg h1]
        by_cases h2 : x > y
        · rw [if_pos h2, if_neg (by omega)]
          refine ⟨1, rfl, ?_⟩
          simp only [lexLe]
          constructor
          · rintro - (h | ⟨h, _⟩) <;> omega
          · intro _; omega
        · rw [if_neg h2, if_pos rfl, wrap64_id (x := (da.length : Int) + 1) (by omega) (by omega)]
          obtain ⟨q, q1, q2⟩ := compare_lex a b hl hb ra rb (da ++ [x]) (db ++ [y]) k (by simpa using ea) (by simpa using eb) (by simp [ed]) (by omega)
          rw [show (((da ++ [x]).length : Nat) : Int) = (da.length : Int) + 1 by simp] at q1
          refine ⟨q, q1, ?_⟩
          rw [q2]
          have e : x = y := by omega
          simp [lexLe, e]
theorem compare_best (a b : List Int) (hl : a.length = b.length) (hb : a.length ≤ 100000) (k : Nat) (hk : a.length < k) : ∃ q : Int, slices_Compare_int_int.f k a b = some q ∧ (q > 0 ↔ ¬ lexLe a b) := by
  obtain ⟨q, q1, q2⟩ := compare_lex a b hl hb a b [] [] k rfl rfl rfl hk
  exact ⟨q, by unfold slices_Compare_int_int.f; exact q1, q2⟩
theorem fdD_range (t : Nat) : ∀ (d f : Nat), ((List.range' f d).filter fun j => t.testBit j).map (fun (j : Nat) => (j : Int)) = bitsL t f d
  | 0, _ => rfl
  | d + 1, f => by
    rw [List.range'_succ, List.filter_cons]
    simp only [bitsL]
    split
    · rw [List.map_cons, fdD_range t d (f + 1)]
    · exact fdD_range t d (f + 1)
theorem fdD_eq (t n : Nat) : fdD t n = bitsL t 0 n := by
  unfold fdD
  rw [List.range_eq_range']
  exact fdD_range t n 0
theorem bitsL_mem (t : Nat) (x : Int) : ∀ (d f : Nat), x ∈ bitsL t f d ↔ (f : Int) ≤ x ∧ x < f + d ∧ t.testBit x.toNat = true
  | 0, f => by
    simp only [bitsL, List.not_mem_nil, false_iff]
    rintro ⟨h1, h2, _⟩
    omega
  | d + 1, f => by
    have ih := bitsL_mem t x d (f + 1)
    simp only [bitsL]
    by_cases h : t.testBit f = true
    · rw [if_pos h, List.mem_cons, ih]
      constructor
      · rintro (rfl | ⟨h1, h2, h3⟩)
        · exact ⟨by omega, by omega, by simpa using h⟩
        · exact ⟨by omega, by omega, h3⟩
      · rintro ⟨h1, h2, h3⟩
        by_cases e : x = f
        · exact .inl e
        · exact .inr ⟨by omega, by omega, h3⟩
    · rw [if_neg h, ih]
      constructor
      · rintro ⟨h1, h2, h3⟩
        exact ⟨by omega, by omega, h3⟩
      · rintro ⟨h1, h2, h3⟩
        by_cases e : x = f
        · subst e
          rw [Int.toNat_natCast] at h3
          exact absurd h3 h
        · exact ⟨by omega, by omega, h3⟩
theorem fdK_range (t : Nat) (L : List S50) (b : Int → Bool) (n : Nat) (hb : ∀ i : Nat, i < n → b (i : Int) = t.testBit i) : ∀ (m : List S50) (f : Nat), f + m.length = n → L.drop f = m → ((List.range' f m.length).filter fun j => !t.testBit j).map (fun (j : Nat) => rd_T50 L (j : Int)) = keepL b (f : Int) m
  | [], _, _, _ => rfl
  | c :: m, f, hf, hd => by
    simp only [List.length_cons] at hf
    have ih := fdK_range t L b n hb m (f + 1) (by omega) (by rw [← List.drop_drop, hd]; rfl)
    have hrd : rd_T50 L (f : Int) = c := by
      have h1 : L = L.take f ++ c :: m := by rw [← hd, List.take_append_drop]
      have h2 : (L.take f).length = f := by
        rw [List.length_take]
        have : (L.drop f).length = m.length + 1 := by rw [hd]; simp
        rw [List.length_drop] at this
        omega
      have h3 := rdC_append (L.take f) m c
      rw [← h1, h2] at h3
      exact h3
    rw [List.length_cons, List.range'_succ, List.filter_cons]
    simp only [keepL]
    rw [hb f (by omega)]
    cases t.testBit f with
    | true => simpa using ih
    | false =>
      simp only [Bool.not_false, if_true, List.map_cons, hrd]
      rw [ih]
      simp
theorem fdK_eq (t : Nat) (l : List S50) : fdK t l l.length = keepL (bitsL t 0 l.length).contains 0 l := by
  unfold fdK
  rw [List.range_eq_range']
  have := fdK_range t l (bitsL t 0 l.length).contains l.length (fun i hi => by
    rw [Bool.eq_iff_iff, List.contains_iff_mem, bitsL_mem, Int.toNat_natCast]
    constructor
    · exact fun h => h.2.2
    · exact fun h => ⟨by omega, by omega, h⟩) l 0 (by omega) rfl
  exact this
theorem fdAll_known (N : Int) (l : List S50) (hP : ∀ x ∈ l, Proper N x) (hl : l.length ≤ 12) (k : Nat) (hk : 100 ≤ k) : ∀ t : Nat, ∃ best, fdAll k l t = some best ∧ Known (planeB l) l.length t best
  | 0 => ⟨none, rfl, fun s hs => by omega⟩
  | t + 1 => by
    obtain ⟨best, h1, h2⟩ := fdAll_known N l hP hl k hk t
    have hkl := keepL_len (bitsL t 0 l.length).contains l 0
    have hc : impl_crossings.f k (fdK t l l.length) = some ((pairsX (keepL (bitsL t 0 l.length).contains 0 l) : Nat) : Int) := by
      rw [fdK_eq]
      exact crossings_eq N _ (fun x hx => hP x (keepL_mem _ l 0 x hx)) (by omega) k (by omega)
    have hpl : planeB l (bitsL t 0 l.length) = true ↔ ((pairsX (keepL (bitsL t 0 l.length).contains 0 l) : Nat) : Int) = 0 := by
      unfold planeB
      rw [all_kept]
      omega
    have htake : ∀ best, fdTake k l t best = some (if planeB l (bitsL t 0 l.length) = true then some (bitsL t 0 l.length) else best) := by
      intro best
      unfold fdTake
      rw [hc, fdD_eq, Option.map_some]
      by_cases h : planeB l (bitsL t 0 l.length) = true
      · rw [if_pos h, if_pos (hpl.1 h)]
      · rw [if_neg h, if_neg (fun e => h (hpl.2 e))]
    have htk : Known (planeB l) l.length t best → (∀ b, best = some b → bestLe (bitsL t 0 l.length) b) → Known (planeB l) l.length (t + 1) (if planeB l (bitsL t 0 l.length) = true then some (bitsL t 0 l.length) else best) := by
      intro h hb
      by_cases hp : planeB l (bitsL t 0 l.length) = true
      · rw [if_pos hp]; exact known_take h hp hb
      · rw [if_neg hp]; exact known_not h hp
    simp only [fdAll, h1, Option.bind_some]
    cases best with
    | none => exact ⟨_, htake none, htk h2 (fun b hb => by cases hb)⟩
    | some b =>
      simp only [fdOne, fdD_eq]
      by_cases g1 : (bitsL t 0 l.length).length > b.length
      · rw [if_pos g1]
        refine ⟨_, rfl, known_skip h2 (fun hb => ?_)⟩
        rcases hb with hb | ⟨hb, _⟩ <;> omega
      · rw [if_neg g1]
        by_cases g2 : (bitsL t 0 l.length).length = b.length
        · rw [if_pos g2]
          have hlen := fdD_len t l.length
          rw [fdD_eq] at hlen
          obtain ⟨q, q1, q2⟩ := compare_best _ _ g2 (by omega) k (by omega)
          rw [q1, Option.bind_some]
          by_cases g3 : q > 0
          · rw [if_pos g3]
            refine ⟨_, rfl, known_skip h2 (fun hb => ?_)⟩
            rcases hb with hb | ⟨_, hb⟩
            · omega
            · exact q2.1 g3 hb
          · rw [if_neg g3]
            refine ⟨_, htake _, htk h2 (fun b' hb => ?_)⟩
            cases hb
            exact .inr ⟨g2, Classical.byContradiction fun h => g3 (q2.2 h)⟩
        · rw [if_neg g2]
          refine ⟨_, htake _, htk h2 (fun b' hb => ?_)⟩
          cases hb
          exact .inl (by omega)
/-- Where all behind the first are dropped, each pair has a dropped one. -/
theorem hitIn (D : List Int) (c : S50) (i : Int) (n : Nat) (hb : ∀ j : Int, 1 ≤ j → j < (n : Int) → D.contains j = true) : ∀ (m : List S50) (j : Int), 1 ≤ j → j + m.length = n → (rowP c i j m).all (hitB D.contains) = true
  | [], _, _, _ => rfl
  | x :: m, j, hj, hn => by
    simp only [List.length_cons] at hn
    have ih := hitIn D c i n hb m (j + 1) (by omega) (by omega)
    simp only [rowP]
    split
    · rw [List.all_cons, ih]
      have := hb j hj (by omega)
      simp only [hitB, List.getD_cons_succ, List.getD_cons_zero, this]
      simp
    · exact ih
theorem hitAll (D : List Int) (n : Nat) (hb : ∀ j : Int, 1 ≤ j → j < (n : Int) → D.contains j = true) : ∀ (m : List S50) (i : Int), 1 ≤ i → i + m.length = n → (allP i m).all (hitB D.contains) = true
  | [], _, _, _ => rfl
  | c :: m, i, hi, hn => by
    simp only [List.length_cons] at hn
    rw [allP, List.all_append, hitIn D c i n hb m (i + 1) (by omega) (by omega), hitAll D n hb m (i + 1) (by omega) (by omega)]
    rfl
/-! ### BBase -/
theorem l1In_eq (a b c : Int) : spec_l1In.f a b c = some (decide (b ≤ a ∧ a ≤ c)) := by
  unfold spec_l1In.f
  by_cases h : a ≥ b
  · rw [if_pos h]; exact congrArg some (decide_eq_decide.2 (by omega))
  · rw [if_neg h]; exact congrArg some (decide_eq_false (by omega)).symm
theorem within_eq (a b c : Int) : impl_within.f a b c = some (decide (b ≤ a ∧ a ≤ c)) := by
  unfold impl_within.f
  by_cases h : a ≥ b
  · rw [if_pos h]; exact congrArg some (decide_eq_decide.2 (by omega))
  · rw [if_neg h]; exact congrArg some (decide_eq_false (by omega)).symm
theorem srPoints_eq (a : Int) : spec_srPoints.f a = some (decide (3 ≤ a ∧ a ≤ 60)) := by
  unfold spec_srPoints.f; rw [l1In_eq]; rfl
theorem isCircle_eq (a : Int) : impl_isCircle.f a = some (decide (3 ≤ a ∧ a ≤ 60)) := by
  unfold impl_isCircle.f; rw [within_eq]; rfl
/-! ### BIsChord -/
def isCh (n a b : Int) : Prop := 0 ≤ a ∧ a < b ∧ b < n
instance (n a b : Int) : Decidable (isCh n a b) := by unfold isCh; infer_instance
theorem srIs_eq (n a b : Int) (hn : 3 ≤ n ∧ n ≤ 60) : spec_srIs.f n a b = some (decide (isCh n a b)) := by
  unfold spec_srIs.f
  rw [wrap64_id (by omega) (by omega), l1In_eq]
  simp only [Option.bind_some]
  by_cases h : 0 ≤ a ∧ a ≤ n - 1
  · rw [if_pos (decide_eq_true h), l1In_eq, wrap64_id (by omega) (by omega)]
    simp only [Option.bind_some]
    refine congrArg some (decide_eq_decide.2 ?_)
    unfold isCh
    omega
  · rw [if_neg (by simpa using h)]
    refine congrArg some (decide_eq_false ?_).symm
    unfold isCh
    omega
theorem implIsChord_eq (n a b : Int) : impl_isChord.f n a b = some (decide (isCh n a b)) := by
  unfold impl_isChord.f
  by_cases h1 : a ≥ 0
  · rw [if_pos h1]
    by_cases h2 : a < b
    · rw [if_pos h2]
      refine congrArg some (decide_eq_decide.2 ?_)
      unfold isCh
      omega
    · rw [if_neg h2]
      refine congrArg some (decide_eq_false ?_).symm
      unfold isCh
      omega
  · rw [if_neg h1]
    refine congrArg some (decide_eq_false ?_).symm
    unfold isCh
    omega
/-! ### BSet -/
theorem compare_eq (a b : Int) : cmp_Compare_int.f a b = some (if a < b then -1 else if a > b then 1 else 0) := by
  unfold cmp_Compare_int.f cmp_isNaN_int.f
  simp
  split
  · rfl
  · split <;> rfl
theorem compareChords_eq (x y : S50) (k : Nat) (hk : 4 ≤ k) : ∃ r : Int, impl_compareChords.f k x.f0 x.f1 y.f0 y.f1 = some r ∧ (r ≥ 0 ↔ ¬ cLt x y = true) := by
  unfold impl_compareChords.f
  simp only [compare_eq, Option.bind_some]
  obtain ⟨k, rfl⟩ : ∃ t, k = t + 4 := ⟨k - 4, by omega⟩
  have h0 : wrap64 (0 + 1) = 1 := wrap64_id (by omega) (by omega)
  have h1 : wrap64 (1 + 1) = 2 := wrap64_id (by omega) (by omega)
  simp only [cmp_Or_int.f, cmp_Or_int.l0, List.length_cons, List.length_nil, h0, h1, rd, cLt_iff]
  by_cases c0 : x.f0 < y.f0
  · simp [c0]
  · by_cases c1 : x.f0 > y.f0
    · simp [c0, c1]; omega
    · have e : x.f0 = y.f0 := by omega
      by_cases d0 : x.f1 < y.f1
      · simp [e, d0]
      · by_cases d1 : x.f1 > y.f1
        · simp [e, d0, d1]
        · simp [e, d0, d1]
def isChB (n : Int) (c : S50) : Bool := decide (isCh n c.f0 c.f1)
/-- Chords of n points in order, behind p. -/
def okFrom (n : Int) : Option S50 → List S50 → Bool
  | _, [] => true
  | none, c :: l => isChB n c && okFrom n (some c) l
  | some p, c :: l => isChB n c && (cLt p c && okFrom n (some c) l)
theorem okFrom_spec (n : Int) : ∀ (l : List S50) (p : Option S50), okFrom n p l = true → Strict l ∧ (∀ c ∈ l, Proper n c) ∧ ∀ q, p = some q → ∀ c ∈ l, cLt q c = true
  | [], p, _ => ⟨by simp [Strict], by simp, by simp⟩
  | c :: l, p, h => by
    have h1 : isChB n c = true ∧ okFrom n (some c) l = true ∧ ∀ q, p = some q → cLt q c = true := by
      cases p with
      | none => simp only [okFrom, Bool.and_eq_true] at h; exact ⟨h.1, h.2, by simp⟩
      | some q => simp only [okFrom, Bool.and_eq_true] at h; exact ⟨h.1, h.2.2, fun q' e => by cases e; exact h.2.1⟩
    obtain ⟨a, b, c1⟩ := okFrom_spec n l (some c) h1.2.1
    have c2 := c1 c rfl
    refine ⟨?_, ?_, ?_⟩
    · unfold Strict at a ⊢; rw [List.pairwise_cons]; exact ⟨c2, a⟩
    · intro d hd
      rcases List.mem_cons.1 hd with e | e
      · subst e; exact (of_decide_eq_true h1.1 : isCh n d.f0 d.f1)
      · exact b d e
    · intro q e d hd
      have h3 := h1.2.2 q e
      rcases List.mem_cons.1 hd with e | e
      · subst e; exact h3
      · have h4 := c2 d e
        rw [cLt_iff] at h3 h4 ⊢
        omega
theorem okFrom_none (n : Int) (c : S50) (m : List S50) : okFrom n none (c :: m) = (isChB n c && okFrom n (some c) m) := rfl
theorem okFrom_some (n : Int) (p c : S50) (m : List S50) : okFrom n (some p) (c :: m) = (isChB n c && (cLt p c && okFrom n (some c) m)) := rfl
def lastO (pre : List S50) : Option S50 := pre.getLast?
theorem rd_last (pre m : List S50) (p : S50) : rd_T50 ((pre ++ [p]) ++ m) ((pre.length : Int) + 1 - 1) = p := by
  rw [show (pre.length : Int) + 1 - 1 = pre.length by omega, List.append_assoc]
  exact rdC_append pre m p
theorem cdGood_loop (n : Int) (hn : 3 ≤ n ∧ n ≤ 60) (m : List S50) : ∀ (k : Nat) (pre : List S50), pre.length + m.length ≤ 1000000000 → m.length < k →
    spec_cdGood.l0 k n (pre ++ m) (pre ++ m) ((pre ++ m).length : Int) pre.length = some (okFrom n (lastO pre) m) := by
  induction m with
  | nil =>
    intro k pre hl hk
    obtain ⟨k, rfl⟩ : ∃ t, k = t + 1 := ⟨k - 1, by omega⟩
    simp only [spec_cdGood.l0, List.append_nil]
    rw [if_neg (by omega)]
    simp [okFrom]
  | cons x m ih =>
    intro k pre hl hk
    obtain ⟨k, rfl⟩ : ∃ t, k = t + 1 := ⟨k - 1, by omega⟩
    simp only [List.length_cons] at hl hk
    have hlen : ((pre ++ x :: m).length : Int) = pre.length + m.length + 1 := by simp; omega
    simp only [spec_cdGood.l0]
    rw [if_pos (by omega), if_pos (by omega), if_pos (by omega), rdC_append, srIs_eq n _ _ hn]
    simp only [Option.bind_some]
    have IH := ih k (pre ++ [x]) (by simp; omega) (by omega)
    simp only [List.append_assoc, List.cons_append, List.nil_append] at IH
    have hpl : (((pre ++ [x]).length : Nat) : Int) = (pre.length : Int) + 1 := by simp
    have hla : lastO (pre ++ [x]) = some x := by unfold lastO; simp
    rw [hpl, hla] at IH
    by_cases hc : isCh n x.f0 x.f1
    · have hcB : isChB n x = true := decide_eq_true hc
      rw [if_pos (decide_eq_true hc)]
      rcases List.eq_nil_or_concat pre with e | ⟨q, p, e⟩
      · subst e
        rw [if_neg (by simp)]
        rw [wrap64_id (by omega) (by omega), IH]
        have e1 : lastO ([] : List S50) = none := rfl
        rw [e1, okFrom_none, hcB, Bool.true_and]
      · rw [List.concat_eq_append] at e
        subst e
        have hql : (((q ++ [p]).length : Nat) : Int) = (q.length : Int) + 1 := by simp
        have hla2 : lastO (q ++ [p]) = some p := by unfold lastO; simp
        rw [if_pos (by omega), wrap64_id (by omega) (by omega), if_pos (by omega), if_pos (by omega), hql, rd_last, srLess_eq]
        simp only [Option.bind_some]
        have e0 : (⟨x.f0, x.f1⟩ : S50) = x := rfl
        have e1 : (⟨p.f0, p.f1⟩ : S50) = p := rfl
        rw [e0, e1, hla2, okFrom_some, hcB, Bool.true_and]
        rw [wrap64_id (by omega) (by omega)]
        rw [hql] at IH
        by_cases hp : cLt p x = true
        · rw [if_pos hp, IH, hp, Bool.true_and]
        · rw [if_neg hp]
          simp [hp]
    · have hcB : isChB n x = false := decide_eq_false hc
      rw [if_neg (by simpa using hc)]
      cases hlo : lastO pre with
      | none => rw [okFrom_none, hcB]; rfl
      | some p => rw [okFrom_some, hcB]; rfl
/-- A set of chords of n points. -/
def goodB (n : Int) (l : List S50) : Bool := decide (3 ≤ n ∧ n ≤ 60) && (decide (l.length ≤ 40) && okFrom n none l)
theorem cdGood_eq (n : Int) (l : List S50) (hl : l.length ≤ 1000000000) (k : Nat) (hk : l.length + 1 < k) : spec_cdGood.f k n l = some (goodB n l) := by
  unfold spec_cdGood.f goodB
  rw [srPoints_eq]
  obtain ⟨k, rfl⟩ : ∃ t, k = t + 1 := ⟨k - 1, by omega⟩
  simp only [Option.bind_some, spec_cdGood.j0]
  by_cases h : 3 ≤ n ∧ n ≤ 60
  · rw [if_pos (decide_eq_true h), decide_eq_true h, Bool.true_and]
    by_cases h2 : l.length ≤ 40
    · rw [if_neg (by simp; omega), decide_eq_true h2, Bool.true_and]
      exact cdGood_loop n h l k [] (by simpa using hl) (by omega)
    · rw [if_pos (by simp; omega), decide_eq_false h2, Bool.false_and]
  · rw [if_neg (by simpa using h), decide_eq_false h]
    rfl
theorem areChords_loop (n : Int) (hn : 3 ≤ n ∧ n ≤ 60) (m : List S50) : ∀ (k : Nat) (pre : List S50), pre.length + m.length ≤ 1000000000 → m.length + 4 < k →
    impl_AreChords.l0 k n (pre ++ m) (pre ++ m) ((pre ++ m).length : Int) pre.length = some (okFrom n (lastO pre) m && decide (pre.length + m.length ≤ 40)) := by
  induction m with
  | nil =>
    intro k pre hl hk
    obtain ⟨k, rfl⟩ : ∃ t, k = t + 1 := ⟨k - 1, by omega⟩
    simp only [impl_AreChords.l0, List.append_nil]
    rw [if_neg (by omega)]
    simp only [okFrom, Bool.true_and, List.length_nil, Nat.add_zero]
    exact congrArg some (decide_eq_decide.2 (by omega))
  | cons x m ih =>
    intro k pre hl hk
    obtain ⟨k, rfl⟩ : ∃ t, k = t + 1 := ⟨k - 1, by omega⟩
    simp only [List.length_cons] at hl hk
    have hlen : ((pre ++ x :: m).length : Int) = pre.length + m.length + 1 := by simp; omega
    simp only [impl_AreChords.l0]
    rw [if_pos (by omega), if_pos (by omega), if_pos (by omega), rdC_append, implIsChord_eq]
    simp only [Option.bind_some]
    have IH := ih k (pre ++ [x]) (by simp; omega) (by omega)
    simp only [List.append_assoc, List.cons_append, List.nil_append] at IH
    have hpl : (((pre ++ [x]).length : Nat) : Int) = (pre.length : Int) + 1 := by simp
    have hpn : (pre ++ [x]).length + m.length = pre.length + (x :: m).length := by simp; omega
    have hla : lastO (pre ++ [x]) = some x := by unfold lastO; simp
    rw [hpl, hla, hpn] at IH
    by_cases hc : isCh n x.f0 x.f1
    · have hcB : isChB n x = true := decide_eq_true hc
      rw [if_pos (decide_eq_true hc)]
      rcases List.eq_nil_or_concat pre with e | ⟨q, p, e⟩
      · subst e
        rw [if_neg (by simp)]
        rw [wrap64_id (by omega) (by omega), IH]
        have e1 : lastO ([] : List S50) = none := rfl
        rw [e1, okFrom_none, hcB, Bool.true_and]
      · rw [List.concat_eq_append] at e
        subst e
        have hql : (((q ++ [p]).length : Nat) : Int) = (q.length : Int) + 1 := by simp
        have hla2 : lastO (q ++ [p]) = some p := by unfold lastO; simp
        rw [if_pos (by omega), wrap64_id (by omega) (by omega), if_pos (by omega), if_pos (by omega), hql, rd_last]
        obtain ⟨r, hr1, hr2⟩ := compareChords_eq p x k (by omega)
        rw [hr1]
        simp only [Option.bind_some]
        rw [hla2, okFrom_some, hcB, Bool.true_and]
        rw [wrap64_id (by omega) (by omega)]
        rw [hql] at IH
        by_cases hp : cLt p x = true
        · rw [if_neg (fun z => hr2.1 z hp), IH, hp, Bool.true_and]
        · rw [if_pos (hr2.2 hp)]
          simp [hp]
    · have hcB : isChB n x = false := decide_eq_false hc
      rw [if_neg (by simpa using hc)]
      cases hlo : lastO pre with
      | none => rw [okFrom_none, hcB]; rfl
      | some p => rw [okFrom_some, hcB]; rfl
theorem areChords_eq (n : Int) (l : List S50) (hl : l.length ≤ 1000000000) (k : Nat) (hk : l.length + 4 < k) : impl_AreChords.f k n l = some (goodB n l) := by
  unfold impl_AreChords.f goodB
  rw [within_eq]
  simp only [Option.bind_some]
  by_cases h : 3 ≤ n ∧ n ≤ 60
  · rw [if_pos (decide_eq_true h), decide_eq_true h, Bool.true_and]
    have := areChords_loop n h l k [] (by simpa using hl) hk
    simp only [List.nil_append, List.length_nil, Nat.zero_add] at this
    rw [Bool.and_comm] at this
    exact this
  · rw [if_neg (by simpa using h), decide_eq_false h]
    rfl
theorem isSet_eq (n : Int) (l : List S50) (hl : l.length ≤ 1000000000) (k : Nat) (hk : l.length + 4 < k) : impl_isSet.f k n l = some (goodB n l) := by
  unfold impl_isSet.f
  rw [isCircle_eq, areChords_eq n l hl k hk]
  simp only [Option.bind_some]
  by_cases h : 3 ≤ n ∧ n ≤ 60
  · rw [if_pos (decide_eq_true h)]
  · rw [if_neg (by simpa using h)]
    unfold goodB
    rw [decide_eq_false h]
    rfl
theorem good_spec (n : Int) (l : List S50) (h : goodB n l = true) : (3 ≤ n ∧ n ≤ 60) ∧ l.length ≤ 40 ∧ Strict l ∧ ∀ c ∈ l, Proper n c := by
  unfold goodB at h
  simp only [Bool.and_eq_true, decide_eq_true_eq] at h
  obtain ⟨a, b, _⟩ := okFrom_spec n l none h.2.2
  exact ⟨h.1, h.2.1, a, b⟩
/-! ### BToC -/
def conv (l : List S68) : List S50 := l.map fun x => ⟨x.f0, x.f1⟩
theorem conv_len (l : List S68) : (conv l).length = l.length := by unfold conv; simp
theorem rdL_append (l m : List S68) (x : S68) : rd_T68 (l ++ x :: m) (l.length : Int) = x := by
  unfold rd_T68
  simp
theorem toChordS_loop (m : List S68) : ∀ (k : Nat) (pre : List S68), pre.length + m.length ≤ 1000000000 → m.length < k →
    laws_toChordS.l0 k (pre ++ m) (conv pre ++ List.replicate m.length z50) pre.length = some (conv (pre ++ m)) := by
  induction m with
  | nil =>
    intro k pre hl hk
    obtain ⟨k, rfl⟩ : ∃ t, k = t + 1 := ⟨k - 1, by omega⟩
    simp only [laws_toChordS.l0, List.append_nil, List.length_nil, List.replicate_zero]
    rw [if_neg (by omega)]
  | cons x m ih =>
    intro k pre hl hk
    obtain ⟨k, rfl⟩ : ∃ t, k = t + 1 := ⟨k - 1, by omega⟩
    simp only [List.length_cons] at hl hk
    have hlen : ((pre ++ x :: m).length : Int) = pre.length + m.length + 1 := by simp; omega
    have hlen2 : ((conv pre ++ List.replicate (x :: m).length z50).length : Int) = pre.length + m.length + 1 := by simp [conv_len]; omega
    simp only [laws_toChordS.l0]
    rw [if_pos (by omega), if_pos (by omega), rdL_append]
    unfold laws_toChord.f
    simp only [Option.bind_some]
    rw [if_pos (by omega), wrap64_id (by omega) (by omega), Int.toNat_natCast]
    have e : (conv pre ++ List.replicate (x :: m).length z50).set pre.length ⟨x.f0, x.f1⟩ = conv (pre ++ [x]) ++ List.replicate m.length z50 := by
      rw [List.length_cons, List.replicate_succ]
      conv => lhs; arg 2; rw [← conv_len pre]
      rw [List.set_append_right _ _ (Nat.le_refl _), Nat.sub_self]
      unfold Q.conv
      simp
    rw [e]
    have IH := ih k (pre ++ [x]) (by simp; omega) (by omega)
    simp only [List.append_assoc, List.cons_append, List.nil_append] at IH ⊢
    have hpl : (((pre ++ [x]).length : Nat) : Int) = (pre.length : Int) + 1 := by simp
    rw [hpl] at IH
    exact IH
theorem toChordS_eq (l : List S68) (hl : l.length ≤ 1000000000) (k : Nat) (hk : l.length < k) : laws_toChordS.f k l = some (conv l) := by
  unfold laws_toChordS.f
  rw [if_pos (by omega), if_pos (by omega), Int.toNat_natCast]
  simpa [conv] using toChordS_loop l k [] (by simpa using hl) hk
theorem szChordS_eq (l : List S68) (hl : l.length ≤ 9223372036854775807) : laws_szChordS.f l 1048576 = some (if l.length ≤ 1048576 then 1048576 - (l.length : Int) else -1) := by
  unfold laws_szChordS.f
  rw [wrap64_id (by omega) (by omega)]
  by_cases h : l.length ≤ 1048576
  · rw [if_neg (by omega), if_pos h]
  · rw [if_pos (by omega), if_neg h]
/-! ### BEqC -/
theorem eqChord_self (a b : Int) : laws_eqChord.f a b a b = some true := by unfold laws_eqChord.f; simp
theorem eqChordS_loop (l : List S50) (hl : l.length ≤ 4611686018427387904) (d : Nat) : ∀ (k : Nat) (i : Int), 0 ≤ i → i ≤ l.length → (l.length : Int) - i = d → d < k → laws_eqChordS.l0 k l l i = some true := by
  induction d with
  | zero =>
    intro k i h0 h1 hd hk
    obtain ⟨k, rfl⟩ : ∃ m, k = m + 1 := ⟨k - 1, by omega⟩
    simp only [laws_eqChordS.l0]
    rw [if_neg (by omega)]
  | succ d ih =>
    intro k i h0 h1 hd hk
    obtain ⟨k, rfl⟩ : ∃ m, k = m + 1 := ⟨k - 1, by omega⟩
    simp only [laws_eqChordS.l0]
    rw [if_pos (by omega), if_pos (by omega), if_pos (by omega), eqChord_self, wrap64_id (by omega) (by omega)]
    simp only [Option.bind_some, if_true]
    exact ih k (i + 1) (by omega) (by omega) (by omega) (by omega)
theorem eqChordS_self (k : Nat) (l : List S50) (hl : l.length ≤ 4611686018427387904) (hk : l.length < k) : laws_eqChordS.f k l l = some true := by
  unfold laws_eqChordS.f
  rw [if_pos rfl]
  exact eqChordS_loop l hl l.length k 0 (by omega) (by omega) (by omega) hk
/-! ### BMarks -/
theorem eqIntS_loop (l : List Int) (hl : l.length ≤ 4611686018427387904) (d : Nat) : ∀ (k : Nat) (i : Int), 0 ≤ i → i ≤ l.length → (l.length : Int) - i = d → d < k → laws_eqIntS.l0 k l l i = some true := by
  induction d with
  | zero =>
    intro k i h0 h1 hd hk
    obtain ⟨k, rfl⟩ : ∃ m, k = m + 1 := ⟨k - 1, by omega⟩
    simp only [laws_eqIntS.l0]
    rw [if_neg (by omega)]
  | succ d ih =>
    intro k i h0 h1 hd hk
    obtain ⟨k, rfl⟩ : ∃ m, k = m + 1 := ⟨k - 1, by omega⟩
    simp only [laws_eqIntS.l0]
    rw [if_pos (by omega), if_pos (by omega), if_pos (by omega), if_pos trivial, wrap_step h0 (by omega)]
    exact ih k (i + 1) (by omega) (by omega) (by omega) (by omega)
theorem eqIntS_self (k : Nat) (l : List Int) (hl : l.length ≤ 4611686018427387904) (hk : l.length < k) : laws_eqIntS.f k l l = some true := by
  unfold laws_eqIntS.f
  rw [if_pos rfl]
  exact eqIntS_loop l hl l.length k 0 (by omega) (by omega) (by omega) hk
/-- The first i elements bear the marks from m on. -/
def Marked (y : List Int) (m : Int) (i : Nat) : Prop := ∀ j : Nat, j < i → rd y j = m + j
theorem rd_set_same (x : List Int) (i : Nat) (v : Int) (hi : i < x.length) : rd (x.set i v) i = v := by
  unfold rd; simp [hi]
theorem rd_set_other (x : List Int) (i j : Nat) (v : Int) (hj : j ≠ i) : rd (x.set i v) j = rd x j := by
  unfold rd; simp [List.getElem?_set, Ne.symm hj]
theorem markIntS_loop (m0 : Int) (n : Nat) (hm : 0 ≤ m0 ∧ m0 + n ≤ 4611686018427387904) (hn : n ≤ 4611686018427387904) (d : Nat) : ∀ (k : Nat) (x : List Int) (i : Nat), x.length = n → i ≤ n → n - i = d → d < k → Marked x m0 i →
    ∃ y, laws_markIntS.l0 k x (m0 + i) i = some (m0 + n, y) ∧ y.length = n ∧ Marked y m0 n := by
  induction d with
  | zero =>
    intro k x i hx hi hd hk hM
    obtain ⟨k, rfl⟩ : ∃ m, k = m + 1 := ⟨k - 1, by omega⟩
    obtain rfl : i = n := by omega
    refine ⟨x, ?_, hx, hM⟩
    simp only [laws_markIntS.l0]
    rw [if_neg (by omega)]
  | succ d ih =>
    intro k x i hx hi hd hk hM
    obtain ⟨k, rfl⟩ : ∃ m, k = m + 1 := ⟨k - 1, by omega⟩
    simp only [laws_markIntS.l0]
    rw [if_pos (by omega), if_pos (by omega), wrap_step (by omega) (by omega), wrap_step (by omega) (by omega), show (Int.toNat (i : Int)) = i from by omega]
    have := ih k (x.set i (m0 + i)) (i + 1) (by simpa using hx) (by omega) (by omega) (by omega) (by
      intro j hj
      by_cases e : j = i
      · subst e; rw [rd_set_same _ _ _ (by omega)]
      · rw [rd_set_other _ _ _ _ e]; exact hM j (by omega))
    rw [show m0 + (i : Int) + 1 = m0 + ((i + 1 : Nat) : Int) by omega, show (i : Int) + 1 = ((i + 1 : Nat) : Int) by omega]
    exact this
theorem heldIntS_loop (m0 : Int) (n : Nat) (hm : 0 ≤ m0 ∧ m0 + n ≤ 4611686018427387904) (hn : n ≤ 4611686018427387904) (x : List Int) (hx : x.length = n) (hM : Marked x m0 n) (d : Nat) : ∀ (k : Nat) (i : Nat), i ≤ n → n - i = d → d < k →
    laws_heldIntS.l0 k x (m0 + i) i = some (m0 + n) := by
  induction d with
  | zero =>
    intro k i hi hd hk
    obtain ⟨k, rfl⟩ : ∃ m, k = m + 1 := ⟨k - 1, by omega⟩
    obtain rfl : i = n := by omega
    simp only [laws_heldIntS.l0]
    rw [if_neg (by omega)]
  | succ d ih =>
    intro k i hi hd hk
    obtain ⟨k, rfl⟩ : ∃ m, k = m + 1 := ⟨k - 1, by omega⟩
    simp only [laws_heldIntS.l0]
    rw [if_pos (by omega), if_pos (by omega), if_pos (hM i (by omega)), wrap_step (by omega) (by omega), wrap_step (by omega) (by omega)]
    have := ih k (i + 1) (by omega) (by omega) (by omega)
    rw [show m0 + (i : Int) + 1 = m0 + ((i + 1 : Nat) : Int) by omega, show (i : Int) + 1 = ((i + 1 : Nat) : Int) by omega]
    exact this
/-- A list is marked, and then held. -/
theorem mark_held (k : Nat) (l : List Int) (m : Int) (hm : 0 ≤ m ∧ m + l.length ≤ 4611686018427387904) (hk : l.length < k) :
    ∃ y, laws_markIntS.f k l m = some (m + l.length, y) ∧ y.length = l.length ∧ ∀ k', l.length < k' → laws_heldIntS.f k' y m = some (m + l.length) := by
  obtain ⟨y, h1, h2, h3⟩ := markIntS_loop m l.length hm (by omega) l.length k l 0 rfl (by omega) (by omega) hk (fun j hj => by omega)
  refine ⟨y, ?_, h2, ?_⟩
  · unfold laws_markIntS.f
    simpa using h1
  · intro k' hk'
    unfold laws_heldIntS.f
    simpa using heldIntS_loop m l.length hm (by omega) y h2 h3 l.length k' 0 (by omega) (by omega) hk'
/-! ### BMarksC1 -/
def MarkedC (y : List S50) (m : Int) (i : Nat) : Prop := ∀ j : Nat, j < i → (rd_T50 y j).f0 = m + 2 * j ∧ (rd_T50 y j).f1 = m + 2 * j + 1
theorem rdC_set_same (x : List S50) (i : Nat) (v : S50) (hi : i < x.length) : rd_T50 (x.set i v) i = v := by
  unfold rd_T50; simp [hi]
theorem rdC_set_other (x : List S50) (i j : Nat) (v : S50) (hj : j ≠ i) : rd_T50 (x.set i v) j = rd_T50 x j := by
  unfold rd_T50; simp [List.getElem?_set, Ne.symm hj]
theorem markChordS_loop (m0 : Int) (n : Nat) (hm : 0 ≤ m0 ∧ m0 + 2 * n ≤ 4611686018427387904) (hn : n ≤ 4611686018427387904) (d : Nat) : ∀ (k : Nat) (x : List S50) (i : Nat), x.length = n → i ≤ n → n - i = d → d < k → MarkedC x m0 i →
    ∃ y, laws_markChordS.l0 k x (m0 + 2 * i) i = some (m0 + 2 * n, y) ∧ y.length = n ∧ MarkedC y m0 n := by
  induction d with
  | zero =>
    intro k x i hx hi hd hk hM
    obtain ⟨k, rfl⟩ : ∃ m, k = m + 1 := ⟨k - 1, by omega⟩
    obtain rfl : i = n := by omega
    refine ⟨x, ?_, hx, hM⟩
    simp only [laws_markChordS.l0]
    rw [if_neg (by omega)]
  | succ d ih =>
    intro k x i hx hi hd hk hM
    obtain ⟨k, rfl⟩ : ∃ m, k = m + 1 := ⟨k - 1, by omega⟩
    simp only [laws_markChordS.l0]
    rw [if_pos (by omega), if_pos (by omega), wrap_step (by omega) (by omega), wrap_step (by omega) (by omega), wrap_step (by omega) (by omega), show (Int.toNat (i : Int)) = i from by omega]
    simp only [Option.bind_some]
    rw [rdC_set_same _ _ _ (by omega), List.set_set]
    have := ih k (x.set i ⟨m0 + 2 * i, m0 + 2 * i + 1⟩) (i + 1) (by simpa using hx) (by omega) (by omega) (by omega) (by
      intro j hj
      by_cases e : j = i
      · subst e; rw [rdC_set_same _ _ _ (by omega)]; exact ⟨rfl, rfl⟩
      · rw [rdC_set_other _ _ _ _ e]; exact hM j (by omega))
    rw [show m0 + 2 * (i : Int) + 1 + 1 = m0 + 2 * ((i + 1 : Nat) : Int) by omega, show (i : Int) + 1 = ((i + 1 : Nat) : Int) by omega]
    exact this
/-- A list of chords is marked. -/
theorem mark_C1 (k : Nat) (l : List S50) (m : Int) (hm : 0 ≤ m ∧ m + 2 * l.length ≤ 4611686018427387904) (hk : l.length < k) :
    ∃ y, laws_markChordS.f k l m = some (m + 2 * l.length, y) := by
  obtain ⟨y, h1, h2, h3⟩ := markChordS_loop m l.length hm (by omega) l.length k l 0 rfl (by omega) (by omega) hk (fun j hj => by omega)
  refine ⟨y, ?_⟩
  unfold laws_markChordS.f
  simpa using h1
/-! ### QFnExactFewestDrops -/
theorem inc_rest : ∀ (d : Nat) (f n : Int), f + d = n → Inc f n ((List.range' f.toNat d).map fun (j : Nat) => (j : Int)) ∨ f < 0
  | 0, f, n, h => .inl trivial
  | d + 1, f, n, h => by
    by_cases h0 : f < 0
    · exact .inr h0
    · left
      rw [List.range'_succ, List.map_cons]
      refine ⟨by omega, by omega, ?_⟩
      have := inc_rest d (f + 1) n (by omega)
      rw [show ((f.toNat : Nat) : Int) = f by omega]
      rw [show (f + 1).toNat = f.toNat + 1 by omega] at this
      exact this.resolve_right (by omega)
theorem drops_found (l : List S50) (hl : 0 < l.length) : ∃ r, dfsL (planeB l) (l.length - 1) l.length [] 0 = some r := by
  have hi : Inc 0 (l.length : Int) ((List.range' 1 (l.length - 1)).map fun (j : Nat) => (j : Int)) := by
    have h := inc_rest (l.length - 1) 1 (l.length : Int) (by omega)
    exact (h.resolve_right (by omega)).mono (by omega)
  refine dfsL_some (planeB l) l.length (l.length - 1) _ hi (by simp) ?_
  unfold planeB
  cases l with
  | nil => simp at hl
  | cons c m =>
    rw [allP, List.all_append]
    have hb : ∀ j : Int, 1 ≤ j → j < ((c :: m).length : Int) → ((List.range' 1 ((c :: m).length - 1)).map fun (j : Nat) => (j : Int)).contains j = true := by
      intro j h1 h2
      rw [List.contains_iff_mem, List.mem_map]
      exact ⟨j.toNat, List.mem_range'_1.2 (by omega), by omega⟩
    have h := hitIn _ c 0 (c :: m).length hb m 1 (by omega) (by simp; omega)
    have h' := hitAll _ (c :: m).length hb m 1 (by omega) (by simp; omega)
    simp only [Int.zero_add]
    rw [h, h']
    rfl
theorem specDrops_loop (l : List S50) (hl : l.length ≤ 12) (m : Nat) (r : List Int) (hr : dfsL (planeB l) m l.length [] 0 = some r) (hno : ∀ j, j < m → dfsL (planeB l) j l.length [] 0 = none) (hm : m < l.length) (d : Nat) : ∀ (k i : Nat), i + d = m → 6000 + d < k →
    spec_FewestDrops.l0 k l (i : Int) = some (r, true) := by
  induction d with
  | zero =>
    intro k i hi hk
    obtain ⟨k, rfl⟩ : ∃ t, k = t + 1 := ⟨k - 1, by omega⟩
    obtain rfl : i = m := by omega
    have c := cdDrops_eq l (by omega) i l.length [] 0 k (by omega) (by omega) (by simp; omega) (by omega)
    simp only [spec_FewestDrops.l0]
    rw [if_pos (by omega), c, hr, Option.bind_some]
    rfl
  | succ d ih =>
    intro k i hi hk
    obtain ⟨k, rfl⟩ : ∃ t, k = t + 1 := ⟨k - 1, by omega⟩
    have c := cdDrops_eq l (by omega) i l.length [] 0 k (by omega) (by omega) (by simp; omega) (by omega)
    have IH := ih k (i + 1) (by omega) (by omega)
    simp only [spec_FewestDrops.l0]
    rw [if_pos (by omega), c, hno i (by omega), Option.bind_some]
    simp only [told, Bool.false_eq_true, if_false]
    rw [wrap64_id (x := (i : Int) + 1) (by omega) (by omega)]
    exact IH
theorem least_of (P : Nat → Prop) (n : Nat) (hn : P n) : ∃ m, m ≤ n ∧ P m ∧ ∀ i, i < m → ¬ P i := by
  induction n using Nat.strongRecOn with
  | _ n ih =>
    by_cases h : ∃ i, i < n ∧ P i
    · obtain ⟨i, hi, hP⟩ := h
      obtain ⟨m, a, b, c⟩ := ih i hi hP
      exact ⟨m, by omega, b, c⟩
    · exact ⟨n, Nat.le_refl _, hn, fun i hlt hP => h ⟨i, hlt, hP⟩⟩
theorem fewestDrops_both (n : Int) (l : List S50) (hl : l.length ≤ 1048576) : ∃ r : List Int × Bool, r.1.length ≤ 100 ∧ ∀ k, l.length + 10000 ≤ k → spec_FewestDrops.f k n l = some r ∧ impl_FewestDrops.f k n l = some r := by
  by_cases h : goodB n l = true ∧ l.length ≤ 12
  · obtain ⟨hg, h12⟩ := h
    obtain ⟨h1, h2, h3, h4⟩ := good_spec n l hg
    have main : ∃ r : List Int, r.length ≤ 100 ∧ (∀ k, 8000 ≤ k → spec_FewestDrops.l0 k l 0 = some (r, true)) ∧ IsBest l.length (planeB l) r := by
      by_cases h0 : 0 < l.length
      · obtain ⟨r0, hr0⟩ := drops_found l h0
        obtain ⟨m, m1, ⟨r, m2⟩, m3⟩ := least_of (fun m => ∃ r, dfsL (planeB l) m l.length [] 0 = some r) (l.length - 1) ⟨r0, hr0⟩
        have hno : ∀ j, j < m → dfsL (planeB l) j l.length [] 0 = none := by
          intro j hj
          cases e : dfsL (planeB l) j l.length [] 0 with
          | none => rfl
          | some x => exact absurd ⟨x, e⟩ (m3 j hj)
        have hb := dfsL_best (planeB l) l.length m r m2 hno
        have hlen := inc_len hb.1 (by omega)
        exact ⟨r, by omega, fun k hk => specDrops_loop l h12 m r m2 hno (by omega) m k 0 (by omega) (by omega), hb⟩
      · obtain rfl : l = [] := List.length_eq_zero_iff.1 (by omega)
        refine ⟨[], by simp, fun k hk => ?_, trivial, rfl, fun D hD _ => ?_⟩
        · obtain ⟨k, rfl⟩ : ∃ t, k = t + 1 := ⟨k - 1, by omega⟩
          simp only [spec_FewestDrops.l0]
          rw [if_neg (by simp)]
        · match D, hD with
          | [], _ => exact bestLe_refl _
          | x :: D, hD => exact absurd hD.2.1 (by have := hD.1; simp; omega)
    obtain ⟨r, r1, r2, r3⟩ := main
    refine ⟨(r, true), r1, fun k hk => ?_⟩
    obtain ⟨best, b1, b2⟩ := fdAll_known n l h4 h12 k (by omega) (2 ^ l.length)
    have hbest : best = some r := by
      cases best with
      | none =>
        obtain ⟨s, s1, s2⟩ := bitsL_all l.length r r3.1
        exact absurd (by rw [s2]; exact r3.2.1) (b2 s s1)
      | some b => rw [isBest_unique (known_end b2) r3]
    obtain ⟨K, hK⟩ : ∃ K, k = K + 1 := ⟨k - 1, by omega⟩
    constructor
    · unfold spec_FewestDrops.f
      rw [cdGood_eq n l (by omega) k (by omega), Option.bind_some, if_pos hg, hK]
      simp only [spec_FewestDrops.j0]
      rw [decide_eq_false (by omega), if_neg (by simp)]
      exact r2 K (by omega)
    · unfold impl_FewestDrops.f
      rw [isSet_eq n l (by omega) k (by omega), Option.bind_some, if_pos ⟨hg, h12⟩, b1, hbest]
      rfl
  · refine ⟨([], false), by simp, fun k hk => ?_⟩
    obtain ⟨K, hK⟩ : ∃ K, k = K + 1 := ⟨k - 1, by omega⟩
    constructor
    · unfold spec_FewestDrops.f
      rw [cdGood_eq n l (by omega) k (by omega), Option.bind_some, hK]
      by_cases hg : goodB n l = true
      · rw [if_pos hg, decide_eq_true (by have : ¬ l.length ≤ 12 := fun e => h ⟨hg, e⟩; omega)]
        simp only [spec_FewestDrops.j0, if_true]
      · rw [if_neg hg]
        simp only [spec_FewestDrops.j0, if_true]
    · unfold impl_FewestDrops.f
      rw [isSet_eq n l (by omega) k (by omega), Option.bind_some, if_neg h]
theorem FnExactFewestDrops : ∀ (a0 : Int) (l1 : List S68), (Lit.int .i64 a0).wf = true → l1.length ≤ 9223372036854775807 → ∃ k, laws_FnExactFewestDrops.f k a0 l1 = some true := by
  intro n l _ hl
  refine ⟨l.length + 20010, ?_⟩
  obtain ⟨K, hK⟩ : ∃ K, K = l.length + 20007 := ⟨_, rfl⟩
  rw [show l.length + 20010 = K + 1 + 1 + 1 by omega]
  unfold laws_FnExactFewestDrops.f
  rw [szChordS_eq l hl]
  simp only [Option.bind_some]
  by_cases h : l.length ≤ 1048576
  · have hc := conv_len l
    rw [if_pos h, if_neg (by omega)]
    obtain ⟨⟨r, b⟩, hlen, hr⟩ := fewestDrops_both n (conv l) (by omega)
    simp only at hlen
    obtain ⟨y, m1, m2, m3⟩ := mark_held (K + 1) r 1 (by omega) (by omega)
    obtain ⟨yc, c1⟩ := mark_C1 (K + 1 + 1) (conv l) 1 (by omega) (by omega)
    have e0 : ¬ (1 + (r.length : Int) < 0) := by omega
    have e1 : ¬ (1 + 2 * (((conv l).length : Nat) : Int) < 0) := by omega
    simp only [toChordS_eq l (by omega) (K + 1 + 1 + 1) (by omega), (hr (K + 1 + 1 + 1) (by omega)).1, (hr (K + 1 + 1 + 1) (by omega)).2, Option.bind_some, eqIntS_self (K + 1 + 1 + 1) r (by omega) (by omega), if_true, bne_self_eq_false]
    simp only [laws_FnExactFewestDrops.j0, Bool.false_eq_true, if_false, toChordS_eq l (by omega) (K + 1 + 1) (by omega), eqChordS_self (K + 1 + 1) (conv l) (by omega) (by omega), Option.bind_some, if_true, c1, if_neg e1, eqIntS_self (K + 1 + 1) r (by omega) (by omega), bne_self_eq_false]
    simp only [laws_FnExactFewestDrops.j1, Bool.false_eq_true, if_false, m1, m3 (K + 1) (by omega), Option.bind_some, if_neg e0, if_true, toChordS_eq l (by omega) (K + 1) (by omega), (hr (K + 1) (by omega)).2, eqIntS_self (K + 1) r (by omega) (by omega), bne_self_eq_false]
    simp only [laws_FnExactFewestDrops.j2, Bool.false_eq_true, if_false, m3 K (by omega), Option.bind_some, if_neg e0, if_true]
  · rw [if_neg h]
    rfl

end Go.Proofs.Ytlnjfbnabjgffaa.Q
