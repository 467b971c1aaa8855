/- AddChord: both put in a chord that is not there yet, and the result is memory of its own. -/
import Derived.Test.YtkiookioejckbaaZFnExactAddChord3
namespace Go.Proofs.Ytkiookioejckbaa.Q
open Go.RowKit Go.Proofs.Ytkiookioejckbaa.X Go.Proofs.YtkiookioejckbaaW.PrintWords Go.Proofs.YtkiookioejckbaaW.PrintLast Go.Proofs.YtkiookioejckbaaW.PrintMore
set_option linter.unusedVariables false
set_option linter.unusedSimpArgs false

/-! ### BWrap -/
theorem wrap64_id {x : Int} (h0 : -9223372036854775808 ≤ x) (h1 : x ≤ 9223372036854775807) : wrap64 x = x := by unfold wrap64; omega
theorem wrap_step {x : Int} (h0 : 0 ≤ x) (h1 : x ≤ 4611686018427387904) : wrap64 (x + 1) = x + 1 := by unfold wrap64; omega
/-! ### BBase -/
theorem l1In_eq (a b c : Int) : spec_l1In.f a b c = some (decide (b ≤ a ∧ a ≤ c)) := by
  unfold spec_l1In.f
  by_cases h : a ≥ b
  · rw [if_pos h]; exact congrArg some (decide_eq_decide.2 (by omega))
  · rw [if_neg h]; exact congrArg some (decide_eq_false (by omega)).symm
theorem within_eq (a b c : Int) : impl_within.f a b c = some (decide (b ≤ a ∧ a ≤ c)) := by
  unfold impl_within.f
  by_cases h : a ≥ b
  · rw [if_pos h]; exact congrArg some (decide_eq_decide.2 (by omega))
  · rw [if_neg h]; exact congrArg some (decide_eq_false (by omega)).symm
theorem srPoints_eq (a : Int) : spec_srPoints.f a = some (decide (3 ≤ a ∧ a ≤ 60)) := by
  unfold spec_srPoints.f; rw [l1In_eq]; rfl
theorem isCircle_eq (a : Int) : impl_isCircle.f a = some (decide (3 ≤ a ∧ a ≤ 60)) := by
  unfold impl_isCircle.f; rw [within_eq]; rfl
/-! ### BOrd0 -/
/-- The order of chords. -/
def cLt (x y : S52) : Bool := decide (x.f0 < y.f0 ∨ (x.f0 = y.f0 ∧ x.f1 < y.f1))
theorem cLt_iff (x y : S52) : cLt x y = true ↔ (x.f0 < y.f0 ∨ (x.f0 = y.f0 ∧ x.f1 < y.f1)) := by unfold cLt; exact decide_eq_true_iff
theorem chord_ext {x y : S52} (h0 : x.f0 = y.f0) (h1 : x.f1 = y.f1) : x = y := by cases x; cases y; simp_all
/-- Strictly in order. -/
def Strict (l : List S52) : Prop := l.Pairwise fun x y => cLt x y = true
/-- Two lists strictly in order with the same members are the same. -/
theorem strict_unique : ∀ (l m : List S52), Strict l → Strict m → (∀ x, x ∈ l ↔ x ∈ m) → l = m
  | [], [], _, _, _ => rfl
  | [], y :: m, _, _, h => by have := (h y).2 (by simp); simp at this
  | x :: l, [], _, _, h => by have := (h x).1 (by simp); simp at this
  | x :: l, y :: m, hl, hm, h => by
    unfold Strict at hl hm
    rw [List.pairwise_cons] at hl hm
    have e : x = y := by
      have h1 := (h x).1 (by simp)
      have h2 := (h y).2 (by simp)
      rcases List.mem_cons.1 h1 with h1 | h1
      · exact h1
      · rcases List.mem_cons.1 h2 with h2 | h2
        · exact h2.symm
        · have a := hl.1 y h2
          have b := hm.1 x h1
          rw [cLt_iff] at a b
          omega
    subst e
    rw [strict_unique l m hl.2 hm.2 (fun z => by
      have hz := h z
      simp only [List.mem_cons] at hz
      constructor
      · intro hzl
        rcases hz.1 (Or.inr hzl) with e | e
        · subst e; have := hl.1 z hzl; rw [cLt_iff] at this; omega
        · exact e
      · intro hzm
        rcases hz.2 (Or.inr hzm) with e | e
        · subst e; have := hm.1 z hzm; rw [cLt_iff] at this; omega
        · exact e)]
/-- A chord put in at its place. -/
def insL (c : S52) : List S52 → List S52
  | [] => [c]
  | x :: l => if cLt x c = true then x :: insL c l else if x.f0 = c.f0 ∧ x.f1 = c.f1 then x :: l else c :: x :: l
theorem insL_mem (c : S52) : ∀ (l : List S52) (x : S52), x ∈ insL c l ↔ x = c ∨ x ∈ l
  | [], x => by simp [insL]
  | y :: l, x => by
    unfold insL
    split
    · rw [List.mem_cons, insL_mem c l x, List.mem_cons]; constructor
      · rintro (h | h | h) <;> simp [h]
      · rintro (h | h | h) <;> simp [h]
    · split
      · rename_i e; have e := chord_ext e.1 e.2; subst e; simp
      · simp
theorem insL_strict (c : S52) : ∀ (l : List S52), Strict l → Strict (insL c l)
  | [], _ => by simp [insL, Strict]
  | y :: l, h => by
    unfold Strict at h
    rw [List.pairwise_cons] at h
    unfold insL
    split
    · rename_i hy
      unfold Strict
      rw [List.pairwise_cons]
      refine ⟨fun z hz => ?_, insL_strict c l h.2⟩
      rcases (insL_mem c l z).1 hz with e | e
      · subst e; exact hy
      · exact h.1 z e
    · split
      · unfold Strict; rw [List.pairwise_cons]; exact h
      · rename_i h1 h2
        have h3 : ¬ (y.f0 = c.f0 ∧ y.f1 = c.f1) := h2
        have h4 : cLt c y = true := by rw [cLt_iff] at h1 ⊢; omega
        unfold Strict
        rw [List.pairwise_cons, List.pairwise_cons]
        refine ⟨fun z hz => ?_, h⟩
        rcases List.mem_cons.1 hz with e | e
        · subst e; exact h4
        · have h5 := h.1 z e
          rw [cLt_iff] at h4 h5 ⊢
          omega
theorem insL_len (c : S52) : ∀ (l : List S52), (insL c l).length ≤ l.length + 1
  | [] => by simp [insL]
  | y :: l => by
    unfold insL
    have := insL_len c l
    split
    · simp; omega
    · split <;> simp
/-- All chords of a list put in, one by one. -/
def putAll (acc : List S52) : List S52 → List S52
  | [] => acc
  | c :: l => putAll (insL c acc) l
theorem putAll_spec : ∀ (l acc : List S52), Strict acc → Strict (putAll acc l) ∧ ∀ x, x ∈ putAll acc l ↔ x ∈ acc ∨ x ∈ l
  | [], acc, h => ⟨h, by simp [putAll]⟩
  | c :: l, acc, h => by
    obtain ⟨h1, h2⟩ := putAll_spec l (insL c acc) (insL_strict c acc h)
    refine ⟨h1, fun x => ?_⟩
    unfold putAll
    rw [h2, insL_mem, List.mem_cons]
    constructor
    · rintro ((h | h) | h) <;> simp [h]
    · rintro (h | h | h) <;> simp [h]
theorem putAll_len : ∀ (l acc : List S52), (putAll acc l).length ≤ acc.length + l.length
  | [], acc => by simp [putAll]
  | c :: l, acc => by
    have h1 := putAll_len l (insL c acc)
    have h2 := insL_len c acc
    unfold putAll
    simp only [List.length_cons]
    omega
theorem rdC_get (l : List S52) (i : Int) (h0 : 0 ≤ i) (h1 : i < l.length) : rd_T52 l i = l[i.toNat]'(by omega) := by
  unfold rd_T52
  have h : i.toNat < l.length := by omega
  simp [h]
theorem srLess_eq (a b c d : Int) : spec_srLess.f a b c d = some (cLt ⟨a, b⟩ ⟨c, d⟩) := by
  unfold spec_srLess.f cLt
  split
  · rename_i h; exact congrArg some (decide_eq_true (Or.inl h)).symm
  · split
    · rename_i h1 h2
      refine congrArg some (decide_eq_decide.2 ?_)
      simp only
      omega
    · rename_i h1 h2
      refine congrArg some (decide_eq_false ?_).symm
      simp only
      omega
theorem rdC_append (l m : List S52) (x : S52) : rd_T52 (l ++ x :: m) (l.length : Int) = x := by
  rw [rdC_get _ _ (by omega) (by simp; omega)]
  simp
def mkC (a b : Int) : S52 := ⟨mn a b, mx a b⟩
/-- A chord of n points. -/
def Proper (n : Int) (c : S52) : Prop := 0 ≤ c.f0 ∧ c.f0 < c.f1 ∧ c.f1 < n
theorem mkC_proper (n a b : Int) (ha : 0 ≤ a ∧ a < n) (hb : 0 ≤ b ∧ b < n) (h : a ≠ b) : Proper n (mkC a b) := by
  unfold Proper mkC mn mx
  simp only
  split <;> split <;> omega
/-! ### BPut -/
theorem srPut_loop (c : S52) (m : List S52) : ∀ (k : Nat) (pre : List S52), pre.length + m.length ≤ 1000 → m.length < k →
    spec_srPut.l0 k (pre ++ m) pre.length c.f0 c.f1 = some (pre ++ insL c m) := by
  induction m with
  | nil =>
    intro k pre hl hk
    obtain ⟨k, rfl⟩ : ∃ t, k = t + 1 := ⟨k - 1, by omega⟩
    simp only [List.length_nil, Nat.add_zero] at hl
    simp only [spec_srPut.l0, List.append_nil, insL]
    rw [if_neg (by omega)]
    simp only [Option.bind_some, List.nil_append, Int.toNat_natCast, List.take_length, List.drop_length, List.append_nil, List.length_nil, List.length_append, List.length_cons]
    rw [if_pos (by omega), if_pos (by omega), if_pos (by omega), if_pos (by omega), if_pos (by omega)]
  | cons x m ih =>
    intro k pre hl hk
    obtain ⟨k, rfl⟩ : ∃ t, k = t + 1 := ⟨k - 1, by omega⟩
    simp only [List.length_cons] at hl hk
    simp only [spec_srPut.l0, insL]
    have hlen : ((pre ++ x :: m).length : Int) = pre.length + m.length + 1 := by simp; omega
    rw [if_pos (by omega), if_pos (by omega)]
    have hrd : rd_T52 (pre ++ x :: m) pre.length = x := by
      rw [rdC_get _ _ (by omega) (by omega)]
      simp
    rw [hrd, srLess_eq]
    simp only [Option.bind_some]
    by_cases h : cLt x c = true
    · rw [if_pos h, if_pos h, wrap64_id (by omega) (by omega)]
      have := ih k (pre ++ [x]) (by simp; omega) (by omega)
      simp only [List.append_assoc, List.cons_append, List.nil_append, List.length_append, List.length_cons, List.length_nil] at this
      rw [show (pre.length : Int) + 1 = ((pre.length + (0 + 1) : Nat) : Int) by omega]
      exact this
    · rw [if_neg h, if_neg h]
      by_cases e : x.f0 = c.f0 ∧ x.f1 = c.f1
      · rw [if_pos (by simpa using e), if_pos e]
      · rw [if_neg (by simpa using e), if_neg e, if_pos (by omega)]
        simp only [Int.toNat_natCast, List.take_left, List.drop_left, List.nil_append, List.length_nil, List.length_append, List.length_cons]
        rw [if_pos (by omega), if_pos (by omega), if_pos (by omega)]
        simp
theorem srPut_eq (c : S52) (l : List S52) (k : Nat) (hl : l.length ≤ 1000) (hk : l.length < k) : spec_srPut.f k l c.f0 c.f1 = some (insL c l) := by
  unfold spec_srPut.f
  simpa using srPut_loop c l k [] (by simpa using hl) hk
/-! ### BIsChord -/
def isCh (n a b : Int) : Prop := 0 ≤ a ∧ a < b ∧ b < n
instance (n a b : Int) : Decidable (isCh n a b) := by unfold isCh; infer_instance
theorem srIs_eq (n a b : Int) (hn : 3 ≤ n ∧ n ≤ 60) : spec_srIs.f n a b = some (decide (isCh n a b)) := by
  unfold spec_srIs.f
  rw [wrap64_id (by omega) (by omega), l1In_eq]
  simp only [Option.bind_some]
  by_cases h : 0 ≤ a ∧ a ≤ n - 1
  · rw [if_pos (decide_eq_true h), l1In_eq, wrap64_id (by omega) (by omega)]
    simp only [Option.bind_some]
    refine congrArg some (decide_eq_decide.2 ?_)
    unfold isCh
    omega
  · rw [if_neg (by simpa using h)]
    refine congrArg some (decide_eq_false ?_).symm
    unfold isCh
    omega
theorem implIsChord_eq (n a b : Int) : impl_isChord.f n a b = some (decide (isCh n a b)) := by
  unfold impl_isChord.f
  by_cases h1 : a ≥ 0
  · rw [if_pos h1]
    by_cases h2 : a < b
    · rw [if_pos h2]
      refine congrArg some (decide_eq_decide.2 ?_)
      unfold isCh
      omega
    · rw [if_neg h2]
      refine congrArg some (decide_eq_false ?_).symm
      unfold isCh
      omega
  · rw [if_neg h1]
    refine congrArg some (decide_eq_false ?_).symm
    unfold isCh
    omega
/-! ### BSet -/
theorem compare_eq (a b : Int) : cmp_Compare_int.f a b = some (if a < b then -1 else if a > b then 1 else 0) := by
  unfold cmp_Compare_int.f cmp_isNaN_int.f
  simp
  split
  · rfl
  · split <;> rfl
theorem compareChords_eq (x y : S52) (k : Nat) (hk : 4 ≤ k) : ∃ r : Int, impl_compareChords.f k x.f0 x.f1 y.f0 y.f1 = some r ∧ (r ≥ 0 ↔ ¬ cLt x y = true) := by
  unfold impl_compareChords.f
  simp only [compare_eq, Option.bind_some]
  obtain ⟨k, rfl⟩ : ∃ t, k = t + 4 := ⟨k - 4, by omega⟩
  have h0 : wrap64 (0 + 1) = 1 := wrap64_id (by omega) (by omega)
  have h1 : wrap64 (1 + 1) = 2 := wrap64_id (by omega) (by omega)
  simp only [cmp_Or_int.f, cmp_Or_int.l0, List.length_cons, List.length_nil, h0, h1, rd, cLt_iff]
  by_cases c0 : x.f0 < y.f0
  · simp [c0]
  · by_cases c1 : x.f0 > y.f0
    · simp [c0, c1]; omega
    · have e : x.f0 = y.f0 := by omega
      by_cases d0 : x.f1 < y.f1
      · simp [e, d0]
      · by_cases d1 : x.f1 > y.f1
        · simp [e, d0, d1]
        · simp [e, d0, d1]
def isChB (n : Int) (c : S52) : Bool := decide (isCh n c.f0 c.f1)
/-- Chords of n points in order, behind p. -/
def okFrom (n : Int) : Option S52 → List S52 → Bool
  | _, [] => true
  | none, c :: l => isChB n c && okFrom n (some c) l
  | some p, c :: l => isChB n c && (cLt p c && okFrom n (some c) l)
theorem okFrom_spec (n : Int) : ∀ (l : List S52) (p : Option S52), okFrom n p l = true → Strict l ∧ (∀ c ∈ l, Proper n c) ∧ ∀ q, p = some q → ∀ c ∈ l, cLt q c = true
  | [], p, _ => ⟨by simp [Strict], by simp, by simp⟩
  | c :: l, p, h => by
    have h1 : isChB n c = true ∧ okFrom n (some c) l = true ∧ ∀ q, p = some q → cLt q c = true := by
      cases p with
      | none => simp only [okFrom, Bool.and_eq_true] at h; exact ⟨h.1, h.2, by simp⟩
      | some q => simp only [okFrom, Bool.and_eq_true] at h; exact ⟨h.1, h.2.2, fun q' e => by cases e; exact h.2.1⟩
    obtain ⟨a, b, c1⟩ := okFrom_spec n l (some c) h1.2.1
    have c2 := c1 c rfl
    refine ⟨?_, ?_, ?_⟩
    · unfold Strict at a ⊢; rw [List.pairwise_cons]; exact ⟨c2, a⟩
    · intro d hd
      rcases List.mem_cons.1 hd with e | e
      · subst e; exact (of_decide_eq_true h1.1 : isCh n d.f0 d.f1)
      · exact b d e
    · intro q e d hd
      have h3 := h1.2.2 q e
      rcases List.mem_cons.1 hd with e | e
      · subst e; exact h3
      · have h4 := c2 d e
        rw [cLt_iff] at h3 h4 ⊢
        omega
theorem okFrom_none (n : Int) (c : S52) (m : List S52) : okFrom n none (c :: m) = (isChB n c && okFrom n (some c) m) := rfl
theorem okFrom_some (n : Int) (p c : S52) (m : List S52) : okFrom n (some p) (c :: m) = (isChB n c && (cLt p c && okFrom n (some c) m)) := rfl
def lastO (pre : List S52) : Option S52 := pre.getLast?
theorem rd_last (pre m : List S52) (p : S52) : rd_T52 ((pre ++ [p]) ++ m) ((pre.length : Int) + 1 - 1) = p := by
  rw [show (pre.length : Int) + 1 - 1 = pre.length by omega, List.append_assoc]
  exact rdC_append pre m p
theorem cdGood_loop (n : Int) (hn : 3 ≤ n ∧ n ≤ 60) (m : List S52) : ∀ (k : Nat) (pre : List S52), pre.length + m.length ≤ 1000000000 → m.length < k →
    spec_cdGood.l0 k n (pre ++ m) (pre ++ m) ((pre ++ m).length : Int) pre.length = some (okFrom n (lastO pre) m) := by
  induction m with
  | nil =>
    intro k pre hl hk
    obtain ⟨k, rfl⟩ : ∃ t, k = t + 1 := ⟨k - 1, by omega⟩
    simp only [spec_cdGood.l0, List.append_nil]
    rw [if_neg (by omega)]
    simp [okFrom]
  | cons x m ih =>
    intro k pre hl hk
    obtain ⟨k, rfl⟩ : ∃ t, k = t + 1 := ⟨k - 1, by omega⟩
    simp only [List.length_cons] at hl hk
    have hlen : ((pre ++ x :: m).length : Int) = pre.length + m.length + 1 := by simp; omega
    simp only [spec_cdGood.l0]
    rw [if_pos (by omega), if_pos (by omega), if_pos (by omega), rdC_append, srIs_eq n _ _ hn]
    simp only [Option.bind_some]
    have IH := ih k (pre ++ [x]) (by simp; omega) (by omega)
    simp only [List.append_assoc, List.cons_append, List.nil_append] at IH
    have hpl : (((pre ++ [x]).length : Nat) : Int) = (pre.length : Int) + 1 := by simp
    have hla : lastO (pre ++ [x]) = some x := by unfold lastO; simp
    rw [hpl, hla] at IH
    by_cases hc : isCh n x.f0 x.f1
    · have hcB : isChB n x = true := decide_eq_true hc
      rw [if_pos (decide_eq_true hc)]
      rcases List.eq_nil_or_concat pre with e | ⟨q, p, e⟩
      · subst e
        rw [if_neg (by simp)]
        rw [wrap64_id (by omega) (by omega), IH]
        have e1 : lastO ([] : List S52) = none := rfl
        rw [e1, okFrom_none, hcB, Bool.true_and]
      · rw [List.concat_eq_append] at e
        subst e
        have hql : (((q ++ [p]).length : Nat) : Int) = (q.length : Int) + 1 := by simp
        have hla2 : lastO (q ++ [p]) = some p := by unfold lastO; simp
        rw [if_pos (by omega), wrap64_id (by omega) (by omega), if_pos (by omega), if_pos (by omega), hql, rd_last, srLess_eq]
        simp only [Option.bind_some]
        have e0 : (⟨x.f0, x.f1⟩ : S52) = x := rfl
        have e1 : (⟨p.f0, p.f1⟩ : S52) = p := rfl
        rw [e0, e1, hla2, okFrom_some, hcB, Bool.true_and]
        rw [wrap64_id (by omega) (by omega)]
        rw [hql] at IH
        by_cases hp : cLt p x = true
        · rw [if_pos hp, IH, hp, Bool.true_and]
        · rw [if_neg hp]
          simp [hp]
    · have hcB : isChB n x = false := decide_eq_false hc
      rw [if_neg (by simpa using hc)]
      cases hlo : lastO pre with
      | none => rw [okFrom_none, hcB]; rfl
      | some p => rw [okFrom_some, hcB]; rfl
/-- A set of chords of n points. -/
def goodB (n : Int) (l : List S52) : Bool := decide (3 ≤ n ∧ n ≤ 60) && (decide (l.length ≤ 40) && okFrom n none l)
theorem cdGood_eq (n : Int) (l : List S52) (hl : l.length ≤ 1000000000) (k : Nat) (hk : l.length + 1 < k) : spec_cdGood.f k n l = some (goodB n l) := by
  unfold spec_cdGood.f goodB
  rw [srPoints_eq]
  obtain ⟨k, rfl⟩ : ∃ t, k = t + 1 := ⟨k - 1, by omega⟩
  simp only [Option.bind_some, spec_cdGood.j0]
  by_cases h : 3 ≤ n ∧ n ≤ 60
  · rw [if_pos (decide_eq_true h), decide_eq_true h, Bool.true_and]
    by_cases h2 : l.length ≤ 40
    · rw [if_neg (by simp; omega), decide_eq_true h2, Bool.true_and]
      exact cdGood_loop n h l k [] (by simpa using hl) (by omega)
    · rw [if_pos (by simp; omega), decide_eq_false h2, Bool.false_and]
  · rw [if_neg (by simpa using h), decide_eq_false h]
    rfl
theorem areChords_loop (n : Int) (hn : 3 ≤ n ∧ n ≤ 60) (m : List S52) : ∀ (k : Nat) (pre : List S52), pre.length + m.length ≤ 1000000000 → m.length + 4 < k →
    impl_AreChords.l0 k n (pre ++ m) (pre ++ m) ((pre ++ m).length : Int) pre.length = some (okFrom n (lastO pre) m && decide (pre.length + m.length ≤ 40)) := by
  induction m with
  | nil =>
    intro k pre hl hk
    obtain ⟨k, rfl⟩ : ∃ t, k = t + 1 := ⟨k - 1, by omega⟩
    simp only [impl_AreChords.l0, List.append_nil]
    rw [if_neg (by omega)]
    simp only [okFrom, Bool.true_and, List.length_nil, Nat.add_zero]
    exact congrArg some (decide_eq_decide.2 (by omega))
  | cons x m ih =>
    intro k pre hl hk
    obtain ⟨k, rfl⟩ : ∃ t, k = t + 1 := ⟨k - 1, by omega⟩
    simp only [List.length_cons] at hl hk
    have hlen : ((pre ++ x :: m).length : Int) = pre.length + m.length + 1 := by simp; omega
    simp only [impl_AreChords.l0]
    rw [if_pos (by omega), if_pos (by omega), if_pos (by omega), rdC_append, implIsChord_eq]
    simp only [Option.bind_some]
    have IH := ih k (pre ++ [x]) (by simp; omega) (by omega)
    simp only [List.append_assoc, List.cons_append, List.nil_append] at IH
    have hpl : (((pre ++ [x]).length : Nat) : Int) = (pre.length : Int) + 1 := by simp
    have hpn : (pre ++ [x]).length + m.length = pre.length + (x :: m).length := by simp; omega
    have hla : lastO (pre ++ [x]) = some x := by unfold lastO; simp
    rw [hpl, hla, hpn] at IH
    by_cases hc : isCh n x.f0 x.f1
    · have hcB : isChB n x = true := decide_eq_true hc
      rw [if_pos (decide_eq_true hc)]
      rcases List.eq_nil_or_concat pre with e | ⟨q, p, e⟩
      · subst e
        rw [if_neg (by simp)]
        rw [wrap64_id (by omega) (by omega), IH]
        have e1 : lastO ([] : List S52) = none := rfl
        rw [e1, okFrom_none, hcB, Bool.true_and]
      · rw [List.concat_eq_append] at e
        subst e
        have hql : (((q ++ [p]).length : Nat) : Int) = (q.length : Int) + 1 := by simp
        have hla2 : lastO (q ++ [p]) = some p := by unfold lastO; simp
        rw [if_pos (by omega), wrap64_id (by omega) (by omega), if_pos (by omega), if_pos (by omega), hql, rd_last]
        obtain ⟨r, hr1, hr2⟩ := compareChords_eq p x k (by omega)
        rw [hr1]
        simp only [Option.bind_some]
        rw [hla2, okFrom_some, hcB, Bool.true_and]
        rw [wrap64_id (by omega) (by omega)]
        rw [hql] at IH
        by_cases hp : cLt p x = true
        · rw [if_neg (fun z => hr2.1 z hp), IH, hp, Bool.true_and]
        · rw [if_pos (hr2.2 hp)]
          simp [hp]
    · have hcB : isChB n x = false := decide_eq_false hc
      rw [if_neg (by simpa using hc)]
      cases hlo : lastO pre with
      | none => rw [okFrom_none, hcB]; rfl
      | some p => rw [okFrom_some, hcB]; rfl
theorem areChords_eq (n : Int) (l : List S52) (hl : l.length ≤ 1000000000) (k : Nat) (hk : l.length + 4 < k) : impl_AreChords.f k n l = some (goodB n l) := by
  unfold impl_AreChords.f goodB
  rw [within_eq]
  simp only [Option.bind_some]
  by_cases h : 3 ≤ n ∧ n ≤ 60
  · rw [if_pos (decide_eq_true h), decide_eq_true h, Bool.true_and]
    have := areChords_loop n h l k [] (by simpa using hl) hk
    simp only [List.nil_append, List.length_nil, Nat.zero_add] at this
    rw [Bool.and_comm] at this
    exact this
  · rw [if_neg (by simpa using h), decide_eq_false h]
    rfl
theorem isSet_eq (n : Int) (l : List S52) (hl : l.length ≤ 1000000000) (k : Nat) (hk : l.length + 4 < k) : impl_isSet.f k n l = some (goodB n l) := by
  unfold impl_isSet.f
  rw [isCircle_eq, areChords_eq n l hl k hk]
  simp only [Option.bind_some]
  by_cases h : 3 ≤ n ∧ n ≤ 60
  · rw [if_pos (decide_eq_true h)]
  · rw [if_neg (by simpa using h)]
    unfold goodB
    rw [decide_eq_false h]
    rfl
theorem good_spec (n : Int) (l : List S52) (h : goodB n l = true) : (3 ≤ n ∧ n ≤ 60) ∧ l.length ≤ 40 ∧ Strict l ∧ ∀ c ∈ l, Proper n c := by
  unfold goodB at h
  simp only [Bool.and_eq_true, decide_eq_true_eq] at h
  obtain ⟨a, b, _⟩ := okFrom_spec n l none h.2.2
  exact ⟨h.1, h.2.1, a, b⟩
/-! ### BToC -/
def conv (l : List S50) : List S52 := l.map fun x => ⟨x.f0, x.f1⟩
theorem conv_len (l : List S50) : (conv l).length = l.length := by unfold conv; simp
theorem rdL_append (l m : List S50) (x : S50) : rd_T50 (l ++ x :: m) (l.length : Int) = x := by
  unfold rd_T50
  simp
theorem toChordS_loop (m : List S50) : ∀ (k : Nat) (pre : List S50), pre.length + m.length ≤ 1000000000 → m.length < k →
    laws_toChordS.l0 k (pre ++ m) (conv pre ++ List.replicate m.length z52) pre.length = some (conv (pre ++ m)) := by
  induction m with
  | nil =>
    intro k pre hl hk
    obtain ⟨k, rfl⟩ : ∃ t, k = t + 1 := ⟨k - 1, by omega⟩
    simp only [laws_toChordS.l0, List.append_nil, List.length_nil, List.replicate_zero]
    rw [if_neg (by omega)]
  | cons x m ih =>
    intro k pre hl hk
    obtain ⟨k, rfl⟩ : ∃ t, k = t + 1 := ⟨k - 1, by omega⟩
    simp only [List.length_cons] at hl hk
    have hlen : ((pre ++ x :: m).length : Int) = pre.length + m.length + 1 := by simp; omega
    have hlen2 : ((conv pre ++ List.replicate (x :: m).length z52).length : Int) = pre.length + m.length + 1 := by simp [conv_len]; omega
    simp only [laws_toChordS.l0]
    rw [if_pos (by omega), if_pos (by omega), rdL_append]
    unfold laws_toChord.f
    simp only [Option.bind_some]
    rw [if_pos (by omega), wrap64_id (by omega) (by omega), Int.toNat_natCast]
    have e : (conv pre ++ List.replicate (x :: m).length z52).set pre.length ⟨x.f0, x.f1⟩ = conv (pre ++ [x]) ++ List.replicate m.length z52 := by
      rw [List.length_cons, List.replicate_succ]
      conv => lhs; arg 2; rw [← conv_len pre]
      rw [List.set_append_right _ _ (Nat.le_refl _), Nat.sub_self]
      unfold Q.conv
      simp
    rw [e]
    have IH := ih k (pre ++ [x]) (by simp; omega) (by omega)
    simp only [List.append_assoc, List.cons_append, List.nil_append] at IH ⊢
    have hpl : (((pre ++ [x]).length : Nat) : Int) = (pre.length : Int) + 1 := by simp
    rw [hpl] at IH
    exact IH
theorem toChordS_eq (l : List S50) (hl : l.length ≤ 1000000000) (k : Nat) (hk : l.length < k) : laws_toChordS.f k l = some (conv l) := by
  unfold laws_toChordS.f
  rw [if_pos (by omega), if_pos (by omega), Int.toNat_natCast]
  simpa [conv] using toChordS_loop l k [] (by simpa using hl) hk
theorem szChordS_eq (l : List S50) (hl : l.length ≤ 9223372036854775807) : laws_szChordS.f l 1048576 = some (if l.length ≤ 1048576 then 1048576 - (l.length : Int) else -1) := by
  unfold laws_szChordS.f
  rw [wrap64_id (by omega) (by omega)]
  by_cases h : l.length ≤ 1048576
  · rw [if_neg (by omega), if_pos h]
  · rw [if_pos (by omega), if_neg h]
/-! ### BEqC -/
theorem eqChord_self (a b : Int) : laws_eqChord.f a b a b = some true := by unfold laws_eqChord.f; simp
theorem eqChordS_loop (l : List S52) (hl : l.length ≤ 4611686018427387904) (d : Nat) : ∀ (k : Nat) (i : Int), 0 ≤ i → i ≤ l.length → (l.length : Int) - i = d → d < k → laws_eqChordS.l0 k l l i = some true := by
  induction d with
  | zero =>
    intro k i h0 h1 hd hk
    obtain ⟨k, rfl⟩ : ∃ m, k = m + 1 := ⟨k - 1, by omega⟩
    simp only [laws_eqChordS.l0]
    rw [if_neg (by omega)]
  | succ d ih =>
    intro k i h0 h1 hd hk
    obtain ⟨k, rfl⟩ : ∃ m, k = m + 1 := ⟨k - 1, by omega⟩
    simp only [laws_eqChordS.l0]
    rw [if_pos (by omega), if_pos (by omega), if_pos (by omega), eqChord_self, wrap64_id (by omega) (by omega)]
    simp only [Option.bind_some, if_true]
    exact ih k (i + 1) (by omega) (by omega) (by omega) (by omega)
theorem eqChordS_self (k : Nat) (l : List S52) (hl : l.length ≤ 4611686018427387904) (hk : l.length < k) : laws_eqChordS.f k l l = some true := by
  unfold laws_eqChordS.f
  rw [if_pos rfl]
  exact eqChordS_loop l hl l.length k 0 (by omega) (by omega) (by omega) hk
/-! ### BMarksC -/
def MarkedC (y : List S52) (m : Int) (i : Nat) : Prop := ∀ j : Nat, j < i → (rd_T52 y j).f0 = m + 2 * j ∧ (rd_T52 y j).f1 = m + 2 * j + 1
theorem rdC_set_same (x : List S52) (i : Nat) (v : S52) (hi : i < x.length) : rd_T52 (x.set i v) i = v := by
  unfold rd_T52; simp [hi]
theorem rdC_set_other (x : List S52) (i j : Nat) (v : S52) (hj : j ≠ i) : rd_T52 (x.set i v) j = rd_T52 x j := by
  unfold rd_T52; simp [List.getElem?_set, Ne.symm hj]
theorem markChordS_loop (m0 : Int) (n : Nat) (hm : 0 ≤ m0 ∧ m0 + 2 * n ≤ 4611686018427387904) (hn : n ≤ 4611686018427387904) (d : Nat) : ∀ (k : Nat) (x : List S52) (i : Nat), x.length = n → i ≤ n → n - i = d → d < k → MarkedC x m0 i →
    ∃ y, laws_markChordS.l0 k x (m0 + 2 * i) i = some (m0 + 2 * n, y) ∧ y.length = n ∧ MarkedC y m0 n := by
  induction d with
  | zero =>
    intro k x i hx hi hd hk hM
    obtain ⟨k, rfl⟩ : ∃ m, k = m + 1 := ⟨k - 1, by omega⟩
    obtain rfl : i = n := by omega
    refine ⟨x, ?_, hx, hM⟩
    simp only [laws_markChordS.l0]
    rw [if_neg (by omega)]
  | succ d ih =>
    intro k x i hx hi hd hk hM
    obtain ⟨k, rfl⟩ : ∃ m, k = m + 1 := ⟨k - 1, by omega⟩
    simp only [laws_markChordS.l0]
    rw [if_pos (by omega), if_pos (by omega), wrap_step (by omega) (by omega), wrap_step (by omega) (by omega), wrap_step (by omega) (by omega), show (Int.toNat (i : Int)) = i from by omega]
    simp only [Option.bind_some]
    rw [rdC_set_same _ _ _ (by omega), List.set_set]
    have := ih k (x.set i ⟨m0 + 2 * i, m0 + 2 * i + 1⟩) (i + 1) (by simpa using hx) (by omega) (by omega) (by omega) (by
      intro j hj
      by_cases e : j = i
      · subst e; rw [rdC_set_same _ _ _ (by omega)]; exact ⟨rfl, rfl⟩
      · rw [rdC_set_other _ _ _ _ e]; exact hM j (by omega))
    rw [show m0 + 2 * (i : Int) + 1 + 1 = m0 + 2 * ((i + 1 : Nat) : Int) by omega, show (i : Int) + 1 = ((i + 1 : Nat) : Int) by omega]
    exact this
theorem heldChordS_loop (m0 : Int) (n : Nat) (hm : 0 ≤ m0 ∧ m0 + 2 * n ≤ 4611686018427387904) (hn : n ≤ 4611686018427387904) (x : List S52) (hx : x.length = n) (hM : MarkedC x m0 n) (d : Nat) : ∀ (k : Nat) (i : Nat), i ≤ n → n - i = d → d < k →
    laws_heldChordS.l0 k x (m0 + 2 * i) i = some (m0 + 2 * n) := by
  induction d with
  | zero =>
    intro k i hi hd hk
    obtain ⟨k, rfl⟩ : ∃ m, k = m + 1 := ⟨k - 1, by omega⟩
    obtain rfl : i = n := by omega
    simp only [laws_heldChordS.l0]
    rw [if_neg (by omega)]
  | succ d ih =>
    intro k i hi hd hk
    obtain ⟨k, rfl⟩ : ∃ m, k = m + 1 := ⟨k - 1, by omega⟩
    simp only [laws_heldChordS.l0]
    have hMi := hM i (by omega)
    rw [if_pos (by omega), if_pos (by omega), wrap_step (by omega) (by omega), wrap_step (by omega) (by omega), wrap_step (by omega) (by omega), if_pos hMi.1, if_pos hMi.2]
    have := ih k (i + 1) (by omega) (by omega) (by omega)
    rw [show m0 + 2 * (i : Int) + 1 + 1 = m0 + 2 * ((i + 1 : Nat) : Int) by omega, show (i : Int) + 1 = ((i + 1 : Nat) : Int) by omega]
    exact this
/-- A list of chords is marked, and then held. -/
theorem mark_heldC (k : Nat) (l : List S52) (m : Int) (hm : 0 ≤ m ∧ m + 2 * l.length ≤ 4611686018427387904) (hk : l.length < k) :
    ∃ y, laws_markChordS.f k l m = some (m + 2 * l.length, y) ∧ y.length = l.length ∧ ∀ k', l.length < k' → laws_heldChordS.f k' y m = some (m + 2 * l.length) := by
  obtain ⟨y, h1, h2, h3⟩ := markChordS_loop m l.length hm (by omega) l.length k l 0 rfl (by omega) (by omega) hk (fun j hj => by omega)
  refine ⟨y, ?_, h2, ?_⟩
  · unfold laws_markChordS.f
    simpa using h1
  · intro k' hk'
    unfold laws_heldChordS.f
    simpa using heldChordS_loop m l.length hm (by omega) y h2 h3 l.length k' 0 (by omega) (by omega) hk'
/-! ### QFnExactAddChord -/
theorem bsL_spec (q : Int → Int) (n : Nat) (mono : ∀ i j : Nat, i ≤ j → j < n → q j < 0 → q i < 0) : ∀ (fuel lo hi : Nat), hi ≤ n → lo ≤ hi → hi - lo ≤ fuel → (∀ t : Nat, t < lo → q t < 0) → (∀ t : Nat, hi ≤ t → t < n → ¬ q t < 0) →
    (∀ t : Nat, t < bsL q fuel lo hi → q t < 0) ∧ (∀ t : Nat, bsL q fuel lo hi ≤ t → t < n → ¬ q t < 0)
  | 0, lo, hi, h1, h2, h3, h4, h5 => by
    rw [bsL_ge q 0 lo hi (by omega)]
    exact ⟨h4, fun t ht hn => h5 t (by omega) hn⟩
  | fuel + 1, lo, hi, h1, h2, h3, h4, h5 => by
    by_cases h : lo < hi
    · rw [bsL_lt q fuel lo hi h]
      by_cases hq : q (((lo + hi) / 2 : Nat) : Int) < 0
      · rw [if_pos hq]
        exact bsL_spec q n mono fuel _ _ h1 (by omega) (by omega) (fun t ht => mono t ((lo + hi) / 2) (by omega) (by omega) hq) h5
      · rw [if_neg hq]
        exact bsL_spec q n mono fuel _ _ (by omega) (by omega) (by omega) h4 (fun t ht hn hqt => hq (mono _ t ht hn hqt))
    · rw [bsL_ge q _ lo hi h]
      exact ⟨h4, fun t ht hn => h5 t (by omega) hn⟩
theorem cmpC_neg (x : S52) (a b : Int) : cmpC x a b < 0 ↔ cLt x ⟨a, b⟩ = true := by
  rw [cLt_iff]
  unfold cmpC
  simp only
  repeat' split
  all_goals omega
theorem cmpC_zero (x : S52) (a b : Int) : cmpC x a b = 0 ↔ x = ⟨a, b⟩ := by
  constructor
  · intro h
    unfold cmpC at h
    refine chord_ext ?_ ?_ <;> simp only <;> (repeat' split at h) <;> omega
  · rintro rfl
    unfold cmpC
    simp
theorem insL_at (c : S52) : ∀ (l : List S52) (I : Nat), I ≤ l.length → (∀ t (h : t < l.length), t < I → cLt l[t] c = true) → (∀ t (h : t < l.length), I ≤ t → ¬ cLt l[t] c = true) → c ∉ l → insL c l = l.take I ++ [c] ++ l.drop I
  | [], I, _, _, _, _ => by simp [insL]
  | x :: l, 0, _, _, h2, h3 => by
    have h := h2 0 (by simp) (Nat.le_refl _)
    simp only [List.getElem_cons_zero] at h
    unfold insL
    rw [if_neg h, if_neg (fun e => h3 (by rw [← chord_ext e.1 e.2]; simp))]
    simp
  | x :: l, I + 1, h0, h1, h2, h3 => by
    have h := h1 0 (by simp) (by omega)
    simp only [List.getElem_cons_zero] at h
    unfold insL
    rw [if_pos h, insL_at c l I (by simpa using h0) (fun t ht hi => h1 (t + 1) (by simpa using ht) (by omega)) (fun t ht hi => h2 (t + 1) (by simpa using ht) (by omega)) (fun h => h3 (by simp [h]))]
    simp
theorem hasC_iff (l : List S52) (a b : Int) : hasC l a b = true ↔ (⟨a, b⟩ : S52) ∈ l := by
  unfold hasC
  rw [List.any_eq_true]
  constructor
  · rintro ⟨x, hx, h⟩
    simp only [Bool.and_eq_true, decide_eq_true_eq] at h
    rw [show (⟨a, b⟩ : S52) = x from chord_ext h.1 h.2]
    exact hx
  · intro h
    exact ⟨_, h, by simp⟩
theorem bsOf_says (l : List S52) (hs : Strict l) (a b : Int) : (hasC l a b = bsHit l a b) ∧ (hasC l a b = false → insL ⟨a, b⟩ l = l.take (bsOf l a b) ++ [⟨a, b⟩] ++ l.drop (bsOf l a b)) := by
  have hget : ∀ (t : Nat) (h : t < l.length), rd_T52 l (t : Int) = l[t] := fun t h => by rw [rdC_get l t (by omega) (by omega)]; rfl
  have hlt : ∀ (t u : Nat) (ht : t < u) (hu : u < l.length), cLt l[t] l[u] = true := fun t u ht hu => List.pairwise_iff_getElem.1 hs t u (by omega) hu ht
  have mono : ∀ i j : Nat, i ≤ j → j < l.length → cmpC (rd_T52 l (j : Int)) a b < 0 → cmpC (rd_T52 l (i : Int)) a b < 0 := by
    intro i j hij hj h
    rcases Nat.eq_or_lt_of_le hij with e | e
    · subst e; exact h
    · rw [hget j hj, cmpC_neg, cLt_iff] at h
      rw [hget i (by omega), cmpC_neg, cLt_iff]
      have := hlt i j e hj
      rw [cLt_iff] at this
      simp only at h ⊢
      omega
  obtain ⟨p1, p2⟩ := bsL_spec (fun i => cmpC (rd_T52 l i) a b) l.length mono l.length 0 l.length (Nat.le_refl _) (Nat.zero_le _) (by omega) (fun t ht => by omega) (fun t h1 h2 => by omega)
  have hle : bsOf l a b ≤ l.length := bsL_le _ _ _ _ (Nat.zero_le _)
  have q1 : ∀ t : Nat, t < bsOf l a b → cmpC (rd_T52 l (t : Int)) a b < 0 := p1
  have q2 : ∀ t : Nat, bsOf l a b ≤ t → t < l.length → ¬ cmpC (rd_T52 l (t : Int)) a b < 0 := p2
  refine ⟨?_, fun hn => ?_⟩
  · rw [Bool.eq_iff_iff, hasC_iff]
    unfold bsHit
    simp only [Bool.and_eq_true, decide_eq_true_eq]
    constructor
    · intro hm
      obtain ⟨t, ht, e⟩ := List.getElem_of_mem hm
      have hz : ¬ t < bsOf l a b := by
        intro h
        have := q1 t h
        rw [hget t ht, e, (cmpC_zero _ a b).2 rfl] at this
        omega
      have hI : bsOf l a b < l.length := by omega
      refine ⟨hI, ?_⟩
      rcases Nat.eq_or_lt_of_le (Nat.le_of_not_lt hz) with h | h
      · rw [h, hget t ht, e]
        exact (cmpC_zero _ a b).2 rfl
      · have h1 := hlt _ t h ht
        rw [e] at h1
        exact absurd ((cmpC_neg _ a b).2 h1) (by rw [← hget _ hI]; exact q2 _ (Nat.le_refl _) hI)
    · rintro ⟨hI, h⟩
      rw [hget _ hI] at h
      rw [← (cmpC_zero _ a b).1 h]
      exact List.getElem_mem hI
  · refine insL_at ⟨a, b⟩ l (bsOf l a b) hle (fun t ht hi => ?_) (fun t ht hi => ?_) (fun hm => by rw [(hasC_iff l a b).2 hm] at hn; cases hn)
    · rw [← cmpC_neg, ← hget t ht]; exact q1 t hi
    · rw [← cmpC_neg, ← hget t ht]; exact q2 t hi ht
theorem l1In_some (x lo hi : Int) : ∃ b, spec_l1In.f x lo hi = some b := ⟨_, l1In_eq x lo hi⟩
theorem srIs_some (n a b : Int) : ∃ r, spec_srIs.f n a b = some r := by
  unfold spec_srIs.f
  rw [l1In_eq]
  simp only [Option.bind_some]
  split
  · rw [l1In_eq]; exact ⟨_, rfl⟩
  · exact ⟨_, rfl⟩
theorem addChord_both (n : Int) (l : List S52) (a b : Int) (hl : l.length ≤ 1048576) : ∃ r : List S52 × Bool, r.1.length ≤ 41 ∧ ∀ k, l.length + 1000 ≤ k → spec_AddChord.f k n l a b = some r ∧ impl_AddChord.f k n l a b = some r := by
  by_cases h : goodB n l = true
  · obtain ⟨h1, h2, h3, h4⟩ := good_spec n l h
    have c1 : l.length ≤ 1000000000 := by omega
    have c2 : l.length ≤ 1000000 := by omega
    obtain ⟨e1, e2⟩ := bsOf_says l h3 a b
    by_cases hc : isCh n a b
    · by_cases h40 : l.length = 40
      · refine ⟨([], false), by simp, fun k hk => ?_⟩
        unfold spec_AddChord.f impl_AddChord.f
        simp only [cdGood_eq n l (by omega) k (by omega), isSet_eq n l (by omega) k (by omega), srIs_eq n a b h1, implIsChord_eq, Option.bind_some, if_pos c1, if_pos c2, if_pos h, decide_eq_true hc, if_true, if_pos h40]
        exact ⟨trivial, by simp⟩
      · cases hh : hasC l a b with
        | true =>
          rw [hh] at e1
          refine ⟨([], false), by simp, fun k hk => ?_⟩
          unfold spec_AddChord.f impl_AddChord.f
          simp only [cdGood_eq n l (by omega) k (by omega), isSet_eq n l (by omega) k (by omega), srIs_eq n a b h1, implIsChord_eq, Option.bind_some, if_pos c1, if_pos c2, if_pos h, decide_eq_true hc, if_true, if_neg h40, hh, ← e1]
          exact ⟨trivial, trivial⟩
        | false =>
          rw [hh] at e1
          have hp := fun k (hk : l.length < k) => srPut_eq ⟨a, b⟩ l k (by omega) hk
          refine ⟨(insL ⟨a, b⟩ l, true), by have := insL_len (⟨a, b⟩ : S52) l; simp only; omega, fun k hk => ?_⟩
          have hp2 := hp k (by omega)
          simp only at hp2
          unfold spec_AddChord.f impl_AddChord.f
          simp only [cdGood_eq n l (by omega) k (by omega), isSet_eq n l (by omega) k (by omega), srIs_eq n a b h1, implIsChord_eq, Option.bind_some, if_pos c1, if_pos c2, if_pos h, decide_eq_true hc, if_true, if_neg h40, hh, ← e1, Bool.false_eq_true, if_false, hp2]
          exact ⟨trivial, by rw [e2 hh]⟩
    · refine ⟨([], false), by simp, fun k hk => ?_⟩
      unfold spec_AddChord.f impl_AddChord.f
      simp only [cdGood_eq n l (by omega) k (by omega), isSet_eq n l (by omega) k (by omega), srIs_eq n a b h1, implIsChord_eq, Option.bind_some, if_pos c1, if_pos c2, if_pos h, decide_eq_false hc, if_true, Bool.false_eq_true, if_false]
      exact ⟨trivial, trivial⟩
  · refine ⟨([], false), by simp, fun k hk => ?_⟩
    have c1 : l.length ≤ 1000000000 := by omega
    obtain ⟨r, hr⟩ := srIs_some n a b
    unfold spec_AddChord.f impl_AddChord.f
    simp only [cdGood_eq n l (by omega) k (by omega), isSet_eq n l (by omega) k (by omega), hr, implIsChord_eq, Option.bind_some, if_pos c1, if_neg h]
    exact ⟨trivial, by simp⟩
theorem FnExactAddChord : ∀ (a0 : Int) (l1 : List S50) (a2_0 a2_1 : Int), (Lit.int .i64 a0).wf = true → l1.length ≤ 9223372036854775807 → (Lit.int .i64 a2_0).wf = true → (Lit.int .i64 a2_1).wf = true → ∃ k, laws_FnExactAddChord.f k a0 l1 a2_0 a2_1 = some true := by
  intro n l a b _ hl _ _
  obtain ⟨K, hK⟩ : ∃ K, K = l.length + 2000 := ⟨_, rfl⟩
  refine ⟨K + 3, ?_⟩
  unfold laws_FnExactAddChord.f
  rw [szChordS_eq l hl]
  simp only [Option.bind_some]
  by_cases h : l.length ≤ 1048576
  · have hc := conv_len l
    rw [if_pos h, if_neg (by omega)]
    obtain ⟨⟨r, b'⟩, hlen, hr⟩ := addChord_both n (conv l) a b (by omega)
    simp only at hlen
    obtain ⟨y, m1, m2, m3⟩ := mark_heldC (K + 1) r 1 (by omega) (by omega)
    obtain ⟨yc, c1, c2, _⟩ := mark_heldC (K + 2) (conv l) 1 (by omega) (by omega)
    have T := fun k (hk : K ≤ k) => toChordS_eq l (by omega) k (by omega)
    have E := fun k (hk : K ≤ k) => eqChordS_self k r (by omega) (by omega)
    have E2 := fun k (hk : K ≤ k) => eqChordS_self k (conv l) (by omega) (by omega)
    have TC : laws_toChord.f a b = some (a, b) := by unfold laws_toChord.f; rfl
    simp only [T (K + 3) (by omega), TC, (hr (K + 3) (by omega)).1, (hr (K + 3) (by omega)).2, Option.bind_some, E (K + 3) (by omega), laws_FnExactAddChord.j0, bne_self_eq_false, Bool.false_eq_true, if_false, if_true, T (K + 2) (by omega), E2 (K + 2) (by omega), c1]
    have e1 : ¬ (1 + 2 * ((conv l).length : Int) < 0) := by omega
    have e0 : ¬ (1 + 2 * (r.length : Int) < 0) := by omega
    simp only [if_neg e1, E (K + 2) (by omega), Option.bind_some, if_true, laws_FnExactAddChord.j1, Bool.false_eq_true, if_false, m1, m3 (K + 1) (by omega), if_neg e0, T (K + 1) (by omega), TC, (hr (K + 1) (by omega)).2, E (K + 1) (by omega), laws_FnExactAddChord.j2, m3 K (by omega)]
    simp
  · rw [if_neg h]
    rfl

end Go.Proofs.Ytkiookioejckbaa.Q
