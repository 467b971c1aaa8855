/- ParseChords: reference and program read the same chords. -/
import Derived.Test.YtceoaondcnhaeaaDoorZFnExactParseChords2
import Derived.Lib.Join
import Derived.Lib.SlTrimSet
import Derived.Lib.Strings
namespace Go.Proofs.YtceoaondcnhaeaaDoor.Q
open Go.RowKit Go.Proofs.YtceoaondcnhaeaaDoor.X Go.Proofs.YtceoaondcnhaeaaDoorW.PrintWords Go.Proofs.YtceoaondcnhaeaaDoorW.PrintLast Go.Proofs.YtceoaondcnhaeaaDoorW.PrintMore
set_option linter.unusedVariables false
set_option linter.unusedSimpArgs false

/-! ### BWrap -/
theorem wrap64_id {x : Int} (h0 : -9223372036854775808 ≤ x) (h1 : x ≤ 9223372036854775807) : wrap64 x = x := by unfold wrap64; omega
theorem wrap_step {x : Int} (h0 : 0 ≤ x) (h1 : x ≤ 4611686018427387904) : wrap64 (x + 1) = x + 1 := by unfold wrap64; omega
/-! ### BOrd0 -/
/-- The order of chords. -/
def cLt (x y : S69) : Bool := decide (x.f0 < y.f0 ∨ (x.f0 = y.f0 ∧ x.f1 < y.f1))
theorem cLt_iff (x y : S69) : cLt x y = true ↔ (x.f0 < y.f0 ∨ (x.f0 = y.f0 ∧ x.f1 < y.f1)) := by unfold cLt; exact decide_eq_true_iff
theorem chord_ext {x y : S69} (h0 : x.f0 = y.f0) (h1 : x.f1 = y.f1) : x = y := by cases x; cases y; simp_all
/-- Strictly in order. -/
def Strict (l : List S69) : Prop := l.Pairwise fun x y => cLt x y = true
/-- Two lists strictly in order with the same members are the same. -/
theorem strict_unique : ∀ (l m : List S69), Strict l → Strict m → (∀ x, x ∈ l ↔ x ∈ m) → l = m
  | [], [], _, _, _ => rfl
  | [], y :: m, _, _, h => by have := (h y).2 (by simp); simp at this
  | x :: l, [], _, _, h => by have := (h x).1 (by simp); simp at this
  | x :: l, y :: m, hl, hm, h => by
    unfold Strict at hl hm
    rw [List.pairwise_cons] at hl hm
    have e : x = y := by
      have h1 := (h x).1 (by simp)
      have h2 := (h y).2 (by simp)
      rcases List.mem_cons.1 h1 with h1 | h1
      · exact h1
      · rcases List.mem_cons.1 h2 with h2 | h2
        · exact h2.symm
        · have a := hl.1 y h2
          have b := hm.1 x h1
          rw [cLt_iff] at a b
          omega
    subst e
    rw [strict_unique l m hl.2 hm.2 (fun z => by
      have hz := h z
      simp only [List.mem_cons] at hz
      constructor
      · intro hzl
        rcases hz.1 (Or.inr hzl) with e | e
        · subst e; have := hl.1 z hzl; rw [cLt_iff] at this; omega
        · exact e
      · intro hzm
        rcases hz.2 (Or.inr hzm) with e | e
        · subst e; have := hm.1 z hzm; rw [cLt_iff] at this; omega
        · exact e)]
/-- A chord put in at its place. -/
def insL (c : S69) : List S69 → List S69
  | [] => [c]
  | x :: l => if cLt x c = true then x :: insL c l else if x.f0 = c.f0 ∧ x.f1 = c.f1 then x :: l else c :: x :: l
theorem insL_mem (c : S69) : ∀ (l : List S69) (x : S69), x ∈ insL c l ↔ x = c ∨ x ∈ l
  | [], x => by simp [insL]
  | y :: l, x => by
    unfold insL
    split
    · rw [List.mem_cons, insL_mem c l x, List.mem_cons]; constructor
      · rintro (h | h | h) <;> simp [h]
      · rintro (h | h | h) <;> simp [h]
    · split
      · rename_i e; have e := chord_ext e.1 e.2; subst e; simp
      · simp
theorem insL_strict (c : S69) : ∀ (l : List S69), Strict l → Strict (insL c l)
  | [], _ => by simp [insL, Strict]
  | y :: l, h => by
    unfold Strict at h
    rw [List.pairwise_cons] at h
    unfold insL
    split
    · rename_i hy
      unfold Strict
      rw [List.pairwise_cons]
      refine ⟨fun z hz => ?_, insL_strict c l h.2⟩
      rcases (insL_mem c l z).1 hz with e | e
      · subst e; exact hy
      · exact h.1 z e
    · split
      · unfold Strict; rw [List.pairwise_cons]; exact h
      · rename_i h1 h2
        have h3 : ¬ (y.f0 = c.f0 ∧ y.f1 = c.f1) := h2
        have h4 : cLt c y = true := by rw [cLt_iff] at h1 ⊢; omega
        unfold Strict
        rw [List.pairwise_cons, List.pairwise_cons]
        refine ⟨fun z hz => ?_, h⟩
        rcases List.mem_cons.1 hz with e | e
        · subst e; exact h4
        · have h5 := h.1 z e
          rw [cLt_iff] at h4 h5 ⊢
          omega
theorem insL_len (c : S69) : ∀ (l : List S69), (insL c l).length ≤ l.length + 1
  | [] => by simp [insL]
  | y :: l => by
    unfold insL
    have := insL_len c l
    split
    · simp; omega
    · split <;> simp
/-- All chords of a list put in, one by one. -/
def putAll (acc : List S69) : List S69 → List S69
  | [] => acc
  | c :: l => putAll (insL c acc) l
theorem putAll_spec : ∀ (l acc : List S69), Strict acc → Strict (putAll acc l) ∧ ∀ x, x ∈ putAll acc l ↔ x ∈ acc ∨ x ∈ l
  | [], acc, h => ⟨h, by simp [putAll]⟩
  | c :: l, acc, h => by
    obtain ⟨h1, h2⟩ := putAll_spec l (insL c acc) (insL_strict c acc h)
    refine ⟨h1, fun x => ?_⟩
    unfold putAll
    rw [h2, insL_mem, List.mem_cons]
    constructor
    · rintro ((h | h) | h) <;> simp [h]
    · rintro (h | h | h) <;> simp [h]
theorem putAll_len : ∀ (l acc : List S69), (putAll acc l).length ≤ acc.length + l.length
  | [], acc => by simp [putAll]
  | c :: l, acc => by
    have h1 := putAll_len l (insL c acc)
    have h2 := insL_len c acc
    unfold putAll
    simp only [List.length_cons]
    omega
theorem rdC_get (l : List S69) (i : Int) (h0 : 0 ≤ i) (h1 : i < l.length) : rd_T69 l i = l[i.toNat]'(by omega) := by
  unfold rd_T69
  have h : i.toNat < l.length := by omega
  simp [h]
theorem srLess_eq (a b c d : Int) : spec_srLess.f a b c d = some (cLt ⟨a, b⟩ ⟨c, d⟩) := by
  unfold spec_srLess.f cLt
  split
  · rename_i h; exact congrArg some (decide_eq_true (Or.inl h)).symm
  · split
    · rename_i h1 h2
      refine congrArg some (decide_eq_decide.2 ?_)
      simp only
      omega
    · rename_i h1 h2
      refine congrArg some (decide_eq_false ?_).symm
      simp only
      omega
theorem rdC_append (l m : List S69) (x : S69) : rd_T69 (l ++ x :: m) (l.length : Int) = x := by
  rw [rdC_get _ _ (by omega) (by simp; omega)]
  simp
def mkC (a b : Int) : S69 := ⟨mn a b, mx a b⟩
/-- A chord of n points. -/
def Proper (n : Int) (c : S69) : Prop := 0 ≤ c.f0 ∧ c.f0 < c.f1 ∧ c.f1 < n
theorem mkC_proper (n a b : Int) (ha : 0 ≤ a ∧ a < n) (hb : 0 ≤ b ∧ b < n) (h : a ≠ b) : Proper n (mkC a b) := by
  unfold Proper mkC mn mx
  simp only
  split <;> split <;> omega
/-! ### BBaseA -/
theorem l1In_eq (a b c : Int) : spec_l1In.f a b c = some (decide (b ≤ a ∧ a ≤ c)) := by
  unfold spec_l1In.f
  by_cases h : a ≥ b
  · rw [if_pos h]; exact congrArg some (decide_eq_decide.2 (by omega))
  · rw [if_neg h]; exact congrArg some (decide_eq_false (by omega)).symm
theorem within_eq (a b c : Int) : impl_within.f a b c = some (decide (b ≤ a ∧ a ≤ c)) := by
  unfold impl_within.f
  by_cases h : a ≥ b
  · rw [if_pos h]; exact congrArg some (decide_eq_decide.2 (by omega))
  · rw [if_neg h]; exact congrArg some (decide_eq_false (by omega)).symm
theorem srPoints_eq (a : Int) : spec_srPoints.f a = some (decide (3 ≤ a ∧ a ≤ 60)) := by
  unfold spec_srPoints.f; rw [l1In_eq]; rfl
/-! ### BIsChordA -/
def isCh (n a b : Int) : Prop := 0 ≤ a ∧ a < b ∧ b < n
instance (n a b : Int) : Decidable (isCh n a b) := by unfold isCh; infer_instance
theorem srIs_eq (n a b : Int) (hn : 3 ≤ n ∧ n ≤ 60) : spec_srIs.f n a b = some (decide (isCh n a b)) := by
  unfold spec_srIs.f
  rw [wrap64_id (by omega) (by omega), l1In_eq]
  simp only [Option.bind_some]
  by_cases h : 0 ≤ a ∧ a ≤ n - 1
  · rw [if_pos (decide_eq_true h), l1In_eq, wrap64_id (by omega) (by omega)]
    simp only [Option.bind_some]
    refine congrArg some (decide_eq_decide.2 ?_)
    unfold isCh
    omega
  · rw [if_neg (by simpa using h)]
    refine congrArg some (decide_eq_false ?_).symm
    unfold isCh
    omega
theorem implIsChord_eq (n a b : Int) : impl_isChord.f n a b = some (decide (isCh n a b)) := by
  unfold impl_isChord.f
  by_cases h1 : a ≥ 0
  · rw [if_pos h1]
    by_cases h2 : a < b
    · rw [if_pos h2]
      refine congrArg some (decide_eq_decide.2 ?_)
      unfold isCh
      omega
    · rw [if_neg h2]
      refine congrArg some (decide_eq_false ?_).symm
      unfold isCh
      omega
  · rw [if_neg h1]
    refine congrArg some (decide_eq_false ?_).symm
    unfold isCh
    omega
/-! ### BSetA -/
theorem compare_eq (a b : Int) : cmp_Compare_int.f a b = some (if a < b then -1 else if a > b then 1 else 0) := by
  unfold cmp_Compare_int.f cmp_isNaN_int.f
  simp
  split
  · rfl
  · split <;> rfl
theorem compareChords_eq (x y : S69) (k : Nat) (hk : 4 ≤ k) : ∃ r : Int, impl_compareChords.f k x.f0 x.f1 y.f0 y.f1 = some r ∧ (r ≥ 0 ↔ ¬ cLt x y = true) := by
  unfold impl_compareChords.f
  simp only [compare_eq, Option.bind_some]
  obtain ⟨k, rfl⟩ : ∃ t, k = t + 4 := ⟨k - 4, by omega⟩
  have h0 : wrap64 (0 + 1) = 1 := wrap64_id (by omega) (by omega)
  have h1 : wrap64 (1 + 1) = 2 := wrap64_id (by omega) (by omega)
  simp only [cmp_Or_int.f, cmp_Or_int.l0, List.length_cons, List.length_nil, h0, h1, rd, cLt_iff]
  by_cases c0 : x.f0 < y.f0
  · simp [c0]
  · by_cases c1 : x.f0 > y.f0
    · simp [c0, c1]; omega
    · have e : x.f0 = y.f0 := by omega
      by_cases d0 : x.f1 < y.f1
      · simp [e, d0]
      · by_cases d1 : x.f1 > y.f1
        · simp [e, d0, d1]
        · simp [e, d0, d1]
def isChB (n : Int) (c : S69) : Bool := decide (isCh n c.f0 c.f1)
/-- Chords of n points in order, behind p. -/
def okFrom (n : Int) : Option S69 → List S69 → Bool
  | _, [] => true
  | none, c :: l => isChB n c && okFrom n (some c) l
  | some p, c :: l => isChB n c && (cLt p c && okFrom n (some c) l)
theorem okFrom_spec (n : Int) : ∀ (l : List S69) (p : Option S69), okFrom n p l = true → Strict l ∧ (∀ c ∈ l, Proper n c) ∧ ∀ q, p = some q → ∀ c ∈ l, cLt q c = true
  | [], p, _ => ⟨by simp [Strict], by simp, by simp⟩
  | c :: l, p, h => by
    have h1 : isChB n c = true ∧ okFrom n (some c) l = true ∧ ∀ q, p = some q → cLt q c = true := by
      cases p with
      | none => simp only [okFrom, Bool.and_eq_true] at h; exact ⟨h.1, h.2, by simp⟩
      | some q => simp only [okFrom, Bool.and_eq_true] at h; exact ⟨h.1, h.2.2, fun q' e => by cases e; exact h.2.1⟩
    obtain ⟨a, b, c1⟩ := okFrom_spec n l (some c) h1.2.1
    have c2 := c1 c rfl
    refine ⟨?_, ?_, ?_⟩
    · unfold Strict at a ⊢; rw [List.pairwise_cons]; exact ⟨c2, a⟩
    · intro d hd
      rcases List.mem_cons.1 hd with e | e
      · subst e; exact (of_decide_eq_true h1.1 : isCh n d.f0 d.f1)
      · exact b d e
    · intro q e d hd
      have h3 := h1.2.2 q e
      rcases List.mem_cons.1 hd with e | e
      · subst e; exact h3
      · have h4 := c2 d e
        rw [cLt_iff] at h3 h4 ⊢
        omega
theorem okFrom_none (n : Int) (c : S69) (m : List S69) : okFrom n none (c :: m) = (isChB n c && okFrom n (some c) m) := rfl
theorem okFrom_some (n : Int) (p c : S69) (m : List S69) : okFrom n (some p) (c :: m) = (isChB n c && (cLt p c && okFrom n (some c) m)) := rfl
def lastO (pre : List S69) : Option S69 := pre.getLast?
theorem rd_last (pre m : List S69) (p : S69) : rd_T69 ((pre ++ [p]) ++ m) ((pre.length : Int) + 1 - 1) = p := by
  rw [show (pre.length : Int) + 1 - 1 = pre.length by omega, List.append_assoc]
  exact rdC_append pre m p
theorem cdGood_loop (n : Int) (hn : 3 ≤ n ∧ n ≤ 60) (m : List S69) : ∀ (k : Nat) (pre : List S69), pre.length + m.length ≤ 1000000000 → m.length < k →
    spec_cdGood.l0 k n (pre ++ m) (pre ++ m) ((pre ++ m).length : Int) pre.length = some (okFrom n (lastO pre) m) := by
  induction m with
  | nil =>
    intro k pre hl hk
    obtain ⟨k, rfl⟩ : ∃ t, k = t + 1 := ⟨k - 1, by omega⟩
    simp only [spec_cdGood.l0, List.append_nil]
    rw [if_neg (by omega)]
    simp [okFrom]
  | cons x m ih =>
    intro k pre hl hk
    obtain ⟨k, rfl⟩ : ∃ t, k = t + 1 := ⟨k - 1, by omega⟩
    simp only [List.length_cons] at hl hk
    have hlen : ((pre ++ x :: m).length : Int) = pre.length + m.length + 1 := by simp; omega
    simp only [spec_cdGood.l0]
    rw [if_pos (by omega), if_pos (by omega), if_pos (by omega), rdC_append, srIs_eq n _ _ hn]
    simp only [Option.bind_some]
    have IH := ih k (pre ++ [x]) (by simp; omega) (by omega)
    simp only [List.append_assoc, List.cons_append, List.nil_append] at IH
    have hpl : (((pre ++ [x]).length : Nat) : Int) = (pre.length : Int) + 1 := by simp
    have hla : lastO (pre ++ [x]) = some x := by unfold lastO; simp
    rw [hpl, hla] at IH
    by_cases hc : isCh n x.f0 x.f1
    · have hcB : isChB n x = true := decide_eq_true hc
      rw [if_pos (decide_eq_true hc)]
      rcases List.eq_nil_or_concat pre with e | ⟨q, p, e⟩
      · subst e
        rw [if_neg (by simp)]
        rw [wrap64_id (by omega) (by omega), IH]
        have e1 : lastO ([] : List S69) = none := rfl
        rw [e1, okFrom_none, hcB, Bool.true_and]
      · rw [List.concat_eq_append] at e
        subst e
        have hql : (((q ++ [p]).length : Nat) : Int) = (q.length : Int) + 1 := by simp
        have hla2 : lastO (q ++ [p]) = some p := by unfold lastO; simp
        rw [if_pos (by omega), wrap64_id (by omega) (by omega), if_pos (by omega), if_pos (by omega), hql, rd_last, srLess_eq]
        simp only [Option.bind_some]
        have e0 : (⟨x.f0, x.f1⟩ : S69) = x := rfl
        have e1 : (⟨p.f0, p.f1⟩ : S69) = p := rfl
        rw [e0, e1, hla2, okFrom_some, hcB, Bool.true_and]
        rw [wrap64_id (by omega) (by omega)]
        rw [hql] at IH
        by_cases hp : cLt p x = true
        · rw [if_pos hp, IH, hp, Bool.true_and]
        · rw [if_neg hp]
          simp [hp]
    · have hcB : isChB n x = false := decide_eq_false hc
      rw [if_neg (by simpa using hc)]
      cases hlo : lastO pre with
      | none => rw [okFrom_none, hcB]; rfl
      | some p => rw [okFrom_some, hcB]; rfl
/-- A set of chords of n points. -/
def goodB (n : Int) (l : List S69) : Bool := decide (3 ≤ n ∧ n ≤ 60) && (decide (l.length ≤ 40) && okFrom n none l)
theorem cdGood_eq (n : Int) (l : List S69) (hl : l.length ≤ 1000000000) (k : Nat) (hk : l.length + 1 < k) : spec_cdGood.f k n l = some (goodB n l) := by
  unfold spec_cdGood.f goodB
  rw [srPoints_eq]
  obtain ⟨k, rfl⟩ : ∃ t, k = t + 1 := ⟨k - 1, by omega⟩
  simp only [Option.bind_some, spec_cdGood.j0]
  by_cases h : 3 ≤ n ∧ n ≤ 60
  · rw [if_pos (decide_eq_true h), decide_eq_true h, Bool.true_and]
    by_cases h2 : l.length ≤ 40
    · rw [if_neg (by simp; omega), decide_eq_true h2, Bool.true_and]
      exact cdGood_loop n h l k [] (by simpa using hl) (by omega)
    · rw [if_pos (by simp; omega), decide_eq_false h2, Bool.false_and]
  · rw [if_neg (by simpa using h), decide_eq_false h]
    rfl
theorem areChords_loop (n : Int) (hn : 3 ≤ n ∧ n ≤ 60) (m : List S69) : ∀ (k : Nat) (pre : List S69), pre.length + m.length ≤ 1000000000 → m.length + 4 < k →
    impl_AreChords.l0 k n (pre ++ m) (pre ++ m) ((pre ++ m).length : Int) pre.length = some (okFrom n (lastO pre) m && decide (pre.length + m.length ≤ 40)) := by
  induction m with
  | nil =>
    intro k pre hl hk
    obtain ⟨k, rfl⟩ : ∃ t, k = t + 1 := ⟨k - 1, by omega⟩
    simp only [impl_AreChords.l0, List.append_nil]
    rw [if_neg (by omega)]
    simp only [okFrom, Bool.true_and, List.length_nil, Nat.add_zero]
    exact congrArg some (decide_eq_decide.2 (by omega))
  | cons x m ih =>
    intro k pre hl hk
    obtain ⟨k, rfl⟩ : ∃ t, k = t + 1 := ⟨k - 1, by omega⟩
    simp only [List.length_cons] at hl hk
    have hlen : ((pre ++ x :: m).length : Int) = pre.length + m.length + 1 := by simp; omega
    simp only [impl_AreChords.l0]
    rw [if_pos (by omega), if_pos (by omega), if_pos (by omega), rdC_append, implIsChord_eq]
    simp only [Option.bind_some]
    have IH := ih k (pre ++ [x]) (by simp; omega) (by omega)
    simp only [List.append_assoc, List.cons_append, List.nil_append] at IH
    have hpl : (((pre ++ [x]).length : Nat) : Int) = (pre.length : Int) + 1 := by simp
    have hpn : (pre ++ [x]).length + m.length = pre.length + (x :: m).length := by simp; omega
    have hla : lastO (pre ++ [x]) = some x := by unfold lastO; simp
    rw [hpl, hla, hpn] at IH
    by_cases hc : isCh n x.f0 x.f1
    · have hcB : isChB n x = true := decide_eq_true hc
      rw [if_pos (decide_eq_true hc)]
      rcases List.eq_nil_or_concat pre with e | ⟨q, p, e⟩
      · subst e
        rw [if_neg (by simp)]
        rw [wrap64_id (by omega) (by omega), IH]
        have e1 : lastO ([] : List S69) = none := rfl
        rw [e1, okFrom_none, hcB, Bool.true_and]
      · rw [List.concat_eq_append] at e
        subst e
        have hql : (((q ++ [p]).length : Nat) : Int) = (q.length : Int) + 1 := by simp
        have hla2 : lastO (q ++ [p]) = some p := by unfold lastO; simp
        rw [if_pos (by omega), wrap64_id (by omega) (by omega), if_pos (by omega), if_pos (by omega), hql, rd_last]
        obtain ⟨r, hr1, hr2⟩ := compareChords_eq p x k (by omega)
        rw [hr1]
        simp only [Option.bind_some]
        rw [hla2, okFrom_some, hcB, Bool.true_and]
        rw [wrap64_id (by omega) (by omega)]
        rw [hql] at IH
        by_cases hp : cLt p x = true
        · rw [if_neg (fun z => hr2.1 z hp), IH, hp, Bool.true_and]
        · rw [if_pos (hr2.2 hp)]
          simp [hp]
    · have hcB : isChB n x = false := decide_eq_false hc
      rw [if_neg (by simpa using hc)]
      cases hlo : lastO pre with
      | none => rw [okFrom_none, hcB]; rfl
      | some p => rw [okFrom_some, hcB]; rfl
theorem areChords_eq (n : Int) (l : List S69) (hl : l.length ≤ 1000000000) (k : Nat) (hk : l.length + 4 < k) : impl_AreChords.f k n l = some (goodB n l) := by
  unfold impl_AreChords.f goodB
  rw [within_eq]
  simp only [Option.bind_some]
  by_cases h : 3 ≤ n ∧ n ≤ 60
  · rw [if_pos (decide_eq_true h), decide_eq_true h, Bool.true_and]
    have := areChords_loop n h l k [] (by simpa using hl) hk
    simp only [List.nil_append, List.length_nil, Nat.zero_add] at this
    rw [Bool.and_comm] at this
    exact this
  · rw [if_neg (by simpa using h), decide_eq_false h]
    rfl
theorem good_spec (n : Int) (l : List S69) (h : goodB n l = true) : (3 ≤ n ∧ n ≤ 60) ∧ l.length ≤ 40 ∧ Strict l ∧ ∀ c ∈ l, Proper n c := by
  unfold goodB at h
  simp only [Bool.and_eq_true, decide_eq_true_eq] at h
  obtain ⟨a, b, _⟩ := okFrom_spec n l none h.2.2
  exact ⟨h.1, h.2.1, a, b⟩
/-! ### BNum -/
/-- The digits of a number below a hundred. -/
def dd (n : Nat) : List UInt8 := if n < 10 then [UInt8.ofNat (48 + n)] else [UInt8.ofNat (48 + n / 10), UInt8.ofNat (48 + n % 10)]
theorem dd_eq (n : Nat) (h : n < 100) : Lib.decDigits n = dd n := by
  unfold dd
  rw [Lib.decDigits]
  by_cases h1 : n < 10
  · rw [dif_pos h1, if_pos h1]
  · rw [dif_neg h1, if_neg h1, Lib.decDigits, dif_pos (by omega)]
    rfl
theorem num_dd : ∀ n : Nat, n < 100 → spec_l1Num.f 10 (n : Int) = some ⟨(dd n).toArray⟩ := by decide +kernel
theorem num_up (n : Int) (r : ByteArray) : ∀ j, spec_l1Num.f 10 n = some r → spec_l1Num.f (10 + j) n = some r
  | 0, h => h
  | j + 1, h => spec_l1Num.mono n (10 + j) r (num_up n r j h)
theorem dd_len (n : Nat) : (dd n).length ≤ 2 := by unfold dd; split <;> simp
/-- A number's text. -/
def nt (n : Int) : ByteArray := ⟨(dd n.toNat).toArray⟩
theorem nt_size (n : Int) : (nt n).size ≤ 2 := by
  show (dd n.toNat).toArray.size ≤ 2
  rw [List.size_toArray]
  exact dd_len _
theorem num_eq (n : Int) (h : 0 ≤ n ∧ n < 100) (k : Nat) (hk : 10 ≤ k) : spec_l1Num.f k n = some (nt n) := by
  obtain ⟨j, rfl⟩ : ∃ j, k = 10 + j := ⟨k - 10, by omega⟩
  refine num_up n _ j ?_
  have h1 := num_dd n.toNat (by omega)
  rw [Int.toNat_of_nonneg h.1] at h1
  exact h1
theorem itoa_eq (n : Int) (h : 0 ≤ n ∧ n < 100) : strconv_Itoa.f n = some (nt n) := by
  unfold strconv_Itoa.f nt
  rw [if_pos h, dd_eq n.toNat (by omega)]
/-! ### BText -/
/-- A chord's text. -/
def ct (c : S69) : ByteArray := (nt c.f0 ++ (⟨#[45]⟩ : ByteArray)) ++ nt c.f1
theorem lit1 (b : UInt8) : (⟨#[b]⟩ : ByteArray).size = 1 := rfl
theorem ct_size (c : S69) : (ct c).size ≤ 5 := by
  unfold ct
  have h1 := nt_size c.f0
  have h2 := nt_size c.f1
  rw [ByteArray.size_append, ByteArray.size_append, lit1]
  omega
def joinB (l : List S69) : List UInt8 := Lib.join ((l.map ct).map (·.data.toList)) [44]
theorem joinB_snoc (l : List S69) (x : S69) : joinB (l ++ [x]) = joinB l ++ (if l = [] then [] else [44]) ++ (ct x).data.toList := by
  unfold joinB
  cases l with
  | nil => simp [Lib.join_nil, Lib.join_one]
  | cons y l =>
    rw [if_neg (by simp)]
    simp only [List.cons_append, List.map_cons, List.map_append, List.map_nil, Lib.join_cons, Lib.joinTail, List.flatten_append, List.flatten_cons, List.flatten_nil, List.append_nil, List.append_assoc]
theorem tail_len : ∀ l : List S69, (Lib.joinTail [44] ((l.map ct).map (·.data.toList))).length ≤ 6 * l.length
  | [] => by simp [Lib.joinTail]
  | x :: l => by
    have ih := tail_len l
    have h := ct_size x
    have h2 : (ct x).data.toList.length = (ct x).size := by simp
    have e : Lib.joinTail [44] (((x :: l).map ct).map (·.data.toList)) = ([44] ++ (ct x).data.toList) ++ Lib.joinTail [44] ((l.map ct).map (·.data.toList)) := by simp [Lib.joinTail]
    rw [e, List.length_append, List.length_append, h2]
    simp only [List.length_cons, List.length_nil]
    omega
theorem joinB_len : ∀ (l : List S69) , (joinB l).length ≤ 6 * l.length
  | [] => by simp [joinB, Lib.join_nil]
  | x :: l => by
    have ih := tail_len l
    have h := ct_size x
    have h2 : (ct x).data.toList.length = (ct x).size := by simp
    unfold joinB
    rw [List.map_cons, List.map_cons, Lib.join_cons, List.length_append, h2, List.length_cons]
    omega
/-- The text of the chords so far. -/
def jb (l : List S69) : ByteArray := ⟨(joinB l).toArray⟩
theorem jb_size (l : List S69) : (jb l).size ≤ 6 * l.length := by
  show (joinB l).toArray.size ≤ _
  rw [List.size_toArray]
  exact joinB_len l
theorem jb_first (x : S69) : jb [x] = jb [] ++ ct x := by
  apply ByteArray.ext
  apply Array.toList_inj.1
  rw [ByteArray.data_append, Array.toList_append]
  have := joinB_snoc [] x
  simp only [List.nil_append, if_true] at this
  show joinB [x] = (joinB []) ++ _
  rw [this]
  simp
theorem jb_next (l : List S69) (x : S69) (h : l ≠ []) : jb (l ++ [x]) = (jb l ++ (⟨#[44]⟩ : ByteArray)) ++ ct x := by
  apply ByteArray.ext
  apply Array.toList_inj.1
  rw [ByteArray.data_append, ByteArray.data_append, Array.toList_append, Array.toList_append]
  show joinB (l ++ [x]) = (joinB l ++ [44]) ++ _
  rw [joinB_snoc, if_neg h]
theorem cdText_loop (l : List S69) (hl : l.length ≤ 1000) (hP : ∀ x ∈ l, Proper 60 x) (m : List S69) : ∀ (k : Nat) (pre : List S69), pre ++ m = l → m.length + 20 < k →
    spec_cdText.l0 k (jb pre) l (l.length : Int) (pre.length : Int) = some (jb l) := by
  induction m with
  | nil =>
    intro k pre e hk
    obtain ⟨k, rfl⟩ : ∃ t, k = t + 1 := ⟨k - 1, by omega⟩
    rw [List.append_nil] at e
    subst e
    simp only [spec_cdText.l0]
    rw [if_neg (by omega)]
  | cons x m ih =>
    intro k pre e hk
    obtain ⟨k, rfl⟩ : ∃ t, k = t + 1 := ⟨k - 1, by omega⟩
    simp only [List.length_cons] at hk
    have hlen : (l.length : Int) = pre.length + m.length + 1 := by rw [← e]; simp; omega
    have hx : rd_T69 l (pre.length : Int) = x := by rw [← e]; exact rdC_append pre m x
    have hp := hP x (by rw [← e]; simp)
    unfold Proper at hp
    have n1 := num_eq x.f0 (by omega) k (by omega)
    have n2 := num_eq x.f1 (by omega) k (by omega)
    have s1 := nt_size x.f0
    have s2 := nt_size x.f1
    have sj := jb_size pre
    have IH := ih k (pre ++ [x]) (by simpa using e) (by omega)
    rw [show (((pre ++ [x]).length : Nat) : Int) = (pre.length : Int) + 1 by simp] at IH
    have g1 : (pre.length : Int) < (l.length : Int) := by omega
    have g2 : (0 : Int) ≤ (pre.length : Int) := by omega
    have g3 : (nt x.f0).size + 1 ≤ 9223372036854775807 := by omega
    have g4 : (nt x.f0 ++ (⟨#[45]⟩ : ByteArray)).size + (nt x.f1).size ≤ 9223372036854775807 := by rw [ByteArray.size_append, lit1]; omega
    have hw := Aside0.mk (show wrap64 ((pre.length : Int) + 1) = (pre.length : Int) + 1 from wrap64_id (by omega) (by omega))
    have hcs := ct_size x
    have hct : (nt x.f0 ++ (⟨#[45]⟩ : ByteArray)) ++ nt x.f1 = ct x := rfl
    simp only [spec_cdText.l0]
    rw [if_pos g1, if_pos g2, if_pos g1, hx]
    by_cases hpre : pre = []
    · subst hpre
      rw [if_neg (by simp), n1]
      simp only [Option.bind_some]
      rw [if_pos g3, n2]
      simp only [Option.bind_some]
      have g6 : (jb []).size + (ct x).size ≤ 9223372036854775807 := by omega
      rw [if_pos g4, hct, if_pos g6, hw.out, ← jb_first]
      exact IH
    · have g0 : (pre.length : Int) > 0 := by
        have : 0 < pre.length := List.length_pos_iff.2 hpre
        omega
      have g5 : (jb pre).size + 1 ≤ 9223372036854775807 := by omega
      have g6 : (jb pre ++ (⟨#[44]⟩ : ByteArray)).size + (ct x).size ≤ 9223372036854775807 := by rw [ByteArray.size_append, lit1]; omega
      rw [if_pos g0, if_pos g5, n1]
      simp only [Option.bind_some]
      rw [if_pos g3, n2]
      simp only [Option.bind_some]
      rw [if_pos g4, hct, if_pos g6, hw.out, ← jb_next pre x hpre]
      exact IH
/-! ### BEqC -/
theorem eqChord_self (a b : Int) : laws_eqChord.f a b a b = some true := by unfold laws_eqChord.f; simp
theorem eqChordS_loop (l : List S69) (hl : l.length ≤ 4611686018427387904) (d : Nat) : ∀ (k : Nat) (i : Int), 0 ≤ i → i ≤ l.length → (l.length : Int) - i = d → d < k → laws_eqChordS.l0 k l l i = some true := by
  induction d with
  | zero =>
    intro k i h0 h1 hd hk
    obtain ⟨k, rfl⟩ : ∃ m, k = m + 1 := ⟨k - 1, by omega⟩
    simp only [laws_eqChordS.l0]
    rw [if_neg (by omega)]
  | succ d ih =>
    intro k i h0 h1 hd hk
    obtain ⟨k, rfl⟩ : ∃ m, k = m + 1 := ⟨k - 1, by omega⟩
    simp only [laws_eqChordS.l0]
    rw [if_pos (by omega), if_pos (by omega), if_pos (by omega), eqChord_self, wrap64_id (by omega) (by omega)]
    simp only [Option.bind_some, if_true]
    exact ih k (i + 1) (by omega) (by omega) (by omega) (by omega)
theorem eqChordS_self (k : Nat) (l : List S69) (hl : l.length ≤ 4611686018427387904) (hk : l.length < k) : laws_eqChordS.f k l l = some true := by
  unfold laws_eqChordS.f
  rw [if_pos rfl]
  exact eqChordS_loop l hl l.length k 0 (by omega) (by omega) (by omega) hk
/-! ### BMarksC -/
def MarkedC (y : List S69) (m : Int) (i : Nat) : Prop := ∀ j : Nat, j < i → (rd_T69 y j).f0 = m + 2 * j ∧ (rd_T69 y j).f1 = m + 2 * j + 1
theorem rdC_set_same (x : List S69) (i : Nat) (v : S69) (hi : i < x.length) : rd_T69 (x.set i v) i = v := by
  unfold rd_T69; simp [hi]
theorem rdC_set_other (x : List S69) (i j : Nat) (v : S69) (hj : j ≠ i) : rd_T69 (x.set i v) j = rd_T69 x j := by
  unfold rd_T69; simp [List.getElem?_set, Ne.symm hj]
theorem markChordS_loop (m0 : Int) (n : Nat) (hm : 0 ≤ m0 ∧ m0 + 2 * n ≤ 4611686018427387904) (hn : n ≤ 4611686018427387904) (d : Nat) : ∀ (k : Nat) (x : List S69) (i : Nat), x.length = n → i ≤ n → n - i = d → d < k → MarkedC x m0 i →
    ∃ y, laws_markChordS.l0 k x (m0 + 2 * i) i = some (m0 + 2 * n, y) ∧ y.length = n ∧ MarkedC y m0 n := by
  induction d with
  | zero =>
    intro k x i hx hi hd hk hM
    obtain ⟨k, rfl⟩ : ∃ m, k = m + 1 := ⟨k - 1, by omega⟩
    obtain rfl : i = n := by omega
    refine ⟨x, ?_, hx, hM⟩
    simp only [laws_markChordS.l0]
    rw [if_neg (by omega)]
  | succ d ih =>
    intro k x i hx hi hd hk hM
    obtain ⟨k, rfl⟩ : ∃ m, k = m + 1 := ⟨k - 1, by omega⟩
    simp only [laws_markChordS.l0]
    rw [if_pos (by omega), if_pos (by omega), wrap_step (by omega) (by omega), wrap_step (by omega) (by omega), wrap_step (by omega) (by omega), show (Int.toNat (i : Int)) = i from by omega]
    simp only [Option.bind_some]
    rw [rdC_set_same _ _ _ (by omega), List.set_set]
    have := ih k (x.set i ⟨m0 + 2 * i, m0 + 2 * i + 1⟩) (i + 1) (by simpa using hx) (by omega) (by omega) (by omega) (by
      intro j hj
      by_cases e : j = i
      · subst e; rw [rdC_set_same _ _ _ (by omega)]; exact ⟨rfl, rfl⟩
      · rw [rdC_set_other _ _ _ _ e]; exact hM j (by omega))
    rw [show m0 + 2 * (i : Int) + 1 + 1 = m0 + 2 * ((i + 1 : Nat) : Int) by omega, show (i : Int) + 1 = ((i + 1 : Nat) : Int) by omega]
    exact this
theorem heldChordS_loop (m0 : Int) (n : Nat) (hm : 0 ≤ m0 ∧ m0 + 2 * n ≤ 4611686018427387904) (hn : n ≤ 4611686018427387904) (x : List S69) (hx : x.length = n) (hM : MarkedC x m0 n) (d : Nat) : ∀ (k : Nat) (i : Nat), i ≤ n → n - i = d → d < k →
    laws_heldChordS.l0 k x (m0 + 2 * i) i = some (m0 + 2 * n) := by
  induction d with
  | zero =>
    intro k i hi hd hk
    obtain ⟨k, rfl⟩ : ∃ m, k = m + 1 := ⟨k - 1, by omega⟩
    obtain rfl : i = n := by omega
    simp only [laws_heldChordS.l0]
    rw [if_neg (by omega)]
  | succ d ih =>
    intro k i hi hd hk
    obtain ⟨k, rfl⟩ : ∃ m, k = m + 1 := ⟨k - 1, by omega⟩
    simp only [laws_heldChordS.l0]
    have hMi := hM i (by omega)
    rw [if_pos (by omega), if_pos (by omega), wrap_step (by omega) (by omega), wrap_step (by omega) (by omega), wrap_step (by omega) (by omega), if_pos hMi.1, if_pos hMi.2]
    have := ih k (i + 1) (by omega) (by omega) (by omega)
    rw [show m0 + 2 * (i : Int) + 1 + 1 = m0 + 2 * ((i + 1 : Nat) : Int) by omega, show (i : Int) + 1 = ((i + 1 : Nat) : Int) by omega]
    exact this
/-- A list of chords is marked, and then held. -/
theorem mark_heldC (k : Nat) (l : List S69) (m : Int) (hm : 0 ≤ m ∧ m + 2 * l.length ≤ 4611686018427387904) (hk : l.length < k) :
    ∃ y, laws_markChordS.f k l m = some (m + 2 * l.length, y) ∧ y.length = l.length ∧ ∀ k', l.length < k' → laws_heldChordS.f k' y m = some (m + 2 * l.length) := by
  obtain ⟨y, h1, h2, h3⟩ := markChordS_loop m l.length hm (by omega) l.length k l 0 rfl (by omega) (by omega) hk (fun j hj => by omega)
  refine ⟨y, ?_, h2, ?_⟩
  · unfold laws_markChordS.f
    simpa using h1
  · intro k' hk'
    unfold laws_heldChordS.f
    simpa using heldChordS_loop m l.length hm (by omega) y h2 h3 l.length k' 0 (by omega) (by omega) hk'
/-! ### BGrid -/
theorem paGrid_eq (g : Int) : spec_paGrid.f g = some (decide (g = 4 ∨ g = 6)) := by
  unfold spec_paGrid.f
  by_cases h : g = 4
  · simp [h]
  · by_cases h6 : g = 6 <;> simp [h, h6]
theorem isGrid_eq (g : Int) : impl_isGrid.f g = some (decide (g = 4 ∨ g = 6)) := by
  unfold impl_isGrid.f
  by_cases h : g = 4
  · simp [h]
  · by_cases h6 : g = 6 <;> simp [h, h6]

/-! ### BTrim -/
theorem dropW_nil (p : UInt8 → Bool) : ∀ l : List UInt8, l.dropWhile p = [] ↔ ∀ b ∈ l, p b = true
  | [] => by simp
  | a :: l => by
    by_cases h : p a = true
    · simp [h, dropW_nil p l]
    · simp [h]
theorem dropW_all (p : UInt8 → Bool) : ∀ l : List UInt8, (∀ b ∈ l.dropWhile p, p b = true) → ∀ b ∈ l, p b = true
  | [], _ => by simp
  | a :: l, h => by
    by_cases ha : p a = true
    · rw [List.dropWhile_cons, if_pos ha] at h
      intro b hb
      rcases List.mem_cons.1 hb with rfl | hb
      · exact ha
      · exact dropW_all p l h b hb
    · rw [List.dropWhile_cons, if_neg ha] at h
      exact absurd (h a (List.mem_cons_self ..)) ha
theorem trimS_nil (l cs : List UInt8) : Lib.trimS l cs = [] ↔ ∀ b ∈ l, cs.contains b = true := by
  unfold Lib.trimS Lib.trimLeftS Lib.trimRightS
  rw [dropW_nil (cs.contains ·)]
  constructor
  · intro h b hb
    exact dropW_all (cs.contains ·) l.reverse (fun b hb => h b (List.mem_reverse.2 hb)) b (List.mem_reverse.2 hb)
  · intro h b hb
    have : l.reverse.dropWhile (cs.contains ·) = [] := (dropW_nil _ _).2 fun b hb => h b (List.mem_reverse.1 hb)
    rw [this] at hb
    simp at hb
/-! ### BWord -/
def okB (b : UInt8) : Bool := b == 70 || b == 76 || b == 82
def wordB (w : ByteArray) : Bool := decide (w.size ≤ 120) && w.data.toList.all okB
def askedB (g : Int) (w : ByteArray) : Bool := decide (g = 4 ∨ g = 6) && wordB w
theorem len_data (w : ByteArray) : w.data.toList.length = w.size := by simp
theorem bt_get (w : ByteArray) (i : Nat) (h : i < w.size) : bt w (i : Int) = ((w.data.toList[i]'(by rw [len_data]; exact h)).toNat : Int) := by
  unfold bt
  rw [dif_pos (by simpa using h)]
  rfl
theorem u8_eq (b : UInt8) (n : Nat) (hn : n < 256) : ((b.toNat : Int) = (n : Int)) ↔ b = UInt8.ofNat n := by
  constructor
  · intro h
    apply UInt8.toNat_inj.1
    rw [UInt8.toNat_ofNat']
    omega
  · intro h
    rw [h, UInt8.toNat_ofNat']
    omega
theorem paWord_loop (w : ByteArray) (hw : w.size ≤ 1000) (d : Nat) : ∀ (k i : Nat), i + d = w.size → d < k → spec_paWord.l0 k w (i : Int) = some ((w.data.toList.drop i).all okB) := by
  induction d with
  | zero =>
    intro k i hi hk
    obtain ⟨k, rfl⟩ : ∃ t, k = t + 1 := ⟨k - 1, by omega⟩
    simp only [spec_paWord.l0]
    rw [if_neg (by omega), List.drop_eq_nil_of_le (by rw [len_data]; omega)]
    rfl
  | succ d ih =>
    intro k i hi hk
    obtain ⟨k, rfl⟩ : ∃ t, k = t + 1 := ⟨k - 1, by omega⟩
    have hlt : i < w.data.toList.length := by rw [len_data]; omega
    have e1 : wrap64 ((i : Int) + 1) = ((i + 1 : Nat) : Int) := by rw [wrap64_id (by omega) (by omega)]; rfl
    rw [List.drop_eq_getElem_cons hlt]
    simp only [spec_paWord.l0, List.all_cons]
    rw [if_pos (by omega), if_pos (by omega), e1, ih k (i + 1) (by omega) (by omega), bt_get w i (by omega)]
    generalize w.data.toList[i] = b
    by_cases h1 : (b.toNat : Int) = 70
    · rw [if_pos h1]
      have : b = 70 := (u8_eq b 70 (by omega)).1 h1
      subst this; rfl
    · rw [if_neg h1]
      by_cases h2 : (b.toNat : Int) = 76
      · rw [if_pos h2]
        have : b = 76 := (u8_eq b 76 (by omega)).1 h2
        subst this; rfl
      · rw [if_neg h2]
        by_cases h3 : (b.toNat : Int) = 82
        · rw [if_pos h3]
          have : b = 82 := (u8_eq b 82 (by omega)).1 h3
          subst this; rfl
        · rw [if_neg h3]
          have : okB b = false := by
            unfold okB
            have n1 : b ≠ 70 := fun e => h1 ((u8_eq b 70 (by omega)).2 e)
            have n2 : b ≠ 76 := fun e => h2 ((u8_eq b 76 (by omega)).2 e)
            have n3 : b ≠ 82 := fun e => h3 ((u8_eq b 82 (by omega)).2 e)
            simp [n1, n2, n3]
          rw [this]; rfl
theorem paWord_eq (w : ByteArray) (k : Nat) (hk : 200 ≤ k) : spec_paWord.f k w = some (wordB w) := by
  unfold spec_paWord.f wordB
  by_cases h : (w.size : Int) > 120
  · rw [if_pos h, decide_eq_false (by omega)]; rfl
  · rw [if_neg h, decide_eq_true (by omega)]
    have := paWord_loop w (by omega) w.size k 0 (by omega) (by omega)
    rw [List.drop_zero] at this
    exact this
theorem paAsked_eq (g : Int) (w : ByteArray) (k : Nat) (hk : 200 ≤ k) : spec_paAsked.f k g w = some (askedB g w) := by
  unfold spec_paAsked.f askedB
  rw [paGrid_eq, Option.bind_some]
  by_cases h : g = 4 ∨ g = 6
  · rw [if_pos (decide_eq_true h), paWord_eq w k hk, decide_eq_true h]; rfl
  · rw [if_neg (by simp [h]), decide_eq_false h]; rfl
theorem trim_eq (w : ByteArray) (hw : w.size ≤ 120) : (strings_Trim.f w ⟨#[70, 76, 82]⟩).bind (fun t => some (t.toList == ([] : List UInt8))) = some (w.data.toList.all okB) := by
  unfold strings_Trim.f
  rw [if_pos ⟨by omega, by decide, by decide⟩, Option.bind_some]
  refine congrArg some ?_
  rw [ByteArray.toList_eq]
  show ((Lib.trimS w.data.toList [70, 76, 82]).toArray.toList == []) = _
  rw [List.toList_toArray, Bool.eq_iff_iff, beq_iff_eq, trimS_nil, List.all_eq_true]
  have e : ∀ b : UInt8, ([70, 76, 82] : List UInt8).contains b = okB b := by
    intro b
    unfold okB
    simp only [List.contains_cons, List.contains_nil, Bool.or_false, Bool.or_assoc]
  exact forall_congr' fun b => by rw [e]
theorem isWord_eq (g : Int) (w : ByteArray) : impl_isWord.f g w = some (askedB g w) := by
  unfold impl_isWord.f askedB wordB
  rw [isGrid_eq, Option.bind_some]
  by_cases h : g = 4 ∨ g = 6
  · rw [if_pos (decide_eq_true h), decide_eq_true h]
    by_cases hw : w.size ≤ 120
    · rw [if_pos (by omega), trim_eq w hw, decide_eq_true hw]; rfl
    · rw [if_neg (by omega), decide_eq_false hw]; rfl
  · rw [if_neg (by simp [h]), decide_eq_false h]; rfl
theorem asked_of {g : Int} {w : ByteArray} (h : askedB g w = true) : (g = 4 ∨ g = 6) ∧ w.size ≤ 120 ∧ ∀ b ∈ w.data.toList, okB b = true := by
  simp only [askedB, wordB, Bool.and_eq_true, decide_eq_true_eq, List.all_eq_true] at h
  exact ⟨h.1, h.2.1, h.2.2⟩
/-! ### BRead -/
def digB (b : UInt8) : Bool := decide (48 ≤ b.toNat) && decide (b.toNat ≤ 57)
def valD : Int → List UInt8 → Int
  | acc, [] => acc
  | acc, b :: l => valD (10 * acc + ((b.toNat : Int) - 48)) l
theorem valD_ge : ∀ (l : List UInt8) (acc : Int), 0 ≤ acc → l.all digB = true → acc ≤ valD acc l
  | [], acc, _, _ => Int.le_refl _
  | b :: l, acc, h, hd => by
    simp only [List.all_cons, Bool.and_eq_true] at hd
    have hb := hd.1
    unfold digB at hb
    simp only [Bool.and_eq_true, decide_eq_true_eq] at hb
    have := valD_ge l (10 * acc + ((b.toNat : Int) - 48)) (by omega) hd.2
    simp only [valD]
    omega
/-- What the reference reads. -/
def readV (l : List UInt8) : Int := if (1 ≤ l.length ∧ l.length ≤ 6) ∧ ¬ (l.head? = some 48 ∧ 1 < l.length) ∧ l.all digB = true then valD 0 l else -1
theorem read_loop (s : ByteArray) (hs : s.size ≤ 6) (d : Nat) : ∀ (k i : Nat) (acc B : Int), i + d = s.size → d < k → 0 ≤ acc → acc < B → B * 10 ^ d ≤ 100000000 → 1 ≤ B →
    spec_l1Read.l0 k s acc (i : Int) = some (if (s.data.toList.drop i).all digB = true then valD acc (s.data.toList.drop i) else -1) := by
  induction d with
  | zero =>
    intro k i acc B hi hk h0 hB hb h1
    obtain ⟨k, rfl⟩ : ∃ t, k = t + 1 := ⟨k - 1, by omega⟩
    simp only [spec_l1Read.l0]
    rw [if_neg (by omega), List.drop_eq_nil_of_le (by rw [len_data]; omega)]
    rfl
  | succ d ih =>
    intro k i acc B hi hk h0 hB hb h1
    obtain ⟨k, rfl⟩ : ∃ t, k = t + 1 := ⟨k - 1, by omega⟩
    have hlt : i < s.data.toList.length := by rw [len_data]; omega
    have hpow : B * 10 * 10 ^ d ≤ 100000000 := by
      have e : B * 10 ^ (d + 1) = B * 10 * 10 ^ d := by rw [Int.pow_succ, Int.mul_assoc, Int.mul_comm (10 ^ d) 10]
      omega
    have hB1 : B * 10 ≤ 100000000 := by
      have h10 : (1 : Int) ≤ 10 ^ d := by
        have : (0 : Int) < 10 ^ d := Int.pow_pos (by decide)
        omega
      have := Int.mul_le_mul_of_nonneg_left h10 (show (0 : Int) ≤ B * 10 by omega)
      omega
    clear hb
    have hbt := bt_get s i (by omega)
    simp only [spec_l1Read.l0]
    rw [if_pos (by omega), if_pos (by omega), List.drop_eq_getElem_cons hlt, hbt]
    generalize s.data.toList[i] = b at hbt ⊢
    have hbl : (b.toNat : Int) < 256 := by have := UInt8.toNat_lt b; omega
    by_cases c1 : (b.toNat : Int) < 48
    · have hd : digB b = false := by unfold digB; rw [decide_eq_false (by omega), Bool.false_and]
      rw [if_pos c1]
      simp [hd]
    · rw [if_neg c1]
      by_cases c2 : (b.toNat : Int) > 57
      · have hd : digB b = false := by unfold digB; rw [decide_eq_false (p := b.toNat ≤ 57) (by omega), Bool.and_false]
        rw [if_pos c2]
        simp [hd]
      · have hd : digB b = true := by unfold digB; rw [decide_eq_true (by omega), decide_eq_true (by omega)]; rfl
        have em : ((b.toNat : Int) - 48) % 256 = (b.toNat : Int) - 48 := Int.emod_eq_of_lt (by omega) (by omega)
        rw [if_neg c2, em, wrap64_id (x := 10 * acc) (by omega) (by omega), wrap64_id (x := 10 * acc + ((b.toNat : Int) - 48)) (by omega) (by omega), wrap64_id (x := (i : Int) + 1) (by omega) (by omega)]
        have := ih k (i + 1) (10 * acc + ((b.toNat : Int) - 48)) (B * 10) (by omega) (by omega) (by omega) (by omega) hpow (by omega)
        rw [show ((i : Int) + 1) = ((i + 1 : Nat) : Int) by omega, this]
        simp [hd, valD]
theorem l1Read_eq (s : ByteArray) (hs : s.size ≤ 1000000) (k : Nat) (hk : 20 ≤ k) : spec_l1Read.f k s = some (readV s.data.toList) := by
  obtain ⟨k, rfl⟩ : ∃ t, k = t + 1 := ⟨k - 1, by omega⟩
  unfold spec_l1Read.f readV
  rw [l1In_eq, len_data]
  simp only [Option.bind_some]
  by_cases h : 1 ≤ s.size ∧ s.size ≤ 6
  · have hlt : 0 < s.data.toList.length := by rw [len_data]; omega
    have hbt := bt_get s 0 (by omega)
    have hL := read_loop s h.2 s.size k 0 0 1 (by omega) (by omega) (by omega) (by omega) (by
      rcases (show s.size = 1 ∨ s.size = 2 ∨ s.size = 3 ∨ s.size = 4 ∨ s.size = 5 ∨ s.size = 6 by omega) with e | e | e | e | e | e <;> rw [e] <;> decide) (by omega)
    rw [List.drop_zero] at hL
    have hh : s.data.toList.head? = some s.data.toList[0] := by
      rw [List.head?_eq_getElem?, List.getElem?_eq_getElem hlt]
    rw [if_pos (decide_eq_true (by omega)), if_pos (by omega), show (0 : Int) = ((0 : Nat) : Int) from rfl, hbt, hh]
    generalize s.data.toList[0] = b at hbt ⊢
    by_cases hb : (b.toNat : Int) = 48
    · have hb2 : b = 48 := (u8_eq b 48 (by omega)).1 hb
      rw [if_pos hb]
      simp only [spec_l1Read.j0]
      by_cases h1 : 1 < s.size
      · rw [if_pos (decide_eq_true (by omega)), if_neg (fun q => q.2.1 ⟨by rw [hb2], h1⟩)]
      · rw [if_neg (by simp; omega), show spec_l1Read.l0 k s 0 0 = _ from hL]
        by_cases ha : s.data.toList.all digB = true
        · rw [if_pos ha, if_pos ⟨h, fun q => h1 q.2, ha⟩]
          rfl
        · rw [if_neg ha, if_neg (fun q => ha q.2.2)]
    · have hb2 : ¬ b = 48 := fun e => hb ((u8_eq b 48 (by omega)).2 e)
      rw [if_neg hb]
      simp only [spec_l1Read.j0]
      rw [if_neg (by simp), show spec_l1Read.l0 k s 0 0 = _ from hL]
      by_cases ha : s.data.toList.all digB = true
      · rw [if_pos ha, if_pos ⟨h, fun q => hb2 (Option.some.inj q.1), ha⟩]
        rfl
      · rw [if_neg ha, if_neg (fun q => ha q.2.2)]
  · rw [if_neg (by simp; omega), if_neg (fun q => h q.1)]
    simp only [spec_l1Read.j0]
    rfl
theorem u8_of (b : UInt8) (h : 48 ≤ b.toNat) : b = UInt8.ofNat (48 + (b.toNat - 48)) := by
  rw [show 48 + (b.toNat - 48) = b.toNat by omega]
  exact (UInt8.ofNat_toNat).symm
theorem readV_dd (l : List UInt8) (v : Int) (hv : 0 ≤ v ∧ v < 100) (h : readV l = v) : l = dd v.toNat := by
  unfold readV at h
  split at h
  · rename_i hc
    obtain ⟨⟨c1, c2⟩, c3, c4⟩ := hc
    match l, c1, c3, c4, h with
    | [a], _, _, c4, h =>
      simp only [List.all_cons, List.all_nil, Bool.and_true] at c4
      unfold digB at c4
      simp only [Bool.and_eq_true, decide_eq_true_eq] at c4
      simp only [valD] at h
      unfold dd
      have e : v.toNat = a.toNat - 48 := by omega
      rw [e, if_pos (by omega), ← u8_of a (by omega)]
    | [a, b], _, c3, c4, h =>
      simp only [List.all_cons, List.all_nil, Bool.and_true, Bool.and_eq_true] at c4
      unfold digB at c4
      simp only [Bool.and_eq_true, decide_eq_true_eq] at c4
      simp only [valD] at h
      have ha : ¬ a.toNat = 48 := by
        intro e
        refine c3 ⟨?_, by simp⟩
        have : a = 48 := UInt8.toNat_inj.1 e
        rw [this]; rfl
      unfold dd
      have e1 : v.toNat / 10 = a.toNat - 48 := by omega
      have e2 : v.toNat % 10 = b.toNat - 48 := by omega
      rw [if_neg (by omega), e1, e2, ← u8_of a (by omega), ← u8_of b (by omega)]
    | a :: b :: c :: r, _, c3, c4, h =>
      exfalso
      simp only [List.all_cons, Bool.and_eq_true] at c4
      obtain ⟨d1, d2, d3, d4⟩ := c4
      unfold digB at d1 d2 d3
      simp only [Bool.and_eq_true, decide_eq_true_eq] at d1 d2 d3
      have ha : ¬ a.toNat = 48 := by
        intro e
        refine c3 ⟨?_, by simp⟩
        have : a = 48 := UInt8.toNat_inj.1 e
        rw [this]; rfl
      simp only [valD] at h
      have := valD_ge r _ (show 0 ≤ 10 * (10 * (10 * 0 + ((a.toNat : Int) - 48)) + ((b.toNat : Int) - 48)) + ((c.toNat : Int) - 48) by omega) d4
      omega
  · omega
theorem dd_readV : ∀ n : Nat, n < 100 → readV (dd n) = (n : Int) := by decide +kernel
theorem numV_dd (l : List UInt8) (v : Int) (hv : 0 ≤ v ∧ v < 100) (h : numV l = v) : l = dd v.toNat := by
  unfold numV at h
  split at h
  · split at h
    · rename_i hc
      obtain ⟨c1, c2⟩ := hc
      subst h
      rw [← c2]
      unfold Lib.itoa
      rw [if_neg (by omega), dd_eq _ (by omega)]
    · omega
  · omega
theorem dd_numV : ∀ n : Nat, n < 100 → numV (dd n) = (n : Int) := by
  intro n hn
  have h1 : ∀ n : Nat, n < 100 → Lib.atoiAll (dd n) = .ok (n : Int) := by decide +kernel
  unfold numV
  rw [h1 n hn]
  simp only
  have e : Lib.itoa (n : Int) = dd n := by
    unfold Lib.itoa
    rw [if_neg (by omega), Int.toNat_natCast, dd_eq n hn]
  rw [if_pos ⟨by omega, e⟩]
/-- Below a hundred both read the same. -/
theorem read_num (l : List UInt8) (v : Int) (hv : 0 ≤ v ∧ v < 100) : readV l = v ↔ numV l = v := by
  constructor
  · intro h
    rw [readV_dd l v hv h, dd_numV _ (by omega)]
    omega
  · intro h
    rw [numV_dd l v hv h, dd_readV _ (by omega)]
    omega
/-! ### BSplit -/
theorem wrapS (n : Nat) (h : n ≤ 4000000000) : wrap64 ((n : Int) + 1) = ((n + 1 : Nat) : Int) := by
  rw [wrap64_id (by omega) (by omega)]
  omega
def mkB (l : List UInt8) : ByteArray := ⟨l.toArray⟩
theorem mkB_data (l : List UInt8) : (mkB l).data.toList = l := by simp [mkB]
theorem mkB_size (l : List UInt8) : (mkB l).size = l.length := by
  show l.toArray.size = _
  simp
theorem mkB_of (s : ByteArray) : mkB s.data.toList = s := by simp [mkB]
theorem mkB_extract (s : ByteArray) (i j : Nat) (h : j ≤ s.size) : s.extract i j = mkB ((s.data.toList.drop i).take (j - i)) := by
  refine ByteArray.ext ?_
  apply Array.toList_inj.1
  simp [mkB, ByteArray.data_extract, List.take_drop]
/-- The pieces between the bytes c. -/
def splitL (c : UInt8) : List UInt8 → List (List UInt8)
  | [] => [[]]
  | b :: l => if b = c then [] :: splitL c l else match splitL c l with
    | [] => [[b]]
    | p :: ps => (b :: p) :: ps
theorem splitL_ne (c : UInt8) : ∀ l, splitL c l ≠ []
  | [] => by simp [splitL]
  | b :: l => by
    unfold splitL
    split
    · simp
    · split <;> simp
theorem splitL_len (c : UInt8) : ∀ l, (splitL c l).length = l.count c + 1
  | [] => rfl
  | b :: l => by
    have ih := splitL_len c l
    unfold splitL
    by_cases h : b = c
    · rw [if_pos h, List.length_cons, ih, h, List.count_cons_self]
    · rw [if_neg h]
      cases hs : splitL c l with
      | nil => exact absurd hs (splitL_ne c l)
      | cons p ps =>
        rw [hs] at ih
        rw [List.count_cons_of_ne h]
        simpa using ih
theorem splitL_none (c : UInt8) : ∀ l, l.count c = 0 → splitL c l = [l]
  | [], _ => rfl
  | b :: l, h => by
    have hb : ¬ b = c := fun e => by subst e; simp at h
    rw [List.count_cons_of_ne hb] at h
    unfold splitL
    rw [if_neg hb, splitL_none c l h]
theorem splitL_at (c : UInt8) : ∀ (a b : List UInt8), a.count c = 0 → splitL c (a ++ c :: b) = a :: splitL c b
  | [], b, _ => by simp [splitL]
  | x :: a, b, h => by
    have hx : ¬ x = c := fun e => by subst e; simp at h
    rw [List.count_cons_of_ne hx] at h
    rw [List.cons_append, splitL, if_neg hx, splitL_at c a b h]
theorem indexByte_cases (c : UInt8) : ∀ l : List UInt8, (l.count c = 0 ∧ Lib.indexByte l c = -1) ∨ ∃ a b, l = a ++ c :: b ∧ a.count c = 0 ∧ Lib.indexByte l c = a.length
  | [] => .inl ⟨rfl, rfl⟩
  | x :: l => by
    by_cases hx : x = c
    · subst hx
      refine .inr ⟨[], l, rfl, rfl, ?_⟩
      simp [Lib.indexByte]
    · have hb : (x == c) = false := by simpa using hx
      rcases indexByte_cases c l with ⟨h1, h2⟩ | ⟨a, b, rfl, h2, h3⟩
      · refine .inl ⟨by rw [List.count_cons_of_ne hx]; exact h1, ?_⟩
        simp [Lib.indexByte, hb, h2]
      · refine .inr ⟨x :: a, b, rfl, by rw [List.count_cons_of_ne hx]; exact h2, ?_⟩
        unfold Lib.indexByte
        rw [hb, h3]
        have : ((a.length : Int) == -1) = false := by first | (simp; done) | (simp; omega)
        simp [this]
theorem index_eq (s : ByteArray) (c : UInt8) : strings_Index.f s ⟨#[c]⟩ = some (Lib.indexByte s.data.toList c) := by
  unfold strings_Index.f stringslite_Index.f
  rfl
theorem genSplit_loop (c : UInt8) (d : Nat) : ∀ (k : Nat) (s : ByteArray) (done : List ByteArray), s.data.toList.count c = d → s.size ≤ 1000000000 → done.length + d ≤ 1000000000 → d < k →
    strings_genSplit.l0 k s ⟨#[c]⟩ 0 ((done.length + d : Nat) : Int) (done ++ List.replicate (d + 1) ⟨#[]⟩) (done.length : Int) = some (done ++ (splitL c s.data.toList).map mkB) := by
  induction d with
  | zero =>
    intro k s done hc hs hd hk
    obtain ⟨k, rfl⟩ : ∃ t, k = t + 1 := ⟨k - 1, by omega⟩
    have hl : ((done ++ List.replicate (0 + 1) (⟨#[]⟩ : ByteArray)).length : Int) = ((done.length + 1 : Nat) : Int) := by simp
    simp only [strings_genSplit.l0]
    rw [if_neg (by omega), if_pos (by omega), if_pos (by rw [hl]; omega), wrapS _ (by omega), if_pos (by omega), if_pos (by rw [hl]; omega), splitL_none c _ hc]
    simp [mkB_of]
    exact List.take_of_length_le (by simp)
  | succ d ih =>
    intro k s done hc hs hd hk
    obtain ⟨k, rfl⟩ : ∃ t, k = t + 1 := ⟨k - 1, by omega⟩
    rcases indexByte_cases c s.data.toList with ⟨h1, h2⟩ | ⟨a, b, hab, h2, h3⟩
    · omega
    · have hsz : s.size = a.length + (b.length + 1) := by
        have := congrArg List.length hab
        simpa using this
      have hl : ((done ++ List.replicate (d + 1 + 1) (⟨#[]⟩ : ByteArray)).length : Int) = ((done.length + (d + 2) : Nat) : Int) := by simp; omega
      have hcb : b.count c = d := by
        rw [hab, List.count_append, List.count_cons_self] at hc
        omega
      simp only [strings_genSplit.l0]
      rewrite [if_pos (by omega), index_eq, h3, Option.bind_some]
      have e0 : (((⟨#[c]⟩ : ByteArray).size : Nat) : Int) = 1 := rfl
      rewrite [if_neg (by omega), e0, wrapS a.length (by omega), Int.add_zero, wrap64_id (x := (a.length : Int)) (by omega) (by omega), if_pos (by omega), if_pos (by omega), if_pos (by omega), if_pos (by rw [hl]; omega), if_pos (by omega), if_pos (by omega), wrapS done.length (by omega)]
      simp only [Int.toNat_natCast]
      have ex1 : s.extract 0 a.length = mkB a := by
        rw [mkB_extract s 0 a.length (by omega), hab]
        simp
      have ex2 : s.extract (a.length + 1) s.size = mkB b := by
        rw [mkB_extract s (a.length + 1) s.size (Nat.le_refl _), hab]
        congr 1
        rw [show a.length + 1 = (a ++ [c]).length by simp, show a ++ c :: b = (a ++ [c]) ++ b by simp, List.drop_left]
        exact List.take_of_length_le (by simp; omega)
      have est : (done ++ List.replicate (d + 1 + 1) (⟨#[]⟩ : ByteArray)).set done.length (mkB a) = (done ++ [mkB a]) ++ List.replicate (d + 1) ⟨#[]⟩ := by
        rw [List.set_append_right _ _ (Nat.le_refl _), Nat.sub_self, List.replicate_succ]
        simp
      rewrite [ex1, ex2, est]
      have IH := ih k (mkB b) (done ++ [mkB a]) (by rw [mkB_data]; exact hcb) (by rw [mkB_size]; omega) (by simp; omega) (by omega)
      rw [mkB_data, List.length_append, List.length_singleton] at IH
      rw [show done.length + 1 + d = done.length + (d + 1) by omega] at IH
      rewrite [IH, hab, splitL_at c a b h2, List.map_cons, List.append_assoc]
      rfl
theorem split_eq (s : ByteArray) (c : UInt8) (hs : s.size ≤ 2000000) (k : Nat) (hk : s.size + 10 < k) : strings_Split.f k s ⟨#[c]⟩ = some ((splitL c s.data.toList).map mkB) := by
  have hcl : s.data.toList.count c ≤ s.size := by
    have := List.count_le_length (a := c) (l := s.data.toList)
    simpa using this
  obtain ⟨n, hn⟩ : ∃ n, n = s.data.toList.count c := ⟨_, rfl⟩
  rw [← hn] at hcl
  have hcnt : strings_Count.f s ⟨#[c]⟩ = some ((n : Nat) : Int) := by
    unfold strings_Count.f Lib.countByte
    rw [hn]
  have hne : ¬ (⟨#[c]⟩ : ByteArray).toList = [] := by
    rw [Lib.toList_data]
    simp
  obtain ⟨k, rfl⟩ : ∃ t, k = t + 1 := ⟨k - 1, by omega⟩
  unfold strings_Split.f strings_genSplit.f
  rewrite [if_neg (by omega), if_neg hne, if_pos (by omega), hcnt, Option.bind_some]
  simp only [strings_genSplit.j0]
  have e3 : mn ((n + 1 : Nat) : Int) ((s.size + 1 : Nat) : Int) = ((n + 1 : Nat) : Int) := by unfold mn; split <;> omega
  have e5 : ((n + 1 : Nat) : Int) - 1 = (n : Int) := by omega
  rewrite [wrapS n (by omega), wrapS s.size (by omega), e3, e5, wrap64_id (x := (n : Int)) (by omega) (by omega), if_pos (by omega), if_pos (by rw [Int.toNat_natCast]; omega), Int.toNat_natCast]
  have := genSplit_loop c n k s [] hn.symm (by omega) (by simp; omega) (by omega)
  simp only [List.length_nil, Nat.zero_add, List.nil_append] at this
  rewrite [show strings_genSplit.l0 k s ⟨#[c]⟩ 0 (n : Int) (List.replicate (n + 1) ⟨#[]⟩) 0 = _ from this]
  rfl
/-! ### BCut -/
theorem ext_list (s : ByteArray) (i j : Nat) (h : j ≤ s.size) : (s.extract i j).toList = (s.data.toList.drop i).take (j - i) := by
  rw [mkB_extract s i j h, Lib.toList_data, mkB_data]
theorem cutPrefix_yes (s : ByteArray) (c : UInt8) (r : List UInt8) (h : s.data.toList = c :: r) (hs : s.size ≤ 1000000000) : strings_CutPrefix.f s ⟨#[c]⟩ = some (mkB r, true) := by
  have hl : s.size = r.length + 1 := by rw [← len_data, h]; rfl
  have e1 : (((⟨#[c]⟩ : ByteArray).size : Nat) : Int) = 1 := rfl
  have e2 : (⟨#[c]⟩ : ByteArray).toList = [c] := by rw [Lib.toList_data]
  unfold strings_CutPrefix.f stringslite_CutPrefix.f stringslite_HasPrefix.f
  rw [e1, e2, if_pos (by omega), if_pos (by omega), if_pos (by omega)]
  have e3 : (s.extract 0 (1 : Int).toNat).toList = [c] := by
    rw [show (1 : Int).toNat = 1 from rfl, ext_list s 0 1 (by omega), h]
    rfl
  rw [e3]
  simp only [Option.bind_some, BEq.rfl, if_true]
  rw [if_pos (by omega), if_pos (by omega), show (1 : Int).toNat = 1 from rfl, mkB_extract s 1 s.size (Nat.le_refl _), h]
  simp only [Option.bind_some, List.drop_succ_cons, List.drop_zero]
  rw [List.take_of_length_le (by omega)]
theorem cutPrefix_no (s : ByteArray) (c : UInt8) (h : ¬ s.data.toList.head? = some c) (hs : s.size ≤ 1000000000) : strings_CutPrefix.f s ⟨#[c]⟩ = some (s, false) := by
  have e1 : (((⟨#[c]⟩ : ByteArray).size : Nat) : Int) = 1 := rfl
  have e2 : (⟨#[c]⟩ : ByteArray).toList = [c] := by rw [Lib.toList_data]
  unfold strings_CutPrefix.f stringslite_CutPrefix.f stringslite_HasPrefix.f
  rw [e1, e2]
  by_cases h1 : 1 ≤ s.size
  · rw [if_pos (by omega), if_pos (by omega), if_pos (by omega)]
    have e3 : ((s.extract 0 (1 : Int).toNat).toList == [c]) = false := by
      rw [show (1 : Int).toNat = 1 from rfl, ext_list s 0 1 (by omega)]
      have hlt : 0 < s.data.toList.length := by rw [len_data]; omega
      cases hd : s.data.toList with
      | nil => rw [hd] at hlt; simp at hlt
      | cons x l =>
        rw [hd] at h
        have hx : ¬ x = c := fun e => h (by rw [e]; rfl)
        simpa using hx
    rw [e3]
    simp
  · rw [if_neg (by omega)]
    simp
theorem cutSuffix_yes (s : ByteArray) (c : UInt8) (r : List UInt8) (h : s.data.toList = r ++ [c]) (hs : s.size ≤ 1000000000) : strings_CutSuffix.f s ⟨#[c]⟩ = some (mkB r, true) := by
  have hl : s.size = r.length + 1 := by rw [← len_data, h]; simp
  have e1 : (((⟨#[c]⟩ : ByteArray).size : Nat) : Int) = 1 := rfl
  have e2 : (⟨#[c]⟩ : ByteArray).toList = [c] := by rw [Lib.toList_data]
  have e0 : (s.size : Int) - 1 = (r.length : Int) := by omega
  unfold strings_CutSuffix.f stringslite_CutSuffix.f stringslite_HasSuffix.f
  rw [e1, e2, e0, wrap64_id (x := (r.length : Int)) (by omega) (by omega), if_pos (by omega), if_pos (by omega), if_pos (by omega), Int.toNat_natCast]
  have e3 : (s.extract r.length s.size).toList = [c] := by
    rw [ext_list s r.length s.size (Nat.le_refl _), h, List.drop_left]
    exact List.take_of_length_le (by simp; omega)
  rw [e3]
  simp only [Option.bind_some, BEq.rfl, if_true]
  rw [if_pos (by omega), if_pos (by omega), mkB_extract s 0 r.length (by omega), h]
  simp
theorem cutSuffix_no (s : ByteArray) (c : UInt8) (h : ¬ s.data.toList.getLast? = some c) (hs : s.size ≤ 1000000000) : strings_CutSuffix.f s ⟨#[c]⟩ = some (s, false) := by
  have e1 : (((⟨#[c]⟩ : ByteArray).size : Nat) : Int) = 1 := rfl
  have e2 : (⟨#[c]⟩ : ByteArray).toList = [c] := by rw [Lib.toList_data]
  unfold strings_CutSuffix.f stringslite_CutSuffix.f stringslite_HasSuffix.f
  rw [e1, e2]
  by_cases h1 : 1 ≤ s.size
  · obtain ⟨m, hm⟩ : ∃ m, s.size = m + 1 := ⟨s.size - 1, by omega⟩
    have e0 : (s.size : Int) - 1 = (m : Int) := by omega
    rw [e0, wrap64_id (x := (m : Int)) (by omega) (by omega), if_pos (by omega), if_pos (by omega), if_pos (by omega), Int.toNat_natCast]
    have e3 : ((s.extract m s.size).toList == [c]) = false := by
      rw [ext_list s m s.size (Nat.le_refl _)]
      rcases List.eq_nil_or_concat s.data.toList with e | ⟨l, x, e⟩
      · have := len_data s; rw [e] at this; simp at this; omega
      · rw [List.concat_eq_append] at e
        have hl : l.length = m := by have := len_data s; rw [e] at this; simp at this; omega
        rw [e] at h ⊢
        have hx : ¬ x = c := fun e => h (by rw [e]; simp)
        rw [← hl, List.drop_left, List.take_of_length_le (by simp; omega)]
        simpa using hx
    rw [e3]
    simp
  · rw [if_neg (by omega)]
    simp
theorem cut_yes (s : ByteArray) (c : UInt8) (a b : List UInt8) (h : s.data.toList = a ++ c :: b) (ha : a.count c = 0) (hs : s.size ≤ 1000000000) : strings_Cut.f s ⟨#[c]⟩ = some (mkB a, mkB b, true) := by
  have hl : s.size = a.length + (b.length + 1) := by rw [← len_data, h]; simp
  have e1 : (((⟨#[c]⟩ : ByteArray).size : Nat) : Int) = 1 := rfl
  have hi : stringslite_Index.f s ⟨#[c]⟩ = some (a.length : Int) := by
    have h0 := index_eq s c
    unfold strings_Index.f at h0
    rcases indexByte_cases c s.data.toList with ⟨h1, h2⟩ | ⟨a', b', h1, h2, h3⟩
    · rw [h, List.count_append, List.count_cons_self] at h1; omega
    · have e : a' = a := by
        rw [h] at h1
        have h4 := splitL_at c a b ha
        rw [h1, splitL_at c a' b' h2] at h4
        injection h4
      subst e
      unfold stringslite_Index.f
      simp only [h3]
  unfold strings_Cut.f stringslite_Cut.f
  rw [hi, e1]
  simp only [Option.bind_some]
  rw [if_pos (by omega), if_pos (by omega), if_pos (by omega), wrapS a.length (by omega), if_pos (by omega), if_pos (by omega), Int.toNat_natCast, Int.toNat_natCast, mkB_extract s 0 a.length (by omega), mkB_extract s (a.length + 1) s.size (Nat.le_refl _), h]
  have e2 : (a ++ c :: b).drop (a.length + 1) = b := by
    rw [show a.length + 1 = (a ++ [c]).length by simp, show a ++ c :: b = (a ++ [c]) ++ b by simp, List.drop_left]
  rw [e2, List.take_of_length_le (l := b) (by omega)]
  simp
theorem cut_no (s : ByteArray) (c : UInt8) (h : s.data.toList.count c = 0) : strings_Cut.f s ⟨#[c]⟩ = some (s, ⟨#[]⟩, false) := by
  unfold strings_Cut.f stringslite_Cut.f stringslite_Index.f
  rcases indexByte_cases c s.data.toList with ⟨h1, h2⟩ | ⟨a', b', h1, h2, h3⟩
  · simp only [h2, Option.bind_some]
    rw [if_neg (by omega)]
    rfl
  · rw [h1, List.count_append, List.count_cons_self] at h; omega
/-! ### BSplitR -/
def splitA (c : UInt8) : List UInt8 → List UInt8 → List (List UInt8)
  | p, [] => [p]
  | p, b :: r => if b = c then p :: splitA c [] r else splitA c (p ++ [b]) r
theorem splitA_eq (c : UInt8) : ∀ (r p : List UInt8), ∃ q qs, splitL c r = q :: qs ∧ splitA c p r = (p ++ q) :: qs
  | [], p => ⟨[], [], rfl, by simp [splitA]⟩
  | b :: r, p => by
    by_cases h : b = c
    · obtain ⟨q, qs, e1, e2⟩ := splitA_eq c r []
      refine ⟨[], splitL c r, by simp [splitL, h], ?_⟩
      simp only [splitA]
      rw [if_pos h, e2, e1]
      simp
    · obtain ⟨q, qs, e1, e2⟩ := splitA_eq c r (p ++ [b])
      refine ⟨b :: q, qs, ?_, ?_⟩
      · simp only [splitL]
        rw [if_neg h, e1]
      · simp only [splitA]
        rw [if_neg h, e2]
        simp
theorem splitA_nil (c : UInt8) (l : List UInt8) : splitA c [] l = splitL c l := by
  obtain ⟨q, qs, e1, e2⟩ := splitA_eq c l []
  rw [e1, e2, List.nil_append]
theorem l1Split_loop (s : ByteArray) (c : UInt8) (hs : s.size ≤ 1000000) (d : Nat) : ∀ (k i from_ : Nat) (done : List ByteArray), i + d = s.size → from_ ≤ i → done.length ≤ i → d < k →
    spec_l1Split.l0 k s (c.toNat : Int) done (from_ : Int) (i : Int) = some (done ++ (splitA c ((s.data.toList.drop from_).take (i - from_)) (s.data.toList.drop i)).map mkB) := by
  induction d with
  | zero =>
    intro k i f done hi hf hd hk
    obtain ⟨k, rfl⟩ : ∃ t, k = t + 1 := ⟨k - 1, by omega⟩
    simp only [spec_l1Split.l0]
    rewrite [if_neg (by omega), if_pos (by omega), if_pos (by omega), if_pos (by omega), Int.toNat_natCast, mkB_extract s f s.size (Nat.le_refl _), List.drop_eq_nil_of_le (i := i) (by rw [len_data]; omega)]
    rw [show i = s.size by omega]
    rfl
  | succ d ih =>
    intro k i f done hi hf hd hk
    obtain ⟨k, rfl⟩ : ∃ t, k = t + 1 := ⟨k - 1, by omega⟩
    have hlt : i < s.data.toList.length := by rw [len_data]; omega
    have hbt := bt_get s i (by omega)
    have hpre : (s.data.toList.drop f).take (i + 1 - f) = (s.data.toList.drop f).take (i - f) ++ [s.data.toList[i]] := by
      rw [show i + 1 - f = (i - f) + 1 by omega, List.take_succ_eq_append_getElem (by simp; omega)]
      simp [show f + (i - f) = i by omega]
    simp only [spec_l1Split.l0]
    rewrite [if_pos (by omega), if_pos (by omega), hbt, List.drop_eq_getElem_cons hlt]
    generalize s.data.toList[i] = b at hpre ⊢
    by_cases hb : b = c
    · subst hb
      rewrite [if_pos rfl, if_pos (by omega), if_pos (by omega), if_pos (by omega), if_pos (by omega), wrapS i (by omega), Int.toNat_natCast, Int.toNat_natCast, mkB_extract s f i (by omega), ih k (i + 1) (i + 1) _ (by omega) (Nat.le_refl _) (by simp; omega) (by omega)]
      simp only [splitA, if_true, Nat.sub_self, List.take_zero, List.map_cons, List.append_assoc, List.cons_append, List.nil_append]
    · have hne : ¬ (b.toNat : Int) = (c.toNat : Int) := fun e => hb (UInt8.toNat_inj.1 (by omega))
      rewrite [if_neg hne, wrapS i (by omega), ih k (i + 1) f done (by omega) (by omega) (by omega) (by omega), hpre]
      simp only [splitA, if_neg hb]
theorem l1Split_eq (s : ByteArray) (c : UInt8) (hs : s.size ≤ 1000000) (k : Nat) (hk : s.size < k) : spec_l1Split.f k s (c.toNat : Int) = some ((splitL c s.data.toList).map mkB) := by
  unfold spec_l1Split.f
  have := l1Split_loop s c hs s.size k 0 0 [] (by omega) (Nat.le_refl _) (Nat.le_refl _) hk
  simp only [Nat.sub_self, List.take_zero, List.drop_zero, List.nil_append, splitA_nil] at this
  exact this
/-! ### QFnExactParseChords -/
theorem dd_clean45 : ∀ n : Nat, n < 100 → (dd n).count 45 = 0 := by decide +kernel
theorem splitL_two (c : UInt8) (l x y : List UInt8) (h : splitL c l = [x, y]) : l = x ++ c :: y ∧ y.count c = 0 := by
  rcases indexByte_cases c l with ⟨c1, _⟩ | ⟨a, b, c1, c2, _⟩
  · rw [splitL_none c l c1] at h
    simp at h
  · rw [c1, splitL_at c a b c2] at h
    injection h with e1 e2
    have hc := splitL_len c b
    rw [e2] at hc
    have h0 : b.count c = 0 := by simpa using hc.symm
    have := splitL_none c b h0
    rw [e2] at this
    injection this with e3
    subst e1; subst e3
    exact ⟨c1, h0⟩
theorem joinTail_cons (c : UInt8) (m : List UInt8) (ms : List (List UInt8)) : Lib.joinTail [c] (m :: ms) = c :: Lib.join (m :: ms) [c] := by
  rw [Lib.join_cons]
  simp [Lib.joinTail]
theorem join_split (c : UInt8) : ∀ (n : Nat) (l : List UInt8), l.length ≤ n → Lib.join (splitL c l) [c] = l := by
  intro n
  induction n with
  | zero =>
    intro l hl
    obtain rfl : l = [] := List.eq_nil_of_length_eq_zero (by omega)
    rfl
  | succ n ih =>
    intro l hl
    rcases indexByte_cases c l with ⟨c1, _⟩ | ⟨a, b, c1, c2, _⟩
    · rw [splitL_none c l c1, Lib.join_one]
    · have hb : b.length ≤ n := by rw [c1] at hl; simp at hl; omega
      have ihb := ih b hb
      rw [c1, splitL_at c a b c2, Lib.join_cons]
      cases hs : splitL c b with
      | nil => exact absurd hs (splitL_ne c b)
      | cons m ms =>
        rw [hs] at ihb
        rw [joinTail_cons, ihb]
theorem splitL_small (c : UInt8) : ∀ (n : Nat) (l : List UInt8), l.length ≤ n → ∀ p ∈ splitL c l, p.length ≤ l.length := by
  intro n
  induction n with
  | zero =>
    intro l hl p hp
    obtain rfl : l = [] := List.eq_nil_of_length_eq_zero (by omega)
    simp [splitL] at hp
    subst hp
    simp
  | succ n ih =>
    intro l hl p hp
    rcases indexByte_cases c l with ⟨c1, _⟩ | ⟨a, b, c1, c2, _⟩
    · rw [splitL_none c l c1] at hp
      simp at hp
      subst hp
      exact Nat.le_refl _
    · have hlen : l.length = a.length + (b.length + 1) := by rw [c1]; simp
      rw [c1, splitL_at c a b c2] at hp
      rcases List.mem_cons.1 hp with rfl | hp
      · omega
      · have := ih b (by omega) p hp
        omega
/-- The chord that the program reads in a part. -/
def ich (l : List UInt8) : S69 := match strings_Cut.f (mkB l) ⟨#[45]⟩ with
  | some t => ⟨numV t.1.data.toList, numV t.2.1.data.toList⟩
  | none => ⟨-1, -1⟩
theorem ich_none (l : List UInt8) (h : l.count 45 = 0) : ich l = ⟨numV l, -1⟩ := by
  unfold ich
  rw [cut_no (mkB l) 45 (by rw [mkB_data]; exact h)]
  simp only [mkB_data]
  rfl
theorem ich_at (a b : List UInt8) (h : a.count 45 = 0) (hs : (a ++ 45 :: b).length ≤ 2000000) : ich (a ++ 45 :: b) = ⟨numV a, numV b⟩ := by
  unfold ich
  rw [cut_yes (mkB (a ++ 45 :: b)) 45 a b (by rw [mkB_data]) h (by rw [mkB_size]; omega)]
  simp only [mkB_data]
theorem ich_runs (l : List UInt8) (hs : l.length ≤ 2000000) : ∃ t, strings_Cut.f (mkB l) ⟨#[45]⟩ = some t ∧ impl_number.f t.1 = some (ich l).f0 ∧ impl_number.f t.2.1 = some (ich l).f1 := by
  have hn : ∀ t : ByteArray, t.size ≤ 1000000000 → impl_number.f t = some (numV t.data.toList) := fun t ht => by unfold impl_number.f; rw [if_pos (by omega)]
  rcases indexByte_cases 45 l with ⟨c1, _⟩ | ⟨a, b, c1, c2, _⟩
  · refine ⟨_, cut_no (mkB l) 45 (by rw [mkB_data]; exact c1), ?_, ?_⟩
    · rw [ich_none l c1, hn _ (by simp only [mkB_size]; omega), mkB_data]
    · rw [ich_none l c1]
      rfl
  · have hlen : l.length = a.length + (b.length + 1) := by rw [c1]; simp
    refine ⟨_, cut_yes (mkB l) 45 a b (by rw [mkB_data]; exact c1) c2 (by rw [mkB_size]; omega), ?_, ?_⟩
    · rw [hn _ (by simp only [mkB_size]; omega), mkB_data, c1, ich_at a b c2 (by rw [← c1]; exact hs)]
    · rw [hn _ (by simp only [mkB_size]; omega), mkB_data, c1, ich_at a b c2 (by rw [← c1]; exact hs)]
/-- The chord that the reference reads in a part. -/
def sch (l : List UInt8) : Option S69 := match splitL 45 l with
  | [x, y] => some ⟨readV x, readV y⟩
  | _ => none
def schL : List (List UInt8) → Option (List S69)
  | [] => some []
  | p :: ps => (sch p).bind fun c => (schL ps).bind fun r => some (c :: r)
theorem key_impl (l : List UInt8) (hs : l.length ≤ 2000000) (h : Proper 60 (ich l)) : sch l = some (ich l) ∧ l = (ct (ich l)).data.toList := by
  rcases indexByte_cases 45 l with ⟨c1, _⟩ | ⟨a, b, c1, c2, _⟩
  · rw [ich_none l c1] at h
    unfold Proper at h
    simp only at h
    omega
  · have e := ich_at a b c2 (by rw [← c1]; exact hs)
    rw [← c1] at e
    rw [e] at h
    unfold Proper at h
    simp only at h
    have ea := numV_dd a (numV a) (by omega) rfl
    have eb := numV_dd b (numV b) (by omega) rfl
    have ra := (read_num a (numV a) (by omega)).2 rfl
    have rb := (read_num b (numV b) (by omega)).2 rfl
    have cb : b.count 45 = 0 := by rw [eb]; exact dd_clean45 _ (by omega)
    refine ⟨?_, ?_⟩
    · unfold sch
      rw [c1, splitL_at 45 a b c2, splitL_none 45 b cb]
      simp only
      rw [ra, rb, ← c1, e]
    · rw [e]
      unfold ct nt
      rw [ByteArray.data_append, ByteArray.data_append, Array.toList_append, Array.toList_append]
      simp only
      rw [← ea, ← eb, c1]
      simp
theorem key_spec (l : List UInt8) (hs : l.length ≤ 2000000) (c : S69) (h : sch l = some c) (hp : Proper 60 c) : ich l = c := by
  unfold sch at h
  split at h
  · rename_i x y hsp
    injection h with h
    subst h
    unfold Proper at hp
    simp only at hp
    obtain ⟨e, cy⟩ := splitL_two 45 l x y hsp
    have nx := (read_num x (readV x) (by omega)).1 rfl
    have ny := (read_num y (readV y) (by omega)).1 rfl
    have ex := readV_dd x (readV x) (by omega) rfl
    have cx : x.count 45 = 0 := by rw [ex]; exact dd_clean45 _ (by omega)
    rw [e, ich_at x y cx (by rw [← e]; exact hs), nx, ny]
  · cases h
theorem all_impl : ∀ (L : List (List UInt8)), (∀ p ∈ L, p.length ≤ 2000000) → (∀ c ∈ L.map ich, Proper 60 c) → schL L = some (L.map ich) ∧ (L.map ich).map (fun c => (ct c).data.toList) = L
  | [], _, _ => ⟨rfl, rfl⟩
  | p :: L, hs, hp => by
    obtain ⟨i1, i2⟩ := all_impl L (fun q hq => hs q (List.mem_cons_of_mem _ hq)) (fun c hc => hp c (List.mem_cons_of_mem _ hc))
    obtain ⟨k1, k2⟩ := key_impl p (hs p List.mem_cons_self) (hp _ List.mem_cons_self)
    refine ⟨?_, ?_⟩
    · simp only [schL, k1, i1, Option.bind_some, List.map_cons]
    · rw [List.map_cons, List.map_cons, i2, ← k2]
theorem all_spec : ∀ (L : List (List UInt8)) (out : List S69), (∀ p ∈ L, p.length ≤ 2000000) → schL L = some out → (∀ c ∈ out, Proper 60 c) → out = L.map ich
  | [], out, _, h, _ => by
    injection h with h
    exact h.symm
  | p :: L, out, hs, h, hp => by
    simp only [schL] at h
    obtain ⟨c, hc, h⟩ := Option.bind_eq_some_iff.mp h
    obtain ⟨r, hr, h⟩ := Option.bind_eq_some_iff.mp h
    injection h with h
    subst h
    rw [List.map_cons, key_spec p (hs p List.mem_cons_self) c hc (hp c List.mem_cons_self), ← all_spec L r (fun q hq => hs q (List.mem_cons_of_mem _ hq)) hr (fun d hd => hp d (List.mem_cons_of_mem _ hd))]
theorem schL_len : ∀ (L : List (List UInt8)) (out : List S69), schL L = some out → out.length = L.length
  | [], out, h => by
    injection h with h
    subst h
    rfl
  | p :: L, out, h => by
    simp only [schL] at h
    obtain ⟨c, hc, h⟩ := Option.bind_eq_some_iff.mp h
    obtain ⟨r, hr, h⟩ := Option.bind_eq_some_iff.mp h
    injection h with h
    subst h
    rw [List.length_cons, List.length_cons, schL_len L r hr]
theorem rd_map (pre m : List (List UInt8)) (p : List UInt8) (i : Int) (hi : i = pre.length) : rdOf ByteArray.empty ((pre ++ p :: m).map mkB) i = mkB p := by
  subst hi
  simp [rdOf]
theorem impl_loop (L : List (List UInt8)) (hL : L.length ≤ 2000000) (hs : ∀ p ∈ L, p.length ≤ 2000000) (m : List (List UInt8)) : ∀ (k : Nat) (pre : List (List UInt8)), pre ++ m = L → m.length + L.length + 20 < k →
    impl_ParseChords.l0 k (pre.map ich) (L.map mkB) ((L.map mkB).length : Int) (pre.length : Int) = some (if goodB 60 (L.map ich) = true then (L.map ich, true) else ([], false)) := by
  induction m with
  | nil =>
    intro k pre e hk
    obtain ⟨k, rfl⟩ : ∃ t, k = t + 1 := ⟨k - 1, by omega⟩
    rw [List.append_nil] at e
    subst e
    simp only [List.length_nil] at hk
    unfold impl_ParseChords.l0
    rw [if_neg (by simp), areChords_eq 60 _ (by simp; omega) k (by simp; omega)]
    simp only [Option.bind_some]
    by_cases h : goodB 60 (pre.map ich) = true
    · rw [if_pos h, if_pos h]
    · rw [if_neg h, if_neg h]
  | cons p m ih =>
    intro k pre e hk
    obtain ⟨k, rfl⟩ : ∃ t, k = t + 1 := ⟨k - 1, by omega⟩
    simp only [List.length_cons] at hk
    have hlen : L.length = pre.length + (m.length + 1) := by rw [← e]; simp
    have IH := ih k (pre ++ [p]) (by simpa using e) (by omega)
    have hx : rdOf ByteArray.empty (L.map mkB) (pre.length : Int) = mkB p := by rw [← e]; exact rd_map pre m p _ rfl
    obtain ⟨t, t1, t2, t3⟩ := ich_runs p (hs p (by rw [← e]; simp))
    have hw := wrapS pre.length (by omega)
    unfold impl_ParseChords.l0
    rw [if_pos (by simp; omega), if_pos (by omega), if_pos (by simp; omega), hx, t1]
    simp only [Option.bind_some]
    rw [t2]
    simp only [Option.bind_some]
    rw [t3]
    simp only [Option.bind_some]
    rw [if_pos (by simp; omega), hw]
    rw [List.map_append, List.length_append] at IH
    exact IH
theorem spec_loop (s : ByteArray) (r : List S69 × Bool) (L : List (List UInt8)) (hL : L.length ≤ 1000) (hs : ∀ p ∈ L, p.length ≤ 1000) (m : List (List UInt8)) : ∀ (k : Nat) (pre : List (List UInt8)) (done : List S69), pre ++ m = L → done.length = pre.length → m.length + 2100 < k →
    (∀ out, schL m = some out → ∀ j, 2000 ≤ j → spec_ParseChords.j1 j s (done ++ out) = some r) → (schL m = none → r = ([], false)) →
    spec_ParseChords.l0 k s done (L.map mkB) ((L.map mkB).length : Int) (pre.length : Int) = some r := by
  induction m with
  | nil =>
    intro k pre done e hd hk h1 _
    obtain ⟨k, rfl⟩ : ∃ t, k = t + 1 := ⟨k - 1, by omega⟩
    rw [List.append_nil] at e
    subst e
    simp only [List.length_nil] at hk
    unfold spec_ParseChords.l0
    rw [if_neg (by simp)]
    have := h1 [] rfl k (by omega)
    rwa [List.append_nil] at this
  | cons p m ih =>
    intro k pre done e hd hk h1 h2
    obtain ⟨k, rfl⟩ : ∃ t, k = t + 1 := ⟨k - 1, by omega⟩
    simp only [List.length_cons] at hk
    have hlen : L.length = pre.length + (m.length + 1) := by rw [← e]; simp
    have hx : rdOf ByteArray.empty (L.map mkB) (pre.length : Int) = mkB p := by rw [← e]; exact rd_map pre m p _ rfl
    have hp := hs p (by rw [← e]; simp)
    have hw := wrapS pre.length (by omega)
    unfold spec_ParseChords.l0
    rw [if_pos (by simp; omega), if_pos (by omega), if_pos (by simp; omega), hx, show (45 : Int) = ((45 : UInt8).toNat : Int) from rfl, l1Split_eq (mkB p) 45 (by rw [mkB_size]; omega) k (by rw [mkB_size]; omega), mkB_data]
    simp only [Option.bind_some]
    cases hsp : splitL 45 p with
    | nil => exact absurd hsp (splitL_ne 45 p)
    | cons x xs =>
      have bad : (∀ y, xs ≠ [y]) → r = ([], false) := fun hb => h2 (by
        have : sch p = none := by
          unfold sch
          rw [hsp]
          cases xs with
          | nil => rfl
          | cons y ys =>
            cases ys with
            | nil => exact absurd rfl (hb y)
            | cons _ _ => rfl
        simp only [schL, this, Option.bind_none])
      cases xs with
      | nil =>
        rw [if_neg (by simp), bad (fun y h => by cases h)]
      | cons y ys =>
        cases ys with
        | cons u us => rw [if_neg (by simp; omega), bad (fun y h => by simp at h)]
        | nil =>
          obtain ⟨ep, _⟩ := splitL_two 45 p x y hsp
          have hxy : p.length = x.length + (y.length + 1) := by rw [ep]; simp
          rw [if_pos (by simp), if_pos (by simp)]
          have g0 : rdOf ByteArray.empty ([x, y].map mkB) 0 = mkB x := rfl
          have g1 : rdOf ByteArray.empty ([x, y].map mkB) 1 = mkB y := rfl
          rw [g0, g1, l1Read_eq (mkB x) (by rw [mkB_size]; omega) k (by omega), l1Read_eq (mkB y) (by rw [mkB_size]; omega) k (by omega), mkB_data, mkB_data]
          simp only [Option.bind_some]
          have hc : sch p = some ⟨readV x, readV y⟩ := by unfold sch; rw [hsp]
          have IH := ih k (pre ++ [p]) (done ++ [(⟨readV x, readV y⟩ : S69)]) (by simpa using e) (by simp; omega) (by omega)
            (fun out ho j hj => by
              have := h1 (⟨readV x, readV y⟩ :: out) (by simp only [schL, hc, ho, Option.bind_some]) j hj
              simpa using this)
            (fun hn => h2 (by simp only [schL, hc, hn, Option.bind_some, Option.bind_none]))
          rw [if_pos (by simp), if_pos (by omega), hw]
          rw [List.length_append] at IH
          exact IH
theorem cdText_eq (l : List S69) (h : goodB 60 l = true) (k : Nat) (hk : 1000 ≤ k) : spec_cdText.f k l = some (jb l) := by
  obtain ⟨h1, h2, h3, h4⟩ := good_spec 60 l h
  unfold spec_cdText.f
  exact cdText_loop l (by omega) h4 l k [] rfl (by omega)
theorem parseChords_both (s : ByteArray) (hs : s.size ≤ 1048576) : ∃ r : List S69 × Bool, r.1.length ≤ 40 ∧ ∀ k, 5000000 ≤ k → spec_ParseChords.f k s = some r ∧ impl_ParseChords.f k s = some r := by
  have hl : s.data.toList.length = s.size := by simp
  by_cases h0 : s.toList = ([] : List UInt8)
  · have hz : s.size = 0 := by rw [← hl, ← Lib.toList_data, h0]; rfl
    refine ⟨([], true), by simp, fun k hk => ⟨?_, ?_⟩⟩
    · obtain ⟨k, rfl⟩ : ∃ t, k = t + 1 := ⟨k - 1, by omega⟩
      unfold spec_ParseChords.f
      rw [if_neg (by omega), if_neg (by omega)]
      simp only [spec_ParseChords.j1]
      have hg : goodB 60 [] = true := rfl
      rw [cdGood_eq 60 [] (by simp) k (by simp; omega)]
      simp only [Option.bind_some]
      rw [if_pos hg, cdText_eq [] hg k (by omega)]
      simp only [Option.bind_some]
      rw [if_pos (by rw [h0, Lib.toList_data]; rfl)]
    · unfold impl_ParseChords.f
      rw [if_pos h0]
  · have hpos : 0 < s.size := by
      rcases Nat.eq_zero_or_pos s.size with h | h
      · exact absurd (by rw [Lib.toList_data]; exact List.eq_nil_of_length_eq_zero (by rw [hl]; exact h)) h0
      · exact h
    obtain ⟨L, hL⟩ : ∃ L, splitL 44 s.data.toList = L := ⟨_, rfl⟩
    have hLl : L.length ≤ s.size + 1 := by
      rw [← hL, splitL_len, ← hl]
      have := List.count_le_length (a := (44 : UInt8)) (l := s.data.toList)
      omega
    have hLs : ∀ p ∈ L, p.length ≤ s.size := fun p hp => by
      rw [← hl]; rw [← hL] at hp; exact splitL_small 44 _ _ (Nat.le_refl _) p hp
    have hI : ∀ k, 5000000 ≤ k → impl_ParseChords.f k s = some (if goodB 60 (L.map ich) = true then (L.map ich, true) else ([], false)) := fun k hk => by
      unfold impl_ParseChords.f
      rw [if_neg h0, split_eq s 44 (by omega) k (by omega), hL]
      simp only [Option.bind_some]
      exact impl_loop L (by omega) (fun p hp => by have := hLs p hp; omega) L k [] rfl (by omega)
    have hS : ∀ r : List S69 × Bool, (s.size ≤ 240 → (∀ out, schL L = some out → ∀ j, 2000 ≤ j → spec_ParseChords.j1 j s out = some r) ∧ (schL L = none → r = ([], false))) → (¬ s.size ≤ 240 → r = ([], false)) → ∀ k, 5000000 ≤ k → spec_ParseChords.f k s = some r := fun r h1 h2 k hk => by
      unfold spec_ParseChords.f
      by_cases hz : s.size ≤ 240
      · obtain ⟨h1, h3⟩ := h1 hz
        rw [if_neg (by omega), if_pos (by omega), show (44 : Int) = ((44 : UInt8).toNat : Int) from rfl, l1Split_eq s 44 (by omega) k (by omega), hL]
        simp only [Option.bind_some]
        exact spec_loop s r L (by omega) (fun p hp => by have := hLs p hp; omega) L k [] [] rfl rfl (by omega) (fun out ho j hj => by rw [List.nil_append]; exact h1 out ho j hj) h3
      · rw [if_pos (by omega), h2 hz]
    by_cases hg : goodB 60 (L.map ich) = true
    · obtain ⟨g1, g2, g3, g4⟩ := good_spec 60 _ hg
      obtain ⟨a1, a2⟩ := all_impl L (fun p hp => by have := hLs p hp; omega) g4
      have hj : jb (L.map ich) = s := by
        unfold jb joinB
        rw [List.map_map, show ((fun x : ByteArray => x.data.toList) ∘ ct) = (fun c => (ct c).data.toList) from rfl, a2, ← hL, join_split 44 _ _ (Nat.le_refl _)]
      have hsz : s.size ≤ 240 := by
        have := jb_size (L.map ich)
        rw [hj] at this
        omega
      refine ⟨(L.map ich, true), g2, fun k hk => ⟨hS _ (fun _ => ⟨fun out ho j hj2 => ?_, fun hn => ?_⟩) (fun h => absurd hsz h) k hk, ?_⟩⟩
      · rw [a1] at ho
        injection ho with ho
        subst ho
        obtain ⟨j, rfl⟩ : ∃ t, j = t + 1 := ⟨j - 1, by omega⟩
        simp only [spec_ParseChords.j1]
        rw [cdGood_eq 60 (L.map ich) (by omega) j (by omega)]
        simp only [Option.bind_some]
        rw [if_pos hg, cdText_eq _ hg j (by omega), hj]
        simp only [Option.bind_some, if_true]
      · rw [a1] at hn
        cases hn
      · rw [hI k hk, if_pos hg]
    · refine ⟨([], false), by simp, fun k hk => ⟨hS _ (fun hz => ⟨fun out ho j hj2 => ?_, fun _ => rfl⟩) (fun _ => rfl) k hk, ?_⟩⟩
      · obtain ⟨j, rfl⟩ : ∃ t, j = t + 1 := ⟨j - 1, by omega⟩
        have hlo := schL_len L out ho
        have hng : ¬ goodB 60 out = true := fun h => by
          obtain ⟨_, _, _, g4⟩ := good_spec 60 _ h
          have := all_spec L out (fun p hp => by have := hLs p hp; omega) ho g4
          rw [this] at h
          exact hg h
        simp only [spec_ParseChords.j1]
        rw [cdGood_eq 60 out (by omega) j (by omega)]
        simp only [Option.bind_some]
        rw [if_neg hng]
      · rw [hI k hk, if_neg hg]
theorem FnExactParseChords : ∀ (a0 : ByteArray), a0.size ≤ 140737488351232 → ∃ k, laws_FnExactParseChords.f k a0 = some true := by
  intro s _
  obtain ⟨K, hK⟩ : ∃ K, K = 5000000 := ⟨_, rfl⟩
  refine ⟨K + 2, ?_⟩
  unfold laws_FnExactParseChords.f
  by_cases h : s.size ≤ 1048576
  · obtain ⟨⟨r, b⟩, hlen, hr⟩ := parseChords_both s h
    simp only at hlen
    obtain ⟨y, m1, m2, m3⟩ := mark_heldC (K + 1) r 1 (by omega) (by omega)
    have E := fun k (hk : K ≤ k) => eqChordS_self k r (by omega) (by omega)
    have e0 : ¬ (1 + 2 * (r.length : Int) < 0) := by omega
    rw [if_neg (by omega), (hr (K + 2) (by omega)).1, (hr (K + 2) (by omega)).2]
    simp only [Option.bind_some]
    rw [E (K + 2) (by omega)]
    simp only [Option.bind_some, if_true, laws_FnExactParseChords.j0, bne_self_eq_false, Bool.false_eq_true, if_false, m1, m3 (K + 1) (by omega), if_neg e0, (hr (K + 1) (by omega)).2, E (K + 1) (by omega), laws_FnExactParseChords.j1, m3 K (by omega)]
  · rw [if_pos (by omega)]

end Go.Proofs.YtceoaondcnhaeaaDoor.Q
