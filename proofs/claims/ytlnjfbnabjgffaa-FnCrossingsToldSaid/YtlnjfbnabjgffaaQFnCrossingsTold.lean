/- CrossingsTold: as many pairs of a star's chords cross as are told. -/
import Derived.Test.YtlnjfbnabjgffaaZFnCrossingsTold2
import Derived.Lib.SlicesCompact
import Derived.Lib.RowBridge
namespace Go.Proofs.Ytlnjfbnabjgffaa.Q
open Go.RowKit Go.Proofs.Ytlnjfbnabjgffaa.X Go.Proofs.YtlnjfbnabjgffaaW.PrintWords Go.Proofs.YtlnjfbnabjgffaaW.PrintLast Go.Proofs.YtlnjfbnabjgffaaW.PrintMore
set_option linter.unusedVariables false
set_option linter.unusedSimpArgs false

/-! ### BWrap -/
theorem wrap64_id {x : Int} (h0 : -9223372036854775808 ≤ x) (h1 : x ≤ 9223372036854775807) : wrap64 x = x := by unfold wrap64; omega
theorem wrap_step {x : Int} (h0 : 0 ≤ x) (h1 : x ≤ 4611686018427387904) : wrap64 (x + 1) = x + 1 := by unfold wrap64; omega
/-! ### BBase -/
theorem l1In_eq (a b c : Int) : spec_l1In.f a b c = some (decide (b ≤ a ∧ a ≤ c)) := by
  unfold spec_l1In.f
  by_cases h : a ≥ b
  · rw [if_pos h]; exact congrArg some (decide_eq_decide.2 (by omega))
  · rw [if_neg h]; exact congrArg some (decide_eq_false (by omega)).symm
theorem within_eq (a b c : Int) : impl_within.f a b c = some (decide (b ≤ a ∧ a ≤ c)) := by
  unfold impl_within.f
  by_cases h : a ≥ b
  · rw [if_pos h]; exact congrArg some (decide_eq_decide.2 (by omega))
  · rw [if_neg h]; exact congrArg some (decide_eq_false (by omega)).symm
theorem srPoints_eq (a : Int) : spec_srPoints.f a = some (decide (3 ≤ a ∧ a ≤ 60)) := by
  unfold spec_srPoints.f; rw [l1In_eq]; rfl
theorem isCircle_eq (a : Int) : impl_isCircle.f a = some (decide (3 ≤ a ∧ a ≤ 60)) := by
  unfold impl_isCircle.f; rw [within_eq]; rfl
/-! ### BStar -/
/-- A star: 3 to 60 points, and a step of 1 to one less. -/
def isStar (p s : Int) : Prop := 3 ≤ p ∧ p ≤ 60 ∧ 1 ≤ s ∧ s < p
instance (p s : Int) : Decidable (isStar p s) := by unfold isStar; infer_instance
theorem srGood_eq (p s : Int) : spec_srGood.f p s = some (decide (isStar p s)) := by
  unfold spec_srGood.f isStar
  rw [srPoints_eq]
  simp only [Option.bind_some]
  by_cases h : 3 ≤ p ∧ p ≤ 60
  · rw [if_pos (by simpa using h), l1In_eq]
    simp only [Option.bind_some]
    rw [wrap64_id (by omega) (by omega)]
    exact congrArg some (decide_eq_decide.2 (by omega))
  · rw [if_neg (by simpa using h)]
    exact congrArg some (decide_eq_false (by omega)).symm
theorem implIsStar_eq (p s : Int) : impl_IsStar.f p s = some (decide (isStar p s)) := by
  unfold impl_IsStar.f isStar
  rw [isCircle_eq]
  simp only [Option.bind_some]
  by_cases h : 3 ≤ p ∧ p ≤ 60
  · rw [if_pos (by simpa using h), within_eq]
    simp only [Option.bind_some]
    rw [wrap64_id (by omega) (by omega)]
    exact congrArg some (decide_eq_decide.2 (by omega))
  · rw [if_neg (by simpa using h)]
    exact congrArg some (decide_eq_false (by omega)).symm
/-! ### BOrd0 -/
/-- The order of chords. -/
def cLt (x y : S50) : Bool := decide (x.f0 < y.f0 ∨ (x.f0 = y.f0 ∧ x.f1 < y.f1))
theorem cLt_iff (x y : S50) : cLt x y = true ↔ (x.f0 < y.f0 ∨ (x.f0 = y.f0 ∧ x.f1 < y.f1)) := by unfold cLt; exact decide_eq_true_iff
theorem chord_ext {x y : S50} (h0 : x.f0 = y.f0) (h1 : x.f1 = y.f1) : x = y := by cases x; cases y; simp_all
/-- Strictly in order. -/
def Strict (l : List S50) : Prop := l.Pairwise fun x y => cLt x y = true
/-- Two lists strictly in order with the same members are the same. -/
theorem strict_unique : ∀ (l m : List S50), Strict l → Strict m → (∀ x, x ∈ l ↔ x ∈ m) → l = m
  | [], [], _, _, _ => rfl
  | [], y :: m, _, _, h => by have := (h y).2 (by simp); simp at this
  | x :: l, [], _, _, h => by have := (h x).1 (by simp); simp at this
  | x :: l, y :: m, hl, hm, h => by
    unfold Strict at hl hm
    rw [List.pairwise_cons] at hl hm
    have e : x = y := by
      have h1 := (h x).1 (by simp)
      have h2 := (h y).2 (by simp)
      rcases List.mem_cons.1 h1 with h1 | h1
      · exact h1
      · rcases List.mem_cons.1 h2 with h2 | h2
        · exact h2.symm
        · have a := hl.1 y h2
          have b := hm.1 x h1
          rw [cLt_iff] at a b
          omega
    subst e
    rw [strict_unique l m hl.2 hm.2 (fun z => by
      have hz := h z
      simp only [List.mem_cons] at hz
      constructor
      · intro hzl
        rcases hz.1 (Or.inr hzl) with e | e
        · subst e; have := hl.1 z hzl; rw [cLt_iff] at this; omega
        · exact e
      · intro hzm
        rcases hz.2 (Or.inr hzm) with e | e
        · subst e; have := hm.1 z hzm; rw [cLt_iff] at this; omega
        · exact e)]
/-- A chord put in at its place. -/
def insL (c : S50) : List S50 → List S50
  | [] => [c]
  | x :: l => if cLt x c = true then x :: insL c l else if x.f0 = c.f0 ∧ x.f1 = c.f1 then x :: l else c :: x :: l
theorem insL_mem (c : S50) : ∀ (l : List S50) (x : S50), x ∈ insL c l ↔ x = c ∨ x ∈ l
  | [], x => by simp [insL]
  | y :: l, x => by
    unfold insL
    split
    · rw [List.mem_cons, insL_mem c l x, List.mem_cons]; constructor
      · rintro (h | h | h) <;> simp [h]
      · rintro (h | h | h) <;> simp [h]
    · split
      · rename_i e; have e := chord_ext e.1 e.2; subst e; simp
      · simp
theorem insL_strict (c : S50) : ∀ (l : List S50), Strict l → Strict (insL c l)
  | [], _ => by simp [insL, Strict]
  | y :: l, h => by
    unfold Strict at h
    rw [List.pairwise_cons] at h
    unfold insL
    split
    · rename_i hy
      unfold Strict
      rw [List.pairwise_cons]
      refine ⟨fun z hz => ?_, insL_strict c l h.2⟩
      rcases (insL_mem c l z).1 hz with e | e
      · subst e; exact hy
      · exact h.1 z e
    · split
      · unfold Strict; rw [List.pairwise_cons]; exact h
      · rename_i h1 h2
        have h3 : ¬ (y.f0 = c.f0 ∧ y.f1 = c.f1) := h2
        have h4 : cLt c y = true := by rw [cLt_iff] at h1 ⊢; omega
        unfold Strict
        rw [List.pairwise_cons, List.pairwise_cons]
        refine ⟨fun z hz => ?_, h⟩
        rcases List.mem_cons.1 hz with e | e
        · subst e; exact h4
        · have h5 := h.1 z e
          rw [cLt_iff] at h4 h5 ⊢
          omega
theorem insL_len (c : S50) : ∀ (l : List S50), (insL c l).length ≤ l.length + 1
  | [] => by simp [insL]
  | y :: l => by
    unfold insL
    have := insL_len c l
    split
    · simp; omega
    · split <;> simp
/-- All chords of a list put in, one by one. -/
def putAll (acc : List S50) : List S50 → List S50
  | [] => acc
  | c :: l => putAll (insL c acc) l
theorem putAll_spec : ∀ (l acc : List S50), Strict acc → Strict (putAll acc l) ∧ ∀ x, x ∈ putAll acc l ↔ x ∈ acc ∨ x ∈ l
  | [], acc, h => ⟨h, by simp [putAll]⟩
  | c :: l, acc, h => by
    obtain ⟨h1, h2⟩ := putAll_spec l (insL c acc) (insL_strict c acc h)
    refine ⟨h1, fun x => ?_⟩
    unfold putAll
    rw [h2, insL_mem, List.mem_cons]
    constructor
    · rintro ((h | h) | h) <;> simp [h]
    · rintro (h | h | h) <;> simp [h]
theorem putAll_len : ∀ (l acc : List S50), (putAll acc l).length ≤ acc.length + l.length
  | [], acc => by simp [putAll]
  | c :: l, acc => by
    have h1 := putAll_len l (insL c acc)
    have h2 := insL_len c acc
    unfold putAll
    simp only [List.length_cons]
    omega
theorem rdC_get (l : List S50) (i : Int) (h0 : 0 ≤ i) (h1 : i < l.length) : rd_T50 l i = l[i.toNat]'(by omega) := by
  unfold rd_T50
  have h : i.toNat < l.length := by omega
  simp [h]
theorem srLess_eq (a b c d : Int) : spec_srLess.f a b c d = some (cLt ⟨a, b⟩ ⟨c, d⟩) := by
  unfold spec_srLess.f cLt
  split
  · rename_i h; exact congrArg some (decide_eq_true (Or.inl h)).symm
  · split
    · rename_i h1 h2
      refine congrArg some (decide_eq_decide.2 ?_)
      simp only
      omega
    · rename_i h1 h2
      refine congrArg some (decide_eq_false ?_).symm
      simp only
      omega
theorem rdC_append (l m : List S50) (x : S50) : rd_T50 (l ++ x :: m) (l.length : Int) = x := by
  rw [rdC_get _ _ (by omega) (by simp; omega)]
  simp
def mkC (a b : Int) : S50 := ⟨mn a b, mx a b⟩
/-- A chord of n points. -/
def Proper (n : Int) (c : S50) : Prop := 0 ≤ c.f0 ∧ c.f0 < c.f1 ∧ c.f1 < n
theorem mkC_proper (n a b : Int) (ha : 0 ≤ a ∧ a < n) (hb : 0 ≤ b ∧ b < n) (h : a ≠ b) : Proper n (mkC a b) := by
  unfold Proper mkC mn mx
  simp only
  split <;> split <;> omega
/-! ### BPut -/
theorem srPut_loop (c : S50) (m : List S50) : ∀ (k : Nat) (pre : List S50), pre.length + m.length ≤ 1000 → m.length < k →
    spec_srPut.l0 k (pre ++ m) pre.length c.f0 c.f1 = some (pre ++ insL c m) := by
  induction m with
  | nil =>
    intro k pre hl hk
    obtain ⟨k, rfl⟩ : ∃ t, k = t + 1 := ⟨k - 1, by omega⟩
    simp only [List.length_nil, Nat.add_zero] at hl
    simp only [spec_srPut.l0, List.append_nil, insL]
    rw [if_neg (by omega)]
    simp only [Option.bind_some, List.nil_append, Int.toNat_natCast, List.take_length, List.drop_length, List.append_nil, List.length_nil, List.length_append, List.length_cons]
    rw [if_pos (by omega), if_pos (by omega), if_pos (by omega), if_pos (by omega), if_pos (by omega)]
  | cons x m ih =>
    intro k pre hl hk
    obtain ⟨k, rfl⟩ : ∃ t, k = t + 1 := ⟨k - 1, by omega⟩
    simp only [List.length_cons] at hl hk
    simp only [spec_srPut.l0, insL]
    have hlen : ((pre ++ x :: m).length : Int) = pre.length + m.length + 1 := by simp; omega
    rw [if_pos (by omega), if_pos (by omega)]
    have hrd : rd_T50 (pre ++ x :: m) pre.length = x := by
      rw [rdC_get _ _ (by omega) (by omega)]
      simp
    rw [hrd, srLess_eq]
    simp only [Option.bind_some]
    by_cases h : cLt x c = true
    · rw [if_pos h, if_pos h, wrap64_id (by omega) (by omega)]
      have := ih k (pre ++ [x]) (by simp; omega) (by omega)
      simp only [List.append_assoc, List.cons_append, List.nil_append, List.length_append, List.length_cons, List.length_nil] at this
      rw [show (pre.length : Int) + 1 = ((pre.length + (0 + 1) : Nat) : Int) by omega]
      exact this
    · rw [if_neg h, if_neg h]
      by_cases e : x.f0 = c.f0 ∧ x.f1 = c.f1
      · rw [if_pos (by simpa using e), if_pos e]
      · rw [if_neg (by simpa using e), if_neg e, if_pos (by omega)]
        simp only [Int.toNat_natCast, List.take_left, List.drop_left, List.nil_append, List.length_nil, List.length_append, List.length_cons]
        rw [if_pos (by omega), if_pos (by omega), if_pos (by omega)]
        simp
theorem srPut_eq (c : S50) (l : List S50) (k : Nat) (hl : l.length ≤ 1000) (hk : l.length < k) : spec_srPut.f k l c.f0 c.f1 = some (insL c l) := by
  unfold spec_srPut.f
  simpa using srPut_loop c l k [] (by simpa using hl) hk
/-! ### BOrd -/
theorem ordL_c (l : List S50) : ordL l = Lib.compact (l.mergeSort fun x y => !cLt y x) := rfl
theorem compactUpTo_strict (d : Array S50) (hd : ∀ i j, i < j → j < d.size → ¬ cLt d[j]! d[i]! = true) : ∀ m, m ≤ d.size →
    Strict (Lib.compactUpTo d m) ∧ (∀ x, x ∈ Lib.compactUpTo d m ↔ ∃ j, j < m ∧ d[j]! = x)
  | 0, _ => ⟨by simp [Lib.compactUpTo, Strict], by simp [Lib.compactUpTo]⟩
  | m + 1, hm => by
    obtain ⟨h1, h2⟩ := compactUpTo_strict d hd m (by omega)
    rw [Lib.compactUpTo_succ]
    by_cases hk : Lib.keeps d m = true
    · rw [if_pos hk]
      constructor
      · unfold Strict at h1 ⊢
        rw [List.pairwise_append]
        refine ⟨h1, by simp, ?_⟩
        intro x hx y hy
        obtain rfl : y = d[m]! := by simpa using hy
        obtain ⟨j, hj, rfl⟩ := (h2 x).1 hx
        have hne : m = 0 ∨ d[m]! ≠ d[m - 1]! := by simpa [Lib.keeps] using hk
        have hne : d[m]! ≠ d[m - 1]! := hne.resolve_left (by omega)
        have a := hd (m - 1) m (by omega) (by omega)
        have b : ¬ cLt d[m - 1]! d[j]! = true := by
          by_cases e : j = m - 1
          · subst e; rw [cLt_iff]; omega
          · exact hd j (m - 1) (by omega) (by omega)
        rw [cLt_iff] at a b ⊢
        have hne' : ¬ (d[m]!.f0 = d[m - 1]!.f0 ∧ d[m]!.f1 = d[m - 1]!.f1) := fun e => hne (chord_ext e.1 e.2)
        omega
      · intro x
        rw [List.mem_append, h2]
        constructor
        · rintro (⟨j, hj, rfl⟩ | hx)
          · exact ⟨j, by omega, rfl⟩
          · exact ⟨m, by omega, by simpa [eq_comm] using hx⟩
        · rintro ⟨j, hj, rfl⟩
          by_cases e : j = m
          · subst e; exact Or.inr (by simp)
          · exact Or.inl ⟨j, by omega, rfl⟩
    · rw [if_neg hk, List.append_nil]
      refine ⟨h1, fun x => ?_⟩
      rw [h2]
      have hne : ¬ (m = 0 ∨ d[m]! ≠ d[m - 1]!) := by simpa [Lib.keeps] using hk
      have e0 : m ≠ 0 := fun e => hne (Or.inl e)
      have e1 : d[m]! = d[m - 1]! := Classical.byContradiction fun e => hne (Or.inr e)
      constructor
      · rintro ⟨j, hj, rfl⟩; exact ⟨j, by omega, rfl⟩
      · rintro ⟨j, hj, rfl⟩
        by_cases e : j = m
        · subst e; exact ⟨j - 1, by omega, e1.symm⟩
        · exact ⟨j, by omega, rfl⟩
theorem ordL_strict (l : List S50) : Strict (ordL l) ∧ ∀ x, x ∈ ordL l ↔ x ∈ l := by
  have hsort : (l.mergeSort fun x y => !cLt y x).Pairwise fun x y => (!cLt y x) = true := by
    apply List.pairwise_mergeSort
    · intro a b c h1 h2
      simp only [Bool.not_eq_true', ← Bool.not_eq_true] at h1 h2 ⊢
      rw [cLt_iff] at h1 h2 ⊢
      omega
    · intro a b
      by_cases h : cLt b a = true
      · have : ¬ cLt a b = true := by rw [cLt_iff] at h ⊢; omega
        simp [h, this]
      · simp [h]
  have hmem : ∀ x, x ∈ (l.mergeSort fun x y => !cLt y x) ↔ x ∈ l := fun x => List.mem_mergeSort
  rw [ordL_c]
  generalize (l.mergeSort fun x y => !cLt y x) = z at *
  have H := compactUpTo_strict z.toArray (by
    intro i j hij hj
    have hj' : j < z.length := by simpa using hj
    have := List.pairwise_iff_getElem.1 hsort i j (by omega) hj' hij
    have e1 : z.toArray[j]! = z[j] := by simp [hj']
    have e2 : z.toArray[i]! = z[i] := by simp [show i < z.length by omega]
    rw [e1, e2]
    simpa using this) z.length (by simp)
  unfold Lib.compact
  refine ⟨H.1, fun x => ?_⟩
  rw [H.2, ← hmem]
  constructor
  · rintro ⟨j, hj, rfl⟩; simp [hj]
  · intro hx
    obtain ⟨j, hj, rfl⟩ := List.getElem_of_mem hx
    exact ⟨j, hj, by simp [hj]⟩
theorem putAll_ordL (l : List S50) : putAll [] l = ordL l := by
  obtain ⟨h1, h2⟩ := putAll_spec l [] (by simp [Strict])
  obtain ⟨h3, h4⟩ := ordL_strict l
  exact strict_unique _ _ h1 h3 (fun x => by rw [h2, h4]; simp)
theorem ordL_len (l : List S50) : (ordL l).length ≤ l.length := by
  rw [ordL_c]
  have := Lib.compact_length_le (l.mergeSort fun x y => !cLt y x)
  simpa using this
theorem ordered_eq (l : List S50) (h : l.length ≤ 1000) : impl_ordered.f l = some (ordL l) := by unfold impl_ordered.f; rw [if_pos h]
/-- A strictly ordered list is its own ordering. -/
theorem ordL_self (l : List S50) (h : Strict l) : ordL l = l := by
  obtain ⟨h3, h4⟩ := ordL_strict l
  exact strict_unique _ _ h3 h h4
/-! ### BChord -/
theorem srChord_eq (a b : Int) : spec_srChord.f a b = some ((mkC a b).f0, (mkC a b).f1) := by
  unfold spec_srChord.f spec_l1Least.f spec_l1Most.f mkC mn mx
  by_cases h : a < b
  · rw [if_pos h, if_neg (by omega)]
    simp [h]
    try omega
  · rw [if_neg h]
    by_cases h2 : a > b
    · rw [if_pos h2]; simp [h]; try omega
    · rw [if_neg h2]; simp [h]; try omega
theorem implChord_eq (a b : Int) : impl_chord.f a b = some ((mkC a b).f0, (mkC a b).f1) := rfl
/-! ### BChords -/
/-- d chords of a star, from point x on. -/
def chFrom (n s : Int) : Int → Nat → List S50
  | _, 0 => []
  | x, d + 1 => mkC x ((x + s) % n) :: chFrom n s (x + 1) d
theorem chFrom_len (n s : Int) : ∀ (d : Nat) (x : Int), (chFrom n s x d).length = d
  | 0, _ => rfl
  | d + 1, x => by unfold chFrom; simp [chFrom_len n s d]
theorem shift_ne (n s x : Int) (hs : isStar n s) (hx : 0 ≤ x ∧ x < n) : x ≠ (x + s) % n := by
  unfold isStar at hs
  intro e
  have h1 : (x + s) % n = (if x + s < n then x + s else x + s - n) := by
    split
    · exact Int.emod_eq_of_lt (by omega) (by omega)
    · rename_i h
      have : (x + s) % n = (x + s - n) % n := by
        rw [show x + s - n = x + s + n * (-1) by omega, Int.add_mul_emod_self_left]
      rw [this]; exact Int.emod_eq_of_lt (by omega) (by omega)
  rw [h1] at e
  split at e <;> omega
theorem chFrom_proper (n s : Int) (hs : isStar n s) : ∀ (d : Nat) (x : Int), 0 ≤ x → x + d ≤ n → ∀ c ∈ chFrom n s x d, Proper n c
  | 0, _, _, _, c, hc => by simp [chFrom] at hc
  | d + 1, x, h0, h1, c, hc => by
    unfold chFrom at hc
    rcases List.mem_cons.1 hc with e | e
    · subst e
      have hs' := hs
      unfold isStar at hs'
      exact mkC_proper n _ _ (by omega) ⟨Int.emod_nonneg _ (by omega), Int.emod_lt_of_pos _ (by omega)⟩ (shift_ne n s x hs (by omega))
    · exact chFrom_proper n s hs d (x + 1) (by omega) (by omega) c e
/-- All chords of a star, in order. -/
def starL (n s : Int) : List S50 := ordL (chFrom n s 0 n.toNat)
theorem starL_len (n s : Int) : (starL n s).length ≤ n.toNat := by
  unfold starL
  have := ordL_len (chFrom n s 0 n.toNat)
  rw [chFrom_len] at this
  exact this
theorem starL_proper (n s : Int) (hs : isStar n s) : ∀ c ∈ starL n s, Proper n c := by
  intro c hc
  have hs' := hs
  unfold isStar at hs'
  exact chFrom_proper n s hs n.toNat 0 (by omega) (by omega) c (((ordL_strict _).2 c).1 hc)
theorem starL_strict (n s : Int) : Strict (starL n s) := (ordL_strict _).1
theorem tmod_shift (n s x : Int) (hs : isStar n s) (hx : 0 ≤ x ∧ x < n) : Int.tmod (wrap64 (x + s)) n = (x + s) % n := by
  unfold isStar at hs
  rw [wrap64_id (by omega) (by omega), Int.tmod_eq_emod_of_nonneg (by omega)]
theorem srChords_loop (n s : Int) (hs : isStar n s) (d : Nat) : ∀ (k : Nat) (acc : List S50) (x : Int), 0 ≤ x → x ≤ n → n - x = d → acc.length ≤ x → d + 62 < k →
    spec_srChords.l0 k acc x n s = some (putAll acc (chFrom n s x d)) := by
  have hs' := hs
  unfold isStar at hs'
  induction d with
  | zero =>
    intro k acc x h0 h1 hd ha hk
    obtain ⟨k, rfl⟩ : ∃ m, k = m + 1 := ⟨k - 1, by omega⟩
    simp only [spec_srChords.l0, chFrom, putAll]
    rw [if_neg (by omega)]
  | succ d ih =>
    intro k acc x h0 h1 hd ha hk
    obtain ⟨k, rfl⟩ : ∃ m, k = m + 1 := ⟨k - 1, by omega⟩
    simp only [spec_srChords.l0, chFrom, putAll]
    rw [if_pos (by omega), if_neg (by omega), tmod_shift n s x hs (by omega), srChord_eq]
    simp only [Option.bind_some]
    rw [srPut_eq _ _ _ (by omega) (by omega)]
    simp only [Option.bind_some]
    rw [wrap64_id (by omega) (by omega)]
    have := insL_len (mkC x ((x + s) % n)) acc
    exact ih k _ (x + 1) (by omega) (by omega) (by omega) (by omega) (by omega)
theorem srChords_eq (n s : Int) (hs : isStar n s) (k : Nat) (hk : 130 ≤ k) : spec_srChords.f k n s = some (starL n s) := by
  have hs' := hs
  unfold isStar at hs'
  unfold spec_srChords.f starL
  rw [← putAll_ordL]
  exact srChords_loop n s hs n.toNat k [] 0 (by omega) (by omega) (by omega) (by simp) (by omega)
theorem starChords_loop (n s : Int) (hs : isStar n s) (d : Nat) : ∀ (k : Nat) (acc : List S50) (x : Int), 0 ≤ x → x ≤ n → n - x = d → acc.length ≤ x → d < k →
    impl_Star_chords.l0 k acc n x n s = some (ordL (acc ++ chFrom n s x d)) := by
  have hs' := hs
  unfold isStar at hs'
  induction d with
  | zero =>
    intro k acc x h0 h1 hd ha hk
    obtain ⟨k, rfl⟩ : ∃ m, k = m + 1 := ⟨k - 1, by omega⟩
    simp only [impl_Star_chords.l0, chFrom, List.append_nil]
    rw [if_neg (by omega), ordered_eq acc (by omega)]
    rfl
  | succ d ih =>
    intro k acc x h0 h1 hd ha hk
    obtain ⟨k, rfl⟩ : ∃ m, k = m + 1 := ⟨k - 1, by omega⟩
    simp only [impl_Star_chords.l0, chFrom]
    rw [if_pos (by omega), if_neg (by omega), tmod_shift n s x hs (by omega), implChord_eq]
    simp only [Option.bind_some]
    rw [if_pos (by omega), wrap64_id (by omega) (by omega)]
    have := ih k (acc ++ [mkC x ((x + s) % n)]) (x + 1) (by omega) (by omega) (by omega) (by simp; omega) (by omega)
    rw [List.append_assoc] at this
    exact this
theorem starChords_eq (n s : Int) (hs : isStar n s) (k : Nat) (hk : 130 ≤ k) : impl_Star_chords.f k n s = some (starL n s) := by
  have hs' := hs
  unfold isStar at hs'
  unfold impl_Star_chords.f starL
  simpa using starChords_loop n s hs n.toNat k [] 0 (by omega) (by omega) (by omega) (by simp) (by omega)
/-! ### BCount -/
def crossB (c d : S50) : Bool := spec_srCross.b c.f0 c.f1 d.f0 d.f1
theorem srCross_cross (c d : S50) : spec_srCross.f c.f0 c.f1 d.f0 d.f1 = some (crossB c d) := rfl
theorem crossB_iff (n : Int) (c d : S50) (hc : Proper n c) (hd : Proper n d) : crossB c d = true ↔ (c.f0 < d.f0 ∧ d.f0 < c.f1 ∧ c.f1 < d.f1) ∨ (d.f0 < c.f0 ∧ c.f0 < d.f1 ∧ d.f1 < c.f1) := by
  unfold Proper at hc hd
  unfold crossB spec_srCross.b
  simp only [Bool.and_eq_true, Bool.not_eq_true', Bool.or_eq_false_iff, beq_eq_false_iff_ne, bne_iff_ne, ne_eq, ← Bool.decide_and]
  rw [decide_eq_decide]
  omega
theorem crossing_eq (n : Int) (c d : S50) (hc : Proper n c) (hd : Proper n d) : impl_crossing.f c.f0 c.f1 d.f0 d.f1 = some (crossB c d) := by
  have h := crossB_iff n c d hc hd
  unfold Proper at hc hd
  unfold impl_crossing.f
  by_cases e : crossB c d = true
  · have h1 := h.1 e
    rw [e]
    rcases h1 with h1 | h1
    · rw [if_pos (by omega), if_pos (by omega), if_pos (by omega)]
    · rw [if_neg (by omega), if_pos (by omega), if_pos (by omega), decide_eq_true (by omega)]
  · have h1 : ¬ ((c.f0 < d.f0 ∧ d.f0 < c.f1 ∧ c.f1 < d.f1) ∨ (d.f0 < c.f0 ∧ c.f0 < d.f1 ∧ d.f1 < c.f1)) := fun x => e (h.2 x)
    rw [Bool.eq_false_iff.2 e]
    repeat' split
    all_goals first | rfl | (exfalso; omega) | (refine congrArg some (decide_eq_false ?_); omega)
theorem crossB_symm (n : Int) (c d : S50) (hc : Proper n c) (hd : Proper n d) : crossB c d = crossB d c := by
  rw [Bool.eq_iff_iff, crossB_iff n c d hc hd, crossB_iff n d c hd hc]
  omega
/-- So many of the chords cross c. -/
def countX (c : S50) (l : List S50) : Nat := l.countP (crossB c)
theorem crossed_loop (n : Int) (c : S50) (hc : Proper n c) (m : List S50) : ∀ (k : Nat) (pre : List S50) (cnt : Int), (∀ x ∈ m, Proper n x) → pre.length + m.length ≤ 1000000 → 0 ≤ cnt → cnt + m.length ≤ 4611686018427387904 → m.length < k →
    impl_crossed.l0 k cnt (pre ++ m) ((pre ++ m).length : Int) pre.length c.f0 c.f1 = some (cnt + countX c m) := by
  induction m with
  | nil =>
    intro k pre cnt _ hl h0 h1 hk
    obtain ⟨k, rfl⟩ : ∃ t, k = t + 1 := ⟨k - 1, by omega⟩
    simp only [impl_crossed.l0, List.append_nil]
    rw [if_neg (by omega)]
    simp [countX]
  | cons x m ih =>
    intro k pre cnt hp hl h0 h1 hk
    obtain ⟨k, rfl⟩ : ∃ t, k = t + 1 := ⟨k - 1, by omega⟩
    simp only [List.length_cons] at hl h1 hk
    have hlen : ((pre ++ x :: m).length : Int) = pre.length + m.length + 1 := by simp; omega
    simp only [impl_crossed.l0]
    rw [if_pos (by omega), if_pos (by omega), if_pos (by omega), rdC_append, crossing_eq n c x hc (hp x (by simp))]
    simp only [Option.bind_some]
    have IH := fun cnt h0 h1 => ih k (pre ++ [x]) cnt (fun y hy => hp y (by simp [hy])) (by simp; omega) h0 h1 (by omega)
    simp only [List.append_assoc, List.cons_append, List.nil_append] at IH
    have hpl : (((pre ++ [x]).length : Nat) : Int) = (pre.length : Int) + 1 := by simp
    rw [hpl] at IH
    rw [wrap64_id (x := cnt + 1) (by omega) (by omega), wrap64_id (by omega) (by omega)]
    unfold countX at IH ⊢
    by_cases e : crossB c x = true
    · rw [if_pos e, IH (cnt + 1) (by omega) (by omega), List.countP_cons_of_pos e]
      congr 1; omega
    · rw [if_neg e, IH cnt (by omega) (by omega), List.countP_cons_of_neg e]
theorem crossed_eq (n : Int) (c : S50) (hc : Proper n c) (m : List S50) (hm : ∀ x ∈ m, Proper n x) (hl : m.length ≤ 1000000) (k : Nat) (hk : m.length < k) : impl_crossed.f k m c.f0 c.f1 = some (countX c m : Int) := by
  unfold impl_crossed.f
  have := crossed_loop n c hc m k [] 0 hm (by simpa using hl) (by omega) (by omega) hk
  simpa using this
theorem countX_le (c : S50) (l : List S50) : countX c l ≤ l.length := List.countP_le_length
/-- So many pairs of a list's chords cross. -/
def pairsX : List S50 → Nat
  | [] => 0
  | x :: l => countX x l + pairsX l
theorem pairsX_snoc (n : Int) (x : S50) (hx : Proper n x) : ∀ (l : List S50), (∀ y ∈ l, Proper n y) → pairsX (l ++ [x]) = pairsX l + countX x l
  | [], _ => by simp [pairsX, countX]
  | y :: l, h => by
    have ih := pairsX_snoc n x hx l (fun z hz => h z (by simp [hz]))
    simp only [List.cons_append, pairsX, ih]
    have e := crossB_symm n x y hx (h y (by simp))
    unfold countX
    rw [List.countP_append, List.countP_cons, List.countP_cons, e]
    simp only [List.countP_nil, Nat.zero_add]
    omega
theorem pairsX_le : ∀ (l : List S50), pairsX l ≤ l.length * l.length
  | [] => by simp [pairsX]
  | x :: l => by
    have h1 := pairsX_le l
    have h2 := countX_le x l
    simp only [pairsX, List.length_cons]
    rw [Nat.add_mul, Nat.mul_add]
    omega
/-! ### BPairs -/
theorem crossings_loop (n : Int) (m : List S50) : ∀ (k : Nat) (pre : List S50), (∀ x ∈ pre ++ m, Proper n x) → pre.length + m.length ≤ 1000000 → pre.length + m.length + m.length < k →
    impl_crossings.l0 k (pre ++ m) (pairsX pre) (pre ++ m) ((pre ++ m).length : Int) pre.length = some (pairsX (pre ++ m) : Int) := by
  induction m with
  | nil =>
    intro k pre hp hl hk
    obtain ⟨k, rfl⟩ : ∃ t, k = t + 1 := ⟨k - 1, by omega⟩
    simp only [impl_crossings.l0, List.append_nil]
    rw [if_neg (by omega)]
  | cons x m ih =>
    intro k pre hp hl hk
    obtain ⟨k, rfl⟩ : ∃ t, k = t + 1 := ⟨k - 1, by omega⟩
    simp only [List.length_cons] at hl hk
    have hlen : ((pre ++ x :: m).length : Int) = pre.length + m.length + 1 := by simp; omega
    simp only [impl_crossings.l0]
    have hpre : ∀ y ∈ pre, Proper n y := fun y hy => hp y (by simp [hy])
    have hx : Proper n x := hp x (by simp)
    rw [if_pos (by omega), if_pos (by omega), if_pos (by omega), if_pos (by omega), rdC_append, Int.toNat_natCast, List.take_left, crossed_eq n x hx pre hpre (by omega) k (by omega)]
    simp only [Option.bind_some]
    have h1 := pairsX_le pre
    have h2 := countX_le x pre
    have h3 : pre.length * pre.length ≤ 1000000 * 1000000 := Nat.mul_le_mul (by omega) (by omega)
    have IH := ih k (pre ++ [x]) (by simpa using hp) (by simp; omega) (by simp; omega)
    rw [pairsX_snoc n x hx pre hpre] at IH
    simp only [List.append_assoc, List.cons_append, List.nil_append] at IH
    have hpl : (((pre ++ [x]).length : Nat) : Int) = (pre.length : Int) + 1 := by simp
    rw [hpl, Int.natCast_add] at IH
    rw [wrap64_id (by omega) (by omega), wrap64_id (by omega) (by omega)]
    exact IH
theorem crossings_eq (n : Int) (l : List S50) (h : ∀ x ∈ l, Proper n x) (hl : l.length ≤ 1000000) (k : Nat) (hk : l.length + l.length < k) : impl_crossings.f k l = some (pairsX l : Int) := by
  unfold impl_crossings.f
  have := crossings_loop n l k [] (by simpa using h) (by simpa using hl) (by simpa using hk)
  simpa [pairsX] using this
/-! ### QFnCrossingsTold -/
theorem ctX_cross (n : Int) (c d : S50) (hc : Proper n c) (hd : Proper n d) : ctX c d = crossB c d := by
  rw [Bool.eq_iff_iff, crossB_iff n c d hc hd]
  unfold Proper at hc hd
  unfold ctX
  simp only [Bool.and_eq_true, bne_iff_ne, ne_eq, decide_eq_true_eq]
  by_cases h1 : d.f0 > c.f0 <;> by_cases h2 : d.f0 < c.f1 <;> by_cases h3 : d.f1 > c.f0 <;> by_cases h4 : d.f1 < c.f1 <;> simp [h1, h2, h3, h4] <;> omega
theorem countP_ctX (n : Int) (c : S50) (hc : Proper n c) : ∀ (l : List S50), (∀ x ∈ l, Proper n x) → l.countP (ctX c) = countX c l
  | [], _ => rfl
  | x :: l, h => by
    have ih := countP_ctX n c hc l (fun y hy => h y (by simp [hy]))
    unfold countX at ih ⊢
    rw [List.countP_cons, List.countP_cons, ih, ctX_cross n c x hc (h x (by simp))]
theorem ctN_pairs (n : Int) (l : List S50) (h : ∀ x ∈ l, Proper n x) : ∀ i, i ≤ l.length → ctN l i = pairsX (l.take i)
  | 0, _ => by simp [ctN, pairsX]
  | i + 1, hi => by
    have ih := ctN_pairs n l h i (by omega)
    have e : l.take (i + 1) = l.take i ++ [l[i]] := List.take_succ_eq_append_getElem (by omega)
    have e2 : rd_T50 l (i : Int) = l[i] := rdC_get l (i : Int) (by omega) (by omega)
    have hx := h l[i] (List.getElem_mem _)
    have ht : ∀ y ∈ l.take i, Proper n y := fun y hy => h y (List.mem_of_mem_take hy)
    rw [ctN, ih, e, e2, pairsX_snoc n l[i] hx (l.take i) ht, countP_ctX n l[i] hx (l.take i) ht]
theorem FnCrossingsTold : ∀ (a0_0 : Int) (a0_1 : Int), (Lit.int .i64 a0_0).wf = true → (Lit.int .i64 a0_1).wf = true → ∃ k, laws_FnCrossingsTold.f k a0_0 a0_1 = some true := by
  intro n s _ _
  refine ⟨10000, ?_⟩
  unfold laws_FnCrossingsTold.f impl_ChordsOf.f spec_ChordsOf.f impl_CountCrossings.f
  simp only [srGood_eq, implIsStar_eq, Option.bind_some]
  by_cases h : isStar n s
  · have h1 := starL_len n s
    have hs := h
    unfold isStar at hs
    simp only [if_pos (decide_eq_true h), srChords_eq n s h 10000 (by omega), starChords_eq n s h 10000 (by omega), Option.bind_some, crossings_eq n (starL n s) (starL_proper n s h) (by omega) 10000 (by omega)]
    have e := ctN_pairs n (starL n s) (starL_proper n s h) (starL n s).length (Nat.le_refl _)
    rw [List.take_length] at e
    rw [if_pos ⟨trivial, ⟨trivial, trivial⟩, by omega⟩, if_neg (by simp), e, if_pos rfl]
  · simp [decide_eq_false h]

end Go.Proofs.Ytlnjfbnabjgffaa.Q
