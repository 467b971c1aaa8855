/- Chords in order: what the program's sort and Compact give is what the reference's inserting gives. -/
import Derived.Lib.SlicesCompact
import Derived.Lib.RowBridge
import Derived.Test.YtknpnhgedcggkaaBStar
import Derived.Test.YtknpnhgedcggkaaXx12
import Derived.Test.YtknpnhgedcggkaaXx13
import Derived.Test.YtknpnhgedcggkaaXx16
namespace Go.Proofs.Ytknpnhgedcggkaa.Q
open Go.RowKit Go.Proofs.Ytknpnhgedcggkaa.X Go.Proofs.YtknpnhgedcggkaaW.PrintWords Go.Proofs.YtknpnhgedcggkaaW.PrintLast Go.Proofs.YtknpnhgedcggkaaW.PrintMore
set_option linter.unusedVariables false
set_option linter.unusedSimpArgs false

theorem chordLt_iff (x y : S55) : chordLt x y = true ↔ (x.f0 < y.f0 ∨ (x.f0 = y.f0 ∧ x.f1 < y.f1)) := by unfold chordLt; exact decide_eq_true_iff
theorem chord_ext {x y : S55} (h0 : x.f0 = y.f0) (h1 : x.f1 = y.f1) : x = y := by cases x; cases y; simp_all
/-- Strictly in order. -/
def Strict (l : List S55) : Prop := l.Pairwise fun x y => chordLt x y = true
theorem compactUpTo_strict (d : Array S55) (hd : ∀ i j, i < j → j < d.size → ¬ chordLt d[j]! d[i]! = true) : ∀ m, m ≤ d.size →
    Strict (Lib.compactUpTo d m) ∧ (∀ x, x ∈ Lib.compactUpTo d m ↔ ∃ j, j < m ∧ d[j]! = x)
  | 0, _ => ⟨by simp [Lib.compactUpTo, Strict], by simp [Lib.compactUpTo]⟩
  | m + 1, hm => by
    obtain ⟨h1, h2⟩ := compactUpTo_strict d hd m (by omega)
    rw [Lib.compactUpTo_succ]
    by_cases hk : Lib.keeps d m = true
    · rw [if_pos hk]
      constructor
      · unfold Strict at h1 ⊢
        rw [List.pairwise_append]
        refine ⟨h1, by simp, ?_⟩
        intro x hx y hy
        obtain rfl : y = d[m]! := by simpa using hy
        obtain ⟨j, hj, rfl⟩ := (h2 x).1 hx
        have hne : m = 0 ∨ d[m]! ≠ d[m - 1]! := by simpa [Lib.keeps] using hk
        have hne : d[m]! ≠ d[m - 1]! := hne.resolve_left (by omega)
        have a := hd (m - 1) m (by omega) (by omega)
        have b : ¬ chordLt d[m - 1]! d[j]! = true := by
          by_cases e : j = m - 1
          · subst e; rw [chordLt_iff]; omega
          · exact hd j (m - 1) (by omega) (by omega)
        rw [chordLt_iff] at a b ⊢
        have hne' : ¬ (d[m]!.f0 = d[m - 1]!.f0 ∧ d[m]!.f1 = d[m - 1]!.f1) := fun e => hne (chord_ext e.1 e.2)
        omega
      · intro x
        rw [List.mem_append, h2]
        constructor
        · rintro (⟨j, hj, rfl⟩ | hx)
          · exact ⟨j, by omega, rfl⟩
          · exact ⟨m, by omega, by simpa [eq_comm] using hx⟩
        · rintro ⟨j, hj, rfl⟩
          by_cases e : j = m
          · subst e; exact Or.inr (by simp)
          · exact Or.inl ⟨j, by omega, rfl⟩
    · rw [if_neg hk, List.append_nil]
      refine ⟨h1, fun x => ?_⟩
      rw [h2]
      have hne : ¬ (m = 0 ∨ d[m]! ≠ d[m - 1]!) := by simpa [Lib.keeps] using hk
      have e0 : m ≠ 0 := fun e => hne (Or.inl e)
      have e1 : d[m]! = d[m - 1]! := Classical.byContradiction fun e => hne (Or.inr e)
      constructor
      · rintro ⟨j, hj, rfl⟩; exact ⟨j, by omega, rfl⟩
      · rintro ⟨j, hj, rfl⟩
        by_cases e : j = m
        · subst e; exact ⟨j - 1, by omega, e1.symm⟩
        · exact ⟨j, by omega, rfl⟩
theorem ordL_strict (l : List S55) : Strict (ordL l) ∧ ∀ x, x ∈ ordL l ↔ x ∈ l := by
  have hsort : (l.mergeSort fun x y => !chordLt y x).Pairwise fun x y => (!chordLt y x) = true := by
    apply List.pairwise_mergeSort
    · intro a b c h1 h2
      simp only [Bool.not_eq_true', ← Bool.not_eq_true] at h1 h2 ⊢
      rw [chordLt_iff] at h1 h2 ⊢
      omega
    · intro a b
      by_cases h : chordLt b a = true
      · have : ¬ chordLt a b = true := by rw [chordLt_iff] at h ⊢; omega
        simp [h, this]
      · simp [h]
  have hmem : ∀ x, x ∈ (l.mergeSort fun x y => !chordLt y x) ↔ x ∈ l := fun x => List.mem_mergeSort
  unfold ordL
  generalize (l.mergeSort fun x y => !chordLt y x) = z at *
  have H := compactUpTo_strict z.toArray (by
    intro i j hij hj
    have hj' : j < z.length := by simpa using hj
    have := List.pairwise_iff_getElem.1 hsort i j (by omega) hj' hij
    have e1 : z.toArray[j]! = z[j] := by simp [hj']
    have e2 : z.toArray[i]! = z[i] := by simp [show i < z.length by omega]
    rw [e1, e2]
    simpa using this) z.length (by simp)
  unfold Lib.compact
  refine ⟨H.1, fun x => ?_⟩
  rw [H.2, ← hmem]
  constructor
  · rintro ⟨j, hj, rfl⟩; simp [hj]
  · intro hx
    obtain ⟨j, hj, rfl⟩ := List.getElem_of_mem hx
    exact ⟨j, hj, by simp [hj]⟩
/-- Two lists strictly in order with the same members are the same. -/
theorem strict_unique : ∀ (l m : List S55), Strict l → Strict m → (∀ x, x ∈ l ↔ x ∈ m) → l = m
  | [], [], _, _, _ => rfl
  | [], y :: m, _, _, h => by have := (h y).2 (by simp); simp at this
  | x :: l, [], _, _, h => by have := (h x).1 (by simp); simp at this
  | x :: l, y :: m, hl, hm, h => by
    unfold Strict at hl hm
    rw [List.pairwise_cons] at hl hm
    have e : x = y := by
      have h1 := (h x).1 (by simp)
      have h2 := (h y).2 (by simp)
      rcases List.mem_cons.1 h1 with h1 | h1
      · exact h1
      · rcases List.mem_cons.1 h2 with h2 | h2
        · exact h2.symm
        · have a := hl.1 y h2
          have b := hm.1 x h1
          rw [chordLt_iff] at a b
          omega
    subst e
    rw [strict_unique l m hl.2 hm.2 (fun z => by
      have hz := h z
      simp only [List.mem_cons] at hz
      constructor
      · intro hzl
        rcases hz.1 (Or.inr hzl) with e | e
        · subst e; have := hl.1 z hzl; rw [chordLt_iff] at this; omega
        · exact e
      · intro hzm
        rcases hz.2 (Or.inr hzm) with e | e
        · subst e; have := hm.1 z hzm; rw [chordLt_iff] at this; omega
        · exact e)]
/-- A chord put in at its place. -/
def insL (c : S55) : List S55 → List S55
  | [] => [c]
  | x :: l => if chordLt x c = true then x :: insL c l else if x = c then x :: l else c :: x :: l
theorem insL_mem (c : S55) : ∀ (l : List S55) (x : S55), x ∈ insL c l ↔ x = c ∨ x ∈ l
  | [], x => by simp [insL]
  | y :: l, x => by
    unfold insL
    split
    · rw [List.mem_cons, insL_mem c l x, List.mem_cons]; constructor
      · rintro (h | h | h) <;> simp [h]
      · rintro (h | h | h) <;> simp [h]
    · split
      · rename_i e; subst e; simp
      · simp
theorem insL_strict (c : S55) : ∀ (l : List S55), Strict l → Strict (insL c l)
  | [], _ => by simp [insL, Strict]
  | y :: l, h => by
    unfold Strict at h
    rw [List.pairwise_cons] at h
    unfold insL
    split
    · rename_i hy
      unfold Strict
      rw [List.pairwise_cons]
      refine ⟨fun z hz => ?_, insL_strict c l h.2⟩
      rcases (insL_mem c l z).1 hz with e | e
      · subst e; exact hy
      · exact h.1 z e
    · split
      · unfold Strict; rw [List.pairwise_cons]; exact h
      · rename_i h1 h2
        have h3 : ¬ (y.f0 = c.f0 ∧ y.f1 = c.f1) := fun e => h2 (chord_ext e.1 e.2)
        have h4 : chordLt c y = true := by rw [chordLt_iff] at h1 ⊢; omega
        unfold Strict
        rw [List.pairwise_cons, List.pairwise_cons]
        refine ⟨fun z hz => ?_, h⟩
        rcases List.mem_cons.1 hz with e | e
        · subst e; exact h4
        · have h5 := h.1 z e
          rw [chordLt_iff] at h4 h5 ⊢
          omega
theorem insL_len (c : S55) : ∀ (l : List S55), (insL c l).length ≤ l.length + 1
  | [] => by simp [insL]
  | y :: l => by
    unfold insL
    have := insL_len c l
    split
    · simp; omega
    · split <;> simp
/-- All chords of a list put in, one by one. -/
def putAll (acc : List S55) : List S55 → List S55
  | [] => acc
  | c :: l => putAll (insL c acc) l
theorem putAll_spec : ∀ (l acc : List S55), Strict acc → Strict (putAll acc l) ∧ ∀ x, x ∈ putAll acc l ↔ x ∈ acc ∨ x ∈ l
  | [], acc, h => ⟨h, by simp [putAll]⟩
  | c :: l, acc, h => by
    obtain ⟨h1, h2⟩ := putAll_spec l (insL c acc) (insL_strict c acc h)
    refine ⟨h1, fun x => ?_⟩
    unfold putAll
    rw [h2, insL_mem, List.mem_cons]
    constructor
    · rintro ((h | h) | h) <;> simp [h]
    · rintro (h | h | h) <;> simp [h]
theorem putAll_ordL (l : List S55) : putAll [] l = ordL l := by
  obtain ⟨h1, h2⟩ := putAll_spec l [] (by simp [Strict])
  obtain ⟨h3, h4⟩ := ordL_strict l
  exact strict_unique _ _ h1 h3 (fun x => by rw [h2, h4]; simp)
theorem putAll_len : ∀ (l acc : List S55), (putAll acc l).length ≤ acc.length + l.length
  | [], acc => by simp [putAll]
  | c :: l, acc => by
    have h1 := putAll_len l (insL c acc)
    have h2 := insL_len c acc
    unfold putAll
    simp only [List.length_cons]
    omega
theorem ordL_len (l : List S55) : (ordL l).length ≤ l.length := by
  unfold ordL
  have := Lib.compact_length_le (l.mergeSort fun x y => !chordLt y x)
  simpa using this
theorem ordered_eq (l : List S55) (h : l.length ≤ 1000) : impl_ordered.f l = some (ordL l) := by unfold impl_ordered.f; rw [if_pos h]
/-- A strictly ordered list is its own ordering. -/
theorem ordL_self (l : List S55) (h : Strict l) : ordL l = l := by
  obtain ⟨h3, h4⟩ := ordL_strict l
  exact strict_unique _ _ h3 h h4
/-! ### The reference's inserting -/
theorem rdC_get (l : List S55) (i : Int) (h0 : 0 ≤ i) (h1 : i < l.length) : rd_T55 l i = l[i.toNat]'(by omega) := by
  unfold rd_T55
  have h : i.toNat < l.length := by omega
  simp [h]
theorem srLess_eq (a b c d : Int) : spec_srLess.f a b c d = some (chordLt ⟨a, b⟩ ⟨c, d⟩) := by
  unfold spec_srLess.f chordLt
  split
  · rename_i h; exact congrArg some (decide_eq_true (Or.inl h)).symm
  · split
    · rename_i h1 h2
      refine congrArg some (decide_eq_decide.2 ?_)
      simp only
      omega
    · rename_i h1 h2
      refine congrArg some (decide_eq_false ?_).symm
      simp only
      omega
theorem srPut_loop (c : S55) (m : List S55) : ∀ (k : Nat) (pre : List S55), pre.length + m.length ≤ 1000 → m.length < k →
    spec_srPut.l0 k (pre ++ m) pre.length c.f0 c.f1 = some (pre ++ insL c m) := by
  induction m with
  | nil =>
    intro k pre hl hk
    obtain ⟨k, rfl⟩ : ∃ t, k = t + 1 := ⟨k - 1, by omega⟩
    simp only [List.length_nil, Nat.add_zero] at hl
    simp only [spec_srPut.l0, List.append_nil, insL]
    rw [if_neg (by omega)]
    simp only [Option.bind_some, List.nil_append, Int.toNat_natCast, List.take_length, List.drop_length, List.append_nil, List.length_nil, List.length_append, List.length_cons]
    rw [if_pos (by omega), if_pos (by omega), if_pos (by omega), if_pos (by omega), if_pos (by omega)]
  | cons x m ih =>
    intro k pre hl hk
    obtain ⟨k, rfl⟩ : ∃ t, k = t + 1 := ⟨k - 1, by omega⟩
    simp only [List.length_cons] at hl hk
    simp only [spec_srPut.l0, insL]
    have hlen : ((pre ++ x :: m).length : Int) = pre.length + m.length + 1 := by simp; omega
    rw [if_pos (by omega), if_pos (by omega)]
    have hrd : rd_T55 (pre ++ x :: m) pre.length = x := by
      rw [rdC_get _ _ (by omega) (by omega)]
      simp
    rw [hrd, srLess_eq]
    simp only [Option.bind_some]
    by_cases h : chordLt x c = true
    · rw [if_pos h, if_pos h, wrap64_id (by omega) (by omega)]
      have := ih k (pre ++ [x]) (by simp; omega) (by omega)
      simp only [List.append_assoc, List.cons_append, List.nil_append, List.length_append, List.length_cons, List.length_nil] at this
      rw [show (pre.length : Int) + 1 = ((pre.length + (0 + 1) : Nat) : Int) by omega]
      exact this
    · rw [if_neg h, if_neg h]
      by_cases e : x = c
      · subst e
        rw [if_pos (by simp), if_pos rfl]
      · have h3 : ¬ (x.f0 = c.f0 ∧ x.f1 = c.f1) := fun e' => e (chord_ext e'.1 e'.2)
        rw [if_neg (by simpa using h3), if_neg e, if_pos (by omega)]
        simp only [Int.toNat_natCast, List.take_left, List.drop_left, List.nil_append, List.length_nil, List.length_append, List.length_cons]
        rw [if_pos (by omega), if_pos (by omega), if_pos (by omega)]
        simp
theorem srPut_eq (c : S55) (l : List S55) (k : Nat) (hl : l.length ≤ 1000) (hk : l.length < k) : spec_srPut.f k l c.f0 c.f1 = some (insL c l) := by
  unfold spec_srPut.f
  simpa using srPut_loop c l k [] (by simpa using hl) hk

end Go.Proofs.Ytknpnhgedcggkaa.Q
