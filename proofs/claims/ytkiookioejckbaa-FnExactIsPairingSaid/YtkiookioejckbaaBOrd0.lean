/- Chords in order. -/
import Derived.Test.YtkiookioejckbaaBWrap
import Derived.Test.YtkiookioejckbaaXx2
namespace Go.Proofs.Ytkiookioejckbaa.Q
open Go.RowKit Go.Proofs.Ytkiookioejckbaa.X Go.Proofs.YtkiookioejckbaaW.PrintWords Go.Proofs.YtkiookioejckbaaW.PrintLast Go.Proofs.YtkiookioejckbaaW.PrintMore
set_option linter.unusedVariables false
set_option linter.unusedSimpArgs false

/-- The order of chords. -/
def cLt (x y : S52) : Bool := decide (x.f0 < y.f0 ∨ (x.f0 = y.f0 ∧ x.f1 < y.f1))
theorem cLt_iff (x y : S52) : cLt x y = true ↔ (x.f0 < y.f0 ∨ (x.f0 = y.f0 ∧ x.f1 < y.f1)) := by unfold cLt; exact decide_eq_true_iff
theorem chord_ext {x y : S52} (h0 : x.f0 = y.f0) (h1 : x.f1 = y.f1) : x = y := by cases x; cases y; simp_all
/-- Strictly in order. -/
def Strict (l : List S52) : Prop := l.Pairwise fun x y => cLt x y = true
/-- Two lists strictly in order with the same members are the same. -/
theorem strict_unique : ∀ (l m : List S52), Strict l → Strict m → (∀ x, x ∈ l ↔ x ∈ m) → l = m
  | [], [], _, _, _ => rfl
  | [], y :: m, _, _, h => by have := (h y).2 (by simp); simp at this
  | x :: l, [], _, _, h => by have := (h x).1 (by simp); simp at this
  | x :: l, y :: m, hl, hm, h => by
    unfold Strict at hl hm
    rw [List.pairwise_cons] at hl hm
    have e : x = y := by
      have h1 := (h x).1 (by simp)
      have h2 := (h y).2 (by simp)
      rcases List.mem_cons.1 h1 with h1 | h1
      · exact h1
      · rcases List.mem_cons.1 h2 with h2 | h2
        · exact h2.symm
        · have a := hl.1 y h2
          have b := hm.1 x h1
          rw [cLt_iff] at a b
          omega
    subst e
    rw [strict_unique l m hl.2 hm.2 (fun z => by
      have hz := h z
      simp only [List.mem_cons] at hz
      constructor
      · intro hzl
        rcases hz.1 (Or.inr hzl) with e | e
        · subst e; have := hl.1 z hzl; rw [cLt_iff] at this; omega
        · exact e
      · intro hzm
        rcases hz.2 (Or.inr hzm) with e | e
        · subst e; have := hm.1 z hzm; rw [cLt_iff] at this; omega
        · exact e)]
/-- A chord put in at its place. -/
def insL (c : S52) : List S52 → List S52
  | [] => [c]
  | x :: l => if cLt x c = true then x :: insL c l else if x.f0 = c.f0 ∧ x.f1 = c.f1 then x :: l else c :: x :: l
theorem insL_mem (c : S52) : ∀ (l : List S52) (x : S52), x ∈ insL c l ↔ x = c ∨ x ∈ l
  | [], x => by simp [insL]
  | y :: l, x => by
    unfold insL
    split
    · rw [List.mem_cons, insL_mem c l x, List.mem_cons]; constructor
      · rintro (h | h | h) <;> simp [h]
      · rintro (h | h | h) <;> simp [h]
    · split
      · rename_i e; have e := chord_ext e.1 e.2; subst e; simp
      · simp
theorem insL_strict (c : S52) : ∀ (l : List S52), Strict l → Strict (insL c l)
  | [], _ => by simp [insL, Strict]
  | y :: l, h => by
    unfold Strict at h
    rw [List.pairwise_cons] at h
    unfold insL
    split
    · rename_i hy
      unfold Strict
      rw [List.pairwise_cons]
      refine ⟨fun z hz => ?_, insL_strict c l h.2⟩
      rcases (insL_mem c l z).1 hz with e | e
      · subst e; exact hy
      · exact h.1 z e
    · split
      · unfold Strict; rw [List.pairwise_cons]; exact h
      · rename_i h1 h2
        have h3 : ¬ (y.f0 = c.f0 ∧ y.f1 = c.f1) := h2
        have h4 : cLt c y = true := by rw [cLt_iff] at h1 ⊢; omega
        unfold Strict
        rw [List.pairwise_cons, List.pairwise_cons]
        refine ⟨fun z hz => ?_, h⟩
        rcases List.mem_cons.1 hz with e | e
        · subst e; exact h4
        · have h5 := h.1 z e
          rw [cLt_iff] at h4 h5 ⊢
          omega
theorem insL_len (c : S52) : ∀ (l : List S52), (insL c l).length ≤ l.length + 1
  | [] => by simp [insL]
  | y :: l => by
    unfold insL
    have := insL_len c l
    split
    · simp; omega
    · split <;> simp
/-- All chords of a list put in, one by one. -/
def putAll (acc : List S52) : List S52 → List S52
  | [] => acc
  | c :: l => putAll (insL c acc) l
theorem putAll_spec : ∀ (l acc : List S52), Strict acc → Strict (putAll acc l) ∧ ∀ x, x ∈ putAll acc l ↔ x ∈ acc ∨ x ∈ l
  | [], acc, h => ⟨h, by simp [putAll]⟩
  | c :: l, acc, h => by
    obtain ⟨h1, h2⟩ := putAll_spec l (insL c acc) (insL_strict c acc h)
    refine ⟨h1, fun x => ?_⟩
    unfold putAll
    rw [h2, insL_mem, List.mem_cons]
    constructor
    · rintro ((h | h) | h) <;> simp [h]
    · rintro (h | h | h) <;> simp [h]
theorem putAll_len : ∀ (l acc : List S52), (putAll acc l).length ≤ acc.length + l.length
  | [], acc => by simp [putAll]
  | c :: l, acc => by
    have h1 := putAll_len l (insL c acc)
    have h2 := insL_len c acc
    unfold putAll
    simp only [List.length_cons]
    omega
theorem rdC_get (l : List S52) (i : Int) (h0 : 0 ≤ i) (h1 : i < l.length) : rd_T52 l i = l[i.toNat]'(by omega) := by
  unfold rd_T52
  have h : i.toNat < l.length := by omega
  simp [h]
theorem srLess_eq (a b c d : Int) : spec_srLess.f a b c d = some (cLt ⟨a, b⟩ ⟨c, d⟩) := by
  unfold spec_srLess.f cLt
  split
  · rename_i h; exact congrArg some (decide_eq_true (Or.inl h)).symm
  · split
    · rename_i h1 h2
      refine congrArg some (decide_eq_decide.2 ?_)
      simp only
      omega
    · rename_i h1 h2
      refine congrArg some (decide_eq_false ?_).symm
      simp only
      omega
theorem rdC_append (l m : List S52) (x : S52) : rd_T52 (l ++ x :: m) (l.length : Int) = x := by
  rw [rdC_get _ _ (by omega) (by simp; omega)]
  simp
def mkC (a b : Int) : S52 := ⟨mn a b, mx a b⟩
/-- A chord of n points. -/
def Proper (n : Int) (c : S52) : Prop := 0 ≤ c.f0 ∧ c.f0 < c.f1 ∧ c.f1 < n
theorem mkC_proper (n a b : Int) (ha : 0 ≤ a ∧ a < n) (hb : 0 ≤ b ∧ b < n) (h : a ≠ b) : Proper n (mkC a b) := by
  unfold Proper mkC mn mx
  simp only
  split <;> split <;> omega

end Go.Proofs.Ytkiookioejckbaa.Q
