/- CrossingGroups: reference and program tell the same rows. -/
import Derived.Test.YtceoaondcnhaeaaZFnExactCrossingGroups3
namespace Go.Proofs.Ytceoaondcnhaeaa.Q
open Go.RowKit Go.Proofs.Ytceoaondcnhaeaa.X Go.Proofs.YtceoaondcnhaeaaW.PrintWords Go.Proofs.YtceoaondcnhaeaaW.PrintLast Go.Proofs.YtceoaondcnhaeaaW.PrintMore
set_option linter.unusedVariables false
set_option linter.unusedSimpArgs false

/-! ### BWrap -/
theorem wrap64_id {x : Int} (h0 : -9223372036854775808 ≤ x) (h1 : x ≤ 9223372036854775807) : wrap64 x = x := by unfold wrap64; omega
theorem wrap_step {x : Int} (h0 : 0 ≤ x) (h1 : x ≤ 4611686018427387904) : wrap64 (x + 1) = x + 1 := by unfold wrap64; omega
/-! ### BOrd0 -/
/-- The order of chords. -/
def cLt (x y : S41) : Bool := decide (x.f0 < y.f0 ∨ (x.f0 = y.f0 ∧ x.f1 < y.f1))
theorem cLt_iff (x y : S41) : cLt x y = true ↔ (x.f0 < y.f0 ∨ (x.f0 = y.f0 ∧ x.f1 < y.f1)) := by unfold cLt; exact decide_eq_true_iff
theorem chord_ext {x y : S41} (h0 : x.f0 = y.f0) (h1 : x.f1 = y.f1) : x = y := by cases x; cases y; simp_all
/-- Strictly in order. -/
def Strict (l : List S41) : Prop := l.Pairwise fun x y => cLt x y = true
/-- Two lists strictly in order with the same members are the same. -/
theorem strict_unique : ∀ (l m : List S41), Strict l → Strict m → (∀ x, x ∈ l ↔ x ∈ m) → l = m
  | [], [], _, _, _ => rfl
  | [], y :: m, _, _, h => by have := (h y).2 (by simp); simp at this
  | x :: l, [], _, _, h => by have := (h x).1 (by simp); simp at this
  | x :: l, y :: m, hl, hm, h => by
    unfold Strict at hl hm
    rw [List.pairwise_cons] at hl hm
    have e : x = y := by
      have h1 := (h x).1 (by simp)
      have h2 := (h y).2 (by simp)
      rcases List.mem_cons.1 h1 with h1 | h1
      · exact h1
      · rcases List.mem_cons.1 h2 with h2 | h2
        · exact h2.symm
        · have a := hl.1 y h2
          have b := hm.1 x h1
          rw [cLt_iff] at a b
          omega
    subst e
    rw [strict_unique l m hl.2 hm.2 (fun z => by
      have hz := h z
      simp only [List.mem_cons] at hz
      constructor
      · intro hzl
        rcases hz.1 (Or.inr hzl) with e | e
        · subst e; have := hl.1 z hzl; rw [cLt_iff] at this; omega
        · exact e
      · intro hzm
        rcases hz.2 (Or.inr hzm) with e | e
        · subst e; have := hm.1 z hzm; rw [cLt_iff] at this; omega
        · exact e)]
/-- A chord put in at its place. -/
def insL (c : S41) : List S41 → List S41
  | [] => [c]
  | x :: l => if cLt x c = true then x :: insL c l else if x.f0 = c.f0 ∧ x.f1 = c.f1 then x :: l else c :: x :: l
theorem insL_mem (c : S41) : ∀ (l : List S41) (x : S41), x ∈ insL c l ↔ x = c ∨ x ∈ l
  | [], x => by simp [insL]
  | y :: l, x => by
    unfold insL
    split
    · rw [List.mem_cons, insL_mem c l x, List.mem_cons]; constructor
      · rintro (h | h | h) <;> simp [h]
      · rintro (h | h | h) <;> simp [h]
    · split
      · rename_i e; have e := chord_ext e.1 e.2; subst e; simp
      · simp
theorem insL_strict (c : S41) : ∀ (l : List S41), Strict l → Strict (insL c l)
  | [], _ => by simp [insL, Strict]
  | y :: l, h => by
    unfold Strict at h
    rw [List.pairwise_cons] at h
    unfold insL
    split
    · rename_i hy
      unfold Strict
      rw [List.pairwise_cons]
      refine ⟨fun z hz => ?_, insL_strict c l h.2⟩
      rcases (insL_mem c l z).1 hz with e | e
      · subst e; exact hy
      · exact h.1 z e
    · split
      · unfold Strict; rw [List.pairwise_cons]; exact h
      · rename_i h1 h2
        have h3 : ¬ (y.f0 = c.f0 ∧ y.f1 = c.f1) := h2
        have h4 : cLt c y = true := by rw [cLt_iff] at h1 ⊢; omega
        unfold Strict
        rw [List.pairwise_cons, List.pairwise_cons]
        refine ⟨fun z hz => ?_, h⟩
        rcases List.mem_cons.1 hz with e | e
        · subst e; exact h4
        · have h5 := h.1 z e
          rw [cLt_iff] at h4 h5 ⊢
          omega
theorem insL_len (c : S41) : ∀ (l : List S41), (insL c l).length ≤ l.length + 1
  | [] => by simp [insL]
  | y :: l => by
    unfold insL
    have := insL_len c l
    split
    · simp; omega
    · split <;> simp
/-- All chords of a list put in, one by one. -/
def putAll (acc : List S41) : List S41 → List S41
  | [] => acc
  | c :: l => putAll (insL c acc) l
theorem putAll_spec : ∀ (l acc : List S41), Strict acc → Strict (putAll acc l) ∧ ∀ x, x ∈ putAll acc l ↔ x ∈ acc ∨ x ∈ l
  | [], acc, h => ⟨h, by simp [putAll]⟩
  | c :: l, acc, h => by
    obtain ⟨h1, h2⟩ := putAll_spec l (insL c acc) (insL_strict c acc h)
    refine ⟨h1, fun x => ?_⟩
    unfold putAll
    rw [h2, insL_mem, List.mem_cons]
    constructor
    · rintro ((h | h) | h) <;> simp [h]
    · rintro (h | h | h) <;> simp [h]
theorem putAll_len : ∀ (l acc : List S41), (putAll acc l).length ≤ acc.length + l.length
  | [], acc => by simp [putAll]
  | c :: l, acc => by
    have h1 := putAll_len l (insL c acc)
    have h2 := insL_len c acc
    unfold putAll
    simp only [List.length_cons]
    omega
theorem rdC_get (l : List S41) (i : Int) (h0 : 0 ≤ i) (h1 : i < l.length) : rd_T41 l i = l[i.toNat]'(by omega) := by
  unfold rd_T41
  have h : i.toNat < l.length := by omega
  simp [h]
theorem srLess_eq (a b c d : Int) : spec_srLess.f a b c d = some (cLt ⟨a, b⟩ ⟨c, d⟩) := by
  unfold spec_srLess.f cLt
  split
  · rename_i h; exact congrArg some (decide_eq_true (Or.inl h)).symm
  · split
    · rename_i h1 h2
      refine congrArg some (decide_eq_decide.2 ?_)
      simp only
      omega
    · rename_i h1 h2
      refine congrArg some (decide_eq_false ?_).symm
      simp only
      omega
theorem rdC_append (l m : List S41) (x : S41) : rd_T41 (l ++ x :: m) (l.length : Int) = x := by
  rw [rdC_get _ _ (by omega) (by simp; omega)]
  simp
def mkC (a b : Int) : S41 := ⟨mn a b, mx a b⟩
/-- A chord of n points. -/
def Proper (n : Int) (c : S41) : Prop := 0 ≤ c.f0 ∧ c.f0 < c.f1 ∧ c.f1 < n
theorem mkC_proper (n a b : Int) (ha : 0 ≤ a ∧ a < n) (hb : 0 ≤ b ∧ b < n) (h : a ≠ b) : Proper n (mkC a b) := by
  unfold Proper mkC mn mx
  simp only
  split <;> split <;> omega
/-! ### BCount -/
def crossB (c d : S41) : Bool := spec_srCross.b c.f0 c.f1 d.f0 d.f1
theorem srCross_cross (c d : S41) : spec_srCross.f c.f0 c.f1 d.f0 d.f1 = some (crossB c d) := rfl
theorem crossB_iff (n : Int) (c d : S41) (hc : Proper n c) (hd : Proper n d) : crossB c d = true ↔ (c.f0 < d.f0 ∧ d.f0 < c.f1 ∧ c.f1 < d.f1) ∨ (d.f0 < c.f0 ∧ c.f0 < d.f1 ∧ d.f1 < c.f1) := by
  unfold Proper at hc hd
  unfold crossB spec_srCross.b
  simp only [Bool.and_eq_true, Bool.not_eq_true', Bool.or_eq_false_iff, beq_eq_false_iff_ne, bne_iff_ne, ne_eq, ← Bool.decide_and]
  rw [decide_eq_decide]
  omega
theorem crossing_eq (n : Int) (c d : S41) (hc : Proper n c) (hd : Proper n d) : impl_crossing.f c.f0 c.f1 d.f0 d.f1 = some (crossB c d) := by
  have h := crossB_iff n c d hc hd
  unfold Proper at hc hd
  unfold impl_crossing.f
  by_cases e : crossB c d = true
  · have h1 := h.1 e
    rw [e]
    rcases h1 with h1 | h1
    · rw [if_pos (by omega), if_pos (by omega), if_pos (by omega)]
    · rw [if_neg (by omega), if_pos (by omega), if_pos (by omega), decide_eq_true (by omega)]
  · have h1 : ¬ ((c.f0 < d.f0 ∧ d.f0 < c.f1 ∧ c.f1 < d.f1) ∨ (d.f0 < c.f0 ∧ c.f0 < d.f1 ∧ d.f1 < c.f1)) := fun x => e (h.2 x)
    rw [Bool.eq_false_iff.2 e]
    repeat' split
    all_goals first | rfl | (exfalso; omega) | (refine congrArg some (decide_eq_false ?_); omega)
theorem crossB_symm (n : Int) (c d : S41) (hc : Proper n c) (hd : Proper n d) : crossB c d = crossB d c := by
  rw [Bool.eq_iff_iff, crossB_iff n c d hc hd, crossB_iff n d c hd hc]
  omega
/-- So many of the chords cross c. -/
def countX (c : S41) (l : List S41) : Nat := l.countP (crossB c)
theorem crossed_loop (n : Int) (c : S41) (hc : Proper n c) (m : List S41) : ∀ (k : Nat) (pre : List S41) (cnt : Int), (∀ x ∈ m, Proper n x) → pre.length + m.length ≤ 1000000 → 0 ≤ cnt → cnt + m.length ≤ 4611686018427387904 → m.length < k →
    impl_crossed.l0 k cnt (pre ++ m) ((pre ++ m).length : Int) pre.length c.f0 c.f1 = some (cnt + countX c m) := by
  induction m with
  | nil =>
    intro k pre cnt _ hl h0 h1 hk
    obtain ⟨k, rfl⟩ : ∃ t, k = t + 1 := ⟨k - 1, by omega⟩
    simp only [impl_crossed.l0, List.append_nil]
    rw [if_neg (by omega)]
    simp [countX]
  | cons x m ih =>
    intro k pre cnt hp hl h0 h1 hk
    obtain ⟨k, rfl⟩ : ∃ t, k = t + 1 := ⟨k - 1, by omega⟩
    simp only [List.length_cons] at hl h1 hk
    have hlen : ((pre ++ x :: m).length : Int) = pre.length + m.length + 1 := by simp; omega
    simp only [impl_crossed.l0]
    rw [if_pos (by omega), if_pos (by omega), if_pos (by omega), rdC_append, crossing_eq n c x hc (hp x (by simp))]
    simp only [Option.bind_some]
    have IH := fun cnt h0 h1 => ih k (pre ++ [x]) cnt (fun y hy => hp y (by simp [hy])) (by simp; omega) h0 h1 (by omega)
    simp only [List.append_assoc, List.cons_append, List.nil_append] at IH
    have hpl : (((pre ++ [x]).length : Nat) : Int) = (pre.length : Int) + 1 := by simp
    rw [hpl] at IH
    rw [wrap64_id (x := cnt + 1) (by omega) (by omega), wrap64_id (by omega) (by omega)]
    unfold countX at IH ⊢
    by_cases e : crossB c x = true
    · rw [if_pos e, IH (cnt + 1) (by omega) (by omega), List.countP_cons_of_pos e]
      congr 1; omega
    · rw [if_neg e, IH cnt (by omega) (by omega), List.countP_cons_of_neg e]
theorem crossed_eq (n : Int) (c : S41) (hc : Proper n c) (m : List S41) (hm : ∀ x ∈ m, Proper n x) (hl : m.length ≤ 1000000) (k : Nat) (hk : m.length < k) : impl_crossed.f k m c.f0 c.f1 = some (countX c m : Int) := by
  unfold impl_crossed.f
  have := crossed_loop n c hc m k [] 0 hm (by simpa using hl) (by omega) (by omega) hk
  simpa using this
theorem countX_le (c : S41) (l : List S41) : countX c l ≤ l.length := List.countP_le_length
/-- So many pairs of a list's chords cross. -/
def pairsX : List S41 → Nat
  | [] => 0
  | x :: l => countX x l + pairsX l
theorem pairsX_snoc (n : Int) (x : S41) (hx : Proper n x) : ∀ (l : List S41), (∀ y ∈ l, Proper n y) → pairsX (l ++ [x]) = pairsX l + countX x l
  | [], _ => by simp [pairsX, countX]
  | y :: l, h => by
    have ih := pairsX_snoc n x hx l (fun z hz => h z (by simp [hz]))
    simp only [List.cons_append, pairsX, ih]
    have e := crossB_symm n x y hx (h y (by simp))
    unfold countX
    rw [List.countP_append, List.countP_cons, List.countP_cons, e]
    simp only [List.countP_nil, Nat.zero_add]
    omega
theorem pairsX_le : ∀ (l : List S41), pairsX l ≤ l.length * l.length
  | [] => by simp [pairsX]
  | x :: l => by
    have h1 := pairsX_le l
    have h2 := countX_le x l
    simp only [pairsX, List.length_cons]
    rw [Nat.add_mul, Nat.mul_add]
    omega
/-! ### BGroups -/
theorem getD_set {α : Type} (l : List α) (i j : Nat) (v d : α) (hi : i < l.length) : (l.set i v).getD j d = if j = i then v else l.getD j d := by
  simp only [List.getD_eq_getElem?_getD, List.getElem?_set]
  by_cases h : i = j
  · subst h
    simp [hi]
  · rw [if_neg h, if_neg (fun e => h e.symm)]
/-- How many are in no group yet. -/
def freeG (g : List Int) : Nat := g.countP (fun x => decide (x < 0))
theorem freeG_set (g : List Int) (i : Nat) (v : Int) (hi : i < g.length) (h0 : g.getD i 0 < 0) (hv : 0 ≤ v) : freeG (g.set i v) + 1 = freeG g := by
  unfold freeG
  rw [List.countP_set hi]
  have e : g.getD i 0 = g[i] := by simp [List.getD_eq_getElem?_getD, hi]
  rw [e] at h0
  have hpos : 0 < g.countP (fun x => decide (x < 0)) := List.countP_pos_iff.2 ⟨g[i], List.getElem_mem hi, by simpa using h0⟩
  simp [h0, Int.not_lt.2 hv]
  omega
/-- The members of the group a, in order. -/
def rowG (n : Nat) (g : List Int) (a : Nat) : List Int := ((List.range n).filter fun i => decide (g.getD i 0 = (a : Int))).map fun (i : Nat) => (i : Int)
/-- The groups below m that are not empty. -/
def rowsG (n : Nat) (g : List Int) : Nat → List (List Int)
  | 0 => []
  | m + 1 => rowsG n g m ++ (if rowG n g m = [] then [] else [rowG n g m])
theorem rowG_same (n : Nat) (g g' : List Int) (a : Nat) (h : ∀ i, i < n → (g'.getD i 0 = (a : Int) ↔ g.getD i 0 = (a : Int))) : rowG n g' a = rowG n g a := by
  unfold rowG
  congr 1
  apply List.filter_congr
  intro i hi
  have := h i (List.mem_range.1 hi)
  simpa only [decide_eq_decide] using this
theorem rowsG_same (n : Nat) (g g' : List Int) : ∀ (m : Nat), (∀ a, a < m → rowG n g' a = rowG n g a) → rowsG n g' m = rowsG n g m
  | 0, _ => rfl
  | m + 1, h => by
    rw [rowsG, rowsG, rowsG_same n g g' m (fun a ha => h a (by omega)), h m (by omega)]
theorem rowG_mem (n : Nat) (g : List Int) (a : Nat) (x : Int) : x ∈ rowG n g a ↔ 0 ≤ x ∧ x < n ∧ g.getD x.toNat 0 = (a : Int) := by
  unfold rowG
  simp only [List.mem_map, List.mem_filter, List.mem_range, decide_eq_true_eq]
  constructor
  · rintro ⟨i, ⟨h1, h2⟩, rfl⟩
    exact ⟨by omega, by omega, by simpa using h2⟩
  · rintro ⟨h1, h2, h3⟩
    exact ⟨x.toNat, ⟨by omega, h3⟩, by omega⟩
theorem rowG_sorted (n : Nat) (g : List Int) (a : Nat) : (rowG n g a).Pairwise (· < ·) := by
  unfold rowG
  rw [List.pairwise_map]
  exact (List.Pairwise.filter _ List.pairwise_lt_range).imp (fun h => by omega)
theorem srt_row (n : Nat) (g : List Int) (a : Nat) (own : List Int) (hn : own.Nodup) (hm : ∀ x, x ∈ own ↔ x ∈ rowG n g a) : srtI own = rowG n g a := by
  have h1 : (srtI own).Pairwise (fun x y => x ≤ y) := by
    have := List.pairwise_mergeSort (le := fun x y : Int => decide (x ≤ y)) (fun a b c h1 h2 => by simp at *; omega) (fun a b => by simp; omega) own
    exact this.imp (fun h => by simpa using h)
  have h2 : (rowG n g a).Pairwise (fun x y => x ≤ y) := (rowG_sorted n g a).imp (fun h => Int.le_of_lt h)
  have hp : (srtI own).Perm (rowG n g a) := by
    refine (List.mergeSort_perm own _).trans ?_
    rw [List.perm_ext_iff_of_nodup hn ((rowG_sorted n g a).imp (fun h => Int.ne_of_lt h))]
    exact hm
  exact hp.eq_of_pairwise (fun a b _ _ h1 h2 => by omega) h1 h2
/-- What both know: groups g and distances fa of the reference, what the program has seen, and which are even. -/
structure St (n : Nat) (g fa : List Int) (s e : List Bool) : Prop where
  lg : g.length = n
  lf : fa.length = n
  ls : s.length = n
  le : e.length = n
  seen : ∀ i, i < n → s.getD i false = decide (0 ≤ g.getD i 0)
  even : ∀ i, i < n → 0 ≤ g.getD i 0 → e.getD i false = decide (fa.getD i 0 % 2 = 0)
  zero : ∀ i, i < n → g.getD i 0 < 0 → fa.getD i 0 = 0
  far : ∀ i, i < n → 0 ≤ fa.getD i 0 ∧ fa.getD i 0 + freeG g ≤ n
/-- The queue of the group f. -/
structure Ow (n : Nat) (g : List Int) (f : Nat) (own : List Int) : Prop where
  nodup : own.Nodup
  mem : ∀ x, x ∈ own ↔ x ∈ rowG n g f
  low : ∀ i, i < n → g.getD i 0 ≤ (f : Int)
  old : ∀ i, i ≤ f → i < n → 0 ≤ g.getD i 0
  ne : own ≠ []
theorem St.push {n : Nat} {g fa : List Int} {s e : List Bool} (h : St n g fa s e) (q j : Nat) (v : Int) (hq : q < n) (hj : j < n) (hqj : 0 ≤ g.getD q 0) (hg : g.getD j 0 < 0) (hv : 0 ≤ v) :
    St n (g.set j v) (fa.set j (fa.getD q 0 + 1)) (s.set j true) (e.set j (!(e.getD q false))) := by
  have hU := freeG_set g j v (by rw [h.lg]; exact hj) hg hv
  have hfq := h.far q hq
  refine ⟨by simp [h.lg], by simp [h.lf], by simp [h.ls], by simp [h.le], fun i hi => ?_, fun i hi hgi => ?_, fun i hi hgi => ?_, fun i hi => ?_⟩
  · rw [getD_set _ _ _ _ _ (by rw [h.ls]; exact hj), getD_set _ _ _ _ _ (by rw [h.lg]; exact hj)]
    by_cases e1 : i = j
    · rw [if_pos e1, if_pos e1]; simp [hv]
    · rw [if_neg e1, if_neg e1]; exact h.seen i hi
  · rw [getD_set _ _ _ _ _ (by rw [h.lg]; exact hj)] at hgi
    rw [getD_set _ _ _ _ _ (by rw [h.le]; exact hj), getD_set _ _ _ _ _ (by rw [h.lf]; exact hj)]
    by_cases e1 : i = j
    · rw [if_pos e1, if_pos e1, h.even q hq hqj]
      by_cases e2 : fa.getD q 0 % 2 = 0
      · rw [decide_eq_true e2, decide_eq_false (by omega)]; rfl
      · rw [decide_eq_false e2, decide_eq_true (by omega)]; rfl
    · rw [if_neg e1] at hgi
      rw [if_neg e1, if_neg e1]; exact h.even i hi hgi
  · rw [getD_set _ _ _ _ _ (by rw [h.lg]; exact hj)] at hgi
    rw [getD_set _ _ _ _ _ (by rw [h.lf]; exact hj)]
    by_cases e1 : i = j
    · rw [if_pos e1] at hgi; omega
    · rw [if_neg e1] at hgi
      rw [if_neg e1]; exact h.zero i hi hgi
  · have := h.far i hi
    rw [getD_set _ _ _ _ _ (by rw [h.lf]; exact hj)]
    split <;> omega
theorem Ow.push {n : Nat} {g : List Int} {f : Nat} {own : List Int} (h : Ow n g f own) (lg : g.length = n) (j : Nat) (hj : j < n) (hg : g.getD j 0 < 0) : Ow n (g.set j (f : Int)) f (own ++ [(j : Int)]) := by
  have hset := fun i => getD_set g j i (f : Int) 0 (by rw [lg]; exact hj)
  refine ⟨?_, fun x => ?_, fun i hi => ?_, fun i hif hi => ?_, by simp⟩
  · rw [List.nodup_append]
    refine ⟨h.nodup, by simp, ?_⟩
    intro a ha b hb e
    simp at hb
    subst hb
    rw [e] at ha
    obtain ⟨_, _, h3⟩ := (rowG_mem n g f _).1 ((h.mem _).1 ha)
    rw [Int.toNat_natCast] at h3
    omega
  · rw [List.mem_append, h.mem, rowG_mem, rowG_mem, hset]
    simp only [List.mem_singleton]
    constructor
    · rintro (⟨h1, h2, h3⟩ | rfl)
      · refine ⟨h1, h2, ?_⟩
        rw [if_neg (fun e => by rw [e] at h3; omega)]
        exact h3
      · exact ⟨by omega, by omega, by simp⟩
    · rintro ⟨h1, h2, h3⟩
      by_cases e : x.toNat = j
      · right; omega
      · left
        rw [if_neg e] at h3
        exact ⟨h1, h2, h3⟩
  · rw [hset]
    have := h.low i hi
    split <;> omega
  · rw [hset]
    have := h.old i hif hi
    split <;> omega
theorem rowsG_push {n : Nat} {g : List Int} (f : Nat) (lg : g.length = n) (j : Nat) (hj : j < n) (hg : g.getD j 0 < 0) : rowsG n (g.set j (f : Int)) f = rowsG n g f := by
  apply rowsG_same
  intro a ha
  apply rowG_same
  intro i hi
  rw [getD_set g j i (f : Int) 0 (by rw [lg]; exact hj)]
  by_cases e : i = j
  · rw [if_pos e, e]; constructor <;> intro h <;> omega
  · rw [if_neg e]
/-- What both tell in the end: G the groups, F the distances, O the rows, E which are even. -/
def EndG (n : Nat) (G F : List Int) (O : List (List Int)) (E : List Bool) : Prop := G.length = n ∧ F.length = n ∧ E.length = n ∧ (∀ i, i < n → 0 ≤ G.getD i 0 ∧ G.getD i 0 < n) ∧ O = rowsG n G n ∧ (∀ i, i < n → 0 ≤ F.getD i 0 ∧ F.getD i 0 ≤ n) ∧ ∀ i, i < n → E.getD i false = decide (F.getD i 0 % 2 = 0)
/-- From here on both come to an end alike. -/
def Both (n : Nat) (S : Nat → Option (List Int × List Int)) (I : Nat → Option (List (List Int) × List Bool)) : Prop := ∃ K G F O E, (∀ k, K ≤ k → S k = some (G, F)) ∧ (∀ k, K ≤ k → I k = some (O, E)) ∧ EndG n G F O E
theorem Both.step {n : Nat} {S S' : Nat → Option (List Int × List Int)} {I I' : Nat → Option (List (List Int) × List Bool)} (h : Both n S I) (hs : ∀ k, S' (k + 1) = S k) (hi : ∀ k, I' (k + 1) = I k) : Both n S' I' := by
  obtain ⟨K, G, F, O, E, h1, h2, h3⟩ := h
  refine ⟨K + 1, G, F, O, E, fun k hk => ?_, fun k hk => ?_, h3⟩
  · obtain ⟨k, rfl⟩ : ∃ t, k = t + 1 := ⟨k - 1, by omega⟩
    rw [hs]; exact h1 k (by omega)
  · obtain ⟨k, rfl⟩ : ∃ t, k = t + 1 := ⟨k - 1, by omega⟩
    rw [hi]; exact h2 k (by omega)
theorem rd_nat (g : List Int) (i : Nat) : rd g (i : Int) = g.getD i 0 := rfl
theorem rdOf_nat (s : List Bool) (i : Nat) : rdOf false s (i : Int) = s.getD i false := rfl
theorem wrapN (n : Nat) (h : n ≤ 4000000000) : wrap64 ((n : Int) + 1) = ((n + 1 : Nat) : Int) := by
  rw [wrap_step (by omega) (by omega)]; omega
theorem inner_loop (n : Nat) (l : List S41) (hl : l.length = n) (hn : n ≤ 1000) (P : Int) (hP : ∀ x ∈ l, Proper P x) (f i : Nat) (U : Nat) (hUn : U ≤ n) (out : List (List Int)) (d : Nat) :
    ∀ (j : Nat) (g fa : List Int) (s e : List Bool) (own : List Int), j + d = n → St n g fa s e → Ow n g f own → i < own.length → own.length + freeG g = U → out = rowsG n g f →
    (∀ g fa s e own, St n g fa s e → Ow n g f own → i < own.length → own.length + freeG g = U → out = rowsG n g f →
      Both n (fun k => spec_cdGroups.l2 k l g fa (f : Int) own ((i + 1 : Nat) : Int) (n : Int) (f : Int)) (fun k => impl_groups.l1 k l s e out own ((i + 1 : Nat) : Int) (n : Int) (f : Int))) →
    Both n (fun k => spec_cdGroups.l3 k l g fa (f : Int) own (i : Int) (n : Int) (f : Int) (n : Int) (j : Int)) (fun k => impl_groups.l2 k l s e out own (i : Int) (n : Int) (f : Int) (n : Int) (j : Int)) := by
  induction d with
  | zero =>
    intro j g fa s e own hj hS hO hi hU ho H
    refine (H g fa s e own hS hO hi hU ho).step (fun k => ?_) (fun k => ?_)
    · simp only [spec_cdGroups.l3]
      rw [if_neg (by omega), wrapN i (by omega)]
    · simp only [impl_groups.l2]
      rw [if_neg (by omega), wrapN i (by omega)]
  | succ d ih =>
    intro j g fa s e own hj hS hO hi hU ho H
    have hjn : j < n := by omega
    have hseen := hS.seen j hjn
    have hlg := hS.lg
    have hls := hS.ls
    have hlf := hS.lf
    have hle := hS.le
    by_cases hg : g.getD j 0 < 0
    · -- not in a group yet
      obtain ⟨q, hq⟩ : ∃ q : Int, own.getD i 0 = q := ⟨_, rfl⟩
      have hqm : q ∈ own := by rw [← hq, List.getD_eq_getElem?_getD, List.getElem?_eq_getElem hi]; exact List.getElem_mem hi
      obtain ⟨q0, q1, q2⟩ := (rowG_mem n g f q).1 ((hO.mem q).1 hqm)
      obtain ⟨Q, rfl⟩ : ∃ Q : Nat, q = (Q : Int) := ⟨q.toNat, by omega⟩
      rw [Int.toNat_natCast] at q2
      have hQ : Q < n := by omega
      have hc := srCross_cross (rd_T41 l (Q : Int)) (rd_T41 l (j : Int))
      have hPQ : ∀ t : Nat, t < n → Proper P (rd_T41 l (t : Int)) := fun t ht => by rw [rdC_get l t (by omega) (by omega)]; exact hP _ (List.getElem_mem _)
      have hc2 := crossing_eq P _ _ (hPQ Q hQ) (hPQ j hjn)
      by_cases hx : crossB (rd_T41 l (Q : Int)) (rd_T41 l (j : Int)) = true
      · rw [hx] at hc hc2
        have hS2 := hS.push Q j (f : Int) hQ hjn (by rw [q2]; omega) hg (by omega)
        have hO2 := hO.push hlg j hjn hg
        have hU2 := freeG_set g j (f : Int) (by omega) hg (by omega)
        have hr2 := rowsG_push f hlg j hjn hg
        have hfar := hS.far Q hQ
        have IH := ih (j + 1) _ _ _ _ _ (by omega) hS2 hO2 (by simp; omega) (by simp; omega) (by rw [hr2]; exact ho) H
        refine IH.step (fun k => ?_) (fun k => ?_)
        · simp only [spec_cdGroups.l3]
          rw [if_pos (by omega), if_pos (by omega), if_pos (by omega), rd_nat g j, if_pos hg, if_pos (by omega), if_pos (by omega), rd_nat own i, hq, if_pos (by omega), if_pos (by omega), if_pos (by omega), hc]
          simp only [Option.bind_some, if_true]
          rw [if_pos (by omega), if_pos (by omega), if_pos (by omega), rd_nat fa Q, Int.toNat_natCast, wrap_step (by omega) (by omega), wrapN j (by omega)]
        · simp only [impl_groups.l2]
          rw [if_pos (by omega), if_pos (by omega), if_pos (by omega), rdOf_nat s j, if_neg (by rw [hseen, decide_eq_false (by omega)]; simp), if_pos (by omega), if_pos (by omega), rd_nat own i, hq, if_pos (by omega), if_pos (by omega), if_pos (by omega), hc2]
          simp only [Option.bind_some, if_true]
          rw [if_pos (by omega), if_pos (by omega), if_pos (by omega), rdOf_nat e Q, Int.toNat_natCast, wrapN j (by omega)]
      · have hx2 : crossB (rd_T41 l (Q : Int)) (rd_T41 l (j : Int)) = false := by simpa using hx
        rw [hx2] at hc hc2
        refine (ih (j + 1) g fa s e own (by omega) hS hO hi hU ho H).step (fun k => ?_) (fun k => ?_)
        · simp only [spec_cdGroups.l3]
          rw [if_pos (by omega), if_pos (by omega), if_pos (by omega), rd_nat g j, if_pos hg, if_pos (by omega), if_pos (by omega), rd_nat own i, hq, if_pos (by omega), if_pos (by omega), if_pos (by omega), hc]
          simp only [Option.bind_some, Bool.false_eq_true, if_false]
          rw [wrapN j (by omega)]
        · simp only [impl_groups.l2]
          rw [if_pos (by omega), if_pos (by omega), if_pos (by omega), rdOf_nat s j, if_neg (by rw [hseen, decide_eq_false (by omega)]; simp), if_pos (by omega), if_pos (by omega), rd_nat own i, hq, if_pos (by omega), if_pos (by omega), if_pos (by omega), hc2]
          simp only [Option.bind_some, Bool.false_eq_true, if_false]
          rw [wrapN j (by omega)]
    · refine (ih (j + 1) g fa s e own (by omega) hS hO hi hU ho H).step (fun k => ?_) (fun k => ?_)
      · simp only [spec_cdGroups.l3]
        rw [if_pos (by omega), if_pos (by omega), if_pos (by omega), rd_nat g j, if_neg hg, wrapN j (by omega)]
      · simp only [impl_groups.l2]
        rw [if_pos (by omega), if_pos (by omega), if_pos (by omega), rdOf_nat s j, if_pos (by rw [hseen, decide_eq_true (by omega)]), wrapN j (by omega)]
theorem rowsG_len (n : Nat) (g : List Int) : ∀ m, (rowsG n g m).length ≤ m
  | 0 => by simp [rowsG]
  | m + 1 => by
    have := rowsG_len n g m
    rw [rowsG, List.length_append]
    split <;> simp <;> omega
theorem bfs_loop (n : Nat) (l : List S41) (hl : l.length = n) (hn : n ≤ 1000) (P : Int) (hP : ∀ x ∈ l, Proper P x) (f : Nat) (hf : f < n) (U : Nat) (hUn : U ≤ n) (out : List (List Int))
    (Hend : ∀ g fa s e own, St n g fa s e → Ow n g f own → out = rowsG n g f →
      Both n (fun k => spec_cdGroups.l1 k l g fa (n : Int) ((f + 1 : Nat) : Int)) (fun k => impl_groups.l0 k l s e (out ++ [rowG n g f]) (n : Int) ((f + 1 : Nat) : Int))) (d : Nat) :
    ∀ (i : Nat) (g fa : List Int) (s e : List Bool) (own : List Int), i + d = U → i ≤ own.length → St n g fa s e → Ow n g f own → own.length + freeG g = U → out = rowsG n g f →
    Both n (fun k => spec_cdGroups.l2 k l g fa (f : Int) own (i : Int) (n : Int) (f : Int)) (fun k => impl_groups.l1 k l s e out own (i : Int) (n : Int) (f : Int)) := by
  have fin : ∀ (i : Nat) (g fa : List Int) (s e : List Bool) (own : List Int), own.length ≤ i → own.length ≤ n → St n g fa s e → Ow n g f own → out = rowsG n g f →
      Both n (fun k => spec_cdGroups.l2 k l g fa (f : Int) own (i : Int) (n : Int) (f : Int)) (fun k => impl_groups.l1 k l s e out own (i : Int) (n : Int) (f : Int)) := by
    intro i g fa s e own hi hlen hS hO ho
    have hol := rowsG_len n g f
    rw [← ho] at hol
    have hpos : 0 < own.length := List.length_pos_iff.2 hO.ne
    refine (Hend g fa s e own hS hO ho).step (fun k => ?_) (fun k => ?_)
    · simp only [spec_cdGroups.l2]
      rw [if_neg (by omega), wrapN f (by omega)]
    · simp only [impl_groups.l1]
      rw [if_neg (by omega)]
      unfold slices_Sort_int_int.f
      rw [if_pos ⟨by omega, by omega⟩, srt_row n g f own hO.nodup hO.mem]
      simp only [Option.bind_some]
      rw [if_pos (by omega), wrapN f (by omega)]
  induction d with
  | zero =>
    intro i g fa s e own hi hle hS hO hU ho
    exact fin i g fa s e own (by omega) (by omega) hS hO ho
  | succ d ih =>
    intro i g fa s e own hi hle hS hO hU ho
    by_cases hx : i < own.length
    · have IN := inner_loop n l hl hn P hP f i U hUn out n 0 g fa s e own (by omega) hS hO hx hU ho (fun g fa s e own hS hO hi2 hU ho => ih (i + 1) g fa s e own (by omega) (by omega) hS hO hU ho)
      refine IN.step (fun k => ?_) (fun k => ?_)
      · simp only [spec_cdGroups.l2]
        rw [if_pos (by omega), hl]
        rfl
      · simp only [impl_groups.l1]
        rw [if_pos (by omega), hl]
        rfl
    · exact fin i g fa s e own (by omega) (by omega) hS hO ho
theorem first_loop (n : Nat) (l : List S41) (hl : l.length = n) (hn : n ≤ 1000) (P : Int) (hP : ∀ x ∈ l, Proper P x) (d : Nat) :
    ∀ (f : Nat) (g fa : List Int) (s e : List Bool) (out : List (List Int)), f + d = n → St n g fa s e → (∀ i, i < n → g.getD i 0 < (f : Int)) → (∀ i, i < f → i < n → 0 ≤ g.getD i 0) → out = rowsG n g f →
    Both n (fun k => spec_cdGroups.l1 k l g fa (n : Int) (f : Int)) (fun k => impl_groups.l0 k l s e out (n : Int) (f : Int)) := by
  induction d with
  | zero =>
    intro f g fa s e out hf hS hlow hold ho
    obtain rfl : f = n := by omega
    refine ⟨1, g, fa, out, e, fun k hk => ?_, fun k hk => ?_, hS.lg, hS.lf, hS.le, fun i hi => ⟨hold i hi hi, hlow i hi⟩, ho, fun i hi => ?_, fun i hi => hS.even i hi (hold i hi hi)⟩
    · obtain ⟨k, rfl⟩ : ∃ t, k = t + 1 := ⟨k - 1, by omega⟩
      simp only [spec_cdGroups.l1]
      rw [if_neg (by omega)]
    · obtain ⟨k, rfl⟩ : ∃ t, k = t + 1 := ⟨k - 1, by omega⟩
      simp only [impl_groups.l0]
      rw [if_neg (by omega)]
    · have := hS.far i hi
      omega
  | succ d ih =>
    intro f g fa s e out hf hS hlow hold ho
    have hfn : f < n := by omega
    have hlg := hS.lg
    have hls := hS.ls
    have hle := hS.le
    have hlf := hS.lf
    have hseen := hS.seen f hfn
    by_cases hg : g.getD f 0 < 0
    · have hset := fun i => getD_set g f i (f : Int) 0 (by omega)
      have hU := freeG_set g f (f : Int) (by omega) hg (by omega)
      have hUn : freeG g ≤ n := by rw [← hlg]; exact List.countP_le_length
      have hS2 : St n (g.set f (f : Int)) fa (s.set f true) (e.set f true) := by
        refine ⟨by simp [hlg], hlf, by simp [hls], by simp [hle], fun i hi => ?_, fun i hi hgi => ?_, fun i hi hgi => ?_, fun i hi => ?_⟩
        · rw [hset, getD_set _ _ _ _ _ (by omega)]
          by_cases e1 : i = f
          · rw [if_pos e1, if_pos e1]; simp
          · rw [if_neg e1, if_neg e1]; exact hS.seen i hi
        · rw [hset] at hgi
          rw [getD_set _ _ _ _ _ (by omega)]
          by_cases e1 : i = f
          · rw [if_pos e1, e1, hS.zero f hfn hg]; rfl
          · rw [if_neg e1] at hgi
            rw [if_neg e1]; exact hS.even i hi hgi
        · rw [hset] at hgi
          by_cases e1 : i = f
          · rw [if_pos e1] at hgi; omega
          · rw [if_neg e1] at hgi; exact hS.zero i hi hgi
        · have := hS.far i hi
          omega
      have hO2 : Ow n (g.set f (f : Int)) f [(f : Int)] := by
        refine ⟨by simp, fun x => ?_, fun i hi => ?_, fun i hif hi => ?_, by simp⟩
        · rw [rowG_mem, hset]
          simp only [List.mem_singleton]
          constructor
          · rintro rfl
            exact ⟨by omega, by omega, by simp⟩
          · rintro ⟨h1, h2, h3⟩
            by_cases e1 : x.toNat = f
            · omega
            · rw [if_neg e1] at h3
              have := hlow x.toNat (by omega)
              omega
        · rw [hset]
          have := hlow i hi
          split <;> omega
        · rw [hset]
          by_cases e1 : i = f
          · rw [if_pos e1]; omega
          · rw [if_neg e1]; exact hold i (by omega) hi
      have IH := bfs_loop n l hl hn P hP f hfn (freeG g) hUn out (fun g fa s e own hS hO ho => by
        refine ih (f + 1) g fa s e (out ++ [rowG n g f]) (by omega) hS (fun i hi => ?_) (fun i hif hi => hO.old i (by omega) hi) ?_
        · have := hO.low i hi
          omega
        · rw [rowsG, ← ho, if_neg]
          intro e0
          have hpos := List.length_pos_iff.2 hO.ne
          have := (hO.mem own[0]).1 (List.getElem_mem hpos)
          rw [e0] at this
          simp at this) (freeG g) 0 (g.set f (f : Int)) fa (s.set f true) (e.set f true) [(f : Int)] (by omega) (by simp) hS2 hO2 (by simp; omega) (by rw [rowsG_push f hlg f hfn hg]; exact ho)
      refine IH.step (fun k => ?_) (fun k => ?_)
      · simp only [spec_cdGroups.l1]
        rw [if_pos (by omega), if_pos (by omega), if_pos (by omega), rd_nat g f, if_neg (by omega), Int.toNat_natCast]
        rfl
      · simp only [impl_groups.l0]
        rw [if_pos (by omega), if_pos (by omega), if_pos (by omega), rdOf_nat s f, if_neg (by rw [hseen, decide_eq_false (by omega)]; simp), if_pos (by omega), Int.toNat_natCast]
        rfl
    · refine (ih (f + 1) g fa s e out (by omega) hS (fun i hi => by have := hlow i hi; omega) (fun i hif hi => ?_) ?_).step (fun k => ?_) (fun k => ?_)
      · by_cases e1 : i = f
        · rw [e1]; omega
        · exact hold i (by omega) hi
      · have e0 : rowG n g f = [] := by
          rw [List.eq_nil_iff_forall_not_mem]
          intro x hx
          obtain ⟨h1, h2, h3⟩ := (rowG_mem n g f x).1 hx
          have := hlow x.toNat (by omega)
          omega
        rw [rowsG, if_pos e0, List.append_nil]; exact ho
      · simp only [spec_cdGroups.l1]
        rw [if_pos (by omega), if_pos (by omega), if_pos (by omega), rd_nat g f, if_pos (by omega), wrapN f (by omega)]
      · simp only [impl_groups.l0]
        rw [if_pos (by omega), if_pos (by omega), if_pos (by omega), rdOf_nat s f, if_pos (by rw [hseen, decide_eq_true (by omega)]), wrapN f (by omega)]
theorem start_loop (l : List S41) (n : Nat) (hn : n ≤ 1000) (fa : List Int) (d : Nat) : ∀ (k i : Nat) (r : List Int × List Int), i + d = n → (∀ j, k ≤ j + d + 1 → spec_cdGroups.l1 j l (List.replicate n (-1)) fa (l.length : Int) 0 = some r) → d < k →
    spec_cdGroups.l0 k l (List.replicate i (-1) ++ List.replicate d 0) fa (n : Int) (i : Int) = some r := by
  induction d with
  | zero =>
    intro k i r hi h hk
    obtain ⟨k, rfl⟩ : ∃ t, k = t + 1 := ⟨k - 1, by omega⟩
    obtain rfl : i = n := by omega
    simp only [spec_cdGroups.l0]
    rw [if_neg (by omega)]
    simpa using h k (by omega)
  | succ d ih =>
    intro k i r hi h hk
    obtain ⟨k, rfl⟩ : ∃ t, k = t + 1 := ⟨k - 1, by omega⟩
    have IH := ih k (i + 1) r (by omega) (fun j hj => h j (by omega)) (by omega)
    have e : (List.replicate i (-1 : Int) ++ List.replicate (d + 1) 0).set i (-1) = List.replicate (i + 1) (-1) ++ List.replicate d 0 := by
      rw [List.set_append_right _ _ (by simp), List.length_replicate, Nat.sub_self, List.replicate_succ (n := d), List.set_cons_zero, List.replicate_succ' (n := i), List.append_assoc]
      rfl
    simp only [spec_cdGroups.l0]
    rw [if_pos (by omega), if_pos (by omega), if_pos (by simp; omega), Int.toNat_natCast, e, wrapN i (by omega)]
    exact IH
theorem groups_both (l : List S41) (hn : l.length ≤ 1000) (P : Int) (hP : ∀ x ∈ l, Proper P x) : Both l.length (fun k => spec_cdGroups.f k l) (fun k => impl_groups.f k l) := by
  obtain ⟨n, hl⟩ : ∃ n, l.length = n := ⟨_, rfl⟩
  rw [hl]
  have hfree : freeG (List.replicate n (-1)) ≤ n := by
    have : freeG (List.replicate n (-1)) ≤ (List.replicate n (-1 : Int)).length := List.countP_le_length
    simpa using this
  have gm : ∀ i, i < n → (List.replicate n (-1 : Int)).getD i 0 = -1 := fun i hi => by simp [List.getD_eq_getElem?_getD, hi]
  have gz : ∀ i, i < n → (List.replicate n (0 : Int)).getD i 0 = 0 := fun i hi => by simp [List.getD_eq_getElem?_getD, hi]
  have gf : ∀ i, i < n → (List.replicate n false).getD i false = false := fun i hi => by simp [List.getD_eq_getElem?_getD, hi]
  obtain ⟨K, G, F, O, E, h1, h2, h3⟩ := first_loop n l hl (by omega) P hP n 0 (List.replicate n (-1)) (List.replicate n 0) (List.replicate n false) (List.replicate n false) [] (by omega)
    ⟨by simp, by simp, by simp, by simp, fun i hi => by rw [gm i hi, gf i hi]; rfl, fun i hi hg => by rw [gm i hi] at hg; omega, fun i hi _ => gz i hi, fun i hi => by rw [gz i hi]; omega⟩
    (fun i hi => by rw [gm i hi]; omega) (fun i hi _ => by omega) rfl
  refine ⟨K + n + 5, G, F, O, E, fun k hk => ?_, fun k hk => ?_, h3⟩
  · show spec_cdGroups.f k l = some (G, F)
    unfold spec_cdGroups.f
    rw [if_pos (by omega), hl, Int.toNat_natCast, if_pos (by omega)]
    simp only [Option.bind_some]
    have := start_loop l n (by omega) (List.replicate n 0) n k 0 (G, F) (by omega) (fun j hj => by rw [hl]; exact h1 j (by omega)) (by omega)
    simpa using this
  · show impl_groups.f k l = some (O, E)
    unfold impl_groups.f
    rw [if_pos (by omega), hl, Int.toNat_natCast, if_pos (by omega)]
    exact h2 k (by omega)
/-! ### BBase -/
theorem l1In_eq (a b c : Int) : spec_l1In.f a b c = some (decide (b ≤ a ∧ a ≤ c)) := by
  unfold spec_l1In.f
  by_cases h : a ≥ b
  · rw [if_pos h]; exact congrArg some (decide_eq_decide.2 (by omega))
  · rw [if_neg h]; exact congrArg some (decide_eq_false (by omega)).symm
theorem within_eq (a b c : Int) : impl_within.f a b c = some (decide (b ≤ a ∧ a ≤ c)) := by
  unfold impl_within.f
  by_cases h : a ≥ b
  · rw [if_pos h]; exact congrArg some (decide_eq_decide.2 (by omega))
  · rw [if_neg h]; exact congrArg some (decide_eq_false (by omega)).symm
theorem srPoints_eq (a : Int) : spec_srPoints.f a = some (decide (3 ≤ a ∧ a ≤ 60)) := by
  unfold spec_srPoints.f; rw [l1In_eq]; rfl
theorem isCircle_eq (a : Int) : impl_isCircle.f a = some (decide (3 ≤ a ∧ a ≤ 60)) := by
  unfold impl_isCircle.f; rw [within_eq]; rfl
/-! ### BIsChord -/
def isCh (n a b : Int) : Prop := 0 ≤ a ∧ a < b ∧ b < n
instance (n a b : Int) : Decidable (isCh n a b) := by unfold isCh; infer_instance
theorem srIs_eq (n a b : Int) (hn : 3 ≤ n ∧ n ≤ 60) : spec_srIs.f n a b = some (decide (isCh n a b)) := by
  unfold spec_srIs.f
  rw [wrap64_id (by omega) (by omega), l1In_eq]
  simp only [Option.bind_some]
  by_cases h : 0 ≤ a ∧ a ≤ n - 1
  · rw [if_pos (decide_eq_true h), l1In_eq, wrap64_id (by omega) (by omega)]
    simp only [Option.bind_some]
    refine congrArg some (decide_eq_decide.2 ?_)
    unfold isCh
    omega
  · rw [if_neg (by simpa using h)]
    refine congrArg some (decide_eq_false ?_).symm
    unfold isCh
    omega
theorem implIsChord_eq (n a b : Int) : impl_isChord.f n a b = some (decide (isCh n a b)) := by
  unfold impl_isChord.f
  by_cases h1 : a ≥ 0
  · rw [if_pos h1]
    by_cases h2 : a < b
    · rw [if_pos h2]
      refine congrArg some (decide_eq_decide.2 ?_)
      unfold isCh
      omega
    · rw [if_neg h2]
      refine congrArg some (decide_eq_false ?_).symm
      unfold isCh
      omega
  · rw [if_neg h1]
    refine congrArg some (decide_eq_false ?_).symm
    unfold isCh
    omega
/-! ### BSet -/
theorem compare_eq (a b : Int) : cmp_Compare_int.f a b = some (if a < b then -1 else if a > b then 1 else 0) := by
  unfold cmp_Compare_int.f cmp_isNaN_int.f
  simp
  split
  · rfl
  · split <;> rfl
theorem compareChords_eq (x y : S41) (k : Nat) (hk : 4 ≤ k) : ∃ r : Int, impl_compareChords.f k x.f0 x.f1 y.f0 y.f1 = some r ∧ (r ≥ 0 ↔ ¬ cLt x y = true) := by
  unfold impl_compareChords.f
  simp only [compare_eq, Option.bind_some]
  obtain ⟨k, rfl⟩ : ∃ t, k = t + 4 := ⟨k - 4, by omega⟩
  have h0 : wrap64 (0 + 1) = 1 := wrap64_id (by omega) (by omega)
  have h1 : wrap64 (1 + 1) = 2 := wrap64_id (by omega) (by omega)
  simp only [cmp_Or_int.f, cmp_Or_int.l0, List.length_cons, List.length_nil, h0, h1, rd, cLt_iff]
  by_cases c0 : x.f0 < y.f0
  · simp [c0]
  · by_cases c1 : x.f0 > y.f0
    · simp [c0, c1]; omega
    · have e : x.f0 = y.f0 := by omega
      by_cases d0 : x.f1 < y.f1
      · simp [e, d0]
      · by_cases d1 : x.f1 > y.f1
        · simp [e, d0, d1]
        · simp [e, d0, d1]
def isChB (n : Int) (c : S41) : Bool := decide (isCh n c.f0 c.f1)
/-- Chords of n points in order, behind p. -/
def okFrom (n : Int) : Option S41 → List S41 → Bool
  | _, [] => true
  | none, c :: l => isChB n c && okFrom n (some c) l
  | some p, c :: l => isChB n c && (cLt p c && okFrom n (some c) l)
theorem okFrom_spec (n : Int) : ∀ (l : List S41) (p : Option S41), okFrom n p l = true → Strict l ∧ (∀ c ∈ l, Proper n c) ∧ ∀ q, p = some q → ∀ c ∈ l, cLt q c = true
  | [], p, _ => ⟨by simp [Strict], by simp, by simp⟩
  | c :: l, p, h => by
    have h1 : isChB n c = true ∧ okFrom n (some c) l = true ∧ ∀ q, p = some q → cLt q c = true := by
      cases p with
      | none => simp only [okFrom, Bool.and_eq_true] at h; exact ⟨h.1, h.2, by simp⟩
      | some q => simp only [okFrom, Bool.and_eq_true] at h; exact ⟨h.1, h.2.2, fun q' e => by cases e; exact h.2.1⟩
    obtain ⟨a, b, c1⟩ := okFrom_spec n l (some c) h1.2.1
    have c2 := c1 c rfl
    refine ⟨?_, ?_, ?_⟩
    · unfold Strict at a ⊢; rw [List.pairwise_cons]; exact ⟨c2, a⟩
    · intro d hd
      rcases List.mem_cons.1 hd with e | e
      · subst e; exact (of_decide_eq_true h1.1 : isCh n d.f0 d.f1)
      · exact b d e
    · intro q e d hd
      have h3 := h1.2.2 q e
      rcases List.mem_cons.1 hd with e | e
      · subst e; exact h3
      · have h4 := c2 d e
        rw [cLt_iff] at h3 h4 ⊢
        omega
theorem okFrom_none (n : Int) (c : S41) (m : List S41) : okFrom n none (c :: m) = (isChB n c && okFrom n (some c) m) := rfl
theorem okFrom_some (n : Int) (p c : S41) (m : List S41) : okFrom n (some p) (c :: m) = (isChB n c && (cLt p c && okFrom n (some c) m)) := rfl
def lastO (pre : List S41) : Option S41 := pre.getLast?
theorem rd_last (pre m : List S41) (p : S41) : rd_T41 ((pre ++ [p]) ++ m) ((pre.length : Int) + 1 - 1) = p := by
  rw [show (pre.length : Int) + 1 - 1 = pre.length by omega, List.append_assoc]
  exact rdC_append pre m p
theorem cdGood_loop (n : Int) (hn : 3 ≤ n ∧ n ≤ 60) (m : List S41) : ∀ (k : Nat) (pre : List S41), pre.length + m.length ≤ 1000000000 → m.length < k →
    spec_cdGood.l0 k n (pre ++ m) (pre ++ m) ((pre ++ m).length : Int) pre.length = some (okFrom n (lastO pre) m) := by
  induction m with
  | nil =>
    intro k pre hl hk
    obtain ⟨k, rfl⟩ : ∃ t, k = t + 1 := ⟨k - 1, by omega⟩
    simp only [spec_cdGood.l0, List.append_nil]
    rw [if_neg (by omega)]
    simp [okFrom]
  | cons x m ih =>
    intro k pre hl hk
    obtain ⟨k, rfl⟩ : ∃ t, k = t + 1 := ⟨k - 1, by omega⟩
    simp only [List.length_cons] at hl hk
    have hlen : ((pre ++ x :: m).length : Int) = pre.length + m.length + 1 := by simp; omega
    simp only [spec_cdGood.l0]
    rw [if_pos (by omega), if_pos (by omega), if_pos (by omega), rdC_append, srIs_eq n _ _ hn]
    simp only [Option.bind_some]
    have IH := ih k (pre ++ [x]) (by simp; omega) (by omega)
    simp only [List.append_assoc, List.cons_append, List.nil_append] at IH
    have hpl : (((pre ++ [x]).length : Nat) : Int) = (pre.length : Int) + 1 := by simp
    have hla : lastO (pre ++ [x]) = some x := by unfold lastO; simp
    rw [hpl, hla] at IH
    by_cases hc : isCh n x.f0 x.f1
    · have hcB : isChB n x = true := decide_eq_true hc
      rw [if_pos (decide_eq_true hc)]
      rcases List.eq_nil_or_concat pre with e | ⟨q, p, e⟩
      · subst e
        rw [if_neg (by simp)]
        rw [wrap64_id (by omega) (by omega), IH]
        have e1 : lastO ([] : List S41) = none := rfl
        rw [e1, okFrom_none, hcB, Bool.true_and]
      · rw [List.concat_eq_append] at e
        subst e
        have hql : (((q ++ [p]).length : Nat) : Int) = (q.length : Int) + 1 := by simp
        have hla2 : lastO (q ++ [p]) = some p := by unfold lastO; simp
        rw [if_pos (by omega), wrap64_id (by omega) (by omega), if_pos (by omega), if_pos (by omega), hql, rd_last, srLess_eq]
        simp only [Option.bind_some]
        have e0 : (⟨x.f0, x.f1⟩ : S41) = x := rfl
        have e1 : (⟨p.f0, p.f1⟩ : S41) = p := rfl
        rw [e0, e1, hla2, okFrom_some, hcB, Bool.true_and]
        rw [wrap64_id (by omega) (by omega)]
        rw [hql] at IH
        by_cases hp : cLt p x = true
        · rw [if_pos hp, IH, hp, Bool.true_and]
        · rw [if_neg hp]
          simp [hp]
    · have hcB : isChB n x = false := decide_eq_false hc
      rw [if_neg (by simpa using hc)]
      cases hlo : lastO pre with
      | none => rw [okFrom_none, hcB]; rfl
      | some p => rw [okFrom_some, hcB]; rfl
/-- A set of chords of n points. -/
def goodB (n : Int) (l : List S41) : Bool := decide (3 ≤ n ∧ n ≤ 60) && (decide (l.length ≤ 40) && okFrom n none l)
theorem cdGood_eq (n : Int) (l : List S41) (hl : l.length ≤ 1000000000) (k : Nat) (hk : l.length + 1 < k) : spec_cdGood.f k n l = some (goodB n l) := by
  unfold spec_cdGood.f goodB
  rw [srPoints_eq]
  obtain ⟨k, rfl⟩ : ∃ t, k = t + 1 := ⟨k - 1, by omega⟩
  simp only [Option.bind_some, spec_cdGood.j0]
  by_cases h : 3 ≤ n ∧ n ≤ 60
  · rw [if_pos (decide_eq_true h), decide_eq_true h, Bool.true_and]
    by_cases h2 : l.length ≤ 40
    · rw [if_neg (by simp; omega), decide_eq_true h2, Bool.true_and]
      exact cdGood_loop n h l k [] (by simpa using hl) (by omega)
    · rw [if_pos (by simp; omega), decide_eq_false h2, Bool.false_and]
  · rw [if_neg (by simpa using h), decide_eq_false h]
    rfl
theorem areChords_loop (n : Int) (hn : 3 ≤ n ∧ n ≤ 60) (m : List S41) : ∀ (k : Nat) (pre : List S41), pre.length + m.length ≤ 1000000000 → m.length + 4 < k →
    impl_AreChords.l0 k n (pre ++ m) (pre ++ m) ((pre ++ m).length : Int) pre.length = some (okFrom n (lastO pre) m && decide (pre.length + m.length ≤ 40)) := by
  induction m with
  | nil =>
    intro k pre hl hk
    obtain ⟨k, rfl⟩ : ∃ t, k = t + 1 := ⟨k - 1, by omega⟩
    simp only [impl_AreChords.l0, List.append_nil]
    rw [if_neg (by omega)]
    simp only [okFrom, Bool.true_and, List.length_nil, Nat.add_zero]
    exact congrArg some (decide_eq_decide.2 (by omega))
  | cons x m ih =>
    intro k pre hl hk
    obtain ⟨k, rfl⟩ : ∃ t, k = t + 1 := ⟨k - 1, by omega⟩
    simp only [List.length_cons] at hl hk
    have hlen : ((pre ++ x :: m).length : Int) = pre.length + m.length + 1 := by simp; omega
    simp only [impl_AreChords.l0]
    rw [if_pos (by omega), if_pos (by omega), if_pos (by omega), rdC_append, implIsChord_eq]
    simp only [Option.bind_some]
    have IH := ih k (pre ++ [x]) (by simp; omega) (by omega)
    simp only [List.append_assoc, List.cons_append, List.nil_append] at IH
    have hpl : (((pre ++ [x]).length : Nat) : Int) = (pre.length : Int) + 1 := by simp
    have hpn : (pre ++ [x]).length + m.length = pre.length + (x :: m).length := by simp; omega
    have hla : lastO (pre ++ [x]) = some x := by unfold lastO; simp
    rw [hpl, hla, hpn] at IH
    by_cases hc : isCh n x.f0 x.f1
    · have hcB : isChB n x = true := decide_eq_true hc
      rw [if_pos (decide_eq_true hc)]
      rcases List.eq_nil_or_concat pre with e | ⟨q, p, e⟩
      · subst e
        rw [if_neg (by simp)]
        rw [wrap64_id (by omega) (by omega), IH]
        have e1 : lastO ([] : List S41) = none := rfl
        rw [e1, okFrom_none, hcB, Bool.true_and]
      · rw [List.concat_eq_append] at e
        subst e
        have hql : (((q ++ [p]).length : Nat) : Int) = (q.length : Int) + 1 := by simp
        have hla2 : lastO (q ++ [p]) = some p := by unfold lastO; simp
        rw [if_pos (by omega), wrap64_id (by omega) (by omega), if_pos (by omega), if_pos (by omega), hql, rd_last]
        obtain ⟨r, hr1, hr2⟩ := compareChords_eq p x k (by omega)
        rw [hr1]
        simp only [Option.bind_some]
        rw [hla2, okFrom_some, hcB, Bool.true_and]
        rw [wrap64_id (by omega) (by omega)]
        rw [hql] at IH
        by_cases hp : cLt p x = true
        · rw [if_neg (fun z => hr2.1 z hp), IH, hp, Bool.true_and]
        · rw [if_pos (hr2.2 hp)]
          simp [hp]
    · have hcB : isChB n x = false := decide_eq_false hc
      rw [if_neg (by simpa using hc)]
      cases hlo : lastO pre with
      | none => rw [okFrom_none, hcB]; rfl
      | some p => rw [okFrom_some, hcB]; rfl
theorem areChords_eq (n : Int) (l : List S41) (hl : l.length ≤ 1000000000) (k : Nat) (hk : l.length + 4 < k) : impl_AreChords.f k n l = some (goodB n l) := by
  unfold impl_AreChords.f goodB
  rw [within_eq]
  simp only [Option.bind_some]
  by_cases h : 3 ≤ n ∧ n ≤ 60
  · rw [if_pos (decide_eq_true h), decide_eq_true h, Bool.true_and]
    have := areChords_loop n h l k [] (by simpa using hl) hk
    simp only [List.nil_append, List.length_nil, Nat.zero_add] at this
    rw [Bool.and_comm] at this
    exact this
  · rw [if_neg (by simpa using h), decide_eq_false h]
    rfl
theorem isSet_eq (n : Int) (l : List S41) (hl : l.length ≤ 1000000000) (k : Nat) (hk : l.length + 4 < k) : impl_isSet.f k n l = some (goodB n l) := by
  unfold impl_isSet.f
  rw [isCircle_eq, areChords_eq n l hl k hk]
  simp only [Option.bind_some]
  by_cases h : 3 ≤ n ∧ n ≤ 60
  · rw [if_pos (decide_eq_true h)]
  · rw [if_neg (by simpa using h)]
    unfold goodB
    rw [decide_eq_false h]
    rfl
theorem good_spec (n : Int) (l : List S41) (h : goodB n l = true) : (3 ≤ n ∧ n ≤ 60) ∧ l.length ≤ 40 ∧ Strict l ∧ ∀ c ∈ l, Proper n c := by
  unfold goodB at h
  simp only [Bool.and_eq_true, decide_eq_true_eq] at h
  obtain ⟨a, b, _⟩ := okFrom_spec n l none h.2.2
  exact ⟨h.1, h.2.1, a, b⟩
/-! ### BToC -/
def conv (l : List S73) : List S41 := l.map fun x => ⟨x.f0, x.f1⟩
theorem conv_len (l : List S73) : (conv l).length = l.length := by unfold conv; simp
theorem rdL_append (l m : List S73) (x : S73) : rd_T73 (l ++ x :: m) (l.length : Int) = x := by
  unfold rd_T73
  simp
theorem toChordS_loop (m : List S73) : ∀ (k : Nat) (pre : List S73), pre.length + m.length ≤ 1000000000 → m.length < k →
    laws_toChordS.l0 k (pre ++ m) (conv pre ++ List.replicate m.length z41) pre.length = some (conv (pre ++ m)) := by
  induction m with
  | nil =>
    intro k pre hl hk
    obtain ⟨k, rfl⟩ : ∃ t, k = t + 1 := ⟨k - 1, by omega⟩
    simp only [laws_toChordS.l0, List.append_nil, List.length_nil, List.replicate_zero]
    rw [if_neg (by omega)]
  | cons x m ih =>
    intro k pre hl hk
    obtain ⟨k, rfl⟩ : ∃ t, k = t + 1 := ⟨k - 1, by omega⟩
    simp only [List.length_cons] at hl hk
    have hlen : ((pre ++ x :: m).length : Int) = pre.length + m.length + 1 := by simp; omega
    have hlen2 : ((conv pre ++ List.replicate (x :: m).length z41).length : Int) = pre.length + m.length + 1 := by simp [conv_len]; omega
    simp only [laws_toChordS.l0]
    rw [if_pos (by omega), if_pos (by omega), rdL_append]
    unfold laws_toChord.f
    simp only [Option.bind_some]
    rw [if_pos (by omega), wrap64_id (by omega) (by omega), Int.toNat_natCast]
    have e : (conv pre ++ List.replicate (x :: m).length z41).set pre.length ⟨x.f0, x.f1⟩ = conv (pre ++ [x]) ++ List.replicate m.length z41 := by
      rw [List.length_cons, List.replicate_succ]
      conv => lhs; arg 2; rw [← conv_len pre]
      rw [List.set_append_right _ _ (Nat.le_refl _), Nat.sub_self]
      unfold Q.conv
      simp
    rw [e]
    have IH := ih k (pre ++ [x]) (by simp; omega) (by omega)
    simp only [List.append_assoc, List.cons_append, List.nil_append] at IH ⊢
    have hpl : (((pre ++ [x]).length : Nat) : Int) = (pre.length : Int) + 1 := by simp
    rw [hpl] at IH
    exact IH
theorem toChordS_eq (l : List S73) (hl : l.length ≤ 1000000000) (k : Nat) (hk : l.length < k) : laws_toChordS.f k l = some (conv l) := by
  unfold laws_toChordS.f
  rw [if_pos (by omega), if_pos (by omega), Int.toNat_natCast]
  simpa [conv] using toChordS_loop l k [] (by simpa using hl) hk
theorem szChordS_eq (l : List S73) (hl : l.length ≤ 9223372036854775807) : laws_szChordS.f l 1048576 = some (if l.length ≤ 1048576 then 1048576 - (l.length : Int) else -1) := by
  unfold laws_szChordS.f
  rw [wrap64_id (by omega) (by omega)]
  by_cases h : l.length ≤ 1048576
  · rw [if_neg (by omega), if_pos h]
  · rw [if_pos (by omega), if_neg h]
/-! ### BEqC -/
theorem eqChord_self (a b : Int) : laws_eqChord.f a b a b = some true := by unfold laws_eqChord.f; simp
theorem eqChordS_loop (l : List S41) (hl : l.length ≤ 4611686018427387904) (d : Nat) : ∀ (k : Nat) (i : Int), 0 ≤ i → i ≤ l.length → (l.length : Int) - i = d → d < k → laws_eqChordS.l0 k l l i = some true := by
  induction d with
  | zero =>
    intro k i h0 h1 hd hk
    obtain ⟨k, rfl⟩ : ∃ m, k = m + 1 := ⟨k - 1, by omega⟩
    simp only [laws_eqChordS.l0]
    rw [if_neg (by omega)]
  | succ d ih =>
    intro k i h0 h1 hd hk
    obtain ⟨k, rfl⟩ : ∃ m, k = m + 1 := ⟨k - 1, by omega⟩
    simp only [laws_eqChordS.l0]
    rw [if_pos (by omega), if_pos (by omega), if_pos (by omega), eqChord_self, wrap64_id (by omega) (by omega)]
    simp only [Option.bind_some, if_true]
    exact ih k (i + 1) (by omega) (by omega) (by omega) (by omega)
theorem eqChordS_self (k : Nat) (l : List S41) (hl : l.length ≤ 4611686018427387904) (hk : l.length < k) : laws_eqChordS.f k l l = some true := by
  unfold laws_eqChordS.f
  rw [if_pos rfl]
  exact eqChordS_loop l hl l.length k 0 (by omega) (by omega) (by omega) hk
/-! ### BMarksC1 -/
def MarkedC (y : List S41) (m : Int) (i : Nat) : Prop := ∀ j : Nat, j < i → (rd_T41 y j).f0 = m + 2 * j ∧ (rd_T41 y j).f1 = m + 2 * j + 1
theorem rdC_set_same (x : List S41) (i : Nat) (v : S41) (hi : i < x.length) : rd_T41 (x.set i v) i = v := by
  unfold rd_T41; simp [hi]
theorem rdC_set_other (x : List S41) (i j : Nat) (v : S41) (hj : j ≠ i) : rd_T41 (x.set i v) j = rd_T41 x j := by
  unfold rd_T41; simp [List.getElem?_set, Ne.symm hj]
theorem markChordS_loop (m0 : Int) (n : Nat) (hm : 0 ≤ m0 ∧ m0 + 2 * n ≤ 4611686018427387904) (hn : n ≤ 4611686018427387904) (d : Nat) : ∀ (k : Nat) (x : List S41) (i : Nat), x.length = n → i ≤ n → n - i = d → d < k → MarkedC x m0 i →
    ∃ y, laws_markChordS.l0 k x (m0 + 2 * i) i = some (m0 + 2 * n, y) ∧ y.length = n ∧ MarkedC y m0 n := by
  induction d with
  | zero =>
    intro k x i hx hi hd hk hM
    obtain ⟨k, rfl⟩ : ∃ m, k = m + 1 := ⟨k - 1, by omega⟩
    obtain rfl : i = n := by omega
    refine ⟨x, ?_, hx, hM⟩
    simp only [laws_markChordS.l0]
    rw [if_neg (by omega)]
  | succ d ih =>
    intro k x i hx hi hd hk hM
    obtain ⟨k, rfl⟩ : ∃ m, k = m + 1 := ⟨k - 1, by omega⟩
    simp only [laws_markChordS.l0]
    rw [if_pos (by omega), if_pos (by omega), wrap_step (by omega) (by omega), wrap_step (by omega) (by omega), wrap_step (by omega) (by omega), show (Int.toNat (i : Int)) = i from by omega]
    simp only [Option.bind_some]
    rw [rdC_set_same _ _ _ (by omega), List.set_set]
    have := ih k (x.set i ⟨m0 + 2 * i, m0 + 2 * i + 1⟩) (i + 1) (by simpa using hx) (by omega) (by omega) (by omega) (by
      intro j hj
      by_cases e : j = i
      · subst e; rw [rdC_set_same _ _ _ (by omega)]; exact ⟨rfl, rfl⟩
      · rw [rdC_set_other _ _ _ _ e]; exact hM j (by omega))
    rw [show m0 + 2 * (i : Int) + 1 + 1 = m0 + 2 * ((i + 1 : Nat) : Int) by omega, show (i : Int) + 1 = ((i + 1 : Nat) : Int) by omega]
    exact this
/-- A list of chords is marked. -/
theorem mark_C1 (k : Nat) (l : List S41) (m : Int) (hm : 0 ≤ m ∧ m + 2 * l.length ≤ 4611686018427387904) (hk : l.length < k) :
    ∃ y, laws_markChordS.f k l m = some (m + 2 * l.length, y) := by
  obtain ⟨y, h1, h2, h3⟩ := markChordS_loop m l.length hm (by omega) l.length k l 0 rfl (by omega) (by omega) hk (fun j hj => by omega)
  refine ⟨y, ?_⟩
  unfold laws_markChordS.f
  simpa using h1
/-! ### BMarks -/
theorem eqIntS_loop (l : List Int) (hl : l.length ≤ 4611686018427387904) (d : Nat) : ∀ (k : Nat) (i : Int), 0 ≤ i → i ≤ l.length → (l.length : Int) - i = d → d < k → laws_eqIntS.l0 k l l i = some true := by
  induction d with
  | zero =>
    intro k i h0 h1 hd hk
    obtain ⟨k, rfl⟩ : ∃ m, k = m + 1 := ⟨k - 1, by omega⟩
    simp only [laws_eqIntS.l0]
    rw [if_neg (by omega)]
  | succ d ih =>
    intro k i h0 h1 hd hk
    obtain ⟨k, rfl⟩ : ∃ m, k = m + 1 := ⟨k - 1, by omega⟩
    simp only [laws_eqIntS.l0]
    rw [if_pos (by omega), if_pos (by omega), if_pos (by omega), if_pos trivial, wrap_step h0 (by omega)]
    exact ih k (i + 1) (by omega) (by omega) (by omega) (by omega)
theorem eqIntS_self (k : Nat) (l : List Int) (hl : l.length ≤ 4611686018427387904) (hk : l.length < k) : laws_eqIntS.f k l l = some true := by
  unfold laws_eqIntS.f
  rw [if_pos rfl]
  exact eqIntS_loop l hl l.length k 0 (by omega) (by omega) (by omega) hk
/-- The first i elements bear the marks from m on. -/
def Marked (y : List Int) (m : Int) (i : Nat) : Prop := ∀ j : Nat, j < i → rd y j = m + j
theorem rd_set_same (x : List Int) (i : Nat) (v : Int) (hi : i < x.length) : rd (x.set i v) i = v := by
  unfold rd; simp [hi]
theorem rd_set_other (x : List Int) (i j : Nat) (v : Int) (hj : j ≠ i) : rd (x.set i v) j = rd x j := by
  unfold rd; simp [List.getElem?_set, Ne.symm hj]
theorem markIntS_loop (m0 : Int) (n : Nat) (hm : 0 ≤ m0 ∧ m0 + n ≤ 4611686018427387904) (hn : n ≤ 4611686018427387904) (d : Nat) : ∀ (k : Nat) (x : List Int) (i : Nat), x.length = n → i ≤ n → n - i = d → d < k → Marked x m0 i →
    ∃ y, laws_markIntS.l0 k x (m0 + i) i = some (m0 + n, y) ∧ y.length = n ∧ Marked y m0 n := by
  induction d with
  | zero =>
    intro k x i hx hi hd hk hM
    obtain ⟨k, rfl⟩ : ∃ m, k = m + 1 := ⟨k - 1, by omega⟩
    obtain rfl : i = n := by omega
    refine ⟨x, ?_, hx, hM⟩
    simp only [laws_markIntS.l0]
    rw [if_neg (by omega)]
  | succ d ih =>
    intro k x i hx hi hd hk hM
    obtain ⟨k, rfl⟩ : ∃ m, k = m + 1 := ⟨k - 1, by omega⟩
    simp only [laws_markIntS.l0]
    rw [if_pos (by omega), if_pos (by omega), wrap_step (by omega) (by omega), wrap_step (by omega) (by omega), show (Int.toNat (i : Int)) = i from by omega]
    have := ih k (x.set i (m0 + i)) (i + 1) (by simpa using hx) (by omega) (by omega) (by omega) (by
      intro j hj
      by_cases e : j = i
      · subst e; rw [rd_set_same _ _ _ (by omega)]
      · rw [rd_set_other _ _ _ _ e]; exact hM j (by omega))
    rw [show m0 + (i : Int) + 1 = m0 + ((i + 1 : Nat) : Int) by omega, show (i : Int) + 1 = ((i + 1 : Nat) : Int) by omega]
    exact this
theorem heldIntS_loop (m0 : Int) (n : Nat) (hm : 0 ≤ m0 ∧ m0 + n ≤ 4611686018427387904) (hn : n ≤ 4611686018427387904) (x : List Int) (hx : x.length = n) (hM : Marked x m0 n) (d : Nat) : ∀ (k : Nat) (i : Nat), i ≤ n → n - i = d → d < k →
    laws_heldIntS.l0 k x (m0 + i) i = some (m0 + n) := by
  induction d with
  | zero =>
    intro k i hi hd hk
    obtain ⟨k, rfl⟩ : ∃ m, k = m + 1 := ⟨k - 1, by omega⟩
    obtain rfl : i = n := by omega
    simp only [laws_heldIntS.l0]
    rw [if_neg (by omega)]
  | succ d ih =>
    intro k i hi hd hk
    obtain ⟨k, rfl⟩ : ∃ m, k = m + 1 := ⟨k - 1, by omega⟩
    simp only [laws_heldIntS.l0]
    rw [if_pos (by omega), if_pos (by omega), if_pos (hM i (by omega)), wrap_step (by omega) (by omega), wrap_step (by omega) (by omega)]
    have := ih k (i + 1) (by omega) (by omega) (by omega)
    rw [show m0 + (i : Int) + 1 = m0 + ((i + 1 : Nat) : Int) by omega, show (i : Int) + 1 = ((i + 1 : Nat) : Int) by omega]
    exact this
/-- A list is marked, and then held. -/
theorem mark_held (k : Nat) (l : List Int) (m : Int) (hm : 0 ≤ m ∧ m + l.length ≤ 4611686018427387904) (hk : l.length < k) :
    ∃ y, laws_markIntS.f k l m = some (m + l.length, y) ∧ y.length = l.length ∧ ∀ k', l.length < k' → laws_heldIntS.f k' y m = some (m + l.length) := by
  obtain ⟨y, h1, h2, h3⟩ := markIntS_loop m l.length hm (by omega) l.length k l 0 rfl (by omega) (by omega) hk (fun j hj => by omega)
  refine ⟨y, ?_, h2, ?_⟩
  · unfold laws_markIntS.f
    simpa using h1
  · intro k' hk'
    unfold laws_heldIntS.f
    simpa using heldIntS_loop m l.length hm (by omega) y h2 h3 l.length k' 0 (by omega) (by omega) hk'
/-! ### BMarksSS -/
theorem rdLL (done rest : List (List Int)) (x : List Int) : rd_L1 (done ++ x :: rest) (done.length : Int) = x := by
  unfold rd_L1
  rw [Int.toNat_natCast]
  simp
theorem getLL (done rest : List (List Int)) (x : List Int) : (done ++ x :: rest).getD ((done.length : Int)).toNat [] = x := by
  rw [Int.toNat_natCast]
  simp
theorem eqSS_loop (L : Nat) (hL : L ≤ 1000000) : ∀ (rest done : List (List Int)) (k : Nat), (∀ r ∈ rest, r.length ≤ L) → done.length + rest.length ≤ 1000000 → L + rest.length < k →
    laws_eqIntSS.l0 k (done ++ rest) (done ++ rest) (done.length : Int) = some true := by
  intro rest
  induction rest with
  | nil =>
    intro done k h hl hk
    obtain ⟨k, rfl⟩ : ∃ t, k = t + 1 := ⟨k - 1, by omega⟩
    simp only [laws_eqIntSS.l0]
    rw [if_neg (by simp)]
  | cons x rest ih =>
    intro done k h hl hk
    obtain ⟨k, rfl⟩ : ∃ t, k = t + 1 := ⟨k - 1, by omega⟩
    simp only [List.length_cons] at hl hk
    have g1 : (done.length : Int) < ((done ++ x :: rest).length : Int) := by simp; omega
    have hx := h x (by simp)
    have IH := ih (done ++ [x]) k (fun r hr => h r (by simp [hr])) (by simp; omega) (by omega)
    rw [show (((done ++ [x]).length : Nat) : Int) = (done.length : Int) + 1 by simp, show done ++ [x] ++ rest = done ++ x :: rest by simp] at IH
    simp only [laws_eqIntSS.l0]
    rw [if_pos g1, if_pos (by omega), if_pos g1, rdLL, eqIntS_self k x (by omega) (by omega), Option.bind_some, if_pos rfl, wrap64_id (by omega) (by omega)]
    exact IH
theorem eqSS_self (L : Nat) (hL : L ≤ 1000000) (l : List (List Int)) (h : ∀ r ∈ l, r.length ≤ L) (hl : l.length ≤ 1000000) (k : Nat) (hk : L + l.length < k) : laws_eqIntSS.f k l l = some true := by
  unfold laws_eqIntSS.f
  rw [if_pos rfl]
  exact eqSS_loop L hL l [] k h (by simpa using hl) hk
def total : List (List Int) → Nat
  | [] => 0
  | x :: l => x.length + total l
/-- Each row bears its marks. -/
def HeldL : List (List Int) → Int → Prop
  | [], _ => True
  | y :: ys, m => (∀ k', y.length < k' → laws_heldIntS.f k' y m = some (m + y.length)) ∧ HeldL ys (m + y.length)
theorem markSS_loop (L : Nat) (hL : L ≤ 1000000) : ∀ (rest done : List (List Int)) (m : Int) (k : Nat), (∀ r ∈ rest, r.length ≤ L) → done.length + rest.length ≤ 1000000 → 0 ≤ m → m + total rest ≤ 1000000000000 → L + rest.length < k →
    ∃ ys, laws_markIntSS.l0 k (done ++ rest) m (done.length : Int) = some (m + total rest, done ++ ys) ∧ HeldL ys m ∧ ys.length = rest.length ∧ (∀ r ∈ ys, r.length ≤ L) ∧ total ys = total rest := by
  intro rest
  induction rest with
  | nil =>
    intro done m k h hl h0 hm hk
    obtain ⟨k, rfl⟩ : ∃ t, k = t + 1 := ⟨k - 1, by omega⟩
    refine ⟨[], ?_, trivial, rfl, by simp, rfl⟩
    simp only [laws_markIntSS.l0]
    rw [if_neg (by simp)]
    simp [total]
  | cons x rest ih =>
    intro done m k h hl h0 hm hk
    obtain ⟨k, rfl⟩ : ∃ t, k = t + 1 := ⟨k - 1, by omega⟩
    simp only [List.length_cons, total] at hl hk hm
    have hx := h x (by simp)
    have g1 : (done.length : Int) < ((done ++ x :: rest).length : Int) := by simp; omega
    obtain ⟨y, m1, m2, m3⟩ := mark_held k x m (by omega) (by omega)
    obtain ⟨ys, e1, e2, e3, e4, e5⟩ := ih (done ++ [y]) (m + x.length) k (fun r hr => h r (by simp [hr])) (by simp; omega) (by omega) (by omega) (by omega)
    rw [show (((done ++ [y]).length : Nat) : Int) = (done.length : Int) + 1 by simp, show done ++ [y] ++ rest = done ++ y :: rest by simp, show done ++ [y] ++ ys = done ++ y :: ys by simp] at e1
    refine ⟨y :: ys, ?_, ⟨fun k' hk' => ?_, ?_⟩, by simp [e3], ?_, by simp [total, m2, e5]⟩
    · simp only [laws_markIntSS.l0]
      rw [if_pos g1, if_pos (by omega), getLL, m1, Option.bind_some, wrap64_id (x := (done.length : Int) + 1) (by omega) (by omega)]
      have hs : (done ++ x :: rest).set ((done.length : Int)).toNat y = done ++ y :: rest := by
        rw [Int.toNat_natCast]; simp
      simp only [hs]
      rw [e1]
      simp only [total]
      refine congrArg some (Prod.ext ?_ rfl)
      simp only
      omega
    · rw [m2]; exact m3 k' (by omega)
    · rw [m2]; exact e2
    · intro r hr
      rcases List.mem_cons.1 hr with rfl | hr
      · omega
      · exact e4 r hr
theorem heldSS_loop (L : Nat) (hL : L ≤ 1000000) : ∀ (ys done : List (List Int)) (m : Int) (k : Nat), HeldL ys m → (∀ r ∈ ys, r.length ≤ L) → done.length + ys.length ≤ 1000000 → 0 ≤ m → m + total ys ≤ 1000000000000 → L + ys.length < k →
    laws_heldIntSS.l0 k (done ++ ys) m (done.length : Int) = some (m + total ys) := by
  intro ys
  induction ys with
  | nil =>
    intro done m k hH h hl h0 hm hk
    obtain ⟨k, rfl⟩ : ∃ t, k = t + 1 := ⟨k - 1, by omega⟩
    simp only [laws_heldIntSS.l0]
    rw [if_neg (by simp)]
    simp [total]
  | cons x ys ih =>
    intro done m k hH h hl h0 hm hk
    obtain ⟨k, rfl⟩ : ∃ t, k = t + 1 := ⟨k - 1, by omega⟩
    simp only [List.length_cons, total] at hl hk hm
    have hx := h x (by simp)
    have g1 : (done.length : Int) < ((done ++ x :: ys).length : Int) := by simp; omega
    have IH := ih (done ++ [x]) (m + x.length) k hH.2 (fun r hr => h r (by simp [hr])) (by simp; omega) (by omega) (by omega) (by omega)
    rw [show (((done ++ [x]).length : Nat) : Int) = (done.length : Int) + 1 by simp, show done ++ [x] ++ ys = done ++ x :: ys by simp] at IH
    simp only [laws_heldIntSS.l0]
    rw [if_pos g1, if_pos (by omega), rdLL, hH.1 k (by omega), Option.bind_some, if_neg (by omega), wrap64_id (x := (done.length : Int) + 1) (by omega) (by omega), IH]
    simp only [total]
    refine congrArg some ?_
    omega
theorem mark_heldSS (L : Nat) (hL : L ≤ 1000) (l : List (List Int)) (h : ∀ r ∈ l, r.length ≤ L) (hl : l.length ≤ 100000) (k : Nat) (hk : L + l.length < k) :
    ∃ y, laws_markIntSS.f k l 1 = some (1 + (total l : Int), y) ∧ ∀ k', L + l.length < k' → laws_heldIntSS.f k' y 1 = some (1 + (total l : Int)) := by
  have ht : total l ≤ l.length * L := by
    clear hl hk
    induction l with
    | nil => simp [total]
    | cons x l ih =>
      have h1 := h x (by simp)
      have h2 := ih (fun r hr => h r (by simp [hr]))
      simp only [total, List.length_cons]
      rw [Nat.add_mul]
      omega
  have ht2 : l.length * L ≤ 100000 * 1000 := Nat.mul_le_mul hl hL
  obtain ⟨ys, e1, e2, e3, e4, e5⟩ := markSS_loop L (by omega) l [] 1 k h (by simp; omega) (by omega) (by omega) hk
  refine ⟨ys, e1, fun k' hk' => ?_⟩
  have := heldSS_loop L (by omega) ys [] 1 k' e2 e4 (by simp; omega) (by omega) (by omega) (by omega)
  rw [e5] at this
  exact this
/-! ### QFnExactCrossingGroups -/
def upTo (g : List Int) (a j : Nat) : List Int := ((List.range j).filter fun i => decide (g.getD i 0 = (a : Int))).map fun (i : Nat) => (i : Int)
theorem upTo_yes (g : List Int) (a j : Nat) (h : g.getD j 0 = (a : Int)) : upTo g a (j + 1) = upTo g a j ++ [(j : Int)] := by
  unfold upTo
  rw [List.range_succ, List.filter_append, List.filter_cons, if_pos (decide_eq_true h), List.map_append]
  rfl
theorem upTo_no (g : List Int) (a j : Nat) (h : ¬ g.getD j 0 = (a : Int)) : upTo g a (j + 1) = upTo g a j := by
  unfold upTo
  rw [List.range_succ, List.filter_append, List.filter_cons, if_neg (by simpa using h)]
  simp
theorem upTo_len (g : List Int) (a j : Nat) : (upTo g a j).length ≤ j := by
  unfold upTo
  rw [List.length_map]
  exact Nat.le_trans (List.length_filter_le _ _) (by simp)
theorem row_loop (n : Nat) (hn : n ≤ 1000) (g : List Int) (hg : g.length = n) (a : Nat) (ha : a < n) (out : List (List Int)) (ho : out.length ≤ 1000) (r : List (List Int) × Bool) (d : Nat) : ∀ (k j : Nat), j + d = n → d + 1 < k →
    (∀ k', k ≤ k' + d + 1 → spec_CrossingGroups.l0 k' g (out ++ (if rowG n g a = [] then [] else [rowG n g a])) (n : Int) ((a + 1 : Nat) : Int) = some r) →
    spec_CrossingGroups.l1 k g out (a : Int) (upTo g a j) (n : Int) (a : Int) g (n : Int) (j : Int) = some r := by
  induction d with
  | zero =>
    intro k j hj hk h
    obtain ⟨k, rfl⟩ : ∃ t, k = t + 1 := ⟨k - 1, by omega⟩
    obtain rfl : j = n := by omega
    have h := h k (by omega)
    simp only [spec_CrossingGroups.l1]
    rw [if_neg (by omega), wrapN a (by omega)]
    have e : upTo g a j = rowG j g a := rfl
    rw [e]
    by_cases e0 : rowG j g a = []
    · rw [if_pos e0, List.append_nil] at h
      rw [e0, if_neg (by simp)]
      exact h
    · have hp := List.length_pos_iff.2 e0
      rw [if_neg e0] at h
      rw [if_pos (by omega), if_pos (by omega)]
      exact h
  | succ d ih =>
    intro k j hj hk h
    obtain ⟨k, rfl⟩ : ∃ t, k = t + 1 := ⟨k - 1, by omega⟩
    have IH := ih k (j + 1) (by omega) (by omega) (fun k' hk' => h k' (by omega))
    have hlen := upTo_len g a j
    simp only [spec_CrossingGroups.l1]
    rw [if_pos (by omega), if_pos (by omega), if_pos (by omega), rd_nat g j]
    by_cases e : g.getD j 0 = (a : Int)
    · rw [if_pos e, if_pos (by omega), wrapN j (by omega), ← upTo_yes g a j e]
      exact IH
    · rw [if_neg e, wrapN j (by omega), ← upTo_no g a j e]
      exact IH
theorem rows_loop (n : Nat) (hn : n ≤ 1000) (g : List Int) (hg : g.length = n) (d : Nat) : ∀ (k a : Nat), a + d = n → (d + 1) * (n + 5) < k → spec_CrossingGroups.l0 k g (rowsG n g a) (n : Int) (a : Int) = some (rowsG n g n, true) := by
  induction d with
  | zero =>
    intro k a ha hk
    obtain ⟨k, rfl⟩ : ∃ t, k = t + 1 := ⟨k - 1, by omega⟩
    obtain rfl : a = n := by omega
    simp only [spec_CrossingGroups.l0]
    rw [if_neg (by omega)]
  | succ d ih =>
    intro k a ha hk
    obtain ⟨k, rfl⟩ : ∃ t, k = t + 1 := ⟨k - 1, by omega⟩
    have hmul : (d + 1 + 1) * (n + 5) = (d + 1) * (n + 5) + (n + 5) := Nat.succ_mul _ _
    have hol := rowsG_len n g a
    simp only [spec_CrossingGroups.l0]
    rw [if_pos (by omega), hg]
    exact row_loop n hn g hg a (by omega) (rowsG n g a) (by omega) _ n k 0 (by omega) (by omega) (fun k' hk' => ih k' (a + 1) (by omega) (by omega))
theorem rowG_small (n : Nat) (g : List Int) (a : Nat) : (rowG n g a).length ≤ n := upTo_len g a n
theorem rowsG_small (n : Nat) (g : List Int) : ∀ m, ∀ r ∈ rowsG n g m, r.length ≤ n
  | 0, r, h => by simp [rowsG] at h
  | m + 1, r, h => by
    rw [rowsG, List.mem_append] at h
    rcases h with h | h
    · exact rowsG_small n g m r h
    · split at h
      · simp at h
      · simp at h
        rw [h]
        exact rowG_small n g m
theorem crossingGroups_both (n : Int) (l : List S41) (hl : l.length ≤ 1048576) : ∃ r : List (List Int) × Bool, (∀ x ∈ r.1, x.length ≤ 1000) ∧ r.1.length ≤ 1000 ∧ ∃ K, ∀ k, K ≤ k → spec_CrossingGroups.f k n l = some r ∧ impl_CrossingGroups.f k n l = some r := by
  by_cases h : goodB n l = true
  · obtain ⟨h1, h2, h3, h4⟩ := good_spec n l h
    obtain ⟨K, G, F, O, E, e1, e2, hG, _, _, _, hO, _⟩ := groups_both l (by omega) n h4
    have hlen := rowsG_len l.length G l.length
    refine ⟨(rowsG l.length G l.length, true), fun x hx => ?_, by simp only; omega, K + 5000000 + l.length, fun k hk => ?_⟩
    · have := rowsG_small l.length G l.length x hx
      omega
    · have hm : (l.length + 1) * (l.length + 5) ≤ 41 * 45 := Nat.mul_le_mul (by omega) (by omega)
      have e1 := e1 k (by omega)
      have e2 := e2 k (by omega)
      simp only at e1 e2
      have e3 := rows_loop l.length (by omega) G hG l.length k 0 (by omega) (by omega)
      unfold spec_CrossingGroups.f impl_CrossingGroups.f
      simp only [cdGood_eq n l (by omega) k (by omega), isSet_eq n l (by omega) k (by omega), Option.bind_some, if_pos h, e1, e2]
      rw [hO]
      exact ⟨e3, rfl⟩
  · refine ⟨([], false), by simp, by simp, l.length + 1000, fun k hk => ?_⟩
    unfold spec_CrossingGroups.f impl_CrossingGroups.f
    simp only [cdGood_eq n l (by omega) k (by omega), isSet_eq n l (by omega) k (by omega), Option.bind_some, if_neg h]
    exact ⟨trivial, trivial⟩
theorem FnExactCrossingGroups : ∀ (a0 : Int) (l1 : List S73), (Lit.int .i64 a0).wf = true → l1.length ≤ 9223372036854775807 → ∃ k, laws_FnExactCrossingGroups.f k a0 l1 = some true := by
  intro n l _ hl
  by_cases h : l.length ≤ 1048576
  · have hc := conv_len l
    obtain ⟨⟨r, b⟩, ht, hlen, K0, hr⟩ := crossingGroups_both n (conv l) (by omega)
    simp only at ht hlen
    obtain ⟨K, hK⟩ : ∃ K, K = l.length + 20000 + K0 := ⟨_, rfl⟩
    refine ⟨K, ?_⟩
    unfold laws_FnExactCrossingGroups.f
    rw [szChordS_eq l hl, Option.bind_some]
    rw [if_pos h, if_neg (by omega)]
    obtain ⟨y, m1, m2⟩ := mark_heldSS 1000 (by omega) r ht (by omega) K (by omega)
    obtain ⟨yc, c1⟩ := mark_C1 K (conv l) 1 (by omega) (by omega)
    simp only [toChordS_eq l (by omega) K (by omega), (hr K (by omega)).1, (hr K (by omega)).2, Option.bind_some, eqSS_self 1000 (by omega) r ht (by omega) K (by omega), eqChordS_self K (conv l) (by omega) (by omega), c1, m1, m2 K (by omega)]
    rw [if_pos ⟨trivial, trivial, trivial, by omega, by omega, trivial⟩]
  · refine ⟨1, ?_⟩
    unfold laws_FnExactCrossingGroups.f
    rw [szChordS_eq l hl, Option.bind_some, if_neg h]
    rfl

end Go.Proofs.Ytceoaondcnhaeaa.Q
