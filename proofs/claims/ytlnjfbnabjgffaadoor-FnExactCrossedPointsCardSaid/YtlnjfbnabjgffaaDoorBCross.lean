/- The points that come twice or more: sorted and picked, or laid in one by one. -/
import Derived.Test.YtlnjfbnabjgffaaDoorBWrap
import Derived.Test.YtlnjfbnabjgffaaDoorXx11
import Derived.Test.YtlnjfbnabjgffaaDoorXx50
namespace Go.Proofs.YtlnjfbnabjgffaaDoor.Q
open Go.RowKit Go.Proofs.YtlnjfbnabjgffaaDoor.X Go.Proofs.YtlnjfbnabjgffaaDoorW.PrintWords Go.Proofs.YtlnjfbnabjgffaaDoorW.PrintLast Go.Proofs.YtlnjfbnabjgffaaDoorW.PrintMore
set_option linter.unusedVariables false
set_option linter.unusedSimpArgs false

/-! Points that come twice or more: both ways give one list. -/
theorem lt2_iff (a b : List Int) : lt2 a b = true ↔ (rd a 0 < rd b 0 ∨ (rd a 0 = rd b 0 ∧ rd a 1 < rd b 1)) := decide_eq_true_iff
theorem lt2_irr (a : List Int) : lt2 a a = false := by
  cases h : lt2 a a with
  | false => rfl
  | true => rw [lt2_iff] at h; omega
theorem lt2_tr {a b c : List Int} (h1 : lt2 a b = true) (h2 : lt2 b c = true) : lt2 a c = true := by
  rw [lt2_iff] at *; omega
theorem lt2_asym {a b : List Int} (h1 : lt2 a b = true) (h2 : lt2 b a = true) : False := by
  rw [lt2_iff] at *; omega
theorem lt2_tri {a b : List Int} (ha : a.length = 2) (hb : b.length = 2) (h : lt2 a b = false) (hne : a ≠ b) : lt2 b a = true := by
  cases h2 : lt2 b a with
  | true => rfl
  | false => exact absurd (lt2_total a b ha hb h h2) hne
theorem sorted_ext : ∀ l1 l2 : List (List Int), l1.Pairwise (fun a b => lt2 a b = true) → l2.Pairwise (fun a b => lt2 a b = true) → (∀ x, x ∈ l1 ↔ x ∈ l2) → l1 = l2
  | [], [], _, _, _ => rfl
  | [], b :: l2, _, _, h => by have := (h b).2 (List.mem_cons_self ..); cases this
  | a :: l1, [], _, _, h => by have := (h a).1 (List.mem_cons_self ..); cases this
  | a :: l1, b :: l2, h1, h2, h => by
    obtain ⟨p1, q1⟩ := List.pairwise_cons.1 h1
    obtain ⟨p2, q2⟩ := List.pairwise_cons.1 h2
    have hab : a = b := by
      rcases List.mem_cons.1 ((h a).1 (List.mem_cons_self ..)) with e | e
      · exact e
      · rcases List.mem_cons.1 ((h b).2 (List.mem_cons_self ..)) with e2 | e2
        · exact e2.symm
        · exact (lt2_asym (p2 a e) (p1 b e2)).elim
    subst hab
    rw [sorted_ext l1 l2 q1 q2 (fun x => ?_)]
    constructor
    · intro hx
      rcases List.mem_cons.1 ((h x).1 (List.mem_cons_of_mem _ hx)) with e | e
      · have := p1 x hx; rw [e, lt2_irr] at this; cases this
      · exact e
    · intro hx
      rcases List.mem_cons.1 ((h x).2 (List.mem_cons_of_mem _ hx)) with e | e
      · have := p2 x hx; rw [e, lt2_irr] at this; cases this
      · exact e
/-- Where a point goes: behind all that are not behind it. -/
def posK (p : List Int) (out : List (List Int)) : Nat → Nat
  | 0 => 0
  | c + 1 => if lt2 p (out.getD c []) = true then posK p out c else c + 1
def insL (p : List Int) (out : List (List Int)) : List (List Int) := out.take (posK p out out.length) ++ [p] ++ out.drop (posK p out out.length)
theorem posK_le (p : List Int) (out : List (List Int)) : ∀ c, posK p out c ≤ c
  | 0 => Nat.le_refl _
  | c + 1 => by
    unfold posK
    split
    · exact Nat.le_succ_of_le (posK_le p out c)
    · exact Nat.le_refl _
theorem posK_hi (p : List Int) (out : List (List Int)) : ∀ c j, posK p out c ≤ j → j < c → lt2 p (out.getD j []) = true
  | 0, j, _, h => absurd h (Nat.not_lt_zero _)
  | c + 1, j, h1, h2 => by
    unfold posK at h1
    split at h1
    · rename_i h
      by_cases e : j = c
      · rw [e]; exact h
      · exact posK_hi p out c j h1 (by omega)
    · omega
theorem posK_lo (p : List Int) (out : List (List Int)) : ∀ c, 0 < posK p out c → lt2 p (out.getD (posK p out c - 1) []) = false
  | 0, h => absurd h (Nat.lt_irrefl _)
  | c + 1, h => by
    unfold posK at h ⊢
    split
    · rename_i h1
      rw [if_pos h1] at h
      exact posK_lo p out c h
    · rename_i h1
      simpa using h1
theorem ins_mem (p : List Int) (out : List (List Int)) (x : List Int) : x ∈ insL p out ↔ x = p ∨ x ∈ out := by
  unfold insL
  rw [List.mem_append, List.mem_append, List.mem_singleton]
  conv => rhs; rw [← List.take_append_drop (posK p out out.length) out, List.mem_append]
  constructor
  · rintro ((h | h) | h)
    · exact .inr (.inl h)
    · exact .inl h
    · exact .inr (.inr h)
  · rintro (h | h | h)
    · exact .inl (.inr h)
    · exact .inl (.inl h)
    · exact .inr h
theorem getD_at {l : List (List Int)} {j : Nat} (h : j < l.length) : l.getD j [] = l[j] := by rw [List.getD_eq_getElem?_getD, List.getElem?_eq_getElem h, Option.getD_some]
theorem ins_sorted (p : List Int) (out : List (List Int)) (hp : p.length = 2) (ho : ∀ x ∈ out, x.length = 2) (hs : out.Pairwise (fun a b => lt2 a b = true)) (hn : p ∉ out) : (insL p out).Pairwise (fun a b => lt2 a b = true) := by
  have hle := posK_le p out out.length
  have hhi := posK_hi p out out.length
  have hlo := posK_lo p out out.length
  unfold insL
  generalize posK p out out.length = c at hle hhi hlo
  have hdrop : ∀ x ∈ out.drop c, lt2 p x = true := by
    intro x hx
    obtain ⟨j, hj, rfl⟩ := List.getElem_of_mem hx
    rw [List.length_drop] at hj
    rw [List.getElem_drop, ← getD_at (by omega)]
    exact hhi (c + j) (by omega) (by omega)
  have htake : ∀ x ∈ out.take c, lt2 x p = true := by
    intro x hx
    obtain ⟨j, hj, rfl⟩ := List.getElem_of_mem hx
    rw [List.length_take] at hj
    have hjc : j < c := by omega
    rw [List.getElem_take]
    have h1 := hlo (by omega)
    rw [getD_at (by omega)] at h1
    have hm : out[c - 1] ∈ out := List.getElem_mem _
    have h2 := lt2_tri hp (ho _ hm) h1 (fun e => hn (by rw [e]; exact hm))
    by_cases e : j = c - 1
    · subst e; exact h2
    · exact lt2_tr (List.pairwise_iff_getElem.1 hs j (c - 1) (by omega) (by omega) (by omega)) h2
  have hsplit := hs
  rw [← List.take_append_drop c out, List.pairwise_append] at hsplit
  obtain ⟨s1, s2, s3⟩ := hsplit
  rw [List.append_assoc, List.pairwise_append]
  refine ⟨s1, ?_, ?_⟩
  · rw [List.singleton_append, List.pairwise_cons]
    exact ⟨hdrop, s2⟩
  · intro a ha b hb
    rw [List.singleton_append] at hb
    rcases List.mem_cons.1 hb with rfl | hb
    · exact htake a ha
    · exact s3 a ha b hb
def stepL (pts out : List (List Int)) (i : Nat) : List (List Int) := if 2 ≤ pts.count (pts.getD i []) ∧ pts.getD i [] ∉ pts.take i then insL (pts.getD i []) out else out
def outL (pts : List (List Int)) : Nat → List (List Int)
  | 0 => []
  | i + 1 => stepL pts (outL pts i) i
theorem out_inv (pts : List (List Int)) (hl : ∀ x ∈ pts, x.length = 2) : ∀ i, i ≤ pts.length → (outL pts i).Pairwise (fun a b => lt2 a b = true) ∧ (∀ x, x ∈ outL pts i ↔ (x ∈ pts.take i ∧ 2 ≤ pts.count x)) ∧ (outL pts i).length ≤ i
  | 0, _ => ⟨List.Pairwise.nil, fun x => by simp [outL], Nat.le_refl _⟩
  | i + 1, h => by
    obtain ⟨h1, h2, h3⟩ := out_inv pts hl i (by omega)
    have hi : i < pts.length := h
    have ht : pts.take (i + 1) = pts.take i ++ [pts.getD i []] := by rw [getD_at hi]; exact List.take_succ_eq_append_getElem hi
    have hpl : (pts.getD i []).length = 2 := by rw [getD_at hi]; exact hl _ (List.getElem_mem _)
    have hol : ∀ x ∈ outL pts i, x.length = 2 := fun x hx => hl x (List.mem_of_mem_take ((h2 x).1 hx).1)
    show (stepL pts (outL pts i) i).Pairwise _ ∧ (∀ x, x ∈ stepL pts (outL pts i) i ↔ _) ∧ (stepL pts (outL pts i) i).length ≤ _
    unfold stepL
    generalize pts.getD i [] = p at ht hpl
    by_cases hc : 2 ≤ pts.count p ∧ p ∉ pts.take i
    · rw [if_pos hc]
      refine ⟨ins_sorted p _ hpl hol h1 (fun hm => hc.2 ((h2 p).1 hm).1), fun x => ?_, ?_⟩
      · rw [ins_mem, h2, ht, List.mem_append, List.mem_singleton]
        constructor
        · rintro (rfl | ⟨ha, hb⟩)
          · exact ⟨.inr rfl, hc.1⟩
          · exact ⟨.inl ha, hb⟩
        · rintro ⟨ha | rfl, hb⟩
          · exact .inr ⟨ha, hb⟩
          · exact .inl rfl
      · unfold insL
        have := posK_le p (outL pts i) (outL pts i).length
        simp only [List.length_append, List.length_take, List.length_drop, List.length_cons, List.length_nil]
        omega
    · rw [if_neg hc]
      refine ⟨h1, fun x => ?_, by omega⟩
      rw [h2, ht, List.mem_append, List.mem_singleton]
      constructor
      · rintro ⟨ha, hb⟩
        exact ⟨.inl ha, hb⟩
      · rintro ⟨ha | rfl, hb⟩
        · exact ⟨ha, hb⟩
        · refine ⟨?_, hb⟩
          by_cases hm : x ∈ pts.take i
          · exact hm
          · exact absurd ⟨hb, hm⟩ hc
theorem sort_facts (pts : List (List Int)) (hl : ∀ x ∈ pts, x.length = 2) : (sortL pts).Perm pts ∧ (sortL pts).length = pts.length ∧ (∀ j, j < (sortL pts).length → ((sortL pts).getD j []).length = 2) ∧ ∀ i j, i < j → j < (sortL pts).length → lt2 ((sortL pts).getD j []) ((sortL pts).getD i []) = false := by
  have hm : (sortL pts).Perm pts := List.mergeSort_perm _ _
  have hs2 : (sortL pts).Pairwise (fun a b => lt2 b a = false) := by
    have := List.pairwise_mergeSort (le := fun a b => !lt2 b a) (fun a b c h1 h2 => by simp [lt2] at *; omega) (fun a b => by simp [lt2]; omega) pts
    refine this.imp ?_
    intro a b h
    simpa using h
  refine ⟨hm, hm.length_eq, fun j hj => ?_, fun i j hij hj => ?_⟩
  · rw [getD_at hj]
    exact hl _ (hm.mem_iff.1 (List.getElem_mem _))
  · rw [getD_at hj, getD_at (by omega)]
    exact List.pairwise_iff_getElem.1 hs2 i j (by omega) hj hij
/-- Between two like ones all are like. -/
theorem run_eq {S : List (List Int)} (h2 : ∀ j, j < S.length → (S.getD j []).length = 2) (hs : ∀ i j, i < j → j < S.length → lt2 (S.getD j []) (S.getD i []) = false) {i m j : Nat} (him : i ≤ m) (hmj : m ≤ j) (hj : j < S.length) (he : S.getD i [] = S.getD j []) : S.getD m [] = S.getD i [] := by
  by_cases e1 : i = m
  · rw [e1]
  · by_cases e2 : m = j
    · rw [e2, he]
    · have a1 := hs i m (by omega) (by omega)
      have a2 := hs m j (by omega) hj
      rw [← he] at a2
      exact lt2_total _ _ (h2 m (by omega)) (h2 i (by omega)) a1 a2
theorem pick_sorted (S : List (List Int)) (h2 : ∀ j, j < S.length → (S.getD j []).length = 2) (hs : ∀ i j, i < j → j < S.length → lt2 (S.getD j []) (S.getD i []) = false) : ((pickJ S S.length).map fun j => S.getD j []).Pairwise (fun a b => lt2 a b = true) := by
  rw [List.pairwise_map]
  unfold pickJ
  refine List.Pairwise.imp_of_mem (fun {a b} ha hb hab => ?_) (List.Pairwise.filter _ List.pairwise_lt_range)
  obtain ⟨ha1, ha2⟩ := List.mem_filter.1 ha
  obtain ⟨hb1, hb2⟩ := List.mem_filter.1 hb
  rw [List.mem_range] at ha1 hb1
  unfold pickB at ha2 hb2
  rw [decide_eq_true_iff] at ha2 hb2
  obtain ⟨a1, a2, a3⟩ := ha2
  obtain ⟨b1, b2, b3⟩ := hb2
  refine lt2_tri (h2 b hb1) (h2 a ha1) (hs a b hab hb1) (fun e => ?_)
  rcases b3 with b3 | b3
  · omega
  · apply b3
    by_cases e2 : a ≤ b - 2
    · rw [run_eq h2 hs e2 (by omega) hb1 e.symm, e]
    · have e3 : a = b - 1 := by omega
      subst e3
      rw [b2, a2]
      rfl
theorem count_two {S : List (List Int)} {i j : Nat} (hij : i < j) (hj : j < S.length) (he : S.getD i [] = S.getD j []) : 2 ≤ S.count (S.getD j []) := by
  have e1 : S = S.take j ++ S.drop j := (List.take_append_drop j S).symm
  have h1 : S.getD i [] ∈ S.take j := by
    rw [getD_at (show i < S.length by omega)]
    exact List.mem_iff_getElem.2 ⟨i, by rw [List.length_take]; omega, by rw [List.getElem_take]⟩
  have h2 : S.getD j [] ∈ S.drop j := by
    rw [getD_at hj]
    exact List.mem_iff_getElem.2 ⟨0, by rw [List.length_drop]; omega, by rw [List.getElem_drop]; simp⟩
  have c1 := List.count_pos_iff.2 h1
  have c2 := List.count_pos_iff.2 h2
  rw [he] at c1
  have : S.count (S.getD j []) = (S.take j).count (S.getD j []) + (S.drop j).count (S.getD j []) := by rw [← List.count_append, List.take_append_drop]
  omega
theorem two_count : ∀ (S : List (List Int)) (x : List Int), 2 ≤ S.count x → ∃ i j, i < j ∧ j < S.length ∧ S.getD i [] = x ∧ S.getD j [] = x
  | [], x, h => by simp at h
  | a :: S, x, h => by
    by_cases e : a = x
    · subst e
      rw [List.count_cons_self] at h
      have : a ∈ S := List.count_pos_iff.1 (by omega)
      obtain ⟨j, hj, hje⟩ := List.getElem_of_mem this
      exact ⟨0, j + 1, by omega, by simp; omega, rfl, by rw [getD_at (by simp; omega)]; simpa using hje⟩
    · rw [List.count_cons_of_ne e] at h
      obtain ⟨i, j, h1, h2, h3, h4⟩ := two_count S x h
      exact ⟨i + 1, j + 1, by omega, by simp; omega, by simpa using h3, by simpa using h4⟩
theorem pick_mem (S : List (List Int)) (h2 : ∀ j, j < S.length → (S.getD j []).length = 2) (hs : ∀ i j, i < j → j < S.length → lt2 (S.getD j []) (S.getD i []) = false) (x : List Int) : x ∈ (pickJ S S.length).map (fun j => S.getD j []) ↔ 2 ≤ S.count x := by
  constructor
  · intro hx
    obtain ⟨j, hj, rfl⟩ := List.mem_map.1 hx
    obtain ⟨h1, h3⟩ := List.mem_filter.1 hj
    rw [List.mem_range] at h1
    unfold pickB at h3
    rw [decide_eq_true_iff] at h3
    exact count_two (i := j - 1) (j := j) (by omega) h1 h3.2.1.symm
  · intro hc
    obtain ⟨i0, j0, hij, hj0, hi, hj⟩ := two_count S x hc
    have hex : ∃ a, S.getD a [] = x ∧ a ≤ i0 ∧ ∀ b, b < a → S.getD b [] ≠ x := by
      have : ∀ m, (∃ a, a ≤ m ∧ S.getD a [] = x) → ∃ a, S.getD a [] = x ∧ a ≤ m ∧ ∀ b, b < a → S.getD b [] ≠ x := by
        intro m
        induction m with
        | zero =>
          rintro ⟨a, ha, hax⟩
          have : a = 0 := by omega
          subst this
          exact ⟨0, hax, Nat.le_refl _, fun b hb => absurd hb (Nat.not_lt_zero _)⟩
        | succ m ih =>
          rintro ⟨a, ha, hax⟩
          by_cases h : ∃ a, a ≤ m ∧ S.getD a [] = x
          · obtain ⟨a, h1, h2, h3⟩ := ih h
            exact ⟨a, h1, by omega, h3⟩
          · refine ⟨a, hax, ha, fun b hb hbx => h ⟨b, by omega, hbx⟩⟩
      exact this i0 ⟨i0, Nat.le_refl _, hi⟩
    obtain ⟨a, ha, hai, hmin⟩ := hex
    have hn1 : S.getD (a + 1) [] = x := by rw [run_eq h2 hs (i := a) (m := a + 1) (j := j0) (by omega) (by omega) hj0 (by rw [ha, hj]), ha]
    refine List.mem_map.2 ⟨a + 1, List.mem_filter.2 ⟨List.mem_range.2 (by omega), ?_⟩, hn1⟩
    unfold pickB
    rw [decide_eq_true_iff]
    refine ⟨by omega, by rw [hn1]; exact ha.symm, ?_⟩
    by_cases h : a = 0
    · exact .inl (by omega)
    · refine .inr (fun e => ?_)
      rw [hn1] at e
      exact hmin (a - 1) (by omega) (by rw [show a - 1 = a + 1 - 2 by omega]; exact e.symm)
theorem out_pick (pts : List (List Int)) (hl : ∀ x ∈ pts, x.length = 2) : outL pts pts.length = pickL pts := by
  obtain ⟨hm, hlen, h2, hs⟩ := sort_facts pts hl
  obtain ⟨o1, o2, _⟩ := out_inv pts hl pts.length (Nat.le_refl _)
  unfold pickL
  rw [← hlen]
  refine sorted_ext _ _ (by rw [hlen]; exact o1) (pick_sorted (sortL pts) h2 hs) (fun x => ?_)
  rw [pick_mem (sortL pts) h2 hs, hlen, o2, hm.count_eq, List.take_length]
  constructor
  · exact fun h => h.2
  · exact fun h => ⟨List.count_pos_iff.1 (by omega), h⟩

end Go.Proofs.YtlnjfbnabjgffaaDoor.Q
