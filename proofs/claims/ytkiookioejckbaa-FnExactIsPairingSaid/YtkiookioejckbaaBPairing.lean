/- Pairings: the reference counts the chords of each point, the program joins the points. -/
import Derived.Test.YtkiookioejckbaaBWrap
import Derived.Test.YtkiookioejckbaaBOrd0
import Derived.Test.YtkiookioejckbaaBCount
import Derived.Test.YtkiookioejckbaaBMarks
import Derived.Test.YtkiookioejckbaaXx17
import Derived.Test.YtkiookioejckbaaXx18
import Derived.Test.YtkiookioejckbaaXx20
import Derived.Test.YtkiookioejckbaaXx22
import Derived.Test.YtkiookioejckbaaXx50
namespace Go.Proofs.Ytkiookioejckbaa.Q
open Go.RowKit Go.Proofs.Ytkiookioejckbaa.X Go.Proofs.YtkiookioejckbaaW.PrintWords Go.Proofs.YtkiookioejckbaaW.PrintLast Go.Proofs.YtkiookioejckbaaW.PrintMore
set_option linter.unusedVariables false
set_option linter.unusedSimpArgs false

/-- Each chord counts once for each of its points. -/
def incL : List S52 → List Int → List Int
  | [], t => t
  | c :: l, t => incL l ((t.set c.f0.toNat (rd t c.f0 + 1)).set c.f1.toNat (rd t c.f1 + 1))
def allOne (t : List Int) : Bool := t.all fun x => x == 1
theorem rdN (t : List Int) (i : Nat) (hi : i < t.length) : t[i] = rd t (i : Int) := by
  unfold rd; simp [hi]
theorem allOne_iff (t : List Int) : allOne t = true ↔ ∀ i : Nat, i < t.length → rd t i = 1 := by
  unfold allOne
  rw [List.all_eq_true]
  constructor
  · intro h i hi
    have := h t[i] (List.getElem_mem hi)
    rw [rdN] at this
    simpa using this
  · intro h x hx
    obtain ⟨i, hi, rfl⟩ := List.getElem_of_mem hx
    rw [rdN, h i hi]; rfl
theorem rd_two (t : List Int) (a b p : Nat) (u v : Int) (ha : a < t.length) (hb : b < t.length) (hab : a ≠ b) : rd ((t.set a u).set b v) p = if p = b then v else if p = a then u else rd t p := by
  by_cases h1 : p = b
  · subst h1; rw [rd_set_same _ _ _ (by simpa using hb), if_pos rfl]
  · rw [rd_set_other _ _ _ _ h1, if_neg h1]
    by_cases h2 : p = a
    · subst h2; rw [rd_set_same _ _ _ ha, if_pos rfl]
    · rw [rd_set_other _ _ _ _ h2, if_neg h2]
theorem incL_len : ∀ (m : List S52) (t : List Int), (incL m t).length = t.length
  | [], t => rfl
  | c :: m, t => by rw [incL, incL_len m]; simp
theorem incL_mono (n : Nat) : ∀ (m : List S52) (t : List Int), t.length = n → (∀ c ∈ m, Proper n c) → ∀ p : Nat, p < n → rd t p ≤ rd (incL m t) p
  | [], t, _, _, p, _ => Int.le_refl _
  | c :: m, t, hl, hp, p, hpn => by
    obtain ⟨h0, h1, h2⟩ := hp c (by simp)
    obtain ⟨a, ha⟩ : ∃ a : Nat, c.f0 = a := ⟨c.f0.toNat, by omega⟩
    obtain ⟨b, hb⟩ : ∃ b : Nat, c.f1 = b := ⟨c.f1.toNat, by omega⟩
    have ih := incL_mono n m ((t.set c.f0.toNat (rd t c.f0 + 1)).set c.f1.toNat (rd t c.f1 + 1)) (by simp [hl]) (fun d hd => hp d (by simp [hd])) p hpn
    rw [incL]
    refine Int.le_trans ?_ ih
    rw [ha, hb, Int.toNat_natCast, Int.toNat_natCast, rd_two t a b p _ _ (by omega) (by omega) (by omega)]
    split
    · subst p; omega
    · split
      · subst p; omega
      · omega
/-- The reference's last loop. -/
theorem cdPairing_last (t : List Int) (hl : t.length ≤ 1000000000) (d : Nat) : ∀ (k i : Nat), i + d = t.length → d < k → spec_cdPairing.l1 k t t.length i = some (allOne (t.drop i)) := by
  induction d with
  | zero =>
    intro k i hd hk
    obtain ⟨k, rfl⟩ : ∃ m, k = m + 1 := ⟨k - 1, by omega⟩
    simp only [spec_cdPairing.l1]
    rw [if_neg (by omega), List.drop_of_length_le (by omega)]
    rfl
  | succ d ih =>
    intro k i hd hk
    obtain ⟨k, rfl⟩ : ∃ m, k = m + 1 := ⟨k - 1, by omega⟩
    simp only [spec_cdPairing.l1]
    have hi : i < t.length := by omega
    rw [if_pos (by omega), if_pos (by omega), if_pos (by omega), List.drop_eq_getElem_cons hi, rdN t i hi]
    by_cases h : rd t i = 1
    · rw [if_pos h, wrap_step (by omega) (by omega)]
      have := ih k (i + 1) (by omega) (by omega)
      rw [show ((i + 1 : Nat) : Int) = (i : Int) + 1 by omega] at this
      rw [this]
      simp [allOne, h]
    · rw [if_neg h]
      simp [allOne, h]
theorem rdC_mid (pre m : List S52) (c : S52) : rd_T52 (pre ++ c :: m) (pre.length : Int) = c := by
  unfold rd_T52; simp
/-- The reference's first loop. -/
theorem cdPairing_loop (n : Nat) (hn : n ≤ 100) (m : List S52) : ∀ (k : Nat) (pre : List S52) (t : List Int), t.length = n → (∀ c ∈ m, Proper n c) → (∀ p : Nat, p < n → 0 ≤ rd t p ∧ rd t p ≤ pre.length) → pre.length + m.length ≤ 1000 → m.length + n + 1 < k →
    spec_cdPairing.l0 k t (pre ++ m) ((pre ++ m).length : Int) pre.length = some (allOne (incL m t)) := by
  induction m with
  | nil =>
    intro k pre t ht _ _ hl hk
    obtain ⟨k, rfl⟩ : ∃ q, k = q + 1 := ⟨k - 1, by omega⟩
    simp only [spec_cdPairing.l0]
    rw [if_neg (by simp)]
    have := cdPairing_last t (by omega) t.length k 0 (by omega) (by simp at hk; omega)
    rw [List.drop_zero] at this
    exact this
  | cons c m ih =>
    intro k pre t ht hp hb hl hk
    obtain ⟨k, rfl⟩ : ∃ q, k = q + 1 := ⟨k - 1, by omega⟩
    obtain ⟨h0, h1, h2⟩ := hp c (by simp)
    obtain ⟨a, ha⟩ : ∃ a : Nat, c.f0 = a := ⟨c.f0.toNat, by omega⟩
    obtain ⟨b, hbb⟩ : ∃ b : Nat, c.f1 = b := ⟨c.f1.toNat, by omega⟩
    rw [List.length_cons] at hl hk
    have ba := hb a (by omega)
    have bb := hb b (by omega)
    have w1 : wrap64 (rd t a + 1) = rd t a + 1 := wrap_step ba.1 (by omega)
    have w2 : wrap64 (rd t b + 1) = rd t b + 1 := wrap_step bb.1 (by omega)
    have ws : wrap64 ((pre.length : Int) + 1) = ((pre ++ [c]).length : Int) := by rw [wrap_step (by omega) (by omega)]; simp
    have hne : a ≠ b := by omega
    simp only [spec_cdPairing.l0, rdC_mid]
    rw [if_pos (by simp; omega), if_pos (by omega), if_pos (by simp; omega), if_pos (by omega), if_pos (by omega)]
    simp only [Option.bind_some]
    rw [if_pos (by omega), if_pos (by omega), ha, hbb, Int.toNat_natCast, Int.toNat_natCast, w1, rd_set_other _ _ _ _ (Ne.symm hne), w2, ws]
    have := ih k (pre ++ [c]) ((t.set a (rd t a + 1)).set b (rd t b + 1)) (by simp [ht]) (fun d hd => hp d (by simp [hd])) (fun p hpn => by
      have := hb p hpn
      rw [rd_two t a b p _ _ (by omega) (by omega) hne]
      rw [List.length_append, List.length_singleton]
      split
      · omega
      · split <;> omega) (by simp; omega) (by omega)
    rw [List.append_assoc, List.singleton_append] at this
    rw [this, incL, ha, hbb, Int.toNat_natCast, Int.toNat_natCast]
theorem rd_rep (n p : Nat) (x : Int) (hp : p < n) : rd (List.replicate n x) p = x := by
  unfold rd; simp [hp]
theorem cdPairing_eq (n : Nat) (hn : n ≤ 100) (l : List S52) (hp : ∀ c ∈ l, Proper n c) (hl : l.length ≤ 1000) (k : Nat) (hk : l.length + n + 1 < k) : spec_cdPairing.f k n l = some (allOne (incL l (List.replicate n 0))) := by
  unfold spec_cdPairing.f
  rw [if_pos (by omega), if_pos (by omega), Int.toNat_natCast]
  have := cdPairing_loop n hn l k [] (List.replicate n 0) (by simp) hp (fun p hpn => by rw [rd_rep n p 0 hpn]; simp) (by simpa using hl) hk
  simpa using this
/-- The program's joined points tell the same. -/
theorem join_inc (n : Nat) : ∀ (m : List S52) (xs t : List Int), xs.length = n → t.length = n → (∀ p : Nat, p < n → (rd t p = 0 ∧ rd xs p = -1) ∨ (rd t p = 1 ∧ 0 ≤ rd xs p)) → (∀ c ∈ m, Proper n c) →
    (joinL m xs = some none ∧ allOne (incL m t) = false) ∨ ∃ ys, joinL m xs = some (some ys) ∧ ys.length = n ∧ (allOne (incL m t) = !decide ((-1 : Int) ∈ ys))
  | [], xs, t, hx, ht, hI, _ => by
    refine .inr ⟨xs, rfl, hx, ?_⟩
    by_cases h : (-1 : Int) ∈ xs
    · rw [decide_eq_true h]
      obtain ⟨i, hi, he⟩ := List.getElem_of_mem h
      rw [rdN] at he
      have := hI i (by omega)
      cases h2 : allOne (incL [] t) with
      | false => rfl
      | true =>
        have := (allOne_iff t).1 h2 i (by omega)
        omega
    · rw [decide_eq_false h]
      refine (allOne_iff t).2 fun i hi => ?_
      rcases hI i (by omega) with h1 | h1
      · refine absurd ?_ h
        rw [← h1.2, ← rdN xs i (by omega)]
        exact List.getElem_mem _
      · exact h1.1
  | c :: m, xs, t, hx, ht, hI, hp => by
    obtain ⟨h0, h1, h2⟩ := hp c (by simp)
    obtain ⟨a, ha⟩ : ∃ a : Nat, c.f0 = a := ⟨c.f0.toNat, by omega⟩
    obtain ⟨b, hb⟩ : ∃ b : Nat, c.f1 = b := ⟨c.f1.toNat, by omega⟩
    have hne : a ≠ b := by omega
    have hm : ∀ d ∈ m, Proper n d := fun d hd => hp d (by simp [hd])
    simp only [joinL, incL, ha, hb, Int.toNat_natCast]
    rw [if_pos (by omega)]
    have hset : ∀ p : Nat, rd ((t.set a (rd t a + 1)).set b (rd t b + 1)) p = if p = b then rd t b + 1 else if p = a then rd t a + 1 else rd t p := fun p => rd_two t a b p _ _ (by omega) (by omega) hne
    have hsx : ∀ p : Nat, rd ((xs.set a b).set b a) p = if p = b then (a : Int) else if p = a then (b : Int) else rd xs p := fun p => rd_two xs a b p _ _ (by omega) (by omega) hne
    have hl2 : ((t.set a (rd t a + 1)).set b (rd t b + 1)).length = n := by simp [ht]
    by_cases hv : rd xs a ≥ 0 ∨ rd xs b ≥ 0
    · rw [if_pos hv]
      refine .inl ⟨rfl, ?_⟩
      cases h3 : allOne (incL m ((t.set a (rd t a + 1)).set b (rd t b + 1))) with
      | false => rfl
      | true =>
        have h4 := (allOne_iff _).1 h3
        rw [incL_len, hl2] at h4
        have m1 := incL_mono n m _ hl2 hm a (by omega)
        have m2 := incL_mono n m _ hl2 hm b (by omega)
        rw [h4 a (by omega), hset, if_neg hne, if_pos rfl] at m1
        rw [h4 b (by omega), hset, if_pos rfl] at m2
        have i1 := hI a (by omega)
        have i2 := hI b (by omega)
        omega
    · rw [if_neg hv]
      refine join_inc n m _ _ (by simp [hx]) hl2 (fun p hpn => ?_) hm
      rw [hset, hsx]
      have i1 := hI a (by omega)
      have i2 := hI b (by omega)
      have i3 := hI p hpn
      by_cases q1 : p = b
      · rw [if_pos q1, if_pos q1]; omega
      · rw [if_neg q1, if_neg q1]
        by_cases q2 : p = a
        · rw [if_pos q2, if_pos q2]; omega
        · rw [if_neg q2, if_neg q2]; exact i3
theorem contains_loop (l : List Int) (x : Int) (hl : l.length ≤ 1000000000) (d : Nat) : ∀ (k i : Nat), i + d = l.length → d < k → ∃ r, slices_Index_int_int.l0 k l x l.length i = some r ∧ (decide (r ≥ 0) = decide (x ∈ l.drop i)) := by
  induction d with
  | zero =>
    intro k i hd hk
    obtain ⟨k, rfl⟩ : ∃ m, k = m + 1 := ⟨k - 1, by omega⟩
    simp only [slices_Index_int_int.l0]
    rw [if_neg (by omega), List.drop_of_length_le (by omega)]
    exact ⟨_, rfl, by simp⟩
  | succ d ih =>
    intro k i hd hk
    obtain ⟨k, rfl⟩ : ∃ m, k = m + 1 := ⟨k - 1, by omega⟩
    simp only [slices_Index_int_int.l0]
    have hi : i < l.length := by omega
    rw [if_pos (by omega), if_pos (by omega), if_pos (by omega), List.drop_eq_getElem_cons hi, rdN l i hi]
    by_cases h : x = rd l i
    · rw [if_pos h]
      exact ⟨_, rfl, by simp [h]⟩
    · rw [if_neg h, wrap_step (by omega) (by omega)]
      obtain ⟨r, h1, h2⟩ := ih k (i + 1) (by omega) (by omega)
      rw [show ((i + 1 : Nat) : Int) = (i : Int) + 1 by omega] at h1
      exact ⟨r, h1, by rw [h2]; simp [h]⟩
theorem contains_eq (l : List Int) (x : Int) (hl : l.length ≤ 1000000000) (k : Nat) (hk : l.length < k) : slices_Contains_int_int.f k l x = some (decide (x ∈ l)) := by
  unfold slices_Contains_int_int.f slices_Index_int_int.f
  obtain ⟨r, h1, h2⟩ := contains_loop l x hl l.length k 0 (by omega) hk
  rw [List.drop_zero] at h2
  simp only [Int.natCast_zero] at h1
  rw [h1, Option.bind_some, h2]
theorem repeat_eq (n : Nat) (h : 1 ≤ n) (hn : n ≤ 100) : slices_Repeat_int_int.f [-1] n = some (List.replicate n (-1)) := by
  unfold slices_Repeat_int_int.f
  simp only
  rw [if_pos (by omega)]
  rfl
theorem partners_eq (n : Nat) (h1 : 1 ≤ n) (hn : n ≤ 100) (l : List S52) (hp : ∀ c ∈ l, Proper n c) (k : Nat) (hk : n < k) :
    (impl_partners.f k n l = some ([], false) ∧ allOne (incL l (List.replicate n 0)) = false) ∨ ∃ ys, joinL l (List.replicate n (-1)) = some (some ys) ∧ ys.length = n ∧ impl_partners.f k n l = some (ys, allOne (incL l (List.replicate n 0))) := by
  unfold impl_partners.f
  rw [repeat_eq n h1 hn, Option.bind_some]
  rcases join_inc n l (List.replicate n (-1)) (List.replicate n 0) (by simp) (by simp) (fun p hpn => .inl ⟨rd_rep _ _ _ hpn, rd_rep _ _ _ hpn⟩) hp with ⟨e, h⟩ | ⟨ys, e, hy, h⟩
  · rw [e]; exact .inl ⟨rfl, h⟩
  · rw [e, Option.bind_some]
    refine .inr ⟨ys, rfl, hy, ?_⟩
    simp only
    rw [contains_eq ys (-1) (by omega) k (by omega), Option.bind_some, h]

end Go.Proofs.Ytkiookioejckbaa.Q
