/- Pairings counted by the reference: its recursion comes to the same. -/
import Derived.Test.YtkiookioejckbaaBWays
import Derived.Test.YtkiookioejckbaaBSrCount
import Derived.Test.YtkiookioejckbaaXx25
import Derived.Test.YtkiookioejckbaaXx26
namespace Go.Proofs.Ytkiookioejckbaa.Q
open Go.RowKit Go.Proofs.Ytkiookioejckbaa.X Go.Proofs.YtkiookioejckbaaW.PrintWords Go.Proofs.YtkiookioejckbaaW.PrintLast Go.Proofs.YtkiookioejckbaaW.PrintMore
set_option linter.unusedVariables false
set_option linter.unusedSimpArgs false

/-- The m points from j on that are not used. -/
def freeF (used : List Bool) : Int → Nat → List Int
  | _, 0 => []
  | j, m + 1 => if rdOf false used j = true then freeF used (j + 1) m else j :: freeF used (j + 1) m
theorem freeF_ge (used : List Bool) : ∀ (m : Nat) (j : Int), ∀ x ∈ freeF used j m, j ≤ x ∧ x < j + m
  | 0, j, x, h => by simp [freeF] at h
  | m + 1, j, x, h => by
    simp only [freeF] at h
    split at h
    · have := freeF_ge used m (j + 1) x h
      omega
    · rcases List.mem_cons.1 h with rfl | h
      · omega
      · have := freeF_ge used m (j + 1) x h
        omega
theorem freeF_sorted (used : List Bool) : ∀ (m : Nat) (j : Int), (freeF used j m).Pairwise (· < ·)
  | 0, j => List.Pairwise.nil
  | m + 1, j => by
    simp only [freeF]
    split
    · exact freeF_sorted used m (j + 1)
    · refine List.Pairwise.cons (fun x hx => ?_) (freeF_sorted used m (j + 1))
      have := freeF_ge used m (j + 1) x hx
      omega
theorem rdOf_set (used : List Bool) (i j : Int) (hi : 0 ≤ i) (hj : 0 ≤ j) (hl : i < used.length) (b : Bool) : rdOf false (used.set i.toNat b) j = if j = i then b else rdOf false used j := by
  unfold rdOf
  rw [List.getD_eq_getElem?_getD, List.getD_eq_getElem?_getD, List.getElem?_set]
  by_cases h : j = i
  · subst h
    rw [if_pos rfl, if_pos (by omega), if_pos rfl]
    rfl
  · rw [if_neg (by omega), if_neg h]
theorem freeF_set (used : List Bool) (i : Int) (hi : 0 ≤ i) (hl : i < used.length) : ∀ (m : Nat) (j : Int), 0 ≤ j → freeF (used.set i.toNat true) j m = (freeF used j m).filter (fun x => x != i)
  | 0, j, _ => rfl
  | m + 1, j, hj => by
    have ih := freeF_set used i hi hl m (j + 1) (by omega)
    simp only [freeF]
    rw [rdOf_set used i j hi hj hl]
    by_cases h : j = i
    · rw [if_pos h, if_pos rfl, ih]
      split
      · rfl
      · rw [List.filter_cons_of_neg (by simp [h])]
    · rw [if_neg h]
      split
      · exact ih
      · rw [List.filter_cons_of_pos (by simp [h]), ih]
theorem filter_out (A B : List Int) (x : Int) (h : (A ++ x :: B).Pairwise (· < ·)) : (A ++ x :: B).filter (fun y => y != x) = A ++ B := by
  rw [List.pairwise_append] at h
  obtain ⟨_, h2, h3⟩ := h
  rw [List.pairwise_cons] at h2
  rw [List.filter_append, List.filter_cons_of_neg (by simp)]
  congr 1
  · refine List.filter_eq_self.2 fun y hy => ?_
    have := h3 y hy x (by simp)
    simp; omega
  · refine List.filter_eq_self.2 fun y hy => ?_
    have := h2.1 y hy
    simp; omega
theorem set_back (used : List Bool) (i : Int) (hi : 0 ≤ i) (hl : i < used.length) (hf : rdOf false used i = false) : (used.set i.toNat true).set i.toNat false = used := by
  rw [List.set_set]
  apply List.ext_getElem?
  intro q
  rw [List.getElem?_set]
  split
  · rename_i h
    subst h
    unfold rdOf at hf
    rw [List.getD_eq_getElem?_getD] at hf
    have hlt : i.toNat < used.length := by omega
    rw [List.getElem?_eq_getElem hlt] at hf ⊢
    rw [if_pos hlt]
    simp at hf
    rw [hf]
  · rfl
/-- The search for the first free point. -/
theorem cdFirst (n crs : Int) (used : List Bool) (list : List S52) (hu : (used.length : Int) = n) (hn : n ≤ 12) : ∀ (m : Nat) (k : Nat) (j : Int), 0 ≤ j → j + m = n → m < k →
    (freeF used j m = [] ∧ ∃ k', k ≤ k' + m + 1 ∧ spec_cdCount.l0 k n crs used list j = spec_cdCount.j1 k' n crs used list n) ∨
    (∃ (a : Int) (q : Nat) (k' : Nat), j ≤ a ∧ a + 1 + q = n ∧ rdOf false used a = false ∧ freeF used j m = a :: freeF used (a + 1) q ∧ k ≤ k' + m + 1 ∧ spec_cdCount.l0 k n crs used list j = spec_cdCount.j1 k' n crs used list a) := by
  intro m
  induction m with
  | zero =>
    intro k j h0 h1 hk
    obtain ⟨k, rfl⟩ : ∃ t, k = t + 1 := ⟨k - 1, by omega⟩
    obtain rfl : j = n := by omega
    refine .inl ⟨rfl, k, by omega, ?_⟩
    simp only [spec_cdCount.l0]
    rw [if_neg (by omega)]
  | succ m ih =>
    intro k j h0 h1 hk
    obtain ⟨k, rfl⟩ : ∃ t, k = t + 1 := ⟨k - 1, by omega⟩
    have g1 : j < n := by omega
    have g2 : j < (used.length : Int) := by omega
    simp only [spec_cdCount.l0, freeF]
    rw [if_pos g1, if_pos h0, if_pos g2]
    by_cases hr : rdOf false used j = true
    · simp only [if_pos hr]
      rw [wrap64_id (by omega) (by omega)]
      rcases ih k (j + 1) (by omega) (by omega) (by omega) with ⟨e1, k', e2, e3⟩ | ⟨a, q, k', e1, e2, e3, e4, e5, e6⟩
      · exact .inl ⟨e1, k', by omega, e3⟩
      · exact .inr ⟨a, q, k', by omega, e2, e3, e4, by omega, e6⟩
    · simp only [if_neg hr]
      exact .inr ⟨j, m, k, by omega, by omega, by simpa using hr, rfl, by omega, rfl⟩
theorem cdCount_eq (n crs : Int) (hn : 0 ≤ n ∧ n ≤ 12) : ∀ (d : Nat) (used : List Bool) (list : List S52) (k : Nat), (used.length : Int) = n → (freeF used 0 n.toNat).length < d → d ≤ 13 → (freeF used 0 n.toNat).length ≤ 12 → list.length + (freeF used 0 n.toNat).length ≤ 12 → (∀ c ∈ list, Proper n c) → 40 * d + 3000 < k →
    spec_cdCount.f k n crs used list = some (ways crs d (freeF used 0 n.toNat) list, used) := by
  intro d
  induction d with
  | zero => intro used list k _ h; omega
  | succ d ih =>
    intro used list k hu hd hd13 hfl hsum hl hk
    obtain ⟨k, rfl⟩ : ∃ t, k = t + 1 := ⟨k - 1, by omega⟩
    simp only [spec_cdCount.f]
    rcases cdFirst n crs used list hu hn.2 n.toNat k 0 (by omega) (by omega) (by omega) with ⟨e1, k', e2, e3⟩ | ⟨a, q, k', a0, a1, a2, e1, e2, e3⟩
    · rw [e3, e1]
      obtain ⟨k', rfl⟩ : ∃ t, k' = t + 1 := ⟨k' - 1, by omega⟩
      have hll : list.length * (list.length + 3) ≤ 200 := Nat.le_trans (Nat.mul_le_mul (show list.length ≤ 12 by omega) (show list.length + 3 ≤ 15 by omega)) (by omega)
      simp only [spec_cdCount.j1, ways]
      rw [if_pos trivial, srCount_eq list (by omega) k' (by omega)]
      simp only [Option.bind_some]
      split <;> rfl
    · rw [e3]
      have hS := freeF_sorted used n.toNat 0
      have hG := freeF_ge used n.toNat 0
      have hP : Pts n (freeF used 0 n.toNat) := ⟨hS, fun x hx => by have := hG x hx; omega⟩
      rw [e1] at hd hfl hsum hP hS ⊢
      obtain ⟨k', rfl⟩ : ∃ t, k' = t + 1 := ⟨k' - 1, by omega⟩
      have ha : a < (used.length : Int) := by omega
      simp only [spec_cdCount.j1, List.length_cons] at hd hfl hsum ⊢
      rw [if_neg (by omega), if_pos (by omega), if_pos ha, wrap64_id (by omega) (by omega)]
      have hpw0 := pow12 d (by omega)
      obtain ⟨Q, hQ⟩ : ∃ Q : Int, (12 : Int) ^ d = Q := ⟨_, rfl⟩
      rw [hQ] at hpw0
      obtain ⟨hpw, hpw1⟩ := hpw0
      have hQH := Aside0.mk hQ
      clear hQ
      have loop : ∀ (m : Nat) (pre : List Int) (j cnt : Int) (k : Nat), a < j → j + m = n → freeF used (a + 1) q = pre ++ freeF used j m → 0 ≤ cnt → cnt ≤ pre.length * Q → 40 * d + 3000 + m + 1 < k →
          spec_cdCount.l1 k n crs (used.set a.toNat true) list a cnt j = some (cnt + sumS (fun lf x => ways crs d lf (list ++ [⟨a, x⟩])) pre (freeF used j m), used) := by
        intro m
        induction m with
        | zero =>
          intro pre j cnt k h0 h1 hf hc0 hc1 hk
          obtain ⟨k, rfl⟩ : ∃ t, k = t + 1 := ⟨k - 1, by omega⟩
          simp only [spec_cdCount.l1, freeF, sumS]
          rw [if_neg (by omega), if_pos (by omega), if_pos (by rw [List.length_set]; omega), set_back used a (by omega) ha a2]
          simp
        | succ m ihm =>
          intro pre j cnt k h0 h1 hf hc0 hc1 hk
          obtain ⟨k, rfl⟩ : ∃ t, k = t + 1 := ⟨k - 1, by omega⟩
          have hrd : rdOf false (used.set a.toNat true) j = rdOf false used j := by rw [rdOf_set used a j (by omega) (by omega) ha, if_neg (by omega)]
          simp only [spec_cdCount.l1]
          rw [if_pos (by omega), if_pos (by omega), if_pos (by rw [List.length_set]; omega), hrd, wrap64_id (x := j + 1) (by omega) (by omega)]
          simp only [freeF] at hf ⊢
          by_cases hr : rdOf false used j = true
          · rw [if_pos hr] at hf ⊢
            rw [if_pos hr]
            exact ihm pre (j + 1) cnt k (by omega) (by omega) hf hc0 hc1 (by omega)
          · rw [if_neg hr] at hf ⊢
            rw [if_neg hr]
            have hfa : freeF used 0 n.toNat = a :: (pre ++ j :: freeF used (j + 1) m) := by rw [e1, hf]
            have hPa : Pts n (a :: (pre ++ j :: freeF used (j + 1) m)) := by rw [← hf]; exact hP
            obtain ⟨p1, p2⟩ := pts_split hPa
            have hlen : (freeF used (a + 1) q).length = pre.length + (freeF used (j + 1) m).length + 1 := by rw [hf]; simp; omega
            have hj : j < ((used.set a.toNat true).length : Int) := by rw [List.length_set]; omega
            have hff : freeF ((used.set a.toNat true).set j.toNat true) 0 n.toNat = pre ++ freeF used (j + 1) m := by
              rw [freeF_set (used.set a.toNat true) j (by omega) hj n.toNat 0 (by omega), freeF_set used a (by omega) ha n.toNat 0 (by omega), hfa]
              have h1 := hPa.1
              have h2 := filter_out [] (pre ++ j :: freeF used (j + 1) m) a h1
              rw [List.nil_append, List.nil_append] at h2
              rw [h2]
              exact filter_out _ _ _ (List.pairwise_cons.1 h1).2
            have c1 := ih ((used.set a.toNat true).set j.toNat true) (list ++ [⟨a, j⟩]) k (by simpa using hu) (by rw [hff, List.length_append]; omega) (by omega) (by rw [hff, List.length_append]; omega) (by rw [hff, List.length_append, List.length_append]; simp; omega) (fun c hc => by
              rcases List.mem_append.1 hc with hc | hc
              · exact hl c hc
              · rw [List.mem_singleton.1 hc]; exact p2) (by omega)
            rw [hff] at c1
            have hb := ways_bound crs d (pre ++ freeF used (j + 1) m) (list ++ [⟨a, j⟩]) (by rw [List.length_append]; omega)
            rw [hQH.out] at hb
            have hmul : (pre.length : Int) * Q ≤ 12 * Q := Int.mul_le_mul_of_nonneg_right (by omega) (by omega)
            have e4 := Aside0.mk (show wrap64 (cnt + ways crs d (pre ++ freeF used (j + 1) m) (list ++ [⟨a, j⟩])) = cnt + ways crs d (pre ++ freeF used (j + 1) m) (list ++ [⟨a, j⟩]) from wrap64_id (by omega) (by omega))
            have hsb : ((used.set a.toNat true).set j.toNat true).set j.toNat false = used.set a.toNat true := set_back _ j (by omega) hj (by rw [hrd]; simpa using hr)
            have IH := ihm (pre ++ [j]) (j + 1) (cnt + ways crs d (pre ++ freeF used (j + 1) m) (list ++ [⟨a, j⟩])) k (by omega) (by omega) (by rw [hf]; simp) (by omega) (by
              rw [List.length_append, List.length_singleton, Int.natCast_add, Int.add_mul]
              have : ((1 : Nat) : Int) * Q = Q := by simp
              omega) (by omega)
            have g1 : ([] : List S52).length + list.length < 8796093022208 := by simp; omega
            have g2 : list.length < 8796093022208 := by omega
            simp only [Option.bind_some, if_pos g1, List.nil_append, if_pos g2]
            rw [c1]
            simp only [Option.bind_some, hsb, e4.out]
            rw [IH]
            simp only [sumS]
            refine congrArg some ?_
            rw [Int.add_assoc]
      have := loop q [] (a + 1) 0 k' (by omega) (by omega) rfl (by omega) (by simp) (by omega)
      rw [this]
      simp only [ways, Int.zero_add]

end Go.Proofs.Ytkiookioejckbaa.Q
