/- Where a word leads: reference and program tell the same points and the same last direction. -/
import Derived.Test.YtlnjfbnabjgffaaDoorBWord
import Derived.Test.YtlnjfbnabjgffaaDoorXx6
import Derived.Test.YtlnjfbnabjgffaaDoorXx9
import Derived.Test.YtlnjfbnabjgffaaDoorXx10
namespace Go.Proofs.YtlnjfbnabjgffaaDoor.Q
open Go.RowKit Go.Proofs.YtlnjfbnabjgffaaDoor.X Go.Proofs.YtlnjfbnabjgffaaDoorW.PrintWords Go.Proofs.YtlnjfbnabjgffaaDoorW.PrintLast Go.Proofs.YtlnjfbnabjgffaaDoorW.PrintMore
set_option linter.unusedVariables false
set_option linter.unusedSimpArgs false

def stepS (g : Int) (s : Int × Int × Int) (b : UInt8) : Int × Int × Int :=
  if b = 70 then (s.1 + rd (rd_L4 (wayL g) s.2.2) 0, s.2.1 + rd (rd_L4 (wayL g) s.2.2) 1, s.2.2)
  else if b = 76 then (s.1, s.2.1, (s.2.2 + 1) % g) else (s.1, s.2.1, (s.2.2 + g - 1) % g)
def endS (g : Int) (l : List UInt8) (s : Int × Int × Int) : Int × Int × Int := l.foldl (stepS g) s
/-- The points behind each F. -/
def ptsL (g : Int) : List UInt8 → Int × Int × Int → List (List Int)
  | [], _ => []
  | b :: l, s => if b = 70 then [(stepS g s b).1, (stepS g s b).2.1] :: ptsL g l (stepS g s b) else ptsL g l (stepS g s b)
theorem endS_cons (g : Int) (b : UInt8) (l : List UInt8) (s : Int × Int × Int) : endS g (b :: l) s = endS g l (stepS g s b) := rfl
theorem way_props (g d : Int) (hg : g = 4 ∨ g = 6) (h0 : 0 ≤ d) (h1 : d < g) : spec_paWay.f g d = some (rd_L4 (wayL g) d) ∧ ((wayL g).length : Int) = g ∧ (rd_L4 (wayL g) d).length = 2 ∧
    -1 ≤ rd (rd_L4 (wayL g) d) 0 ∧ rd (rd_L4 (wayL g) d) 0 ≤ 1 ∧ -1 ≤ rd (rd_L4 (wayL g) d) 1 ∧ rd (rd_L4 (wayL g) d) 1 ≤ 1 := by
  rcases hg with rfl | rfl
  · rcases (show d = 0 ∨ d = 1 ∨ d = 2 ∨ d = 3 by omega) with rfl | rfl | rfl | rfl <;> exact ⟨rfl, rfl, rfl, by decide, by decide, by decide, by decide⟩
  · rcases (show d = 0 ∨ d = 1 ∨ d = 2 ∨ d = 3 ∨ d = 4 ∨ d = 5 by omega) with rfl | rfl | rfl | rfl | rfl | rfl <;> exact ⟨rfl, rfl, rfl, by decide, by decide, by decide, by decide⟩
/-- A state within m of the first point. -/
def Near (g : Int) (s : Int × Int × Int) (m : Int) : Prop := -m ≤ s.1 ∧ s.1 ≤ m ∧ -m ≤ s.2.1 ∧ s.2.1 ≤ m ∧ 0 ≤ s.2.2 ∧ s.2.2 < g
theorem near_step {g : Int} {s : Int × Int × Int} {m : Int} (hg : g = 4 ∨ g = 6) (h : Near g s m) (b : UInt8) : Near g (stepS g s b) (m + 1) := by
  obtain ⟨h1, h2, h3, h4, h5, h6⟩ := h
  obtain ⟨_, _, _, w1, w2, w3, w4⟩ := way_props g s.2.2 hg h5 h6
  have hm1 := Int.emod_nonneg (s.2.2 + 1) (show g ≠ 0 by omega)
  have hm2 := Int.emod_lt_of_pos (s.2.2 + 1) (show 0 < g by omega)
  have hm3 := Int.emod_nonneg (s.2.2 + g - 1) (show g ≠ 0 by omega)
  have hm4 := Int.emod_lt_of_pos (s.2.2 + g - 1) (show 0 < g by omega)
  unfold stepS Near
  by_cases b1 : b = 70
  · rw [if_pos b1]
    exact ⟨by show _ ≤ s.1 + _; omega, by show s.1 + _ ≤ _; omega, by show _ ≤ s.2.1 + _; omega, by show s.2.1 + _ ≤ _; omega, h5, h6⟩
  · rw [if_neg b1]
    by_cases b2 : b = 76
    · rw [if_pos b2]; exact ⟨by show _ ≤ s.1; omega, by show s.1 ≤ _; omega, by show _ ≤ s.2.1; omega, by show s.2.1 ≤ _; omega, hm1, hm2⟩
    · rw [if_neg b2]; exact ⟨by show _ ≤ s.1; omega, by show s.1 ≤ _; omega, by show _ ≤ s.2.1; omega, by show s.2.1 ≤ _; omega, hm3, hm4⟩
theorem near_end {g : Int} (hg : g = 4 ∨ g = 6) : ∀ (l : List UInt8) (s : Int × Int × Int) (m : Int), Near g s m → Near g (endS g l s) (m + l.length)
  | [], s, m, h => by
    show Near g s (m + (0 : Nat))
    simpa using h
  | b :: l, s, m, h => by
    have := near_end hg l (stepS g s b) (m + 1) (near_step hg h b)
    rw [endS_cons, List.length_cons]
    have e : m + 1 + (l.length : Int) = m + ((l.length + 1 : Nat) : Int) := by omega
    rwa [e] at this
/-- One sign, as the program's walker does it. -/
theorem do_eq (g : Int) (s : Int × Int × Int) (m : Int) (b : UInt8) (hg : g = 4 ∨ g = 6) (h : Near g s m) (hm : m ≤ 1000000) (hb : okB b = true) :
    impl_walker_do.f s.1 s.2.1 s.2.2 g (b.toNat : Int) = some (stepS g s b) := by
  obtain ⟨h1, h2, h3, h4, h5, h6⟩ := h
  obtain ⟨_, w0, _, w1, w2, w3, w4⟩ := way_props g s.2.2 hg h5 h6
  unfold impl_walker_do.f stepS
  simp only [show ∀ d : Int, (wayL g).getD d.toNat ([] : List Int) = rd_L4 (wayL g) d from fun _ => rfl]
  unfold okB at hb
  simp only [Bool.or_eq_true, beq_iff_eq] at hb
  rcases hb with (rfl | rfl) | rfl
  · rw [if_pos (by decide), if_pos ⟨h5, by omega⟩, wrap64_id (by omega) (by omega), wrap64_id (by omega) (by omega), if_pos rfl]
  · rw [if_neg (by decide), if_pos (by decide), if_neg (by omega), wrap64_id (by omega) (by omega), Int.tmod_eq_emod_of_nonneg (by omega), if_neg (by decide), if_pos rfl]
  · rw [if_neg (by decide), if_neg (by decide), if_pos (by decide), if_neg (by omega), wrap64_id (x := s.2.2 + g) (by omega) (by omega), wrap64_id (by omega) (by omega), Int.tmod_eq_emod_of_nonneg (by omega), if_neg (by decide), if_neg (by decide)]
theorem walk_loop (g : Int) (w : ByteArray) (hg : g = 4 ∨ g = 6) (hw : w.size ≤ 1000) (hb : ∀ b ∈ w.data.toList, okB b = true) (d : Nat) : ∀ (k i : Nat) (s : Int × Int × Int) (m : Int) (acc : List (List Int)), i + d = w.size → d < k → Near g s m → m + d ≤ 100000 → acc.length + d ≤ 100000 →
    impl_walk.l0 k g w acc (w.size : Int) (i : Int) s.1 s.2.1 s.2.2 = some (acc ++ ptsL g (w.data.toList.drop i) s, endS g (w.data.toList.drop i) s) := by
  induction d with
  | zero =>
    intro k i s m acc hi hk hN hm ha
    obtain ⟨k, rfl⟩ : ∃ t, k = t + 1 := ⟨k - 1, by omega⟩
    simp only [impl_walk.l0]
    rw [if_neg (by omega), List.drop_eq_nil_of_le (by rw [len_data]; omega)]
    simp [ptsL, endS]
  | succ d ih =>
    intro k i s m acc hi hk hN hm ha
    obtain ⟨k, rfl⟩ : ∃ t, k = t + 1 := ⟨k - 1, by omega⟩
    have hlt : i < w.data.toList.length := by rw [len_data]; omega
    have e1 : wrap64 ((i : Int) + 1) = ((i + 1 : Nat) : Int) := by rw [wrap64_id (by omega) (by omega)]; rfl
    rw [List.drop_eq_getElem_cons hlt]
    have hbm := hb _ (List.getElem_mem hlt)
    simp only [impl_walk.l0]
    rw [if_pos (by omega), if_pos (by omega), if_pos (by omega), bt_get w i (by omega), e1]
    generalize w.data.toList[i] = b at hbm
    rw [do_eq g s m b hg hN (by omega) hbm, Option.bind_some, endS_cons]
    have hS := near_step hg hN b
    by_cases h1 : b = 70
    · have h1' : (b.toNat : Int) = 70 := (u8_eq b 70 (by omega)).2 h1
      rw [if_pos h1', if_pos (by omega), ih k (i + 1) (stepS g s b) (m + 1) _ (by omega) (by omega) hS (by omega) (by rw [List.length_append]; simp; omega)]
      simp only [ptsL, if_pos h1, List.append_assoc, List.singleton_append]
    · have h1' : ¬ (b.toNat : Int) = 70 := fun e => h1 ((u8_eq b 70 (by omega)).1 e)
      rw [if_neg h1', ih k (i + 1) (stepS g s b) (m + 1) _ (by omega) (by omega) hS (by omega) (by omega)]
      simp only [ptsL, if_neg h1]
theorem path_loop (g : Int) (w : ByteArray) (hg : g = 4 ∨ g = 6) (hw : w.size ≤ 1000) (hb : ∀ b ∈ w.data.toList, okB b = true) (d : Nat) : ∀ (k i : Nat) (s : Int × Int × Int) (m : Int) (acc : List (List Int)), i + d = w.size → d < k → Near g s m → m + d ≤ 100000 → acc.length + d ≤ 100000 →
    spec_paPath.l0 k g w s.1 s.2.1 s.2.2 acc (i : Int) = some (acc ++ ptsL g (w.data.toList.drop i) s, (endS g (w.data.toList.drop i) s).2.2) := by
  induction d with
  | zero =>
    intro k i s m acc hi hk hN hm ha
    obtain ⟨k, rfl⟩ : ∃ t, k = t + 1 := ⟨k - 1, by omega⟩
    simp only [spec_paPath.l0]
    rw [if_neg (by omega), List.drop_eq_nil_of_le (by rw [len_data]; omega)]
    simp [ptsL, endS]
  | succ d ih =>
    intro k i s m acc hi hk hN hm ha
    obtain ⟨k, rfl⟩ : ∃ t, k = t + 1 := ⟨k - 1, by omega⟩
    have hlt : i < w.data.toList.length := by rw [len_data]; omega
    have e1 : wrap64 ((i : Int) + 1) = ((i + 1 : Nat) : Int) := by rw [wrap64_id (by omega) (by omega)]; rfl
    rw [List.drop_eq_getElem_cons hlt]
    have hbm := hb _ (List.getElem_mem hlt)
    simp only [spec_paPath.l0]
    rw [if_pos (by omega), if_pos (by omega), bt_get w i (by omega), e1]
    generalize w.data.toList[i] = b at hbm
    have hS := near_step hg hN b
    rw [endS_cons]
    obtain ⟨h1, h2, h3, h4, h5, h6⟩ := hN
    obtain ⟨w0, _, wl, w1, w2, w3, w4⟩ := way_props g s.2.2 hg h5 h6
    unfold okB at hbm
    simp only [Bool.or_eq_true, beq_iff_eq] at hbm
    rcases hbm with (rfl | rfl) | rfl
    · rw [if_pos (by decide), w0, Option.bind_some, if_pos (by omega), if_pos (by omega), if_pos (by omega), wrap64_id (by omega) (by omega), wrap64_id (by omega) (by omega)]
      have := ih k (i + 1) (stepS g s 70) (m + 1) (acc ++ [[(stepS g s 70).1, (stepS g s 70).2.1]]) (by omega) (by omega) hS (by omega) (by rw [List.length_append]; simp; omega)
      simp only [ptsL, if_true]
      rw [show ∀ z : List (List Int), acc ++ ([(stepS g s 70).1, (stepS g s 70).2.1] :: z) = acc ++ [[(stepS g s 70).1, (stepS g s 70).2.1]] ++ z from fun z => by simp]
      exact this
    · rw [if_neg (by decide), if_pos (by decide), if_neg (by omega), wrap64_id (by omega) (by omega), Int.tmod_eq_emod_of_nonneg (by omega)]
      have := ih k (i + 1) (stepS g s 76) (m + 1) acc (by omega) (by omega) hS (by omega) (by omega)
      simp only [ptsL]
      rw [if_neg (by decide)]
      exact this
    · rw [if_neg (by decide), if_neg (by decide), if_neg (by omega), wrap64_id (x := s.2.2 + g) (by omega) (by omega), wrap64_id (by omega) (by omega), Int.tmod_eq_emod_of_nonneg (by omega)]
      have := ih k (i + 1) (stepS g s 82) (m + 1) acc (by omega) (by omega) hS (by omega) (by omega)
      simp only [ptsL]
      rw [if_neg (by decide)]
      exact this
/-- All points. -/
def pathL (g : Int) (w : ByteArray) (s : Int × Int × Int) : List (List Int) := [s.1, s.2.1] :: ptsL g w.data.toList s
def z3 : Int × Int × Int := (0, 0, 0)
theorem near_z3 {g : Int} (hg : g = 4 ∨ g = 6) : Near g z3 0 := ⟨by decide, by decide, by decide, by decide, by decide, by show (0 : Int) < g; omega⟩
theorem walk_eq (g : Int) (w : ByteArray) (s : Int × Int × Int) (m : Int) (hg : g = 4 ∨ g = 6) (hw : w.size ≤ 1000) (hb : ∀ b ∈ w.data.toList, okB b = true) (hN : Near g s m) (hm : m ≤ 10000) (k : Nat) (hk : 1001 ≤ k) :
    impl_walk.f k g w s.1 s.2.1 s.2.2 = some (pathL g w s, endS g w.data.toList s) := by
  unfold impl_walk.f pathL
  have := walk_loop g w hg hw hb w.size k 0 s m [[s.1, s.2.1]] (by omega) (by omega) hN (by omega) (by simp; omega)
  rw [List.drop_zero] at this
  exact this
theorem path_eq (g : Int) (w : ByteArray) (hg : g = 4 ∨ g = 6) (hw : w.size ≤ 1000) (hb : ∀ b ∈ w.data.toList, okB b = true) (k : Nat) (hk : 1001 ≤ k) :
    spec_paPath.f k g w = some (pathL g w z3, (endS g w.data.toList z3).2.2) := by
  unfold spec_paPath.f pathL
  have := path_loop g w hg hw hb w.size k 0 z3 0 [[0, 0]] (by omega) (by omega) (near_z3 hg) (by omega) (by simp; omega)
  rw [List.drop_zero] at this
  exact this
theorem pts_last (g : Int) : ∀ (l : List UInt8) (s : Int × Int × Int), ([s.1, s.2.1] :: ptsL g l s).getD (ptsL g l s).length [] = [(endS g l s).1, (endS g l s).2.1]
  | [], s => rfl
  | b :: l, s => by
    have ih := pts_last g l (stepS g s b)
    rw [endS_cons]
    by_cases h : b = 70
    · simp only [ptsL, if_pos h, List.length_cons, List.getD_cons_succ]
      exact ih
    · simp only [ptsL, if_neg h]
      have e : (stepS g s b).1 = s.1 ∧ (stepS g s b).2.1 = s.2.1 := by
        unfold stepS
        rw [if_neg h]
        split <;> exact ⟨rfl, rfl⟩
      rw [e.1, e.2] at ih
      exact ih
theorem pts_len (g : Int) : ∀ (l : List UInt8) (s : Int × Int × Int), (ptsL g l s).length ≤ l.length
  | [], s => Nat.le_refl _
  | b :: l, s => by
    have ih := pts_len g l (stepS g s b)
    simp only [ptsL]
    split <;> simp <;> omega
theorem path_last (g : Int) (w : ByteArray) (s : Int × Int × Int) (hw : w.size ≤ 1000) : wrap64 (((pathL g w s).length : Int) - 1) = ((ptsL g w.data.toList s).length : Int) ∧ rd_L4 (pathL g w s) ((ptsL g w.data.toList s).length : Int) = [(endS g w.data.toList s).1, (endS g w.data.toList s).2.1] := by
  have hl := pts_len g w.data.toList s
  rw [len_data] at hl
  constructor
  · unfold pathL
    rw [List.length_cons, wrap64_id (by omega) (by omega)]
    omega
  · unfold rd_L4
    rw [Int.toNat_natCast]
    exact pts_last g w.data.toList s

end Go.Proofs.YtlnjfbnabjgffaaDoor.Q
