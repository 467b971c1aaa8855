/- StarOnce: the string of a point leads along lines and comes back, and all strings together have each point once. -/
import Derived.Test.YtlnjfbnabjgffaaZFnStarOnce0
namespace Go.Proofs.Ytlnjfbnabjgffaa.Q
open Go.RowKit Go.Proofs.Ytlnjfbnabjgffaa.X Go.Proofs.YtlnjfbnabjgffaaW.PrintWords Go.Proofs.YtlnjfbnabjgffaaW.PrintLast Go.Proofs.YtlnjfbnabjgffaaW.PrintMore
set_option linter.unusedVariables false
set_option linter.unusedSimpArgs false

/-! ### BWrap -/
theorem wrap64_id {x : Int} (h0 : -9223372036854775808 ≤ x) (h1 : x ≤ 9223372036854775807) : wrap64 x = x := by unfold wrap64; omega
theorem wrap_step {x : Int} (h0 : 0 ≤ x) (h1 : x ≤ 4611686018427387904) : wrap64 (x + 1) = x + 1 := by unfold wrap64; omega
/-! ### BBase -/
theorem l1In_eq (a b c : Int) : spec_l1In.f a b c = some (decide (b ≤ a ∧ a ≤ c)) := by
  unfold spec_l1In.f
  by_cases h : a ≥ b
  · rw [if_pos h]; exact congrArg some (decide_eq_decide.2 (by omega))
  · rw [if_neg h]; exact congrArg some (decide_eq_false (by omega)).symm
theorem within_eq (a b c : Int) : impl_within.f a b c = some (decide (b ≤ a ∧ a ≤ c)) := by
  unfold impl_within.f
  by_cases h : a ≥ b
  · rw [if_pos h]; exact congrArg some (decide_eq_decide.2 (by omega))
  · rw [if_neg h]; exact congrArg some (decide_eq_false (by omega)).symm
theorem srPoints_eq (a : Int) : spec_srPoints.f a = some (decide (3 ≤ a ∧ a ≤ 60)) := by
  unfold spec_srPoints.f; rw [l1In_eq]; rfl
theorem isCircle_eq (a : Int) : impl_isCircle.f a = some (decide (3 ≤ a ∧ a ≤ 60)) := by
  unfold impl_isCircle.f; rw [within_eq]; rfl
/-! ### BStar -/
/-- A star: 3 to 60 points, and a step of 1 to one less. -/
def isStar (p s : Int) : Prop := 3 ≤ p ∧ p ≤ 60 ∧ 1 ≤ s ∧ s < p
instance (p s : Int) : Decidable (isStar p s) := by unfold isStar; infer_instance
theorem srGood_eq (p s : Int) : spec_srGood.f p s = some (decide (isStar p s)) := by
  unfold spec_srGood.f isStar
  rw [srPoints_eq]
  simp only [Option.bind_some]
  by_cases h : 3 ≤ p ∧ p ≤ 60
  · rw [if_pos (by simpa using h), l1In_eq]
    simp only [Option.bind_some]
    rw [wrap64_id (by omega) (by omega)]
    exact congrArg some (decide_eq_decide.2 (by omega))
  · rw [if_neg (by simpa using h)]
    exact congrArg some (decide_eq_false (by omega)).symm
theorem implIsStar_eq (p s : Int) : impl_IsStar.f p s = some (decide (isStar p s)) := by
  unfold impl_IsStar.f isStar
  rw [isCircle_eq]
  simp only [Option.bind_some]
  by_cases h : 3 ≤ p ∧ p ≤ 60
  · rw [if_pos (by simpa using h), within_eq]
    simp only [Option.bind_some]
    rw [wrap64_id (by omega) (by omega)]
    exact congrArg some (decide_eq_decide.2 (by omega))
  · rw [if_neg (by simpa using h)]
    exact congrArg some (decide_eq_false (by omega)).symm
/-! ### BGcdI -/
theorem gcd_emod_swap (a b : Int) : Int.gcd b (a % b) = Int.gcd a b := by
  rw [Int.gcd_comm a b, Int.emod_def, show a - b * (a / b) = a + (-(a / b)) * b by rw [Int.sub_eq_add_neg, Int.neg_mul, Int.mul_comm b], Int.gcd_add_mul_right_right]
theorem divisor_gcd (d : Nat) : ∀ (k : Nat) (a b : Int), 0 ≤ a → 0 ≤ b → b.toNat ≤ d → d < k → impl_divisor.l0 k a b = some ((Int.gcd a b : Nat) : Int) := by
  induction d with
  | zero =>
    intro k a b ha hb hd hk
    obtain ⟨k, rfl⟩ : ∃ m, k = m + 1 := ⟨k - 1, by omega⟩
    obtain rfl : b = 0 := by omega
    simp only [impl_divisor.l0]
    rw [if_neg (by omega)]
    simp [Int.gcd]
    omega
  | succ d ih =>
    intro k a b ha hb hd hk
    obtain ⟨k, rfl⟩ : ∃ m, k = m + 1 := ⟨k - 1, by omega⟩
    simp only [impl_divisor.l0]
    by_cases h : b > 0
    · rw [if_pos h, if_neg (by omega)]
      have hm : Int.tmod a b = a % b := Int.tmod_eq_emod_of_nonneg ha
      rw [hm]
      have h1 := Int.emod_nonneg a (show b ≠ 0 by omega)
      have h2 := Int.emod_lt_of_pos a h
      rw [ih k b (a % b) hb h1 (by omega) (by omega)]
      rw [gcd_emod_swap]
    · obtain rfl : b = 0 := by omega
      rw [if_neg h]
      simp [Int.gcd]
      omega
theorem divisor_eq (k : Nat) (a b : Int) (ha : 0 ≤ a) (hb : 0 ≤ b) (hk : b.toNat < k) : impl_divisor.f k a b = some ((Int.gcd a b : Nat) : Int) := by
  unfold impl_divisor.f; exact divisor_gcd b.toNat k a b ha hb (Nat.le_refl _) hk
theorem strings_eq (k : Nat) (a b : Int) (ha : 0 ≤ a) (hb : 0 ≤ b) (hk : b.toNat < k) : impl_Star_strings.f k a b = some ((Int.gcd a b : Nat) : Int) := by
  unfold impl_Star_strings.f; rw [divisor_eq k a b ha hb hk]; rfl
/-! ### BAskI -/
theorem isPoint_eq1 (p s a : Int) : impl_isPoint.f p s [a] = some (decide (isStar p s ∧ 0 ≤ a ∧ a < p)) := by
  unfold impl_isPoint.f impl_isPoint.b
  rw [if_pos (by simp)]
  refine congrArg some ?_
  rw [Bool.eq_iff_iff, decide_eq_true_eq]
  unfold isStar
  simp
theorem isPoint_eq2 (p s a b : Int) : impl_isPoint.f p s [a, b] = some (decide (isStar p s ∧ (0 ≤ a ∧ a < p) ∧ 0 ≤ b ∧ b < p)) := by
  unfold impl_isPoint.f impl_isPoint.b
  rw [if_pos (by simp)]
  refine congrArg some ?_
  rw [Bool.eq_iff_iff, decide_eq_true_eq]
  unfold isStar
  simp
/-! ### BStringI -/
theorem mod_back (p q n : Int) (hp : 0 ≤ p) (hn : p < n) : (p + q) % n = p ↔ q % n = 0 := by
  constructor
  · intro h
    have h1 : (p + q) % n = p % n := by rw [h, Int.emod_eq_of_lt hp hn]
    have h2 := Int.emod_eq_emod_iff_emod_sub_eq_zero.1 h1
    rwa [show p + q - p = q by omega] at h2
  · intro h
    have h1 := Int.emod_eq_emod_iff_emod_sub_eq_zero (m := p + q) (n := n) (k := p) |>.2 (by rwa [show p + q - p = q by omega])
    rw [h1, Int.emod_eq_of_lt hp hn]
theorem least_of (P : Nat → Prop) [DecidablePred P] (n : Nat) (h1 : 1 ≤ n) (hn : P n) : ∃ m, 1 ≤ m ∧ m ≤ n ∧ P m ∧ ∀ i, 1 ≤ i → i < m → ¬ P i := by
  induction n using Nat.strongRecOn with
  | _ n ih =>
    by_cases h : ∃ i, 1 ≤ i ∧ i < n ∧ P i
    · obtain ⟨i, hi1, hi2, hi3⟩ := h
      obtain ⟨m, a, b, c, d⟩ := ih i hi2 hi1 hi3
      exact ⟨m, a, by omega, c, d⟩
    · exact ⟨n, h1, Nat.le_refl _, hn, fun i hi hlt hP => h ⟨i, hi, hlt, hP⟩⟩
/-- The first m points of the string of p. -/
def strL (n s p : Int) (m : Nat) : List Int := (List.range m).map fun (i : Nat) => (p + (i : Int) * s) % n
/-- m lines lead all the way around, and no fewer do. -/
def Around (n s : Int) (m : Nat) : Prop := 1 ≤ m ∧ (m : Int) ≤ n ∧ ((m : Int) * s) % n = 0 ∧ ∀ i : Nat, 1 ≤ i → i < m → ¬ ((i : Int) * s) % n = 0
theorem around_ex (n s : Int) (hn : 3 ≤ n) : ∃ m, Around n s m := by
  obtain ⟨m, h1, h2, h3, h4⟩ := least_of (fun m => ((m : Int) * s) % n = 0) n.toNat (by omega) (by
    show ((n.toNat : Int) * s) % n = 0
    rw [Int.toNat_of_nonneg (by omega)]
    exact Int.mul_emod_right n s)
  exact ⟨m, h1, by omega, h3, h4⟩
theorem strL_succ (n s p : Int) (m : Nat) : strL n s p (m + 1) = strL n s p m ++ [(p + (m : Int) * s) % n] := by
  unfold strL; rw [List.range_succ, List.map_append]; rfl
theorem strL_len (n s p : Int) (m : Nat) : (strL n s p m).length = m := by unfold strL; simp
theorem stringOf_loop (n s p : Int) (m : Nat) (hs : isStar n s) (hp : 0 ≤ p ∧ p < n) (hA : Around n s m) (d : Nat) : ∀ (k j : Nat), 1 ≤ j → j ≤ m → m - j = d → d < k →
    impl_Star_stringOf.l0 k p (strL n s p j) ((p + (j : Int) * s) % n) n s = some (strL n s p m) := by
  unfold isStar at hs
  obtain ⟨a1, a2, a3, a4⟩ := hA
  induction d with
  | zero =>
    intro k j h1 h2 hd hk
    obtain ⟨k, rfl⟩ : ∃ t, k = t + 1 := ⟨k - 1, by omega⟩
    obtain rfl : j = m := by omega
    simp only [impl_Star_stringOf.l0]
    rw [if_pos ((mod_back p _ n hp.1 hp.2).2 a3)]
  | succ d ih =>
    intro k j h1 h2 hd hk
    obtain ⟨k, rfl⟩ : ∃ t, k = t + 1 := ⟨k - 1, by omega⟩
    simp only [impl_Star_stringOf.l0]
    have h3 := a4 j h1 (by omega)
    have b1 := Int.emod_nonneg (p + (j : Int) * s) (show n ≠ 0 by omega)
    have b2 := Int.emod_lt_of_pos (p + (j : Int) * s) (show 0 < n by omega)
    rw [if_neg (fun e => h3 ((mod_back p _ n hp.1 hp.2).1 e)), if_pos (by rw [strL_len]; omega), if_neg (by omega), wrap64_id (by omega) (by omega)]
    have e : Int.tmod ((p + (j : Int) * s) % n + s) n = (p + ((j + 1 : Nat) : Int) * s) % n := by
      rw [Int.tmod_eq_emod_of_nonneg (by omega), Int.emod_add_emod]
      congr 1
      rw [Int.natCast_add, Int.add_mul]
      omega
    rw [e, ← strL_succ]
    exact ih k (j + 1) (by omega) (by omega) (by omega) (by omega)
theorem stringOf_eq (n s p : Int) (m : Nat) (hs : isStar n s) (hp : 0 ≤ p ∧ p < n) (hA : Around n s m) (k : Nat) (hk : 61 ≤ k) : impl_Star_stringOf.f k n s p = some (strL n s p m) := by
  have hs' := hs
  unfold isStar at hs'
  have hm := hA.2.1
  have hm1 := hA.1
  unfold impl_Star_stringOf.f
  rw [if_neg (by omega), wrap64_id (by omega) (by omega)]
  have e : Int.tmod (p + s) n = (p + ((1 : Nat) : Int) * s) % n := by
    rw [Int.tmod_eq_emod_of_nonneg (by omega)]
    congr 1
    omega
  have e1 : ([p] : List Int) = strL n s p 1 := by
    unfold strL
    simp
    rw [Int.emod_eq_of_lt hp.1 hp.2]
  rw [e, e1]
  exact stringOf_loop n s p m hs hp hA (m - 1) k 1 (by omega) (by omega) rfl (by omega)
/-! ### BStrsI -/
/-- The strings of the first g points. -/
def strsL (n s : Int) (m g : Nat) : List (List Int) := (List.range g).map fun (i : Nat) => strL n s (i : Int) m
theorem strsL_snoc (n s : Int) (m i : Nat) : strsL n s m (i + 1) = strsL n s m i ++ [strL n s (i : Int) m] := by
  unfold strsL
  rw [List.range_succ, List.map_append]
  rfl
theorem strsL_len (n s : Int) (m g : Nat) : (strsL n s m g).length = g := by unfold strsL; simp
theorem implStrings_loop (n s : Int) (m g : Nat) (hs : isStar n s) (hA : Around n s m) (hgn : (g : Int) < n) (d : Nat) : ∀ (k i : Nat), i + d = g → 200 + d < k →
    impl_StringsOf.l0 k (strsL n s m i) (g : Int) (i : Int) n s = some (strsL n s m g, true) := by
  have hs' := hs
  unfold isStar at hs'
  induction d with
  | zero =>
    intro k i hi hk
    obtain ⟨k, rfl⟩ : ∃ t, k = t + 1 := ⟨k - 1, by omega⟩
    simp only [impl_StringsOf.l0]
    rw [if_neg (by omega), show i = g by omega]
  | succ d ih =>
    intro k i hi hk
    obtain ⟨k, rfl⟩ : ∃ t, k = t + 1 := ⟨k - 1, by omega⟩
    have e1 : wrap64 ((i : Int) + 1) = ((i + 1 : Nat) : Int) := by rw [wrap64_id (by omega) (by omega)]; rfl
    have hl := strsL_len n s m i
    simp only [impl_StringsOf.l0]
    rw [if_pos (by omega), stringOf_eq n s (i : Int) m hs ⟨by omega, by omega⟩ hA k (by omega), Option.bind_some, if_pos (by omega), ← strsL_snoc, e1]
    exact ih k (i + 1) (by omega) (by omega)
/-! ### BOnce -/
/-- So many lines lead around as there are points in a string: n / gcd. -/
theorem around_mul (n s : Int) (m : Nat) (hs : isStar n s) (hA : Around n s m) : m * Int.gcd n s = n.toNat := by
  obtain ⟨a1, a2, a3, a4⟩ := hA
  unfold isStar at hs
  obtain ⟨N, rfl⟩ : ∃ N : Nat, n = (N : Int) := ⟨n.toNat, by omega⟩
  obtain ⟨S, rfl⟩ : ∃ S : Nat, s = (S : Int) := ⟨s.toNat, by omega⟩
  have hg : Int.gcd (N : Int) (S : Int) = Nat.gcd N S := rfl
  rw [hg, Int.toNat_natCast]
  have b3 : N ∣ m * S := by
    have h := Int.dvd_of_emod_eq_zero a3
    exact_mod_cast h
  have b4 : ∀ i : Nat, 1 ≤ i → i < m → ¬ N ∣ i * S := fun i h1 h2 h3 => a4 i h1 h2 (Int.emod_eq_zero_of_dvd (by exact_mod_cast h3))
  have hgp : 0 < Nat.gcd N S := Nat.gcd_pos_of_pos_left _ (by omega)
  have hc := Nat.coprime_div_gcd_div_gcd hgp
  obtain ⟨x, hx⟩ := Nat.gcd_dvd_left N S
  obtain ⟨y, hy⟩ := Nat.gcd_dvd_right N S
  generalize Nat.gcd N S = G at *
  have ex : N / G = x := by rw [hx]; exact Nat.mul_div_cancel_left _ hgp
  have ey : S / G = y := by rw [hy]; exact Nat.mul_div_cancel_left _ hgp
  rw [ex, ey] at hc
  have d1 : x ∣ m := by
    have h1 : G * x ∣ G * (m * y) := by
      rw [← hx, show G * (m * y) = m * S by rw [hy]; exact Nat.mul_left_comm ..]
      exact b3
    exact hc.dvd_of_dvd_mul_right (Nat.dvd_of_mul_dvd_mul_left hgp h1)
  have hxp : 1 ≤ x := by
    rcases Nat.eq_zero_or_pos x with h | h
    · rw [h] at hx; omega
    · exact h
  have d2 : ¬ x < m := fun hlt => b4 x hxp hlt ⟨y, by rw [hx, hy, ← Nat.mul_assoc, Nat.mul_comm x G]⟩
  obtain rfl : m = x := by
    have := Nat.le_of_dvd (by omega) d1
    omega
  rw [hx, Nat.mul_comm]
theorem str_inj (n s : Int) (m : Nat) (hs : isStar n s) (hA : Around n s m) (a b i j : Nat) (ha : a < Int.gcd n s) (hb : b < Int.gcd n s) (hi : i < m) (hj : j < m) (e : ((a : Int) + (i : Int) * s) % n = ((b : Int) + (j : Int) * s) % n) : a = b ∧ i = j := by
  have hg1 := Int.gcd_dvd_left n s
  have hg2 := Int.gcd_dvd_right n s
  have h1 := Int.emod_eq_emod_iff_emod_sub_eq_zero.1 e
  have h2 := Int.dvd_of_emod_eq_zero h1
  have h3 : ((Int.gcd n s : Nat) : Int) ∣ (a : Int) - b := by
    have h4 := Int.dvd_trans hg1 h2
    have h5 : ((Int.gcd n s : Nat) : Int) ∣ ((i : Int) - j) * s := Int.dvd_trans hg2 (Int.dvd_mul_left ..)
    have h6 := Int.dvd_sub h4 h5
    have e2 : (a : Int) + (i : Int) * s - ((b : Int) + (j : Int) * s) - ((i : Int) - j) * s = (a : Int) - b := by rw [Int.sub_mul]; omega
    rwa [e2] at h6
  have hab : a = b := by
    have h7 : (a : Int) % (Int.gcd n s : Nat) = (b : Int) % (Int.gcd n s : Nat) := Int.emod_eq_emod_iff_emod_sub_eq_zero.2 (Int.emod_eq_zero_of_dvd h3)
    rw [Int.emod_eq_of_lt (by omega) (by omega), Int.emod_eq_of_lt (by omega) (by omega)] at h7
    omega
  refine ⟨hab, ?_⟩
  subst hab
  have key : ∀ p q : Nat, p ≤ q → q < m → ((p : Int) * s) % n = ((q : Int) * s) % n → p = q := by
    intro p q hpq hq hee
    rcases Nat.lt_or_ge p q with hlt | hge
    · exfalso
      have h8 := Int.emod_eq_emod_iff_emod_sub_eq_zero.1 hee.symm
      refine hA.2.2.2 (q - p) (by omega) (by omega) ?_
      rw [← Int.sub_mul] at h8
      rwa [show ((q - p : Nat) : Int) = (q : Int) - p by omega]
    · omega
  have e3 : ((i : Int) * s) % n = ((j : Int) * s) % n := by
    apply Int.emod_eq_emod_iff_emod_sub_eq_zero.2
    rwa [show (a : Int) + (i : Int) * s - ((a : Int) + (j : Int) * s) = (i : Int) * s - (j : Int) * s by omega] at h1
  rcases Nat.le_total i j with h | h
  · exact key i j h hj e3
  · exact (key j i h hi e3.symm).symm
theorem strL_mem (n s p : Int) (m : Nat) (hn : 0 < n) : ∀ x ∈ strL n s p m, 0 ≤ x ∧ x < n := by
  intro x hx
  unfold strL at hx
  obtain ⟨i, _, rfl⟩ := List.mem_map.1 hx
  exact ⟨Int.emod_nonneg _ (by omega), Int.emod_lt_of_pos _ hn⟩
theorem strs_nodup (n s : Int) (m : Nat) (hs : isStar n s) (hA : Around n s m) : (strsL n s m (Int.gcd n s)).flatten.Nodup := by
  unfold strsL strL
  rw [List.Nodup, List.pairwise_flatten]
  constructor
  · intro l hl
    obtain ⟨a, ha, rfl⟩ := List.mem_map.1 hl
    rw [List.pairwise_map]
    refine List.nodup_range.imp_of_mem (fun {i j} hi hj hij e => hij ?_)
    exact (str_inj n s m hs hA a a i j (List.mem_range.1 ha) (List.mem_range.1 ha) (List.mem_range.1 hi) (List.mem_range.1 hj) e).2
  · rw [List.pairwise_map]
    refine List.nodup_range.imp_of_mem (fun {a b} ha hb hab x hx y hy e => hab ?_)
    obtain ⟨i, hi, rfl⟩ := List.mem_map.1 hx
    obtain ⟨j, hj, rfl⟩ := List.mem_map.1 hy
    exact (str_inj n s m hs hA a b i j (List.mem_range.1 ha) (List.mem_range.1 hb) (List.mem_range.1 hi) (List.mem_range.1 hj) e).1
theorem strs_flat_len (n s : Int) (m : Nat) : ∀ g, (strsL n s m g).flatten.length = g * m
  | 0 => by simp [strsL]
  | g + 1 => by
    have ih := strs_flat_len n s m g
    unfold strsL at ih ⊢
    rw [List.range_succ, List.map_append, List.flatten_append, List.length_append, ih]
    simp [strL_len, Nat.succ_mul]
/-- Every point is told just once. -/
theorem strs_count (n s : Int) (m : Nat) (hs : isStar n s) (hA : Around n s m) (q : Nat) (hq : (q : Int) < n) : (strsL n s m (Int.gcd n s)).flatten.count (q : Int) = 1 := by
  have hn := strs_nodup n s m hs hA
  have hl := strs_flat_len n s m (Int.gcd n s)
  have hm := around_mul n s m hs hA
  rw [Nat.mul_comm, hm] at hl
  have hs' := hs
  unfold isStar at hs'
  have hmem : ∀ x ∈ (strsL n s m (Int.gcd n s)).flatten, 0 ≤ x ∧ x < n := by
    intro x hx
    obtain ⟨l, hl, hx⟩ := List.mem_flatten.1 hx
    unfold strsL at hl
    obtain ⟨a, _, rfl⟩ := List.mem_map.1 hl
    exact strL_mem n s _ m (by omega) x hx
  rw [hn.count, if_pos]
  apply Classical.byContradiction
  intro hno
  have h1 : ((q : Int) :: (strsL n s m (Int.gcd n s)).flatten).Nodup := List.nodup_cons.2 ⟨hno, hn⟩
  have h2 : ((q : Int) :: (strsL n s m (Int.gcd n s)).flatten) ⊆ (List.range n.toNat).map (fun (i : Nat) => (i : Int)) := by
    intro x hx
    rw [List.mem_map]
    rcases List.mem_cons.1 hx with rfl | hx
    · exact ⟨q, List.mem_range.2 (by omega), rfl⟩
    · have := hmem x hx
      exact ⟨x.toNat, List.mem_range.2 (by omega), by omega⟩
  have h3 := h1.length_le_of_subset h2
  simp only [List.length_cons, List.length_map, List.length_range] at h3
  omega
/-! ### QFnStarOnce -/
theorem strL_rd (n s p : Int) (m i : Nat) (hi : i < m) : rd (strL n s p m) (i : Int) = (p + (i : Int) * s) % n := by
  unfold rd strL
  rw [List.getD_eq_getElem?_getD, List.getElem?_map, Int.toNat_natCast, List.getElem?_range hi]
  rfl
theorem nextPoint_eq (n s p : Int) (hs : isStar n s) (hp : 0 ≤ p ∧ p < n) : impl_NextPoint.f n s p = some ((p + s) % n, true) := by
  have hs' := hs
  unfold isStar at hs'
  unfold impl_NextPoint.f impl_PointAfter.f
  simp only [isPoint_eq1, Option.bind_some, if_pos (decide_eq_true (⟨hs, hp⟩ : isStar n s ∧ 0 ≤ p ∧ p < n)), within_eq]
  simp
  have hp0 : ¬ n = 0 := by omega
  have e : wrap64 s = s := by unfold wrap64; omega
  have e2 : wrap64 (p + s) = p + s := by unfold wrap64; omega
  simp [hp0, e, e2]
  rw [Int.tmod_eq_emod_of_nonneg (by omega)]
theorem cntL_ones (n : Nat) (L : List Int) (h : ∀ q : Nat, q < n → L.count (q : Int) = 1) : cntL n L = List.replicate n 1 := by
  unfold cntL
  rw [List.eq_replicate_iff]
  refine ⟨by simp, fun b hb => ?_⟩
  obtain ⟨q, hq, rfl⟩ := List.mem_map.1 hb
  rw [h q (List.mem_range.1 hq)]
  rfl
theorem nextOk (n s p : Int) (m : Nat) (hs : isStar n s) (hp : 0 ≤ p ∧ p < n) (hA : Around n s m) (i : Nat) (hi : i < m) : NextOk n s (strL n s p m) i := by
  have hs' := hs
  unfold isStar at hs'
  obtain ⟨a1, a2, a3, a4⟩ := hA
  have b1 := Int.emod_nonneg (p + (i : Int) * s) (show n ≠ 0 by omega)
  have b2 := Int.emod_lt_of_pos (p + (i : Int) * s) (show 0 < n by omega)
  have e1 : ((p + (i : Int) * s) % n + s) % n = (p + ((i + 1 : Nat) : Int) * s) % n := by
    rw [Int.emod_add_emod]
    congr 1
    rw [Int.natCast_add, Int.add_mul]
    omega
  have e2 : rd (strL n s p m) (Int.tmod (wrap64 ((i : Int) + 1)) (m : Int)) = (p + ((i + 1 : Nat) : Int) * s) % n := by
    rw [wrap64_id (x := (i : Int) + 1) (by omega) (by omega), Int.tmod_eq_emod_of_nonneg (by omega)]
    by_cases hlt : i + 1 < m
    · rw [Int.emod_eq_of_lt (by omega) (by omega)]
      exact strL_rd n s p m (i + 1) hlt
    · obtain rfl : m = i + 1 := by omega
      rw [show (i : Int) + 1 = ((i + 1 : Nat) : Int) by omega, Int.emod_self]
      have := strL_rd n s p (i + 1) 0 (by omega)
      rw [show ((0 : Nat) : Int) = 0 from rfl] at this
      rw [this, (mod_back p _ n hp.1 hp.2).2 a3]
      simp
      exact Int.emod_eq_of_lt hp.1 hp.2
  unfold NextOk
  rw [strL_len, e2, strL_rd n s p m i hi, nextPoint_eq n s _ hs ⟨b1, b2⟩, e1]
  refine ⟨rfl, ?_⟩
  rw [wrap64_id (by omega) (by omega), Int.tmod_eq_emod_of_nonneg (by omega), e1]
theorem FnStarOnce : ∀ (a0_0 : Int) (a0_1 : Int) (a1 : Int), (Lit.int .i64 a0_0).wf = true → (Lit.int .i64 a0_1).wf = true → (Lit.int .i64 a1).wf = true → ∃ k, laws_FnStarOnce.f k a0_0 a0_1 a1 = some true := by
  intro n s p _ _ _
  obtain ⟨K, hK⟩ : ∃ K, K = 10000 := ⟨_, rfl⟩
  refine ⟨K, ?_⟩
  unfold laws_FnStarOnce.f spec_IsStar.f
  simp only [implIsStar_eq, srGood_eq, Option.bind_some, if_true]
  by_cases h : isStar n s ∧ 0 ≤ p ∧ p < n
  · obtain ⟨hs, hp⟩ := h
    have hs' := hs
    unfold isStar at hs'
    rw [if_pos ⟨decide_eq_true hs, hp⟩]
    obtain ⟨m, hA⟩ := around_ex n s (by omega)
    have hmul := around_mul n s m hs hA
    have hm := hA.2.1
    have hm1 := hA.1
    obtain ⟨g, hg⟩ : ∃ g : Nat, (Int.gcd n s : Nat) = g := ⟨_, rfl⟩
    have hgs : (g : Int) ≤ s := by
      rw [← hg]
      exact Int.le_of_dvd (by omega) (Int.gcd_dvd_right ..)
    have c1 : impl_StringOf.f K n s p = some (strL n s p m, true) := by
      unfold impl_StringOf.f
      simp only [isPoint_eq1, Option.bind_some, if_pos (decide_eq_true (⟨hs, hp⟩ : isStar n s ∧ 0 ≤ p ∧ p < n)), stringOf_eq n s p m hs hp hA K (by omega)]
    have c2 : impl_StringsOf.f K n s = some (strsL n s m g, true) := by
      have e2 := implStrings_loop n s m g hs hA (by omega) g K 0 (by omega) (by omega)
      have e0 : strsL n s m 0 = [] := rfl
      rw [e0] at e2
      unfold impl_StringsOf.f
      simp only [implIsStar_eq, Option.bind_some, decide_eq_true hs, if_true, strings_eq K n s (by omega) (by omega) (by omega), hg]
      exact e2
    have c3 : impl_CountStrings.f K n s = some ((g : Int), true) := by
      unfold impl_CountStrings.f
      simp only [implIsStar_eq, Option.bind_some, decide_eq_true hs, if_true, strings_eq K n s (by omega) (by omega) (by omega), hg]
    have hrd0 : rd (strL n s p m) 0 = p := by
      have := strL_rd n s p m 0 hm1
      rw [show ((0 : Nat) : Int) = 0 from rfl] at this
      rw [this]
      simp
      exact Int.emod_eq_of_lt hp.1 hp.2
    have hw : wrap64 ((m : Int) * (g : Int)) = n := by
      rw [hg] at hmul
      have : (m : Int) * (g : Int) = n := by
        rw [← Int.natCast_mul, hmul]
        omega
      rw [this]
      exact wrap64_id (by omega) (by omega)
    have HW := Aside0.mk hw
    clear hw
    rw [c1, Option.bind_some, c2, Option.bind_some, c3, Option.bind_some]
    refine if_pos ⟨rfl, rfl, rfl, by omega, by rw [strsL_len], by rw [strL_len]; omega, by rw [strL_len]; omega, by rw [strsL_len]; omega, by rw [strL_len]; exact HW.out, hrd0, fun i hi => nextOk n s p m hs hp hA i (by rwa [strL_len] at hi), fun row hrow => ?_, ?_⟩
    · unfold strsL at hrow
      obtain ⟨i, _, rfl⟩ := List.mem_map.1 hrow
      exact ⟨by rw [strL_len]; omega, strL_mem n s _ m (by omega)⟩
    · refine cntL_ones _ _ (fun q hq => ?_)
      rw [← hg]
      exact strs_count n s m hs hA q (by omega)
  · rw [if_neg (fun e => h ⟨of_decide_eq_true e.1, e.2⟩)]

end Go.Proofs.Ytlnjfbnabjgffaa.Q
