/- PlanePairingOfRank: reference and program tell the same pairing, and the result is memory of its own. -/
import Derived.Test.YtoajjbkcilmnmaaBWrap
import Derived.Test.YtoajjbkcilmnmaaBBase
import Derived.Test.YtoajjbkcilmnmaaBOrd0
import Derived.Test.YtoajjbkcilmnmaaBOrd
import Derived.Test.YtoajjbkcilmnmaaBPlane
import Derived.Test.YtoajjbkcilmnmaaBEqC
import Derived.Test.YtoajjbkcilmnmaaBMarksC
import Derived.Test.YtoajjbkcilmnmaaXx4
import Derived.Test.YtoajjbkcilmnmaaXx7
import Derived.Test.YtoajjbkcilmnmaaXx10
namespace Go.Proofs.Ytoajjbkcilmnmaa.Q
open Go.RowKit Go.Proofs.Ytoajjbkcilmnmaa.X Go.Proofs.YtoajjbkcilmnmaaW.PrintWords Go.Proofs.YtoajjbkcilmnmaaW.PrintLast Go.Proofs.YtoajjbkcilmnmaaW.PrintMore
set_option linter.unusedVariables false
set_option linter.unusedSimpArgs false

/-- With how many pairs between its ends the first chord stands, and which rank is left. -/
def pick (m : Nat) : Nat → Nat → Int → Nat × Int
  | 0, j, r => (j, r)
  | t + 1, j, r => if r < cat j * cat (m - 1 - j) then (j, r) else pick m t (j + 1) (r - cat j * cat (m - 1 - j))
theorem pick_spec (m : Nat) : ∀ (t j : Nat) (r : Int), 0 ≤ r → r < tot m t j → j ≤ (pick m t j r).1 ∧ (pick m t j r).1 < j + t ∧ 0 ≤ (pick m t j r).2 ∧ (pick m t j r).2 < cat (pick m t j r).1 * cat (m - 1 - (pick m t j r).1)
  | 0, j, r, h0, h1 => by simp only [tot] at h1; omega
  | t + 1, j, r, h0, h1 => by
    simp only [tot] at h1
    unfold pick
    by_cases h : r < cat j * cat (m - 1 - j)
    · rw [if_pos h]; exact ⟨Nat.le_refl _, by simp only; omega, h0, h⟩
    · rw [if_neg h]
      obtain ⟨a, b, c, d⟩ := pick_spec m t (j + 1) (r - cat j * cat (m - 1 - j)) (by omega) (by omega)
      exact ⟨by omega, by omega, c, d⟩
/-- The plane pairing with rank r of 2 m points from a on. -/
def plF : Nat → Nat → Int → Int → List S52
  | 0, _, _, _ => []
  | d + 1, m, a, r => if m = 0 then [] else ⟨a, a + (2 * ((pick m m 0 r).1 : Int) + 1)⟩ :: (plF d (pick m m 0 r).1 (a + 1) ((pick m m 0 r).2 / cat (m - 1 - (pick m m 0 r).1)) ++ plF d (m - 1 - (pick m m 0 r).1) (a + (2 * ((pick m m 0 r).1 : Int) + 2)) ((pick m m 0 r).2 % cat (m - 1 - (pick m m 0 r).1)))
theorem parts_in {x y r : Int} (hx : 1 ≤ x) (hy : 1 ≤ y) (h0 : 0 ≤ r) (h1 : r < x * y) : (0 ≤ r / y ∧ r / y < x) ∧ 0 ≤ r % y ∧ r % y < y :=
  ⟨⟨Int.ediv_nonneg h0 (by omega), Int.ediv_lt_of_lt_mul (by omega) h1⟩, Int.emod_nonneg _ (by omega), Int.emod_lt_of_pos _ (by omega)⟩
theorem plF_ok : ∀ (d m : Nat) (a r : Int), m ≤ d → m ≤ 15 → 0 ≤ r → r < cat m → Strict (plF d m a r) ∧ (∀ c ∈ plF d m a r, a ≤ c.f0 ∧ c.f0 < a + 2 * m) ∧ (plF d m a r).length = m
  | 0, m, a, r, hd, _, _, _ => by
    obtain rfl : m = 0 := by omega
    simp [plF, Strict]
  | d + 1, m, a, r, hd, hm, h0, h1 => by
    by_cases hz : m = 0
    · subst hz; simp [plF, Strict]
    · have ht := tot_eq m (by omega) hm
      obtain ⟨p1, p2, p3, p4⟩ := pick_spec m m 0 r h0 (by rw [ht]; exact h1)
      unfold plF
      rw [if_neg hz]
      generalize pick m m 0 r = p at *
      obtain ⟨j, q⟩ := p
      simp only at p1 p2 p3 p4 ⊢
      have c1 := cat_pos j (by omega)
      have c2 := cat_pos (m - 1 - j) (by omega)
      obtain ⟨⟨q1, q2⟩, q3, q4⟩ := parts_in c1.1 c2.1 p3 p4
      obtain ⟨s1, s2, s3⟩ := plF_ok d j (a + 1) (q / cat (m - 1 - j)) (by omega) (by omega) q1 q2
      obtain ⟨s4, s5, s6⟩ := plF_ok d (m - 1 - j) (a + (2 * (j : Int) + 2)) (q % cat (m - 1 - j)) (by omega) (by omega) q3 q4
      refine ⟨?_, ?_, ?_⟩
      · unfold Strict at s1 s4 ⊢
        rw [List.pairwise_cons, List.pairwise_append]
        refine ⟨fun c hc => ?_, s1, s4, fun x hx y hy => ?_⟩
        · rw [cLt_iff]
          rcases List.mem_append.1 hc with e | e
          · have := s2 c e; left; simp only; omega
          · have := s5 c e; left; simp only; omega
        · rw [cLt_iff]
          have := s2 x hx
          have := s5 y hy
          left; omega
      · intro c hc
        rcases List.mem_cons.1 hc with e | e
        · subst e; simp only; omega
        · rcases List.mem_append.1 e with e | e
          · have := s2 c e; omega
          · have := s5 c e; omega
      · rw [List.length_cons, List.length_append, s3, s6]; omega
theorem spec_plane (M : Nat) (hM : M ≤ 15) : ∀ (d m : Nat), m ≤ d → m ≤ M → ∀ (k : Nat) (a r : Int), 20 * m + 1 ≤ k → 0 ≤ a → a + 2 * m ≤ 1000 → 0 ≤ r → r < cat m → spec_cdOfRank.f k a (2 * (m : Int)) r (waysL (2 * M)) = some (plF d m a r) := by
  intro d
  induction d with
  | zero =>
    intro m hd hm k a r hk ha ha2 h0 h1
    obtain rfl : m = 0 := by omega
    obtain ⟨k, rfl⟩ : ∃ t, k = t + 1 := ⟨k - 1, by omega⟩
    simp only [spec_cdOfRank.f, plF]
    rw [if_pos (by omega)]
  | succ d ih =>
    intro m hd hm k a r hk ha ha2 h0 h1
    obtain ⟨k, rfl⟩ : ∃ t, k = t + 1 := ⟨k - 1, by omega⟩
    simp only [spec_cdOfRank.f, plF]
    by_cases hz : m = 0
    · subst hz; rw [if_pos (by omega), if_pos rfl]
    · rw [if_neg (by omega), if_neg hz]
      have ht := tot_eq m (by omega) (by omega)
      have hW := waysL_len (2 * M)
      have loop : ∀ (t j k : Nat) (r : Int), j + t = m → 20 * (m - 1) + 1 + t ≤ k → 0 ≤ r → r ≤ 10000000 → r < tot m t j →
          spec_cdOfRank.l0 k a (2 * (m : Int)) r (waysL (2 * M)) (2 * (j : Int) + 1) = some (⟨a, a + (2 * ((pick m t j r).1 : Int) + 1)⟩ :: (plF d (pick m t j r).1 (a + 1) ((pick m t j r).2 / cat (m - 1 - (pick m t j r).1)) ++ plF d (m - 1 - (pick m t j r).1) (a + (2 * ((pick m t j r).1 : Int) + 2)) ((pick m t j r).2 % cat (m - 1 - (pick m t j r).1)))) := by
        intro t
        induction t with
        | zero => intro j k r _ _ hr0 _ hr1; simp only [tot] at hr1; omega
        | succ t iht =>
          intro j k r hj hk hr0 hrb hr1
          obtain ⟨k, rfl⟩ : ∃ t, k = t + 1 := ⟨k - 1, by omega⟩
          have e1 : wrap64 (2 * (j : Int) + 1 - 1) = 2 * (j : Int) := by rw [wrap64_id (by omega) (by omega)]; omega
          have e2 : wrap64 (wrap64 (2 * (m : Int) - 1) - (2 * (j : Int) + 1)) = 2 * ((m - 1 - j : Nat) : Int) := by
            rw [wrap64_id (x := 2 * (m : Int) - 1) (by omega) (by omega), wrap64_id (by omega) (by omega)]; omega
          have c1 := cat_pos j (by omega)
          have c2 := cat_pos (m - 1 - j) (by omega)
          have c3 := cat_mul j (m - 1 - j) (by omega) (by omega)
          have e3 : wrap64 (cat j * cat (m - 1 - j)) = cat j * cat (m - 1 - j) := wrap64_id (by omega) (by omega)
          simp only [spec_cdOfRank.l0, e1, e2]
          rw [if_pos (by omega), if_pos (by omega), if_pos (by omega), if_pos (by omega), if_pos (by omega), waysL_rd _ j (by omega), waysL_rd _ (m - 1 - j) (by omega), e3]
          unfold pick
          by_cases hlt : r < cat j * cat (m - 1 - j)
          · rw [if_pos hlt, if_pos hlt]
            simp only
            obtain ⟨⟨q1, q2⟩, q3, q4⟩ := parts_in c1.1 c2.1 hr0 hlt
            have e4 : wrap64 (Int.tdiv r (cat (m - 1 - j))) = r / cat (m - 1 - j) := by
              rw [Int.tdiv_eq_ediv_of_nonneg hr0, wrap64_id (by omega) (by omega)]
            have e5 : Int.tmod r (cat (m - 1 - j)) = r % cat (m - 1 - j) := Int.tmod_eq_emod_of_nonneg hr0
            have e6 : wrap64 (a + 1) = a + 1 := wrap64_id (by omega) (by omega)
            have e7 : wrap64 (wrap64 (a + (2 * (j : Int) + 1)) + 1) = a + (2 * (j : Int) + 2) := by
              rw [wrap64_id (x := a + (2 * (j : Int) + 1)) (by omega) (by omega), wrap64_id (by omega) (by omega)]; omega
            have e8 : wrap64 (a + (2 * (j : Int) + 1)) = a + (2 * (j : Int) + 1) := wrap64_id (by omega) (by omega)
            have e9 : wrap64 (a + (2 * (j : Int) + 1) + 1) = a + (2 * (j : Int) + 2) := by rw [wrap64_id (by omega) (by omega)]; omega
            obtain ⟨_, _, s3⟩ := plF_ok d j (a + 1) (r / cat (m - 1 - j)) (by omega) (by omega) q1 q2
            obtain ⟨_, _, s6⟩ := plF_ok d (m - 1 - j) (a + (2 * (j : Int) + 2)) (r % cat (m - 1 - j)) (by omega) (by omega) q3 q4
            simp only [e4, e5, e6, e8, e9, Option.bind_some]
            rw [if_neg (by omega), ih j (by omega) (by omega) k (a + 1) _ (by omega) (by omega) (by omega) q1 q2]
            simp only [Option.bind_some]
            rw [if_pos (by rw [s3]; simp; omega), ih (m - 1 - j) (by omega) (by omega) k _ _ (by omega) (by omega) (by omega) q3 q4]
            simp only [Option.bind_some]
            rw [if_pos (by rw [s6]; simp [s3]; omega)]
            simp
          · rw [if_neg hlt, if_neg hlt]
            simp only [tot] at hr1
            have e4 : wrap64 (r - cat j * cat (m - 1 - j)) = r - cat j * cat (m - 1 - j) := wrap64_id (by omega) (by omega)
            have e5 : wrap64 (2 * (j : Int) + 1 + 2) = 2 * ((j + 1 : Nat) : Int) + 1 := by rw [wrap64_id (by omega) (by omega)]; omega
            rw [e4, e5]
            exact iht (j + 1) k _ (by omega) (by omega) (by omega) (by omega) (by omega)
      have hcm := cat_pos m (by omega)
      exact loop m 0 k r (by omega) (by omega) h0 (by omega) (by rw [ht]; exact h1)
theorem impl_plane : ∀ (d m : Nat), m ≤ d → m ≤ 15 → ∀ (k : Nat) (a r : Int), 20 * m + 30 ≤ k → 0 ≤ a → a + 2 * m ≤ 1000 → 0 ≤ r → r < cat m → impl_planeOfRank.f k a (2 * (m : Int)) r = some (plF d m a r) := by
  intro d
  induction d with
  | zero =>
    intro m hd hm k a r hk ha ha2 h0 h1
    obtain rfl : m = 0 := by omega
    obtain ⟨k, rfl⟩ : ∃ t, k = t + 1 := ⟨k - 1, by omega⟩
    simp only [impl_planeOfRank.f, plF]
    rw [if_pos (by omega)]
  | succ d ih =>
    intro m hd hm k a r hk ha ha2 h0 h1
    obtain ⟨k, rfl⟩ : ∃ t, k = t + 1 := ⟨k - 1, by omega⟩
    simp only [impl_planeOfRank.f, plF]
    by_cases hz : m = 0
    · subst hz; rw [if_pos (by omega), if_pos rfl]
    · rw [if_neg (by omega), if_neg hz]
      have ht := tot_eq m (by omega) (by omega)
      have loop : ∀ (t j k : Nat) (r : Int), j + t = m → 20 * (m - 1) + 30 + t ≤ k → 0 ≤ r → r ≤ 10000000 → r < tot m t j →
          impl_planeOfRank.l0 k a (2 * (m : Int)) r (2 * (j : Int)) = some (⟨a, a + (2 * ((pick m t j r).1 : Int) + 1)⟩ :: (plF d (pick m t j r).1 (a + 1) ((pick m t j r).2 / cat (m - 1 - (pick m t j r).1)) ++ plF d (m - 1 - (pick m t j r).1) (a + (2 * ((pick m t j r).1 : Int) + 2)) ((pick m t j r).2 % cat (m - 1 - (pick m t j r).1)))) := by
        intro t
        induction t with
        | zero => intro j k r _ _ hr0 _ hr1; simp only [tot] at hr1; omega
        | succ t iht =>
          intro j k r hj hk hr0 hrb hr1
          obtain ⟨k, rfl⟩ : ∃ t, k = t + 1 := ⟨k - 1, by omega⟩
          have e2 : wrap64 (wrap64 (2 * (m : Int) - 2) - 2 * (j : Int)) = 2 * ((m - 1 - j : Nat) : Int) := by
            rw [wrap64_id (x := 2 * (m : Int) - 2) (by omega) (by omega), wrap64_id (by omega) (by omega)]; omega
          have c1 := cat_pos j (by omega)
          have c2 := cat_pos (m - 1 - j) (by omega)
          have c3 := cat_mul j (m - 1 - j) (by omega) (by omega)
          have e3 : wrap64 (cat j * cat (m - 1 - j)) = cat j * cat (m - 1 - j) := wrap64_id (by omega) (by omega)
          simp only [impl_planeOfRank.l0, e2, countPlane_eq j (by omega) k (by omega), countPlane_eq (m - 1 - j) (by omega) k (by omega), Option.bind_some, e3]
          unfold pick
          by_cases hlt : r < cat j * cat (m - 1 - j)
          · rw [if_neg (by omega), if_pos hlt]
            simp only
            obtain ⟨⟨q1, q2⟩, q3, q4⟩ := parts_in c1.1 c2.1 hr0 hlt
            have e4 : wrap64 (Int.tdiv r (cat (m - 1 - j))) = r / cat (m - 1 - j) := by
              rw [Int.tdiv_eq_ediv_of_nonneg hr0, wrap64_id (by omega) (by omega)]
            have e5 : Int.tmod r (cat (m - 1 - j)) = r % cat (m - 1 - j) := Int.tmod_eq_emod_of_nonneg hr0
            have e6 : wrap64 (a + 1) = a + 1 := wrap64_id (by omega) (by omega)
            have e7 : wrap64 (wrap64 (a + 2) + 2 * (j : Int)) = a + (2 * (j : Int) + 2) := by
              rw [wrap64_id (x := a + 2) (by omega) (by omega), wrap64_id (by omega) (by omega)]; omega
            have e8 : wrap64 (a + 1 + 2 * (j : Int)) = a + (2 * (j : Int) + 1) := by rw [wrap64_id (by omega) (by omega)]; omega
            have e9 : wrap64 (a + 2) = a + 2 := wrap64_id (by omega) (by omega)
            have e10 : wrap64 (a + 2 + 2 * (j : Int)) = a + (2 * (j : Int) + 2) := by rw [wrap64_id (by omega) (by omega)]; omega
            obtain ⟨_, _, s3⟩ := plF_ok d j (a + 1) (r / cat (m - 1 - j)) (by omega) (by omega) q1 q2
            obtain ⟨_, _, s6⟩ := plF_ok d (m - 1 - j) (a + (2 * (j : Int) + 2)) (r % cat (m - 1 - j)) (by omega) (by omega) q3 q4
            simp only [e4, e5, e6, e8, e9, e10]
            rw [if_neg (by omega), ih j (by omega) (by omega) k (a + 1) _ (by omega) (by omega) (by omega) q1 q2]
            simp only [Option.bind_some]
            rw [if_pos (by rw [s3]; simp; omega)]
            rw [if_neg (by omega), ih (m - 1 - j) (by omega) (by omega) k _ _ (by omega) (by omega) (by omega) q3 q4]
            simp only [Option.bind_some]
            rw [if_pos (by rw [s6]; simp [s3]; omega)]
            simp
          · rw [if_pos (by omega), if_neg hlt]
            simp only [tot] at hr1
            have e4 : wrap64 (r - cat j * cat (m - 1 - j)) = r - cat j * cat (m - 1 - j) := wrap64_id (by omega) (by omega)
            have e5 : wrap64 (2 * (j : Int) + 2) = 2 * ((j + 1 : Nat) : Int) := by rw [wrap64_id (by omega) (by omega)]; omega
            rw [e4, e5]
            exact iht (j + 1) k _ (by omega) (by omega) (by omega) (by omega) (by omega)
      have hcm := cat_pos m (by omega)
      have := loop m 0 k r (by omega) (by omega) h0 (by omega) (by rw [ht]; exact h1)
      simpa using this
theorem planeOfRank_both (n x : Int) : ∃ r : List S52 × Bool, r.1.length ≤ 40 ∧ ∀ k, 1000 ≤ k → spec_PlanePairingOfRank.f k n x = some r ∧ impl_PlanePairingOfRank.f k n x = some r := by
  by_cases h : 4 ≤ n ∧ n ≤ 30 ∧ Int.tmod n 2 = 0
  · have e2 : Int.tmod n 2 = n % 2 := Int.tmod_eq_emod_of_nonneg (by omega)
    obtain ⟨m, rfl⟩ : ∃ m : Nat, n = 2 * (m : Int) := ⟨(n / 2).toNat, by omega⟩
    have h' : 3 ≤ 2 * (m : Int) ∧ 2 * (m : Int) ≤ 60 ∧ Int.tmod (2 * (m : Int)) 2 = 0 ∧ 2 * (m : Int) ≤ 30 := by omega
    have hc := cat_pos m (by omega)
    have hW := waysL_len (2 * m)
    have ew : wrap64 (cat m - 1) = cat m - 1 := wrap64_id (by omega) (by omega)
    by_cases hx : 0 ≤ x ∧ x ≤ cat m - 1
    · obtain ⟨s1, s2, s3⟩ := plF_ok m m 0 x (by omega) (by omega) hx.1 (by omega)
      refine ⟨(plF m m 0 x, true), by simp only; omega, fun k hk => ?_⟩
      obtain ⟨k, rfl⟩ : ∃ t, k = t + 1 := ⟨k - 1, by omega⟩
      unfold spec_PlanePairingOfRank.f impl_PlanePairingOfRank.f
      simp only [planePoints_eq, isEven_eq, if_pos (decide_eq_true h), if_pos (decide_eq_true h'), Option.bind_some, cdPlane_eq m (by omega) (by omega) (k + 1) (by omega), countPlane_eq m (by omega) (k + 1) (by omega), ew, within_eq, impl_PlanePairingOfRank.j0, impl_plane m m (by omega) (by omega) k 0 x (by omega) (by omega) (by omega) hx.1 (by omega)]
      constructor
      · rw [if_pos (by omega), if_pos (by omega), waysL_rd _ m (by omega), ew, l1In_eq]
        simp only [Option.bind_some, if_pos (decide_eq_true hx), spec_plane m (by omega) m m (by omega) (by omega) (k + 1) 0 x (by omega) (by omega) (by omega) hx.1 (by omega)]
      · rw [decide_eq_true hx, ordered_eq _ (by omega), ordL_self _ s1]
        simp
    · refine ⟨([], false), by simp, fun k hk => ?_⟩
      obtain ⟨k, rfl⟩ : ∃ t, k = t + 1 := ⟨k - 1, by omega⟩
      unfold spec_PlanePairingOfRank.f impl_PlanePairingOfRank.f
      simp only [planePoints_eq, isEven_eq, if_pos (decide_eq_true h), if_pos (decide_eq_true h'), Option.bind_some, cdPlane_eq m (by omega) (by omega) (k + 1) (by omega), countPlane_eq m (by omega) (k + 1) (by omega), ew, within_eq, impl_PlanePairingOfRank.j0]
      constructor
      · rw [if_pos (by omega), if_pos (by omega), waysL_rd _ m (by omega), ew, l1In_eq, decide_eq_false hx]
        simp
      · rw [decide_eq_false hx]
        simp
  · have h' : ¬ (3 ≤ n ∧ n ≤ 60 ∧ Int.tmod n 2 = 0 ∧ n ≤ 30) := by
      intro hh
      have e2 : Int.tmod n 2 = n % 2 := Int.tmod_eq_emod_of_nonneg (by omega)
      omega
    refine ⟨([], false), by simp, fun k hk => ?_⟩
    obtain ⟨k, rfl⟩ : ∃ t, k = t + 1 := ⟨k - 1, by omega⟩
    unfold spec_PlanePairingOfRank.f impl_PlanePairingOfRank.f
    simp only [planePoints_eq, isEven_eq, decide_eq_false h, decide_eq_false h', Option.bind_some, impl_PlanePairingOfRank.j0]
    simp
theorem FnExactPlanePairingOfRank : ∀ (a0 : Int) (a1 : Int), (Lit.int .i64 a0).wf = true → (Lit.int .i64 a1).wf = true → ∃ k, laws_FnExactPlanePairingOfRank.f k a0 a1 = some true := by
  intro n x _ _
  refine ⟨2000, ?_⟩
  obtain ⟨⟨l, b⟩, hlen, hr⟩ := planeOfRank_both n x
  simp only at hlen
  obtain ⟨y, m1, m2, m3⟩ := mark_heldC 1999 l 1 (by omega) (by omega)
  unfold laws_FnExactPlanePairingOfRank.f
  simp only [Option.bind_some, (hr 2000 (by omega)).1, (hr 2000 (by omega)).2, eqChordS_self 2000 l (by omega) (by omega), laws_FnExactPlanePairingOfRank.j0, m1, m3 1999 (by omega), (hr 1999 (by omega)).2, eqChordS_self 1999 l (by omega) (by omega), laws_FnExactPlanePairingOfRank.j1, m3 1998 (by omega)]
  have e0 : ¬ (1 + 2 * (l.length : Int) < 0) := by omega
  simp [e0]

end Go.Proofs.Ytoajjbkcilmnmaa.Q
