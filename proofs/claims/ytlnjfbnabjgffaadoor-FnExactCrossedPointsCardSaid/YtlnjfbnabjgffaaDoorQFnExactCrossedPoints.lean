/- CrossedPoints: both tell the same points, and the result is memory of its own. -/
import Derived.Test.YtlnjfbnabjgffaaDoorBPath
import Derived.Test.YtlnjfbnabjgffaaDoorBMarksSS
import Derived.Test.YtlnjfbnabjgffaaDoorBCross
import Derived.Test.YtlnjfbnabjgffaaDoorXx7
import Derived.Test.YtlnjfbnabjgffaaDoorXx8
import Derived.Test.YtlnjfbnabjgffaaDoorXx50
namespace Go.Proofs.YtlnjfbnabjgffaaDoor.Q
open Go.RowKit Go.Proofs.YtlnjfbnabjgffaaDoor.X Go.Proofs.YtlnjfbnabjgffaaDoorW.PrintWords Go.Proofs.YtlnjfbnabjgffaaDoorW.PrintLast Go.Proofs.YtlnjfbnabjgffaaDoorW.PrintMore
set_option linter.unusedVariables false
set_option linter.unusedSimpArgs false

theorem same2 (k : Nat) (a b : List Int) (ha : a.length = 2) (hb : b.length = 2) (hk : 4 ≤ k) : spec_l1Same.f k a b = some (decide (a = b)) := by
  obtain ⟨t, rfl⟩ : ∃ t, k = t + 1 + 1 + 1 := ⟨k - 3, by omega⟩
  obtain ⟨x, y, rfl⟩ := len2 ha
  obtain ⟨p, q, rfl⟩ := len2 hb
  have w1 : wrap64 (0 + 1) = 1 := by unfold wrap64; omega
  have w2 : wrap64 (1 + 1) = 2 := by unfold wrap64; omega
  have r0 : ∀ u v : Int, rd [u, v] 0 = u := fun _ _ => rfl
  have r1 : ∀ u v : Int, rd [u, v] 1 = v := fun _ _ => rfl
  unfold spec_l1Same.f
  simp only [spec_l1Same.l0, List.length_cons, List.length_nil, w1, w2, r0, r1]
  by_cases h1 : x = p
  · by_cases h3 : y = q
    · simp [h1, h3]
    · simp [h1, h3]
  · simp [h1]
theorem rdLLn (l : List (List Int)) (j : Nat) : rd_L4 l (j : Int) = l.getD j [] := by
  unfold rd_L4
  rw [Int.toNat_natCast]
/-- The place is found, the point laid in, the next one looked at. -/
theorem ins_loop (pts out : List (List Int)) (p : List Int) (n : Nat) (i : Nat) (r : Option (List (List Int) × Bool)) (K : Nat) (hp : p.length = 2) (ho : ∀ x ∈ out, x.length = 2) (hol : out.length ≤ 1000) (hi : i ≤ 1000) (hpK : ∀ c, c ≤ out.length → True)
    (hr : ∀ k, K ≤ k → spec_CrossedPoints.l0 k pts (insL p out) pts (n : Int) ((i + 1 : Nat) : Int) = r) : ∀ (c k : Nat), c ≤ out.length → posK p out c = posK p out out.length → K + c + 1 ≤ k → spec_CrossedPoints.l2 k pts out p (c : Int) pts (n : Int) (i : Int) = r := by
  have EW := Aside0.mk (show wrap64 ((i : Int) + 1) = ((i + 1 : Nat) : Int) by rw [wrap64_id (by omega) (by omega)]; rfl)
  have hins : ∀ (c k : Nat), c ≤ out.length → posK p out out.length = c → K ≤ k → ((some (([] : List (List Int)) : List (List Int))).bind fun y204 => (if 0 ≤ (c : Int) then (if (c : Int) ≤ (out.length : Int) then ((some (out.take (c : Int).toNat : List (List Int))).bind fun y207 => (if y204.length + y207.length < 5864062014805 then ((some (y204 ++ y207 : List (List Int))).bind fun y212 => ((spec_l1Own.f p).bind fun t215 => (if y212.length < 5864062014805 then ((some (y212 ++ [t215] : List (List Int))).bind fun y218 => ((some (out.drop (c : Int).toNat : List (List Int))).bind fun y221 => (if y218.length + y221.length < 5864062014805 then (spec_CrossedPoints.l0 k pts (y218 ++ y221) pts (n : Int) (wrap64 ((i : Int) + 1))) else (none)))) else (none)))) else (none))) else (none)) else (none))) = r := by
    intro c k hc hpc hk
    have ho1 : spec_l1Own.f p = some p := by
      unfold spec_l1Own.f
      rw [Option.bind_some, if_pos (by rw [hp]; simp), List.nil_append]
    rw [Option.bind_some, if_pos (by omega), if_pos (by omega), Option.bind_some, Int.toNat_natCast, if_pos (by rw [List.length_take]; simp; omega), Option.bind_some, ho1, Option.bind_some, List.nil_append, if_pos (by rw [List.length_take]; omega), Option.bind_some, Option.bind_some, if_pos (by simp only [List.length_append, List.length_take, List.length_drop, List.length_cons, List.length_nil]; omega), EW.out]
    have := hr k hk
    unfold insL at this
    rw [hpc] at this
    exact this
  intro c
  induction c with
  | zero =>
    intro k hc hpc hk
    obtain ⟨k, rfl⟩ : ∃ t, k = t + 1 := ⟨k - 1, by omega⟩
    have h0 : posK p out out.length = 0 := by rw [← hpc]; rfl
    simp only [spec_CrossedPoints.l2]
    rw [if_neg (by omega)]
    exact hins 0 k (by omega) h0 (by omega)
  | succ c ih =>
    intro k hc hpc hk
    obtain ⟨k, rfl⟩ : ∃ t, k = t + 1 := ⟨k - 1, by omega⟩
    have ec : wrap64 (((c + 1 : Nat) : Int) - 1) = (c : Int) := by unfold wrap64; omega
    have hq : (out.getD c []).length = 2 := by rw [getD_at (by omega)]; exact ho _ (List.getElem_mem _)
    have hlt := lt2_iff p (out.getD c [])
    simp only [spec_CrossedPoints.l2]
    rw [if_pos (by omega), if_pos (by omega), ec, if_pos (by omega), if_pos (by omega), rdLLn, if_pos (by omega)]
    by_cases h1 : rd p 0 < rd (out.getD c []) 0
    · rw [if_pos h1]
      exact ih k (by omega) (by rw [← hpc]; conv => rhs; unfold posK; rw [if_pos (hlt.2 (.inl h1))]) (by omega)
    · rw [if_neg h1]
      by_cases h2 : rd p 0 = rd (out.getD c []) 0
      · rw [if_pos h2, if_pos (by omega), if_pos (by omega)]
        by_cases h3 : rd p 1 < rd (out.getD c []) 1
        · rw [if_pos h3]
          exact ih k (by omega) (by rw [← hpc]; conv => rhs; unfold posK; rw [if_pos (hlt.2 (.inr ⟨h2, h3⟩))]) (by omega)
        · rw [if_neg h3]
          have hn : ¬ lt2 p (out.getD c []) = true := fun e => by rcases hlt.1 e with h | h <;> omega
          exact hins (c + 1) k hc (by rw [← hpc]; conv => lhs; unfold posK; rw [if_neg hn]) (by omega)
      · rw [if_neg h2]
        have hn : ¬ lt2 p (out.getD c []) = true := fun e => by rcases hlt.1 e with h | h <;> omega
        exact hins (c + 1) k hc (by rw [← hpc]; conv => lhs; unfold posK; rw [if_neg hn]) (by omega)
theorem wsucc (t : Nat) (h : t ≤ 5000) : wrap64 ((t : Int) + 1) = ((t + 1 : Nat) : Int) := by rw [wrap64_id (by omega) (by omega)]; rfl
theorem lenAt {pts : List (List Int)} (hl : ∀ x ∈ pts, x.length = 2) {c : Nat} (h : c < pts.length) : (pts.getD c []).length = 2 := by rw [getD_at h]; exact hl _ (List.getElem_mem _)
theorem dropAt {pts : List (List Int)} {c : Nat} (h : c < pts.length) : pts.drop c = pts.getD c [] :: pts.drop (c + 1) := by rw [getD_at h]; exact List.drop_eq_getElem_cons h
theorem cnt_loop (pts out : List (List Int)) (p : List Int) (n i : Nat) (r : Option (List (List Int) × Bool)) (K T : Nat) (Ff : Bool) (hn : n = pts.length) (hl : ∀ x ∈ pts, x.length = 2) (hp : p.length = 2) (hN : n ≤ 1000) (hi : i ≤ n)
    (hj : ∀ k, K ≤ k → spec_CrossedPoints.j2 k pts out p pts (n : Int) (i : Int) (if (T : Int) < 2 then true else !Ff) = r) : ∀ (d c t : Nat) (b : Bool) (k : Nat), c + d = n → t ≤ c → K + 5 + d ≤ k → t + (pts.drop c).count p = T → ((b = true ∧ ∀ m, c ≤ m → m < n → pts.getD m [] = p → i ≤ m) ↔ Ff = true) →
      spec_CrossedPoints.l1 k pts out (i : Int) p (t : Int) b pts (n : Int) (i : Int) pts (n : Int) (c : Int) = r := by
  intro d
  induction d with
  | zero =>
    intro c t b k hc ht hk hT hF
    obtain ⟨k, rfl⟩ : ∃ t, k = t + 1 := ⟨k - 1, by omega⟩
    have e1 : pts.drop c = [] := List.drop_eq_nil_of_le (by omega)
    rw [e1, List.count_nil, Nat.add_zero] at hT
    subst hT
    have eb : b = Ff := by
      cases Ff with
      | true => exact (hF.2 rfl).1
      | false =>
        cases b with
        | false => rfl
        | true => exact absurd (hF.1 ⟨rfl, fun m h1 h2 => by omega⟩) (by decide)
    subst eb
    have h := hj k (by omega)
    simp only [spec_CrossedPoints.l1]
    rw [if_neg (by omega)]
    by_cases h2 : (t : Int) < 2
    · rw [if_pos h2] at h ⊢
      exact h
    · rw [if_neg h2] at h ⊢
      exact h
  | succ d ih =>
    intro c t b k hc ht hk hT hF
    obtain ⟨k, rfl⟩ : ∃ t, k = t + 1 := ⟨k - 1, by omega⟩
    have hc5 : c ≤ 5000 := by omega
    have ht5 : t ≤ 5000 := by omega
    have EC := Aside0.mk (wsucc c hc5)
    have ET := Aside0.mk (wsucc t ht5)
    have hcl : c < pts.length := by omega
    have hq := lenAt hl hcl
    have ed := dropAt hcl
    rw [ed] at hT
    simp only [spec_CrossedPoints.l1]
    have hk4 : 4 ≤ k := by omega
    have g1 : (c : Int) < (n : Int) := by omega
    have g2 : (0 : Int) ≤ (c : Int) := by omega
    have g3 : (c : Int) < (pts.length : Int) := by omega
    rw [if_pos g1, if_pos g2, if_pos g3, rdLLn, same2 k p _ hp hq hk4, Option.bind_some, EC.out]
    clear g1 g2 g3
    by_cases hs : p = pts.getD c []
    · rw [← hs, List.count_cons_self] at hT
      rw [if_pos (decide_eq_true hs), ET.out]
      have hF2 : (((b && decide (i ≤ c)) = true ∧ ∀ m, c + 1 ≤ m → m < n → pts.getD m [] = p → i ≤ m) ↔ Ff = true) := by
        rw [← hF, Bool.and_eq_true, decide_eq_true_iff]
        constructor
        · rintro ⟨⟨h1, h2⟩, h3⟩
          refine ⟨h1, fun m a1 a2 a3 => ?_⟩
          by_cases e : m = c
          · rw [e]; exact h2
          · exact h3 m (by omega) a2 a3
        · rintro ⟨h1, h2⟩
          exact ⟨⟨h1, h2 c (Nat.le_refl _) (by omega) hs.symm⟩, fun m a1 a2 a3 => h2 m (by omega) a2 a3⟩
      have IH := ih (c + 1) (t + 1) (b && decide (i ≤ c)) k (by omega) (by omega) (by omega) (by omega) hF2
      cases b with
      | true =>
        rw [if_pos rfl]
        have eb : decide ((c : Int) ≥ (i : Int)) = (true && decide (i ≤ c)) := by
          rw [Bool.true_and]
          exact decide_eq_decide.2 (by omega)
        rw [eb]
        exact IH
      | false =>
        rw [if_neg (by decide)]
        exact IH
    · rw [List.count_cons_of_ne (Ne.symm hs)] at hT
      rw [if_neg (by rw [decide_eq_false hs]; decide)]
      refine ih (c + 1) t b k (by omega) (by omega) (by omega) hT ?_
      rw [← hF]
      constructor
      · rintro ⟨h1, h3⟩
        refine ⟨h1, fun m a1 a2 a3 => ?_⟩
        by_cases e : m = c
        · rw [e] at a3; exact absurd a3.symm hs
        · exact h3 m (by omega) a2 a3
      · rintro ⟨h1, h2⟩
        exact ⟨h1, fun m a1 a2 a3 => h2 m (by omega) a2 a3⟩
set_option maxRecDepth 100000 in
theorem cross_loop (pts : List (List Int)) (n : Nat) (hn : n = pts.length) (hl : ∀ x ∈ pts, x.length = 2) (hN : n ≤ 1000) : ∀ (e i k : Nat), i + e = n → e * 3000 + 1 ≤ k → spec_CrossedPoints.l0 k pts (outL pts i) pts (n : Int) (i : Int) = some (outL pts n, true) := by
  intro e
  induction e with
  | zero =>
    intro i k hi hk
    obtain ⟨k, rfl⟩ : ∃ t, k = t + 1 := ⟨k - 1, by omega⟩
    have : i = n := by omega
    subst this
    simp only [spec_CrossedPoints.l0]
    rw [if_neg (by omega)]
  | succ e ih =>
    intro i k hi hk
    obtain ⟨k, rfl⟩ : ∃ t, k = t + 1 := ⟨k - 1, by omega⟩
    have hil : i < pts.length := by omega
    have hp : (pts.getD i []).length = 2 := by rw [getD_at hil]; exact hl _ (List.getElem_mem _)
    obtain ⟨o1, o2, o3⟩ := out_inv pts hl i (by omega)
    have ho : ∀ x ∈ outL pts i, x.length = 2 := fun x hx => hl x (List.mem_of_mem_take ((o2 x).1 hx).1)
    have hstep : outL pts (i + 1) = stepL pts (outL pts i) i := rfl
    obtain ⟨E, hE⟩ : ∃ E, E = e * 3000 + 1 := ⟨_, rfl⟩
    have hkE : E + 3000 ≤ k + 1 := by omega
    have IH := fun k (h : E ≤ k) => ih (i + 1) k (by omega) (by omega)
    clear hE hk
    obtain ⟨Z, hZ⟩ : ∃ Z, Z = E + 1500 := ⟨_, rfl⟩
    have EW := Aside0.mk (wsucc i (by omega))
    rw [hstep] at IH
    unfold stepL at IH
    simp only [spec_CrossedPoints.l0]
    rw [if_pos (by omega), if_pos (by omega), if_pos (by omega), rdLLn, ← hn]
    have hmem : pts.getD i [] ∉ pts.take i ↔ ∀ m, 0 ≤ m → m < n → pts.getD m [] = pts.getD i [] → i ≤ m := by
      constructor
      · intro h m _ hm he
        by_cases hmi : m < i
        · exfalso
          apply h
          rw [← he, getD_at (by omega)]
          exact List.mem_iff_getElem.2 ⟨m, by rw [List.length_take]; omega, by rw [List.getElem_take]⟩
        · omega
      · intro h hm
        obtain ⟨m, hm1, hm2⟩ := List.getElem_of_mem hm
        rw [List.length_take] at hm1
        rw [List.getElem_take] at hm2
        have := h m (Nat.zero_le _) (by omega) (by rw [getD_at (by omega)]; exact hm2)
        omega
    refine cnt_loop pts (outL pts i) (pts.getD i []) n i _ Z (pts.count (pts.getD i [])) (decide (pts.getD i [] ∉ pts.take i)) hn hl hp hN (by omega) ?_ n 0 0 true k (by omega) (Nat.le_refl _) (by omega) (by rw [List.drop_zero]; omega) (by rw [decide_eq_true_iff, hmem]; simp)
    intro k hk
    obtain ⟨k, rfl⟩ : ∃ t, k = t + 1 := ⟨k - 1, by omega⟩
    simp only [spec_CrossedPoints.j2]
    by_cases hc : 2 ≤ pts.count (pts.getD i []) ∧ pts.getD i [] ∉ pts.take i
    · rw [if_pos hc] at IH
      rw [if_neg (show ¬ ((pts.count (pts.getD i []) : Nat) : Int) < 2 by omega), if_neg (by rw [decide_eq_true hc.2]; decide)]
      exact ins_loop pts (outL pts i) (pts.getD i []) n i _ E hp ho (by omega) (by omega) (fun _ _ => trivial) IH (outL pts i).length k (Nat.le_refl _) rfl (by omega)
    · rw [if_neg hc] at IH
      rw [if_pos, EW.out]
      · exact IH k (by omega)
      · by_cases h2 : ((pts.count (pts.getD i []) : Nat) : Int) < 2
        · rw [if_pos h2]
        · rw [if_neg h2]
          have : ¬ pts.getD i [] ∉ pts.take i := fun h => hc ⟨by omega, h⟩
          simp only [this, decide_false, Bool.not_false]
theorem pts_twoE (g : Int) : ∀ (l : List UInt8) (s : Int × Int × Int), ∀ x ∈ ptsL g l s, x.length = 2
  | [], s, x, h => by simp [ptsL] at h
  | b :: l, s, x, h => by
    simp only [ptsL] at h
    split at h
    · rcases List.mem_cons.1 h with rfl | h
      · rfl
      · exact pts_twoE g l _ x h
    · exact pts_twoE g l _ x h
theorem crossed_both (g : Int) (w : ByteArray) : ∃ r : List (List Int) × Bool, (∀ x ∈ r.1, x.length ≤ 60) ∧ r.1.length ≤ 1000 ∧ ∀ k, 4000000 ≤ k → spec_CrossedPoints.f k g w = some r ∧ impl_CrossedPoints.f k g w = some r := by
  unfold spec_CrossedPoints.f impl_CrossedPoints.f
  cases ha : askedB g w with
  | false =>
    refine ⟨([], false), by simp, by simp, fun k hk => ?_⟩
    rw [paAsked_eq g w k (by omega), isWord_eq, ha]
    simp
  | true =>
    obtain ⟨hg, hs, hB⟩ := asked_of ha
    have hl := pts_len g w.data.toList z3
    rw [len_data] at hl
    have h2 : ∀ x ∈ pathL g w z3, x.length = 2 := by
      intro x hx
      unfold pathL at hx
      rcases List.mem_cons.1 hx with rfl | hx
      · rfl
      · exact pts_twoE g _ _ x hx
    have hn : 0 < (pathL g w z3).length ∧ (pathL g w z3).length ≤ 1000 := by
      unfold pathL
      simp only [List.length_cons]
      omega
    obtain ⟨o1, o2, o3⟩ := out_inv (pathL g w z3) h2 (pathL g w z3).length (Nat.le_refl _)
    rw [out_pick _ h2] at o2 o3
    refine ⟨(pickL (pathL g w z3), true), ?_, ?_, fun k hk => ?_⟩
    · intro x hx
      have := h2 x (List.mem_of_mem_take ((o2 x).1 hx).1)
      omega
    · show (pickL (pathL g w z3)).length ≤ 1000
      omega
    · rw [paAsked_eq g w k (by omega), isWord_eq, ha, Option.bind_some, Option.bind_some, if_pos rfl, if_pos rfl, path_eq g w hg (by omega) hB k (by omega)]
      have e := walk_eq g w z3 0 hg (by omega) hB (near_z3 hg) (by omega) k (by omega)
      rw [show impl_walk.f k g w 0 0 0 = _ from e, Option.bind_some, Option.bind_some]
      refine ⟨?_, ?_⟩
      · have := cross_loop (pathL g w z3) (pathL g w z3).length rfl h2 hn.2 (pathL g w z3).length 0 k (by omega) (by omega)
        rw [out_pick _ h2] at this
        exact this
      · rw [if_pos]
        exact ⟨hn, List.all_eq_true.2 (fun l hl => decide_eq_true (h2 l hl))⟩
theorem FnExactCrossedPoints : ∀ (a0 : Int) (a1 : ByteArray), (Lit.int .i64 a0).wf = true → a1.size ≤ 140737488351232 → ∃ k, laws_FnExactCrossedPoints.f k a0 a1 = some true := by
  intro g w _ _
  obtain ⟨K, hK⟩ : ∃ K, K = 4000000 := ⟨_, rfl⟩
  refine ⟨K, ?_⟩
  obtain ⟨⟨r, b⟩, ht, hlen, hr⟩ := crossed_both g w
  simp only at ht hlen
  obtain ⟨y, m1, m2⟩ := mark_heldSS 60 (by omega) r ht (by omega) K (by omega)
  unfold laws_FnExactCrossedPoints.f
  by_cases hb : w.size ≤ 1048576
  · rw [if_pos hb]
    simp only [Option.bind_some, (hr K (by omega)).1, (hr K (by omega)).2, eqSS_self 60 (by omega) r ht (by omega) K (by omega), m1, m2 K (by omega)]
    rw [if_pos ⟨trivial, trivial, by omega, trivial⟩]
  · rw [if_neg hb]

end Go.Proofs.YtlnjfbnabjgffaaDoor.Q
