-- The printed functions that FnExactSidesOfChords needs. Written by a program of this work (wip/tools/xpack.py). Not trusted: it is checked when it is built.
import Derived.Test.YtlnjfbnabjgffaaZFnExactSidesOfChords2
namespace Go.Proofs.Ytlnjfbnabjgffaa.X
open Go.RowKit Go.Proofs.YtlnjfbnabjgffaaW.PrintWords Go.Proofs.YtlnjfbnabjgffaaW.PrintLast Go.Proofs.YtlnjfbnabjgffaaW.PrintMore
attribute [local go_sem] max2_int min2_int max_two min_two max_three min_three max_four min_four   -- for this text's walks alone
set_option linter.unusedVariables false
set_option linter.unusedSimpArgs false

/-! ### impl_groups: function 54 -/
mutual
def impl_groups.l0 : Nat → List (S50) → List Bool → List Bool → List (List Int) → Int → Int → Option ((List (List Int)) × List Bool)
  | 0, _, _, _, _, _, _ => none
  | k + 1, x0, x4, x5, x6, x19, x20 => if x20 < x19 then (if 0 ≤ x20 then (if x20 < (x4.length : Int) then (if rdOf false x4 x20 = true then (impl_groups.l0 k x0 x4 x5 x6 x19 (wrap64 (x20 + 1))) else (if x20 < (x5.length : Int) then (impl_groups.l1 k x0 (x4.set (x20 : Int).toNat true) (x5.set (x20 : Int).toNat true) x6 (([x20] : List Int)) 0 x19 x20) else (none))) else (none)) else (none)) else (some (x6, x5))
def impl_groups.l1 : Nat → List (S50) → List Bool → List Bool → List (List Int) → List Int → Int → Int → Int → Option ((List (List Int)) × List Bool)
  | 0, _, _, _, _, _, _, _, _ => none
  | k + 1, x0, x4, x5, x6, x8, x9, x19, x20 => if x9 < (x8.length : Int) then (impl_groups.l2 k x0 x4 x5 x6 x8 x9 x19 x20 (x0.length : Int) 0) else ((slices_Sort_int_int.f x8).bind fun t559 => (if x6.length < 5864062014805 then (impl_groups.l0 k x0 x4 x5 (x6 ++ [t559]) x19 (wrap64 (x20 + 1))) else (none)))
def impl_groups.l2 : Nat → List (S50) → List Bool → List Bool → List (List Int) → List Int → Int → Int → Int → Int → Int → Option ((List (List Int)) × List Bool)
  | 0, _, _, _, _, _, _, _, _, _, _ => none
  | k + 1, x0, x4, x5, x6, x8, x9, x19, x20, x42, x43 => if x43 < x42 then (if 0 ≤ x43 then (if x43 < (x4.length : Int) then (if rdOf false x4 x43 = true then (impl_groups.l2 k x0 x4 x5 x6 x8 x9 x19 x20 x42 (wrap64 (x43 + 1))) else (if 0 ≤ x9 then (if x9 < (x8.length : Int) then (if 0 ≤ (rd x8 x9) then (if (rd x8 x9) < (x0.length : Int) then (if x43 < (x0.length : Int) then ((impl_crossing.f ((rd_T50 x0 (rd x8 x9)).f0) ((rd_T50 x0 (rd x8 x9)).f1) ((rd_T50 x0 x43).f0) ((rd_T50 x0 x43).f1)).bind fun t567 => (if t567 = true then (if (rd x8 x9) < (x5.length : Int) then (if x43 < (x5.length : Int) then (if x8.length < 17592186044416 then (impl_groups.l2 k x0 (x4.set (x43 : Int).toNat true) (x5.set (x43 : Int).toNat (!(rdOf false x5 (rd x8 x9)))) x6 (x8 ++ [x43]) x9 x19 x20 x42 (wrap64 (x43 + 1))) else (none)) else (none)) else (none)) else (impl_groups.l2 k x0 x4 x5 x6 x8 x9 x19 x20 x42 (wrap64 (x43 + 1))))) else (none)) else (none)) else (none)) else (none)) else (none))) else (none)) else (none)) else (impl_groups.l1 k x0 x4 x5 x6 x8 (wrap64 (x9 + 1)) x19 x20)
end
def impl_groups.f (k : Nat) (l0 : List (S50)) : Option ((List (List Int)) × List Bool) := if 0 ≤ (l0.length : Int) then (if ((l0.length : Int) : Int).toNat ≤ 281474976710656 then (impl_groups.l0 k l0 (List.replicate ((l0.length : Int) : Int).toNat false) (List.replicate ((l0.length : Int) : Int).toNat false) (([] : List (List Int))) (l0.length : Int) 0) else (none)) else (none)
theorem impl_groups.mono_l : ∀ k, (∀ y0 y1 y2 y3 y4 y5, LeO (impl_groups.l0 k y0 y1 y2 y3 y4 y5) (impl_groups.l0 (k + 1) y0 y1 y2 y3 y4 y5)) ∧ (∀ y0 y1 y2 y3 y4 y5 y6 y7, LeO (impl_groups.l1 k y0 y1 y2 y3 y4 y5 y6 y7) (impl_groups.l1 (k + 1) y0 y1 y2 y3 y4 y5 y6 y7)) ∧ (∀ y0 y1 y2 y3 y4 y5 y6 y7 y8 y9, LeO (impl_groups.l2 k y0 y1 y2 y3 y4 y5 y6 y7 y8 y9) (impl_groups.l2 (k + 1) y0 y1 y2 y3 y4 y5 y6 y7 y8 y9))
  | 0 => ⟨fun _ _ _ _ _ _ r h => by simp [impl_groups.l0] at h, fun _ _ _ _ _ _ _ _ r h => by simp [impl_groups.l1] at h, fun _ _ _ _ _ _ _ _ _ _ r h => by simp [impl_groups.l2] at h⟩
  | k + 1 => by
    obtain ⟨ih0, ih1, ih2⟩ := impl_groups.mono_l k
    refine ⟨?_, ?_, ?_⟩
    · intro y0 y1 y2 y3 y4 y5
      unfold impl_groups.l0
      repeat' first
      | (with_reducible exact ih0 _ _ _ _ _ _)
      | (with_reducible exact ih1 _ _ _ _ _ _ _ _)
      | (with_reducible exact ih2 _ _ _ _ _ _ _ _ _ _)
      | (with_reducible exact LeO.refl _)
      | (with_reducible exact LeO.none _)
      | (with_reducible refine LeO.ite ?_ ?_)
      | (with_reducible refine LeO.bind ?_ (fun _ => ?_))
      | exact ih0 _ _ _ _ _ _
      | exact ih1 _ _ _ _ _ _ _ _
      | exact ih2 _ _ _ _ _ _ _ _ _ _
      | exact LeO.none _
      | refine LeO.ite ?_ ?_
      | refine LeO.bind ?_ (fun _ => ?_)
    · intro y0 y1 y2 y3 y4 y5 y6 y7
      unfold impl_groups.l1
      repeat' first
      | (with_reducible exact ih0 _ _ _ _ _ _)
      | (with_reducible exact ih1 _ _ _ _ _ _ _ _)
      | (with_reducible exact ih2 _ _ _ _ _ _ _ _ _ _)
      | (with_reducible exact LeO.refl _)
      | (with_reducible exact LeO.none _)
      | (with_reducible refine LeO.ite ?_ ?_)
      | (with_reducible refine LeO.bind ?_ (fun _ => ?_))
      | exact ih0 _ _ _ _ _ _
      | exact ih1 _ _ _ _ _ _ _ _
      | exact ih2 _ _ _ _ _ _ _ _ _ _
      | exact LeO.none _
      | refine LeO.ite ?_ ?_
      | refine LeO.bind ?_ (fun _ => ?_)
    · intro y0 y1 y2 y3 y4 y5 y6 y7 y8 y9
      unfold impl_groups.l2
      repeat' first
      | (with_reducible exact ih0 _ _ _ _ _ _)
      | (with_reducible exact ih1 _ _ _ _ _ _ _ _)
      | (with_reducible exact ih2 _ _ _ _ _ _ _ _ _ _)
      | (with_reducible exact LeO.refl _)
      | (with_reducible exact LeO.none _)
      | (with_reducible refine LeO.ite ?_ ?_)
      | (with_reducible refine LeO.bind ?_ (fun _ => ?_))
      | exact ih0 _ _ _ _ _ _
      | exact ih1 _ _ _ _ _ _ _ _
      | exact ih2 _ _ _ _ _ _ _ _ _ _
      | exact LeO.none _
      | refine LeO.ite ?_ ?_
      | refine LeO.bind ?_ (fun _ => ?_)
theorem impl_groups.mono : ∀ a0 k, LeO (impl_groups.f k a0) (impl_groups.f (k + 1) a0) := by
  intro a0 k
  obtain ⟨ih0, ih1, ih2⟩ := impl_groups.mono_l k
  unfold impl_groups.f
  repeat' first
      | (with_reducible exact ih0 _ _ _ _ _ _)
      | (with_reducible exact ih1 _ _ _ _ _ _ _ _)
      | (with_reducible exact ih2 _ _ _ _ _ _ _ _ _ _)
      | (with_reducible exact LeO.refl _)
      | (with_reducible exact LeO.none _)
      | (with_reducible refine LeO.ite ?_ ?_)
      | (with_reducible refine LeO.bind ?_ (fun _ => ?_))
      | exact ih0 _ _ _ _ _ _
      | exact ih1 _ _ _ _ _ _ _ _
      | exact ih2 _ _ _ _ _ _ _ _ _ _
      | exact LeO.none _
      | refine LeO.ite ?_ ?_
      | refine LeO.bind ?_ (fun _ => ?_)
def impl_groups.T1 : Bool × List (List Nat × List Nat) := (true, [([], []), ([0], [0]), ([1, 1], [1]), ([], []), ([3], [3]), ([4, 4], [4]), ([2, 0, 1, 2], [2]), ([5, 6, 0, 1, 2, 3, 4, 5, 6], [5])])
def impl_groups.B1 : List Nat := [0, 1, 3, 0, 8, 24, 7, 127]
theorem impl_groups.tab1 : rtab .any (opsOf Try.f54 1) = impl_groups.T1 := by kernel_rfl
theorem impl_groups.bits1 : waitsOk impl_groups.T1.2 impl_groups.B1 = true := by kernel_rfl
def impl_groups.T15 : Bool × List (List Nat × List Nat) := (true, [([], []), ([], []), ([0, 1], [0, 1]), ([2], [2]), ([3], [3]), ([4], [4]), ([5], [5]), ([5], [5]), ([5], [5]), ([7, 8, 5], [5, 7, 8]), ([9, 5], [5, 9]), ([6, 10, 5], [5, 6, 10]), ([11, 5], [5, 11]), ([5], [5]), ([5], [5]), ([13, 14, 5], [5, 13, 14]), ([15, 5], [5, 15]), ([12, 16, 5, 5], [5, 12, 16]), ([5, 17], [5, 17])])
def impl_groups.B15 : List Nat := [0, 0, 3, 7, 15, 31, 63, 63, 63, 447, 959, 2047, 4095, 63, 63, 24639, 57407, 131071, 262143]
theorem impl_groups.tab15 : rtab .any (opsOf Try.f54 15) = impl_groups.T15 := by kernel_rfl
theorem impl_groups.bits15 : waitsOk impl_groups.T15.2 impl_groups.B15 = true := by kernel_rfl
set_option maxHeartbeats 8000000 in
set_option maxRecDepth 100000 in
theorem impl_groups.calls (k : Nat) (A0 : Option Addr) (c0 : Nat) (l0 : List (S50)) (r1 : List (List Int)) (r2 : List Bool) (w : World) (hr0 : Kd.C k50 w A0 l0.length l0) (hc0 : l0.length ≤ c0) (h : impl_groups.f k l0 = some (r1, r2)) :
    Calls Try.prog 54 #[.slice A0 l0.length c0] w fun e w' => ∃ v0_ v1_ : Value, e = .returned (.tuple #[v0_, v1_]) ∧ Kd.S (Kd.slice 3 (Kd.int .i64)) 28 w' w.heap.size (fun _ => True) v0_ r1 ∧ Kd.R Kd.bool 4 w' w.heap.size (fun _ => True) v1_ r2 ∧ Below w.heap.size w w' := by
  have hu50 := Try.underlying50
  have HR0 := Aside0.mk hr0
  have HC0 := Aside0.mk hc0
  clear hr0 hc0
  have HB := Aside0.mk (Below.refl w.heap.size w)
  have H : (if 0 ≤ (l0.length : Int) then (if ((l0.length : Int) : Int).toNat ≤ 281474976710656 then (impl_groups.l0 k l0 (List.replicate ((l0.length : Int) : Int).toNat false) (List.replicate ((l0.length : Int) : Int).toNat false) (([] : List (List Int))) (l0.length : Int) 0) else (none)) else (none)) = some (r1, r2) := h
  clear h
  by_cases c2 : 0 ≤ (l0.length : Int)
  · rw [if_pos c2] at H
    have c2b0 := eq_true c2
    have c2b1 : decide (0 ≤ (l0.length : Int)) = true := decide_eq_true c2
    clear c2
    by_cases c3 : ((l0.length : Int) : Int).toNat ≤ 281474976710656
    · rw [if_pos c3] at H
      have c3b0 := eq_true c3
      have c3b1 : decide (((l0.length : Int) : Int).toNat ≤ 281474976710656) = true := decide_eq_true c3
      clear c3
      obtain ⟨y544, hy544⟩ : ∃ y_ : List Bool, y_ = (List.replicate ((l0.length : Int) : Int).toNat false) := ⟨_, rfl⟩
      replace H : (impl_groups.l0 k l0 y544 (List.replicate ((l0.length : Int) : Int).toNat false) (([] : List (List Int))) (l0.length : Int) 0) = some (r1, r2) := by first | (rw [hy544]; with_reducible exact H) | (have H2_ := (Option.bind_some _ _).symm.trans H; rw [hy544]; with_reducible exact H2_) | (have H2_ := (Option.bind_some _ _).symm.trans H; with_reducible exact H2_) | with_reducible exact H | (rw [hy544]; exact H) | exact H
      have Ny544 := Aside0.mk hy544
      clear hy544
      obtain ⟨y547, hy547⟩ : ∃ y_ : List Bool, y_ = (List.replicate ((l0.length : Int) : Int).toNat false) := ⟨_, rfl⟩
      replace H : (impl_groups.l0 k l0 y544 y547 (([] : List (List Int))) (l0.length : Int) 0) = some (r1, r2) := by first | (rw [hy547]; with_reducible exact H) | (have H2_ := (Option.bind_some _ _).symm.trans H; rw [hy547]; with_reducible exact H2_) | (have H2_ := (Option.bind_some _ _).symm.trans H; with_reducible exact H2_) | with_reducible exact H | (rw [hy547]; exact H) | exact H
      have Ny547 := Aside0.mk hy547
      clear hy547
      obtain ⟨y550, hy550⟩ : ∃ y_ : List (List Int), y_ = (([] : List (List Int))) := ⟨_, rfl⟩
      replace H : (impl_groups.l0 k l0 y544 y547 y550 (l0.length : Int) 0) = some (r1, r2) := by first | (rw [hy550]; with_reducible exact H) | (have H2_ := (Option.bind_some _ _).symm.trans H; rw [hy550]; with_reducible exact H2_) | (have H2_ := (Option.bind_some _ _).symm.trans H; with_reducible exact H2_) | with_reducible exact H | (rw [hy550]; exact H) | exact H
      have Ny550 := Aside0.mk hy550
      clear hy550
      have H' := Aside0.mk H
      clear H
      go_enter Try.func54, Try.ntmps54
      try go_wp2
      have n0_ := Aside0.mk (below_drew1 HB.out)
      clear HB
      have HB := n0_
      clear n0_
      refine start_ (n := 8) (S := fun w' => True) (ds := []) #[false, false, false, false, false, false, false, false] (by kernel_rfl) rfl rfl trivial (fun hHeld => ?_); refine with_tabW impl_groups.tab1 impl_groups.bits1 (fun HT_ HW_ => ?_)
      generalize w.drew = w4 at HB hHeld ⊢
      refine pure_ (i := 0) (N := some 11) (v := ?_) (a' := ?_) #[true, false, false, false, false, false, false, false] rfl rfl (any_of HT_.out (by kernel_rfl)) (fun _ _ _ h => h) (Or.inl ⟨by rfl, ?_⟩) ?_ ?_
      rotate_left
      · intro w'
        go_simp
        with_reducible rfl
      rotate_left
      · simp only [Act.put, List.setIfInBounds_toArray, List.set_cons_zero, List.set_cons_succ, i64_w, i32_w]
        rfl
      refine pure_ (i := 1) (N := some 12) (v := ?_) (a' := ?_) #[true, true, false, false, false, false, false, false] rfl rfl (any_of HT_.out (by kernel_rfl)) (fun _ _ _ h => h) (Or.inl ⟨by rfl, ?_⟩) ?_ ?_
      rotate_left
      · intro w'
        go_simp
        with_reducible rfl
      rotate_left
      · simp only [Act.put, List.setIfInBounds_toArray, List.set_cons_zero, List.set_cons_succ, i64_w, i32_w]
        rfl
      refine pure_ (i := 3) (N := some 14) (v := ?_) (a' := ?_) #[true, true, false, true, false, false, false, false] rfl rfl (any_of HT_.out (by kernel_rfl)) (fun _ _ _ h => h) (Or.inl ⟨by rfl, ?_⟩) ?_ ?_
      rotate_left
      · intro w'
        go_simp
        with_reducible rfl
      rotate_left
      · simp only [Act.put, List.setIfInBounds_toArray, List.set_cons_zero, List.set_cons_succ, i64_w, i32_w]
        rfl
      refine pure_ (i := 4) (N := some 15) (v := ?_) (a' := ?_) #[true, true, false, true, true, false, false, false] rfl rfl (any_of HT_.out (by kernel_rfl)) (fun _ _ _ h => h) (Or.inl ⟨by rfl, ?_⟩) ?_ ?_
      rotate_left
      · intro w'
        go_simp
        with_reducible rfl
      rotate_left
      · simp only [Act.put, List.setIfInBounds_toArray, List.set_cons_zero, List.set_cons_succ, i64_w, i32_w]
        rfl
      refine join_ (σ := Value × Value) 1 #[true, true, true, true, true, true, true, false] (fun s_ => [(13, s_.1), (16, s_.2), (4, s_.1)]) (fun s_ w' => (Kd.R Kd.bool 4 w' w.heap.size (fun k_ => some k_ ≠ (s_.2 : Value).ownBlock) s_.1 y544) ∧ (Kd.R Kd.bool 4 w' w.heap.size (fun k_ => some k_ ≠ (s_.1 : Value).ownBlock) s_.2 y547) ∧ (Below w.heap.size w w')) ?_ ?_
      rotate_left
      · intro hCont
        refine two_ (i := 2) (j := 5) (Ni := some 13) (Nj := some 16) #[true, true, true, true, true, false, false, false] #[true, true, false, true, true, true, false, false] rfl rfl rfl rfl (two_of HT_.out (by kernel_rfl)) (by decide) (by decide) (fun K hK => ?_) (fun K hK => ?_)
        · skip
          refine Kd.R_make_step Kd.bool _ 4 (by rfl) (N := 13) rfl 78 _ _ rfl (l0.length : Int) rfl rfl Try.underlying78 (.bool false) 1 info4 rfl (by decide) (by omega) false (ok := fun _ => True) (okp := fun _ => True) rfl (fun _ hk => hk) trivial (of_decide_eq_true (by first | (with_reducible assumption) | assumption)) (Nat.le_trans (Nat.mul_le_mul_right _ (of_decide_eq_true (by first | (with_reducible assumption) | assumption) : (l0.length : Int).toNat ≤ 281474976710656)) (by omega)) (Below.refl _ _) (Nat.le_refl _) ?_
          intro v545 w5 ho6 hb hg_ hnew_
          clear hg_ hnew_
          (first | rw [← Ny544.out] at ho6 | (simp only [Int.reduceToNat] at ho6; rw [← Ny544.out] at ho6))
          have n0_ := Aside0.mk (Kd.R_lower ho6 (below_size (by repeat (first | (with_reducible first | exact HB.out | apply below_alloc | apply pw_below_drewN | apply below_drew1) | exact HB.out))))
          have n1_ := Aside0.mk (below_step (by repeat (first | (with_reducible first | exact HB.out | apply below_alloc | apply pw_below_drewN | apply below_drew1) | exact HB.out)) hb)
          clear HB
          have HO546 := n0_
          have HB := n1_
          clear n0_ n1_
          clear hb ho6
          refine hK.out _ _ trivial (fun hHeld => ?_)
          clear hK K
          refine norm_ (a' := ?_) ?_ ?_
          rotate_left
          · show Act.put _ (some 13) _ = _
            simp only [Act.put, List.setIfInBounds_toArray, List.set_cons_zero, List.set_cons_succ, i64_w, i32_w]
            rfl
          refine pure_ (i := 6) (N := some 4) (v := ?_) (a' := ?_) #[true, true, true, true, true, false, true, false] rfl rfl (any_of HT_.out (by kernel_rfl)) (fun _ _ _ h => h) (Or.inl ⟨by rfl, ?_⟩) ?_ ?_
          rotate_left
          · intro w'
            go_simp
            with_reducible rfl
          rotate_left
          · simp only [Act.put, List.setIfInBounds_toArray, List.set_cons_zero, List.set_cons_succ, i64_w, i32_w]
            rfl
          refine one_ (i := 5) (N := some 16) #[true, true, true, true, true, true, true, false] rfl rfl (one_of HT_.out (by kernel_rfl)) (by decide) (fun K hK => ?_)
          refine Kd.R_make_step Kd.bool _ 4 (by rfl) (N := 16) rfl 78 _ _ rfl (l0.length : Int) rfl rfl Try.underlying78 (.bool false) 1 info4 rfl (by decide) (by omega) false (ok := fun _ => True) (okp := fun _ => True) rfl (fun _ hk => hk) trivial (of_decide_eq_true (by first | (with_reducible assumption) | assumption)) (Nat.le_trans (Nat.mul_le_mul_right _ (of_decide_eq_true (by first | (with_reducible assumption) | assumption) : (l0.length : Int).toNat ≤ 281474976710656)) (by omega)) (Below.refl _ _) (Nat.le_refl _) ?_
          intro v548 w7 ho8 hb hg_ hnew_
          clear hg_ hnew_
          (first | rw [← Ny547.out] at ho8 | (simp only [Int.reduceToNat] at ho8; rw [← Ny547.out] at ho8))
          have n0_ := Aside0.mk (Kd.R_elder' (by (with_reducible repeat (first | apply Kd.R_alloc | apply Kd.R_drewN | apply Kd.R_drew)); exact HO546.out) (Kd.R_base ho8) hb)
          have n1_ := Aside0.mk (Kd.R_lower (Kd.R_new' ho8 (Kd.R_lt (by (with_reducible repeat (first | apply Kd.R_alloc | apply Kd.R_drewN | apply Kd.R_drew)); exact HO546.out))) (below_size (by repeat (first | (with_reducible first | exact HB.out | apply below_alloc | apply pw_below_drewN | apply below_drew1) | exact HB.out))))
          have n2_ := Aside0.mk (below_step (by repeat (first | (with_reducible first | exact HB.out | apply below_alloc | apply pw_below_drewN | apply below_drew1) | exact HB.out)) hb)
          clear HO546
          clear HB
          have HO546 := n0_
          have HO549 := n1_
          have HB := n2_
          clear n0_ n1_ n2_
          clear hb ho8
          refine hK.out _ _ trivial (fun hHeld => ?_)
          clear hK K
          refine norm_ (a' := ?_) ?_ ?_
          rotate_left
          · show Act.put _ (some 16) _ = _
            simp only [Act.put, List.setIfInBounds_toArray, List.set_cons_zero, List.set_cons_succ, i64_w, i32_w]
            rfl
          exact norm_ (by simp only [putAll, Act.put, List.setIfInBounds_toArray, List.set_cons_zero, List.set_cons_succ]) (hCont (v545, v548) _ ⟨(by (with_reducible repeat (first | apply Kd.R_alloc | apply Kd.R_drewN | apply Kd.R_drew)); exact Kd.R_mono HO546.out (fun _ hk => hk.2)), (by (with_reducible repeat (first | apply Kd.R_alloc | apply Kd.R_drewN | apply Kd.R_drew)); exact Kd.R_mono HO549.out (fun _ hk => hk.2)), (by repeat (first | (with_reducible first | exact HB.out | apply below_alloc | apply pw_below_drewN | apply below_drew1) | exact HB.out))⟩)
        · skip
          refine Kd.R_make_step Kd.bool _ 4 (by rfl) (N := 16) rfl 78 _ _ rfl (l0.length : Int) rfl rfl Try.underlying78 (.bool false) 1 info4 rfl (by decide) (by omega) false (ok := fun _ => True) (okp := fun _ => True) rfl (fun _ hk => hk) trivial (of_decide_eq_true (by first | (with_reducible assumption) | assumption)) (Nat.le_trans (Nat.mul_le_mul_right _ (of_decide_eq_true (by first | (with_reducible assumption) | assumption) : (l0.length : Int).toNat ≤ 281474976710656)) (by omega)) (Below.refl _ _) (Nat.le_refl _) ?_
          intro v548 w5 ho6 hb hg_ hnew_
          clear hg_ hnew_
          (first | rw [← Ny547.out] at ho6 | (simp only [Int.reduceToNat] at ho6; rw [← Ny547.out] at ho6))
          have n0_ := Aside0.mk (Kd.R_lower ho6 (below_size (by repeat (first | (with_reducible first | exact HB.out | apply below_alloc | apply pw_below_drewN | apply below_drew1) | exact HB.out))))
          have n1_ := Aside0.mk (below_step (by repeat (first | (with_reducible first | exact HB.out | apply below_alloc | apply pw_below_drewN | apply below_drew1) | exact HB.out)) hb)
          clear HB
          have HO549 := n0_
          have HB := n1_
          clear n0_ n1_
          clear hb ho6
          refine hK.out _ _ trivial (fun hHeld => ?_)
          clear hK K
          refine norm_ (a' := ?_) ?_ ?_
          rotate_left
          · show Act.put _ (some 16) _ = _
            simp only [Act.put, List.setIfInBounds_toArray, List.set_cons_zero, List.set_cons_succ, i64_w, i32_w]
            rfl
          refine one_ (i := 2) (N := some 13) #[true, true, true, true, true, true, false, false] rfl rfl (one_of HT_.out (by kernel_rfl)) (by decide) (fun K hK => ?_)
          refine Kd.R_make_step Kd.bool _ 4 (by rfl) (N := 13) rfl 78 _ _ rfl (l0.length : Int) rfl rfl Try.underlying78 (.bool false) 1 info4 rfl (by decide) (by omega) false (ok := fun _ => True) (okp := fun _ => True) rfl (fun _ hk => hk) trivial (of_decide_eq_true (by first | (with_reducible assumption) | assumption)) (Nat.le_trans (Nat.mul_le_mul_right _ (of_decide_eq_true (by first | (with_reducible assumption) | assumption) : (l0.length : Int).toNat ≤ 281474976710656)) (by omega)) (Below.refl _ _) (Nat.le_refl _) ?_
          intro v545 w7 ho8 hb hg_ hnew_
          clear hg_ hnew_
          (first | rw [← Ny544.out] at ho8 | (simp only [Int.reduceToNat] at ho8; rw [← Ny544.out] at ho8))
          have n0_ := Aside0.mk (Kd.R_elder' (by (with_reducible repeat (first | apply Kd.R_alloc | apply Kd.R_drewN | apply Kd.R_drew)); exact HO549.out) (Kd.R_base ho8) hb)
          have n1_ := Aside0.mk (Kd.R_lower (Kd.R_new' ho8 (Kd.R_lt (by (with_reducible repeat (first | apply Kd.R_alloc | apply Kd.R_drewN | apply Kd.R_drew)); exact HO549.out))) (below_size (by repeat (first | (with_reducible first | exact HB.out | apply below_alloc | apply pw_below_drewN | apply below_drew1) | exact HB.out))))
          have n2_ := Aside0.mk (below_step (by repeat (first | (with_reducible first | exact HB.out | apply below_alloc | apply pw_below_drewN | apply below_drew1) | exact HB.out)) hb)
          clear HO549
          clear HB
          have HO549 := n0_
          have HO546 := n1_
          have HB := n2_
          clear n0_ n1_ n2_
          clear hb ho8
          refine hK.out _ _ trivial (fun hHeld => ?_)
          clear hK K
          refine norm_ (a' := ?_) ?_ ?_
          rotate_left
          · show Act.put _ (some 13) _ = _
            simp only [Act.put, List.setIfInBounds_toArray, List.set_cons_zero, List.set_cons_succ, i64_w, i32_w]
            rfl
          refine pure_ (i := 6) (N := some 4) (v := ?_) (a' := ?_) #[true, true, true, true, true, true, true, false] rfl rfl (any_of HT_.out (by kernel_rfl)) (fun _ _ _ h => h) (Or.inl ⟨by rfl, ?_⟩) ?_ ?_
          rotate_left
          · intro w'
            go_simp
            with_reducible rfl
          rotate_left
          · simp only [Act.put, List.setIfInBounds_toArray, List.set_cons_zero, List.set_cons_succ, i64_w, i32_w]
            rfl
          exact norm_ (by simp only [putAll, Act.put, List.setIfInBounds_toArray, List.set_cons_zero, List.set_cons_succ]) (hCont (v545, v548) _ ⟨(by (with_reducible repeat (first | apply Kd.R_alloc | apply Kd.R_drewN | apply Kd.R_drew)); exact Kd.R_mono HO546.out (fun _ hk => hk.2)), (by (with_reducible repeat (first | apply Kd.R_alloc | apply Kd.R_drewN | apply Kd.R_drew)); exact Kd.R_mono HO549.out (fun _ hk => hk.2)), (by repeat (first | (with_reducible first | exact HB.out | apply below_alloc | apply pw_below_drewN | apply below_drew1) | exact HB.out))⟩)
      rintro ⟨v545, v548⟩ w9 ⟨h0_, h1_, h2_⟩
      have n0_ : Aside0 (Kd.R Kd.bool 4 w9 w.heap.size (fun k_ => some k_ ≠ (v548 : Value).ownBlock) v545 y544) := ⟨h0_⟩
      have n1_ : Aside0 (Kd.R Kd.bool 4 w9 w.heap.size (fun k_ => some k_ ≠ (v545 : Value).ownBlock) v548 y547) := ⟨h1_⟩
      have n2_ : Aside0 (Below w.heap.size w w9) := ⟨h2_⟩
      clear HB
      clear h0_ h1_ h2_
      have HO546 := n0_
      have HO549 := n1_
      have HB := n2_
      clear n0_ n1_ n2_
      have hHeld := trivial
      refine norm_ (a' := ?_) ?_ ?_
      rotate_left
      · simp only [putAll, Act.put, List.setIfInBounds_toArray, List.set_cons_zero, List.set_cons_succ]
        rfl
      refine pure_ (i := 7) (N := some 5) (v := ?_) (a' := ?_) #[true, true, true, true, true, true, true, true] rfl rfl (any_of HT_.out (by kernel_rfl)) (fun _ _ _ h => h) (Or.inl ⟨by rfl, ?_⟩) ?_ ?_
      rotate_left
      · intro w'
        go_simp
        with_reducible rfl
      rotate_left
      · simp only [Act.put, List.setIfInBounds_toArray, List.set_cons_zero, List.set_cons_succ, i64_w, i32_w]
        rfl
      refine done_ (done_of HT_.out (by kernel_rfl)) ?_
      try go_wp2_with (first | ((with_reducible refine gate_dst (N := 17) rfl ?_); refine Kd.S_lit (Kd.slice 3 (Kd.int .i64)) _ 28 ?hg (N := 17) ?hd (xs := ([] : List (List Int))) (inner := []) (ok := fun _ => True) (okp := fun _ => True) ?hr ?hp (fun _ hk => hk) trivial (Below.refl _ _) (Nat.le_refl _) (by simp) ?_; (case hd => rfl); (case hg => rfl); (case hr => first | (go_simp; done) | (go_simp; rfl)); (case hp => exact (Reps.none _ _)); intro v551 w10 ho11 hb hg_ hnew_; clear hg_ hnew_; (first | rw [← Ny550.out] at ho11 | (simp only [Int.reduceToNat] at ho11; rw [← Ny550.out] at ho11)); have n0_ := Aside0.mk (Kd.R_below (by (with_reducible repeat (first | apply Kd.R_alloc | apply Kd.R_drewN | apply Kd.R_drew)); exact HO546.out) hb); have n1_ := Aside0.mk (Kd.R_below (by (with_reducible repeat (first | apply Kd.R_alloc | apply Kd.R_drewN | apply Kd.R_drew)); exact HO549.out) hb); have n2_ := Aside0.mk (Kd.S_lower ho11 (below_size (by repeat (first | (with_reducible first | exact HB.out | apply below_alloc | apply pw_below_drewN | apply below_drew1) | exact HB.out)))); have n3_ := Aside0.mk (below_step (by repeat (first | (with_reducible first | exact HB.out | apply below_alloc | apply pw_below_drewN | apply below_drew1) | exact HB.out)) hb); clear HO546; clear HO549; clear HB; have HO546 := n0_; have HO549 := n1_; have HO552 := n2_; have HB := n3_; clear n0_ n1_ n2_ n3_; clear hb ho11))
      go_loopg [6, 20] k (fun kq v6 v20 w' => ∃ (x4_1 : List Bool) (x5_1 : List Bool) (x6_1 : List (List Int)) (x20_1 : Int), v20 = .int .i64 x20_1 ∧ Aside0 (impl_groups.l0 kq l0 x4_1 x5_1 x6_1 (l0.length : Int) x20_1 = some (r1, r2)) ∧ Aside0 (kq ≤ k) ∧ Aside0 (Kd.R Kd.bool 4 w' w.heap.size (fun k_ => some k_ ≠ (v548 : Value).ownBlock) v545 x4_1) ∧ Aside0 (Kd.R Kd.bool 4 w' w.heap.size (fun k_ => some k_ ≠ (v545 : Value).ownBlock) v548 x5_1) ∧ Aside0 (Kd.S (Kd.slice 3 (Kd.int .i64)) 28 w' w.heap.size (fun _ => True) v6 x6_1) ∧ Aside0 (Below w.heap.size w w'))
      case atStart => exact ⟨(y544), (y547), (y550), (0), (by first | rfl | (simp; done) | (simp [*]; done)), H', ⟨Nat.le_refl _⟩, ⟨by (with_reducible repeat (first | apply Kd.R_alloc | apply Kd.R_drewN | apply Kd.R_drew)); exact HO546.out⟩, ⟨by (with_reducible repeat (first | apply Kd.R_alloc | apply Kd.R_drewN | apply Kd.R_drew)); exact HO549.out⟩, ⟨by (with_reducible repeat (first | apply Kd.S_alloc | apply Kd.S_drewN | apply Kd.S_drew)); exact HO552.out⟩, ⟨by repeat (first | (with_reducible first | exact HB.out | apply below_alloc | apply pw_below_drewN | apply below_drew1) | exact HB.out)⟩⟩
      case round =>
        clear H'
        try clear c2
        try clear c2b0
        try clear c2b1
        try clear p2
        try clear c3
        try clear c3b0
        try clear c3b1
        try clear c5
        obtain ⟨x4_1, x5_1, x6_1, x20_1, rfl, HA, HK1, HO_4, HO_5, HO_6, HB⟩ := hrel
        cases gk with
        | zero => exact absurd HA.out (by simp [impl_groups.l0])
        | succ k1 =>
          have H := HA.out
          clear HA
          simp only [impl_groups.l0] at H
          by_cases c12 : x20_1 < (l0.length : Int)
          · rw [if_pos c12] at H
            have c12b0 : decide (x20_1 < (l0.length : Int)) = true := decide_eq_true c12
            clear c12
            by_cases c13 : 0 ≤ x20_1
            · rw [if_pos c13] at H
              have c13b0 : decide (0 ≤ x20_1) = true := decide_eq_true c13
              clear c13
              by_cases c14 : x20_1 < (x4_1.length : Int)
              · rw [if_pos c14] at H
                have c14b0 : decide (x20_1 < (x4_1.length : Int)) = true := decide_eq_true c14
                clear c14
                obtain ⟨bq15, hbq15⟩ : ∃ b_ : Bool, b_ = (rdOf false x4_1 x20_1) := ⟨_, rfl⟩
                replace H : (if bq15 = true then (impl_groups.l0 k1 l0 x4_1 x5_1 x6_1 (l0.length : Int) (wrap64 (x20_1 + 1))) else (if x20_1 < (x5_1.length : Int) then (impl_groups.l1 k1 l0 (x4_1.set (x20_1 : Int).toNat true) (x5_1.set (x20_1 : Int).toNat true) x6_1 (([x20_1] : List Int)) 0 (l0.length : Int) x20_1) else (none))) = some (r1, r2) := by rw [← hbq15] at H; exact H
                have Nbq15 := Aside0.mk hbq15
                clear hbq15
                by_cases c16 : bq15 = true
                · subst c16
                  have H1 : (impl_groups.l0 k1 l0 x4_1 x5_1 x6_1 (l0.length : Int) (wrap64 (x20_1 + 1))) = some (r1, r2) := by rw [if_pos rfl] at H; exact H
                  clear H
                  have H := H1
                  clear H1
                  have H' := Aside0.mk H
                  clear H
                  obtain ⟨Ao17, co17, eo17⟩ := Kd.R_slice HO_4.out
                  subst eo17
                  have p553 : 0 ≤ (x20_1 : Int) := of_decide_eq_true (by first | (with_reducible assumption) | assumption)
                  have q553 : x20_1 < (x4_1.length : Int) := of_decide_eq_true (by first | (with_reducible assumption) | assumption)
                  obtain ⟨ad553, e553, hx553_0⟩ := Kd.at_bool (Kd.R_reads' HO_4.out).2.2 x20_1 p553 q553
                  (try rw [← Nbq15.out] at hx553_0)
                  cases e553
                  replace p553 := eq_true p553
                  replace q553 := eq_true q553
                  go_wp2
                  go_roundg k1
                  case measure => have := HK1.out; omega
                  case rel => exact ⟨(x4_1), (x5_1), (x6_1), (wrap64 (x20_1 + 1)), (by first | rfl | (simp; done) | (simp [*]; done)), H', ⟨by have := HK1.out; omega⟩, ⟨by (with_reducible repeat (first | apply Kd.R_alloc | apply Kd.R_drewN | apply Kd.R_drew)); exact HO_4.out⟩, ⟨by (with_reducible repeat (first | apply Kd.R_alloc | apply Kd.R_drewN | apply Kd.R_drew)); exact HO_5.out⟩, ⟨by (with_reducible repeat (first | apply Kd.S_alloc | apply Kd.S_drewN | apply Kd.S_drew)); exact HO_6.out⟩, ⟨by repeat (first | (with_reducible first | exact HB.out | apply below_alloc | apply pw_below_drewN | apply below_drew1) | exact HB.out)⟩⟩
                · replace c16 := Bool.eq_false_iff.mpr c16
                  subst c16
                  have H1 : (if x20_1 < (x5_1.length : Int) then (impl_groups.l1 k1 l0 (x4_1.set (x20_1 : Int).toNat true) (x5_1.set (x20_1 : Int).toNat true) x6_1 (([x20_1] : List Int)) 0 (l0.length : Int) x20_1) else (none)) = some (r1, r2) := by rw [if_neg (show ¬ (false = true) by decide)] at H; exact H
                  clear H
                  have H := H1
                  clear H1
                  obtain ⟨y554, hy554⟩ : ∃ y_ : List Bool, y_ = (x4_1.set (x20_1 : Int).toNat true) := ⟨_, rfl⟩
                  replace H : (if x20_1 < (x5_1.length : Int) then (impl_groups.l1 k1 l0 y554 (x5_1.set (x20_1 : Int).toNat true) x6_1 (([x20_1] : List Int)) 0 (l0.length : Int) x20_1) else (none)) = some (r1, r2) := by first | (rw [hy554]; with_reducible exact H) | (have H2_ := (Option.bind_some _ _).symm.trans H; rw [hy554]; with_reducible exact H2_) | (have H2_ := (Option.bind_some _ _).symm.trans H; with_reducible exact H2_) | with_reducible exact H | (rw [hy554]; exact H) | exact H
                  have Ny554 := Aside0.mk hy554
                  clear hy554
                  by_cases c19 : x20_1 < (x5_1.length : Int)
                  · rw [if_pos c19] at H
                    have c19b0 : decide (x20_1 < (x5_1.length : Int)) = true := decide_eq_true c19
                    clear c19
                    obtain ⟨y555, hy555⟩ : ∃ y_ : List Bool, y_ = (x5_1.set (x20_1 : Int).toNat true) := ⟨_, rfl⟩
                    replace H : (impl_groups.l1 k1 l0 y554 y555 x6_1 (([x20_1] : List Int)) 0 (l0.length : Int) x20_1) = some (r1, r2) := by first | (rw [hy555]; with_reducible exact H) | (have H2_ := (Option.bind_some _ _).symm.trans H; rw [hy555]; with_reducible exact H2_) | (have H2_ := (Option.bind_some _ _).symm.trans H; with_reducible exact H2_) | with_reducible exact H | (rw [hy555]; exact H) | exact H
                    have Ny555 := Aside0.mk hy555
                    clear hy555
                    obtain ⟨y556, hy556⟩ : ∃ y_ : List Int, y_ = (([x20_1] : List Int)) := ⟨_, rfl⟩
                    replace H : (impl_groups.l1 k1 l0 y554 y555 x6_1 y556 0 (l0.length : Int) x20_1) = some (r1, r2) := by first | (rw [hy556]; with_reducible exact H) | (have H2_ := (Option.bind_some _ _).symm.trans H; rw [hy556]; with_reducible exact H2_) | (have H2_ := (Option.bind_some _ _).symm.trans H; with_reducible exact H2_) | with_reducible exact H | (rw [hy556]; exact H) | exact H
                    have Ny556 := Aside0.mk hy556
                    clear hy556
                    have H' := Aside0.mk H
                    clear H
                    obtain ⟨Ao21, co21, eo21⟩ := Kd.R_slice HO_4.out
                    subst eo21
                    have p553 : 0 ≤ (x20_1 : Int) := of_decide_eq_true (by first | (with_reducible assumption) | assumption)
                    have q553 : x20_1 < (x4_1.length : Int) := of_decide_eq_true (by first | (with_reducible assumption) | assumption)
                    obtain ⟨ad553, e553, hx553_0⟩ := Kd.at_bool (Kd.R_reads' HO_4.out).2.2 x20_1 p553 q553
                    (try rw [← Nbq15.out] at hx553_0)
                    cases e553
                    replace p553 := eq_true p553
                    replace q553 := eq_true q553
                    have p18 : 0 ≤ (x20_1 : Int) := of_decide_eq_true (by first | (with_reducible assumption) | assumption)
                    have q18 : (x20_1 : Int) < ((x4_1.length : Int) : Int) := of_decide_eq_true (by first | (with_reducible assumption) | assumption)
                    obtain ⟨go18, co18, eo18, gb18, gl18, cl18, HG18⟩ := Kd.R_form HO_4.out (by omega)
                    (first | cases eo18 | (injection eo18 with ea_ en_ ec_; (first | subst ea_ | (injection ea_ with ea_; subst ea_)); subst ec_; clear en_))
                    have GB18 := Aside0.mk gb18
                    have GG18 := Aside0.mk HG18
                    clear gb18 gl18 HG18
                    (first | simp only [add_plain] at hx553_0 | skip)
                    obtain ⟨hx18_0, hf18_0⟩ := Kd.R_celln false HO_4.out (x20_1 : Int) p18 q18
                    replace p18 := eq_true p18
                    replace q18 := eq_true q18
                    have HP22 := Kd.R_putg HO_4.out (x20_1 : Int) true
                    go_wp2_with (first | ((with_reducible refine gate_store (t := 4) (p := 31) rfl ?_); refine store_event (t := 4) (p := 31) (v := ?vo_w23) (w1 := (wr.setCell ⟨go18, (x20_1 : Int).toNat, none⟩ (.bool true))) ?hg ?ho ?hn ?hr ?_; (case ho => rfl); (case hg => rfl); (case hn => rfl); (case hr => first | (go_simp; done) | (go_simp; rfl)); intro w23 hw; have hg : wr.grownBy w23 (some go18) := (by rw [hw]; exact HP22.2); have hp_ : Kd.R Kd.bool 4 w23 w.heap.size (fun k_ => some k_ ≠ (v548 : Value).ownBlock) (.slice (some ⟨go18, 0, none⟩) x4_1.length co21) y554 := (by rw [hw, Ny554.out]; exact HP22.1); clear HP22; have n0_ := Aside0.mk (hp_); have n1_ := Aside0.mk (Kd.R_after (v := (.slice (some ⟨go18, 0, none⟩) x4_1.length co21)) (v1 := (.slice (some ⟨go18, 0, none⟩) x4_1.length co21)) (ok := (fun _ => True)) (by (with_reducible repeat (first | apply Kd.R_alloc | apply Kd.R_drewN | apply Kd.R_drew)); exact Kd.R_mono HO_5.out (fun _ hk => ⟨trivial, hk⟩)) hg (.inl rfl)); have n2_ := Aside0.mk (Kd.S_over' (v := (.slice (some ⟨go18, 0, none⟩) x4_1.length co21)) (by (with_reducible repeat (first | apply Kd.S_alloc | apply Kd.S_drewN | apply Kd.S_drew)); exact HO_6.out) (Kd.R_typed HO_4.out) (by decide) hg); have n3_ := Aside0.mk ((by rw [hw]; exact below_set (HB.out) GB18.out : Below w.heap.size w w23)); clear HO_4; clear HO_5; clear HO_6; clear HB; have HO_4 := n0_; have HO_5 := n1_; have HO_6 := n2_; have HB := n3_; clear n0_ n1_ n2_ n3_; clear hg hw hp_; have p20 : 0 ≤ (x20_1 : Int) := of_decide_eq_true (by first | (with_reducible assumption) | assumption); have q20 : (x20_1 : Int) < ((x5_1.length : Int) : Int) := of_decide_eq_true (by first | (with_reducible assumption) | assumption); obtain ⟨go20, co20, eo20, gb20, gl20, cl20, HG20⟩ := Kd.R_form HO_5.out (by omega); (first | cases eo20 | (injection eo20 with ea_ en_ ec_; (first | subst ea_ | (injection ea_ with ea_; subst ea_)); subst ec_; clear en_)); have GB20 := Aside0.mk gb20; have GG20 := Aside0.mk HG20; clear gb20 gl20 HG20; obtain ⟨hx20_0, hf20_0⟩ := Kd.R_celln false HO_5.out (x20_1 : Int) p20 q20; replace p20 := eq_true p20; replace q20 := eq_true q20; have n_ := Aside0.mk (Kd.R_mono (ok' := (fun k_ => some k_ ≠ (.slice (some ⟨go18, 0, none⟩) x4_1.length co21 : Value).ownBlock)) HO_5.out (fun k_ hk => hk.2)); clear HO_5; have HO_5 := n_; clear n_; obtain ⟨hy24_, hz24_⟩ := Kd.R_celln false HO_5.out (x20_1 : Int) (of_decide_eq_true (by first | (with_reducible assumption) | assumption)) (of_decide_eq_true (by first | (with_reducible assumption) | assumption)); have HP24 := Kd.R_putg HO_5.out (x20_1 : Int) true) | ((with_reducible refine gate_store (t := 4) (p := 32) rfl ?_); refine store_event (t := 4) (p := 32) (v := ?vo_w25) (w1 := (w23.setCell ⟨go20, (x20_1 : Int).toNat, none⟩ (.bool true))) ?hg ?ho ?hn ?hr ?_; (case ho => rfl); (case hg => rfl); (case hn => rfl); (case hr => first | (go_simp; done) | (go_simp; rfl)); intro w25 hw; have hg : w23.grownBy w25 (some go20) := (by rw [hw]; exact HP24.2); have hp_ : Kd.R Kd.bool 4 w25 w.heap.size (fun k_ => some k_ ≠ (.slice (some ⟨go18, 0, none⟩) x4_1.length co21 : Value).ownBlock) (.slice (some ⟨go20, 0, none⟩) x5_1.length co20) y555 := (by rw [hw, Ny555.out]; exact HP24.1); clear HP24; have n0_ := Aside0.mk (Kd.R_after (v := (.slice (some ⟨go20, 0, none⟩) x5_1.length co20)) (v1 := (.slice (some ⟨go20, 0, none⟩) x5_1.length co20)) (ok := (fun _ => True)) (by (with_reducible repeat (first | apply Kd.R_alloc | apply Kd.R_drewN | apply Kd.R_drew)); exact Kd.R_mono HO_4.out (fun _ hk => ⟨trivial, hk⟩)) hg (.inl rfl)); have n1_ := Aside0.mk (hp_); have n2_ := Aside0.mk (Kd.S_over' (v := (.slice (some ⟨go20, 0, none⟩) x5_1.length co20)) (by (with_reducible repeat (first | apply Kd.S_alloc | apply Kd.S_drewN | apply Kd.S_drew)); exact HO_6.out) (Kd.R_typed HO_5.out) (by decide) hg); have n3_ := Aside0.mk ((by rw [hw]; exact below_set (HB.out) GB20.out : Below w.heap.size w w25)); clear HO_4; clear HO_5; clear HO_6; clear HB; have HO_4 := n0_; have HO_5 := n1_; have HO_6 := n2_; have HB := n3_; clear n0_ n1_ n2_ n3_; clear hg hw hp_) | ((with_reducible refine gate_dst (N := 34) rfl ?_); refine Kd.R_lit (Kd.int .i64) _ 3 ?hg (N := 34) ?hd (xs := ([x20_1] : List Int)) (inner := [.int .i64 x20_1]) (ok := fun _ => True) (okp := fun _ => True) ?hr ?hp (fun _ hk => hk) trivial (Below.refl _ _) (Nat.le_refl _) (by simp) ?_; (case hd => rfl); (case hg => rfl); (case hr => first | (go_simp; done) | (go_simp; rfl)); (case hp => exact (Reps.one (show Kd.M (Kd.int .i64) _ _ _ x20_1 [.int .i64 x20_1] from rfl) (Reps.none _ _))); intro v557 w26 ho27 hb hg_ hnew_; clear hg_ hnew_; (first | rw [← Ny556.out] at ho27 | (simp only [Int.reduceToNat] at ho27; rw [← Ny556.out] at ho27)); have n0_ := Aside0.mk (Kd.R_below (by (with_reducible repeat (first | apply Kd.R_alloc | apply Kd.R_drewN | apply Kd.R_drew)); exact HO_4.out) hb); have n1_ := Aside0.mk (Kd.R_below (by (with_reducible repeat (first | apply Kd.R_alloc | apply Kd.R_drewN | apply Kd.R_drew)); exact HO_5.out) hb); have n2_ := Aside0.mk (Kd.S_elder' (by (with_reducible repeat (first | apply Kd.S_alloc | apply Kd.S_drewN | apply Kd.S_drew)); exact HO_6.out) (Kd.R_base ho27) hb); have n3_ := Aside0.mk (Kd.R_lower ho27 (below_size (by repeat (first | (with_reducible first | exact HB.out | apply below_alloc | apply pw_below_drewN | apply below_drew1) | exact HB.out)))); have n4_ := Aside0.mk (below_step (by repeat (first | (with_reducible first | exact HB.out | apply below_alloc | apply pw_below_drewN | apply below_drew1) | exact HB.out)) hb); clear HO_4; clear HO_5; clear HO_6; clear HB; have HO_4 := n0_; have HO_5 := n1_; have HO_6 := n2_; have HO558 := n3_; have HB := n4_; clear n0_ n1_ n2_ n3_ n4_; clear hb ho27))
                    go_loopg [8, 9] k1 (fun kq v8 v9 w' => ∃ (x4_2 : List Bool) (x5_2 : List Bool) (x8_2 : List Int) (x9_2 : Int), v9 = .int .i64 x9_2 ∧ Aside0 (impl_groups.l1 kq l0 x4_2 x5_2 x6_1 x8_2 x9_2 (l0.length : Int) x20_1 = some (r1, r2)) ∧ Aside0 (kq ≤ k1) ∧ Aside0 (Kd.R Kd.bool 4 w' w.heap.size (fun k_ => some k_ ≠ ((.slice (some ⟨go20, 0, none⟩) x5_1.length co20) : Value).ownBlock) (.slice (some ⟨go18, 0, none⟩) x4_1.length co21) x4_2) ∧ Aside0 (Kd.R Kd.bool 4 w' w.heap.size (fun k_ => some k_ ≠ ((.slice (some ⟨go18, 0, none⟩) x4_1.length co21) : Value).ownBlock) (.slice (some ⟨go20, 0, none⟩) x5_1.length co20) x5_2) ∧ Aside0 (Kd.S (Kd.slice 3 (Kd.int .i64)) 28 w' w.heap.size (fun k_ => some k_ ≠ (v8 : Value).ownBlock) u6 x6_1) ∧ Aside0 (Kd.R (Kd.int .i64) 3 w' w.heap.size (fun _ => True) v8 x8_2) ∧ Aside0 (Below w.heap.size w w'))
                    case atStart => exact ⟨(y554), (y555), (y556), (0), (by first | rfl | (simp; done) | (simp [*]; done)), H', ⟨Nat.le_refl _⟩, ⟨by (with_reducible repeat (first | apply Kd.R_alloc | apply Kd.R_drewN | apply Kd.R_drew)); exact Kd.R_mono HO_4.out (fun _ hk => hk.2)⟩, ⟨by (with_reducible repeat (first | apply Kd.R_alloc | apply Kd.R_drewN | apply Kd.R_drew)); exact HO_5.out⟩, ⟨by (with_reducible repeat (first | apply Kd.S_alloc | apply Kd.S_drewN | apply Kd.S_drew)); exact Kd.S_mono HO_6.out (fun _ hk => hk.2)⟩, ⟨by (with_reducible repeat (first | apply Kd.R_alloc | apply Kd.R_drewN | apply Kd.R_drew)); exact HO558.out⟩, ⟨by repeat (first | (with_reducible first | exact HB.out | apply below_alloc | apply pw_below_drewN | apply below_drew1) | exact HB.out)⟩⟩
                    case round =>
                      clear H'
                      try clear c1
                      try clear p1
                      try clear q1
                      try clear hx1
                      try clear hf1
                      try clear c2
                      try clear c2b0
                      try clear c2b1
                      try clear p2
                      try clear q2
                      try clear hx2
                      try clear hf2
                      try clear c3
                      try clear c3b0
                      try clear c3b1
                      try clear c5
                      try clear p5
                      try clear q5
                      try clear hx5
                      try clear p6
                      try clear c12
                      try clear c12b0
                      try clear c13
                      try clear c13b0
                      try clear c14
                      try clear c14b0
                      try clear q15
                      try clear c16
                      try clear p18
                      try clear q18
                      try clear hx18
                      try clear hf18
                      try clear c19
                      try clear c19b0
                      try clear p20
                      try clear q20
                      try clear hx20
                      try clear hf20
                      try clear hx18_0
                      try clear hx20_0
                      try clear hx553_0
                      try clear p18
                      try clear p2
                      try clear p20
                      try clear p553
                      try clear q18
                      try clear q20
                      try clear q553
                      obtain ⟨x4_2, x5_2, x8_2, x9_2, rfl, HA, HK2, HO_4, HO_5, HO_6, HO_8, HB⟩ := hrel
                      have hl4_2 := (Kd.R_reads' HO_4.out).1
                      rw [hl4_2] at HO_4
                      (try simp only [hl4_2])
                      (try simp only [hl4_2] at HO_5)
                      (try simp only [hl4_2] at HO_6)
                      (try simp only [hl4_2] at HO_8)
                      have hl5_2 := (Kd.R_reads' HO_5.out).1
                      rw [hl5_2] at HO_5
                      (try simp only [hl5_2])
                      (try simp only [hl5_2] at HO_4)
                      (try simp only [hl5_2] at HO_6)
                      (try simp only [hl5_2] at HO_8)
                      cases gk with
                      | zero => exact absurd HA.out (by simp [impl_groups.l1])
                      | succ k2 =>
                        have H := HA.out
                        clear HA
                        simp only [impl_groups.l1] at H
                        by_cases c28 : x9_2 < (x8_2.length : Int)
                        · rw [if_pos c28] at H
                          have c28b0 : decide (x9_2 < (x8_2.length : Int)) = true := decide_eq_true c28
                          clear c28
                          have H' := Aside0.mk H
                          clear H
                          obtain ⟨Ao29, co29, eo29⟩ := Kd.R_slice HO_8.out
                          subst eo29
                          go_wp2
                          go_loopg [8, 43] k2 (fun kq v8 v43 w' => ∃ (x4_3 : List Bool) (x5_3 : List Bool) (x8_3 : List Int) (x43_3 : Int), v43 = .int .i64 x43_3 ∧ Aside0 (impl_groups.l2 kq l0 x4_3 x5_3 x6_1 x8_3 x9_2 (l0.length : Int) x20_1 (l0.length : Int) x43_3 = some (r1, r2)) ∧ Aside0 (kq ≤ k2) ∧ Aside0 (Kd.R Kd.bool 4 w' w.heap.size (fun k_ => some k_ ≠ ((.slice (some ⟨go20, 0, none⟩) x5_2.length co20) : Value).ownBlock) (.slice (some ⟨go18, 0, none⟩) x4_2.length co21) x4_3) ∧ Aside0 (Kd.R Kd.bool 4 w' w.heap.size (fun k_ => some k_ ≠ ((.slice (some ⟨go18, 0, none⟩) x4_2.length co21) : Value).ownBlock) (.slice (some ⟨go20, 0, none⟩) x5_2.length co20) x5_3) ∧ Aside0 (Kd.S (Kd.slice 3 (Kd.int .i64)) 28 w' w.heap.size (fun k_ => some k_ ≠ (v8 : Value).ownBlock) u6 x6_1) ∧ Aside0 (Kd.R (Kd.int .i64) 3 w' w.heap.size (fun _ => True) v8 x8_3) ∧ Aside0 (Below w.heap.size w w'))
                          case atStart => exact ⟨(x4_2), (x5_2), (x8_2), (0), (by first | rfl | (simp; done) | (simp [*]; done)), H', ⟨Nat.le_refl _⟩, ⟨by (try simp only [hl4_2]); (try simp only [hl5_2]); (with_reducible repeat (first | apply Kd.R_alloc | apply Kd.R_drewN | apply Kd.R_drew)); exact HO_4.out⟩, ⟨by (try simp only [hl4_2]); (try simp only [hl5_2]); (with_reducible repeat (first | apply Kd.R_alloc | apply Kd.R_drewN | apply Kd.R_drew)); exact HO_5.out⟩, ⟨by (try simp only [hl4_2]); (try simp only [hl5_2]); (with_reducible repeat (first | apply Kd.S_alloc | apply Kd.S_drewN | apply Kd.S_drew)); exact HO_6.out⟩, ⟨by (try simp only [hl4_2]); (try simp only [hl5_2]); (with_reducible repeat (first | apply Kd.R_alloc | apply Kd.R_drewN | apply Kd.R_drew)); exact HO_8.out⟩, ⟨by repeat (first | (with_reducible first | exact HB.out | apply below_alloc | apply pw_below_drewN | apply below_drew1) | exact HB.out)⟩⟩
                          case round =>
                            clear H'
                            try clear c1
                            try clear p1
                            try clear q1
                            try clear hx1
                            try clear hf1
                            try clear c2
                            try clear c2b0
                            try clear c2b1
                            try clear p2
                            try clear q2
                            try clear hx2
                            try clear hf2
                            try clear c3
                            try clear c3b0
                            try clear c3b1
                            try clear c5
                            try clear p5
                            try clear q5
                            try clear hx5
                            try clear p6
                            try clear c12
                            try clear c12b0
                            try clear c13
                            try clear c13b0
                            try clear c14
                            try clear c14b0
                            try clear q15
                            try clear c16
                            try clear p18
                            try clear q18
                            try clear hx18
                            try clear hf18
                            try clear c19
                            try clear c19b0
                            try clear p20
                            try clear q20
                            try clear hx20
                            try clear hf20
                            try clear c28
                            try clear c28b0
                            try clear hx18_0
                            try clear hx20_0
                            try clear hx553_0
                            try clear p1
                            try clear p18
                            try clear p2
                            try clear p20
                            try clear p5
                            try clear p553
                            try clear p6
                            try clear q1
                            try clear q15
                            try clear q18
                            try clear q2
                            try clear q20
                            try clear q5
                            try clear q553
                            obtain ⟨x4_3, x5_3, x8_3, x43_3, rfl, HA, HK3, HO_4, HO_5, HO_6, HO_8, HB⟩ := hrel
                            have hl4_3 := (Kd.R_reads' HO_4.out).1
                            rw [hl4_3] at HO_4
                            (try simp only [hl4_3])
                            (try simp only [hl4_3] at HO_5)
                            (try simp only [hl4_3] at HO_6)
                            (try simp only [hl4_3] at HO_8)
                            have hl5_3 := (Kd.R_reads' HO_5.out).1
                            rw [hl5_3] at HO_5
                            (try simp only [hl5_3])
                            (try simp only [hl5_3] at HO_4)
                            (try simp only [hl5_3] at HO_6)
                            (try simp only [hl5_3] at HO_8)
                            cases gk with
                            | zero => exact absurd HA.out (by simp [impl_groups.l2])
                            | succ k3 =>
                              have H := HA.out
                              clear HA
                              simp only [impl_groups.l2] at H
                              by_cases c30 : x43_3 < (l0.length : Int)
                              · rw [if_pos c30] at H
                                have c30b0 : decide (x43_3 < (l0.length : Int)) = true := decide_eq_true c30
                                clear c30
                                by_cases c31 : 0 ≤ x43_3
                                · rw [if_pos c31] at H
                                  have c31b0 : decide (0 ≤ x43_3) = true := decide_eq_true c31
                                  clear c31
                                  by_cases c32 : x43_3 < (x4_3.length : Int)
                                  · rw [if_pos c32] at H
                                    have c32b0 : decide (x43_3 < (x4_3.length : Int)) = true := decide_eq_true c32
                                    clear c32
                                    obtain ⟨bq33, hbq33⟩ : ∃ b_ : Bool, b_ = (rdOf false x4_3 x43_3) := ⟨_, rfl⟩
                                    replace H : (if bq33 = true then (impl_groups.l2 k3 l0 x4_3 x5_3 x6_1 x8_3 x9_2 (l0.length : Int) x20_1 (l0.length : Int) (wrap64 (x43_3 + 1))) else (if 0 ≤ x9_2 then (if x9_2 < (x8_3.length : Int) then (if 0 ≤ (rd x8_3 x9_2) then (if (rd x8_3 x9_2) < (l0.length : Int) then (if x43_3 < (l0.length : Int) then ((impl_crossing.f ((rd_T50 l0 (rd x8_3 x9_2)).f0) ((rd_T50 l0 (rd x8_3 x9_2)).f1) ((rd_T50 l0 x43_3).f0) ((rd_T50 l0 x43_3).f1)).bind fun t567 => (if t567 = true then (if (rd x8_3 x9_2) < (x5_3.length : Int) then (if x43_3 < (x5_3.length : Int) then (if x8_3.length < 17592186044416 then (impl_groups.l2 k3 l0 (x4_3.set (x43_3 : Int).toNat true) (x5_3.set (x43_3 : Int).toNat (!(rdOf false x5_3 (rd x8_3 x9_2)))) x6_1 (x8_3 ++ [x43_3]) x9_2 (l0.length : Int) x20_1 (l0.length : Int) (wrap64 (x43_3 + 1))) else (none)) else (none)) else (none)) else (impl_groups.l2 k3 l0 x4_3 x5_3 x6_1 x8_3 x9_2 (l0.length : Int) x20_1 (l0.length : Int) (wrap64 (x43_3 + 1))))) else (none)) else (none)) else (none)) else (none)) else (none))) = some (r1, r2) := by rw [← hbq33] at H; exact H
                                    have Nbq33 := Aside0.mk hbq33
                                    clear hbq33
                                    by_cases c34 : bq33 = true
                                    · subst c34
                                      have H1 : (impl_groups.l2 k3 l0 x4_3 x5_3 x6_1 x8_3 x9_2 (l0.length : Int) x20_1 (l0.length : Int) (wrap64 (x43_3 + 1))) = some (r1, r2) := by rw [if_pos rfl] at H; exact H
                                      clear H
                                      have H := H1
                                      clear H1
                                      have H' := Aside0.mk H
                                      clear H
                                      try go_wp2
                                      have n0_ := Aside0.mk (Kd.R_drew HO_4.out)
                                      have n1_ := Aside0.mk (Kd.R_drew HO_5.out)
                                      have n2_ := Aside0.mk (Kd.S_drew HO_6.out)
                                      have n3_ := Aside0.mk (Kd.R_drew HO_8.out)
                                      have n4_ := Aside0.mk (below_drew1 HB.out)
                                      clear HO_4
                                      clear HO_5
                                      clear HO_6
                                      clear HO_8
                                      clear HB
                                      have HO_4 := n0_
                                      have HO_5 := n1_
                                      have HO_6 := n2_
                                      have HO_8 := n3_
                                      have HB := n4_
                                      clear n0_ n1_ n2_ n3_ n4_
                                      have p563 : 0 ≤ (x43_3 : Int) := of_decide_eq_true (by first | (with_reducible assumption) | assumption)
                                      have q563 : x43_3 < (x4_3.length : Int) := of_decide_eq_true (by first | (with_reducible assumption) | assumption)
                                      obtain ⟨ad563, e563, hx563_0⟩ := Kd.at_bool (Kd.R_reads' HO_4.out).2.2 x43_3 p563 q563
                                      (try rw [← Nbq15.out] at hx563_0)
                                      (try rw [← Nbq33.out] at hx563_0)
                                      obtain rfl : (⟨go18, 0, none⟩ : Addr) = ad563 := (by injection e563)
                                      (first | simp only [add_plain] at hx563_0 | simp only [add_at] at hx563_0 | simp only [Addr.add, Nat.zero_add] at hx563_0 | skip)
                                      replace p563 := eq_true p563
                                      replace q563 := eq_true q563
                                      refine start_ (n := 19) (S := fun w' => w'.cell? ⟨go18, (x43_3).toNat, none⟩ = some (.bool true)) (ds := []) #[false, false, false, false, false, false, false, false, false, false, false, false, false, false, false, false, false, false, false] (by kernel_rfl) rfl rfl (hx563_0) (fun hHeld => ?_); refine with_tabW impl_groups.tab15 impl_groups.bits15 (fun HT_ HW_ => ?_)
                                      generalize wr.drew = w35 at HO_4 HO_5 HO_6 HO_8 HB hx563_0 hHeld ⊢
                                      refine pure_ (i := 0) (N := some 46) (v := ?_) (a' := ?_) #[true, false, false, false, false, false, false, false, false, false, false, false, false, false, false, false, false, false, false] rfl rfl (any_of HT_.out (by kernel_rfl)) (fun _ _ _ h => h) (Or.inl ⟨by rfl, ?_⟩) ?_ ?_
                                      rotate_left
                                      · intro w'
                                        go_simp
                                        with_reducible rfl
                                      rotate_left
                                      · simp only [Act.put, List.setIfInBounds_toArray, List.set_cons_zero, List.set_cons_succ, i64_w, i32_w]
                                        rfl
                                      refine pure_ (i := 1) (N := some 47) (v := ?_) (a' := ?_) #[true, true, false, false, false, false, false, false, false, false, false, false, false, false, false, false, false, false, false] rfl rfl (any_of HT_.out (by kernel_rfl)) (fun _ _ _ h => h) (Or.inl ⟨by rfl, ?_⟩) ?_ ?_
                                      rotate_left
                                      · intro w'
                                        go_simp
                                        with_reducible rfl
                                      rotate_left
                                      · simp only [Act.put, List.setIfInBounds_toArray, List.set_cons_zero, List.set_cons_succ, i64_w, i32_w]
                                        rfl
                                      refine pure_ (i := 2) (N := some 48) (v := ?_) (a' := ?_) #[true, true, true, false, false, false, false, false, false, false, false, false, false, false, false, false, false, false, false] rfl rfl (any_of HT_.out (by kernel_rfl)) (fun _ _ _ h => h) (Or.inl ⟨by rfl, ?_⟩) ?_ ?_
                                      rotate_left
                                      · intro w'
                                        go_simp
                                        with_reducible rfl
                                      rotate_left
                                      · simp only [Act.put, List.setIfInBounds_toArray, List.set_cons_zero, List.set_cons_succ, i64_w, i32_w]
                                        rfl
                                      refine take_ (i := 3) (N := some 49) (v := ?_) (a' := ?_) #[true, true, true, true, false, false, false, false, false, false, false, false, false, false, false, false, false, false, false] rfl rfl (take_ofW HT_.out HW_.out (by kernel_rfl)) (fun _ _ _ h => h) (Or.inl ⟨by rfl, ?_⟩) hHeld ?_ ?_
                                      rotate_left
                                      · intro w' s0
                                        go_simp
                                        with_reducible rfl
                                      rotate_left
                                      · simp only [Act.put, List.setIfInBounds_toArray, List.set_cons_zero, List.set_cons_succ, i64_w, i32_w]
                                        rfl
                                      refine pure_ (i := 4) (N := some 50) (v := ?_) (a' := ?_) #[true, true, true, true, true, false, false, false, false, false, false, false, false, false, false, false, false, false, false] rfl rfl (any_of HT_.out (by kernel_rfl)) (fun _ _ _ h => h) (Or.inl ⟨by rfl, ?_⟩) ?_ ?_
                                      rotate_left
                                      · intro w'
                                        go_simp
                                        with_reducible rfl
                                      rotate_left
                                      · simp only [Act.put, List.setIfInBounds_toArray, List.set_cons_zero, List.set_cons_succ, i64_w, i32_w]
                                        rfl
                                      refine pure_ (i := 5) (N := some 51) (v := ?_) (a' := ?_) #[true, true, true, true, true, true, false, false, false, false, false, false, false, false, false, false, false, false, false] rfl rfl (any_of HT_.out (by kernel_rfl)) (fun _ _ _ h => h) (Or.inl ⟨by rfl, ?_⟩) ?_ ?_
                                      rotate_left
                                      · intro w'
                                        go_simp
                                        with_reducible rfl
                                      rotate_left
                                      · simp only [Act.put, List.setIfInBounds_toArray, List.set_cons_zero, List.set_cons_succ, i64_w, i32_w]
                                        rfl
                                      refine pure_ (i := 6) (N := some 52) (v := undef) (a' := ?_) #[true, true, true, true, true, true, true, false, false, false, false, false, false, false, false, false, false, false, false] rfl rfl (any_of HT_.out (by kernel_rfl)) (fun _ _ _ h => h) (Or.inr ⟨by rfl, rfl⟩) ?_ ?_
                                      rotate_left
                                      · simp only [Act.put, List.setIfInBounds_toArray, List.set_cons_zero, List.set_cons_succ, i64_w, i32_w]
                                        rfl
                                      refine pure_ (i := 7) (N := some 53) (v := undef) (a' := ?_) #[true, true, true, true, true, true, true, true, false, false, false, false, false, false, false, false, false, false, false] rfl rfl (any_of HT_.out (by kernel_rfl)) (fun _ _ _ h => h) (Or.inr ⟨by rfl, rfl⟩) ?_ ?_
                                      rotate_left
                                      · simp only [Act.put, List.setIfInBounds_toArray, List.set_cons_zero, List.set_cons_succ, i64_w, i32_w]
                                        rfl
                                      refine pure_ (i := 8) (N := some 54) (v := undef) (a' := ?_) #[true, true, true, true, true, true, true, true, true, false, false, false, false, false, false, false, false, false, false] rfl rfl (any_of HT_.out (by kernel_rfl)) (fun _ _ _ h => h) (Or.inr ⟨by rfl, rfl⟩) ?_ ?_
                                      rotate_left
                                      · simp only [Act.put, List.setIfInBounds_toArray, List.set_cons_zero, List.set_cons_succ, i64_w, i32_w]
                                        rfl
                                      refine pure_ (i := 9) (N := some 55) (v := undef) (a' := ?_) #[true, true, true, true, true, true, true, true, true, true, false, false, false, false, false, false, false, false, false] rfl rfl (any_of HT_.out (by kernel_rfl)) (fun _ _ _ h => h) (Or.inr ⟨by rfl, rfl⟩) ?_ ?_
                                      rotate_left
                                      · simp only [Act.put, List.setIfInBounds_toArray, List.set_cons_zero, List.set_cons_succ, i64_w, i32_w]
                                        rfl
                                      refine pure_ (i := 10) (N := some 56) (v := undef) (a' := ?_) #[true, true, true, true, true, true, true, true, true, true, true, false, false, false, false, false, false, false, false] rfl rfl (any_of HT_.out (by kernel_rfl)) (fun _ _ _ h => h) (Or.inr ⟨by rfl, rfl⟩) ?_ ?_
                                      rotate_left
                                      · simp only [Act.put, List.setIfInBounds_toArray, List.set_cons_zero, List.set_cons_succ, i64_w, i32_w]
                                        rfl
                                      refine pure_ (i := 11) (N := some 57) (v := undef) (a' := ?_) #[true, true, true, true, true, true, true, true, true, true, true, true, false, false, false, false, false, false, false] rfl rfl (any_of HT_.out (by kernel_rfl)) (fun _ _ _ h => h) (Or.inr ⟨by rfl, rfl⟩) ?_ ?_
                                      rotate_left
                                      · simp only [Act.put, List.setIfInBounds_toArray, List.set_cons_zero, List.set_cons_succ, i64_w, i32_w]
                                        rfl
                                      refine pure_ (i := 12) (N := some 58) (v := undef) (a' := ?_) #[true, true, true, true, true, true, true, true, true, true, true, true, true, false, false, false, false, false, false] rfl rfl (any_of HT_.out (by kernel_rfl)) (fun _ _ _ h => h) (Or.inr ⟨by rfl, rfl⟩) ?_ ?_
                                      rotate_left
                                      · simp only [Act.put, List.setIfInBounds_toArray, List.set_cons_zero, List.set_cons_succ, i64_w, i32_w]
                                        rfl
                                      refine pure_ (i := 13) (N := some 59) (v := undef) (a' := ?_) #[true, true, true, true, true, true, true, true, true, true, true, true, true, true, false, false, false, false, false] rfl rfl (any_of HT_.out (by kernel_rfl)) (fun _ _ _ h => h) (Or.inr ⟨by rfl, rfl⟩) ?_ ?_
                                      rotate_left
                                      · simp only [Act.put, List.setIfInBounds_toArray, List.set_cons_zero, List.set_cons_succ, i64_w, i32_w]
                                        rfl
                                      refine pure_ (i := 14) (N := some 60) (v := undef) (a' := ?_) #[true, true, true, true, true, true, true, true, true, true, true, true, true, true, true, false, false, false, false] rfl rfl (any_of HT_.out (by kernel_rfl)) (fun _ _ _ h => h) (Or.inr ⟨by rfl, rfl⟩) ?_ ?_
                                      rotate_left
                                      · simp only [Act.put, List.setIfInBounds_toArray, List.set_cons_zero, List.set_cons_succ, i64_w, i32_w]
                                        rfl
                                      refine pure_ (i := 15) (N := some 61) (v := undef) (a' := ?_) #[true, true, true, true, true, true, true, true, true, true, true, true, true, true, true, true, false, false, false] rfl rfl (any_of HT_.out (by kernel_rfl)) (fun _ _ _ h => h) (Or.inr ⟨by rfl, rfl⟩) ?_ ?_
                                      rotate_left
                                      · simp only [Act.put, List.setIfInBounds_toArray, List.set_cons_zero, List.set_cons_succ, i64_w, i32_w]
                                        rfl
                                      refine pure_ (i := 16) (N := some 62) (v := undef) (a' := ?_) #[true, true, true, true, true, true, true, true, true, true, true, true, true, true, true, true, true, false, false] rfl rfl (any_of HT_.out (by kernel_rfl)) (fun _ _ _ h => h) (Or.inr ⟨by rfl, rfl⟩) ?_ ?_
                                      rotate_left
                                      · simp only [Act.put, List.setIfInBounds_toArray, List.set_cons_zero, List.set_cons_succ, i64_w, i32_w]
                                        rfl
                                      refine pure_ (i := 17) (N := some 63) (v := undef) (a' := ?_) #[true, true, true, true, true, true, true, true, true, true, true, true, true, true, true, true, true, true, false] rfl rfl (any_of HT_.out (by kernel_rfl)) (fun _ _ _ h => h) (Or.inr ⟨by rfl, rfl⟩) ?_ ?_
                                      rotate_left
                                      · simp only [Act.put, List.setIfInBounds_toArray, List.set_cons_zero, List.set_cons_succ, i64_w, i32_w]
                                        rfl
                                      refine pure_ (i := 18) (N := some 64) (v := ?_) (a' := ?_) #[true, true, true, true, true, true, true, true, true, true, true, true, true, true, true, true, true, true, true] rfl rfl (any_of HT_.out (by kernel_rfl)) (fun _ _ _ h => h) (Or.inl ⟨by rfl, ?_⟩) ?_ ?_
                                      rotate_left
                                      · intro w'
                                        go_simp
                                        with_reducible rfl
                                      rotate_left
                                      · simp only [Act.put, List.setIfInBounds_toArray, List.set_cons_zero, List.set_cons_succ, i64_w, i32_w]
                                        rfl
                                      refine done_ (done_of HT_.out (by kernel_rfl)) ?_
                                      try go_wp2
                                      (try simp only [← hl4_3, ← hl5_3])
                                      go_roundg k3
                                      case measure => have := HK1.out; have := HK2.out; have := HK3.out; omega
                                      case rel => exact ⟨(x4_3), (x5_3), (x8_3), (wrap64 (x43_3 + 1)), (by first | rfl | (simp; done) | (simp [*]; done)), H', ⟨by have := HK1.out; have := HK2.out; have := HK3.out; omega⟩, ⟨by (try simp only [hl4_2]); (try simp only [hl5_2]); (try simp only [hl4_3]); (try simp only [hl5_3]); (with_reducible repeat (first | apply Kd.R_alloc | apply Kd.R_drewN | apply Kd.R_drew)); exact HO_4.out⟩, ⟨by (try simp only [hl4_2]); (try simp only [hl5_2]); (try simp only [hl4_3]); (try simp only [hl5_3]); (with_reducible repeat (first | apply Kd.R_alloc | apply Kd.R_drewN | apply Kd.R_drew)); exact HO_5.out⟩, ⟨by (try simp only [hl4_2]); (try simp only [hl5_2]); (try simp only [hl4_3]); (try simp only [hl5_3]); (with_reducible repeat (first | apply Kd.S_alloc | apply Kd.S_drewN | apply Kd.S_drew)); exact HO_6.out⟩, ⟨by (try simp only [hl4_2]); (try simp only [hl5_2]); (try simp only [hl4_3]); (try simp only [hl5_3]); (with_reducible repeat (first | apply Kd.R_alloc | apply Kd.R_drewN | apply Kd.R_drew)); exact HO_8.out⟩, ⟨by repeat (first | (with_reducible first | exact HB.out | apply below_alloc | apply pw_below_drewN | apply below_drew1) | exact HB.out)⟩⟩
                                    · replace c34 := Bool.eq_false_iff.mpr c34
                                      subst c34
                                      have H1 : (if 0 ≤ x9_2 then (if x9_2 < (x8_3.length : Int) then (if 0 ≤ (rd x8_3 x9_2) then (if (rd x8_3 x9_2) < (l0.length : Int) then (if x43_3 < (l0.length : Int) then ((impl_crossing.f ((rd_T50 l0 (rd x8_3 x9_2)).f0) ((rd_T50 l0 (rd x8_3 x9_2)).f1) ((rd_T50 l0 x43_3).f0) ((rd_T50 l0 x43_3).f1)).bind fun t567 => (if t567 = true then (if (rd x8_3 x9_2) < (x5_3.length : Int) then (if x43_3 < (x5_3.length : Int) then (if x8_3.length < 17592186044416 then (impl_groups.l2 k3 l0 (x4_3.set (x43_3 : Int).toNat true) (x5_3.set (x43_3 : Int).toNat (!(rdOf false x5_3 (rd x8_3 x9_2)))) x6_1 (x8_3 ++ [x43_3]) x9_2 (l0.length : Int) x20_1 (l0.length : Int) (wrap64 (x43_3 + 1))) else (none)) else (none)) else (none)) else (impl_groups.l2 k3 l0 x4_3 x5_3 x6_1 x8_3 x9_2 (l0.length : Int) x20_1 (l0.length : Int) (wrap64 (x43_3 + 1))))) else (none)) else (none)) else (none)) else (none)) else (none)) = some (r1, r2) := by rw [if_neg (show ¬ (false = true) by decide)] at H; exact H
                                      clear H
                                      have H := H1
                                      clear H1
                                      by_cases c36 : 0 ≤ x9_2
                                      · rw [if_pos c36] at H
                                        have c36b0 : decide (0 ≤ x9_2) = true := decide_eq_true c36
                                        clear c36
                                        by_cases c37 : x9_2 < (x8_3.length : Int)
                                        · rw [if_pos c37] at H
                                          have c37b0 : decide (x9_2 < (x8_3.length : Int)) = true := decide_eq_true c37
                                          clear c37
                                          by_cases c38 : 0 ≤ (rd x8_3 x9_2)
                                          · rw [if_pos c38] at H
                                            have c38b0 : decide (0 ≤ (rd x8_3 x9_2)) = true := decide_eq_true c38
                                            clear c38
                                            by_cases c39 : (rd x8_3 x9_2) < (l0.length : Int)
                                            · rw [if_pos c39] at H
                                              have c39b0 : decide ((rd x8_3 x9_2) < (l0.length : Int)) = true := decide_eq_true c39
                                              clear c39
                                              by_cases c40 : x43_3 < (l0.length : Int)
                                              · rw [if_pos c40] at H
                                                have c40b0 : decide (x43_3 < (l0.length : Int)) = true := decide_eq_true c40
                                                clear c40
                                                replace H := Option.bind_eq_some_iff.mp H
                                                obtain ⟨t567, A410, H⟩ := H
                                                replace H : (if t567 = true then (if (rd x8_3 x9_2) < (x5_3.length : Int) then (if x43_3 < (x5_3.length : Int) then (if x8_3.length < 17592186044416 then (impl_groups.l2 k3 l0 (x4_3.set (x43_3 : Int).toNat true) (x5_3.set (x43_3 : Int).toNat (!(rdOf false x5_3 (rd x8_3 x9_2)))) x6_1 (x8_3 ++ [x43_3]) x9_2 (l0.length : Int) x20_1 (l0.length : Int) (wrap64 (x43_3 + 1))) else (none)) else (none)) else (none)) else (impl_groups.l2 k3 l0 x4_3 x5_3 x6_1 x8_3 x9_2 (l0.length : Int) x20_1 (l0.length : Int) (wrap64 (x43_3 + 1)))) = some (r1, r2) := H
                                                have A41 := Aside0.mk A410
                                                clear A410
                                                by_cases c42 : t567 = true
                                                · subst c42
                                                  have H1 : (if (rd x8_3 x9_2) < (x5_3.length : Int) then (if x43_3 < (x5_3.length : Int) then (if x8_3.length < 17592186044416 then (impl_groups.l2 k3 l0 (x4_3.set (x43_3 : Int).toNat true) (x5_3.set (x43_3 : Int).toNat (!(rdOf false x5_3 (rd x8_3 x9_2)))) x6_1 (x8_3 ++ [x43_3]) x9_2 (l0.length : Int) x20_1 (l0.length : Int) (wrap64 (x43_3 + 1))) else (none)) else (none)) else (none)) = some (r1, r2) := by rw [if_pos rfl] at H; exact H
                                                  clear H
                                                  have H := H1
                                                  clear H1
                                                  by_cases c43 : (rd x8_3 x9_2) < (x5_3.length : Int)
                                                  · rw [if_pos c43] at H
                                                    have c43b0 : decide ((rd x8_3 x9_2) < (x5_3.length : Int)) = true := decide_eq_true c43
                                                    clear c43
                                                    obtain ⟨y570, hy570⟩ : ∃ y_ : List Bool, y_ = (x4_3.set (x43_3 : Int).toNat true) := ⟨_, rfl⟩
                                                    replace H : (if x43_3 < (x5_3.length : Int) then (if x8_3.length < 17592186044416 then (impl_groups.l2 k3 l0 y570 (x5_3.set (x43_3 : Int).toNat (!(rdOf false x5_3 (rd x8_3 x9_2)))) x6_1 (x8_3 ++ [x43_3]) x9_2 (l0.length : Int) x20_1 (l0.length : Int) (wrap64 (x43_3 + 1))) else (none)) else (none)) = some (r1, r2) := by first | (rw [hy570]; with_reducible exact H) | (have H2_ := (Option.bind_some _ _).symm.trans H; rw [hy570]; with_reducible exact H2_) | (have H2_ := (Option.bind_some _ _).symm.trans H; with_reducible exact H2_) | with_reducible exact H | (rw [hy570]; exact H) | exact H
                                                    have Ny570 := Aside0.mk hy570
                                                    clear hy570
                                                    by_cases c45 : x43_3 < (x5_3.length : Int)
                                                    · rw [if_pos c45] at H
                                                      have c45b0 : decide (x43_3 < (x5_3.length : Int)) = true := decide_eq_true c45
                                                      clear c45
                                                      obtain ⟨y571, hy571⟩ : ∃ y_ : List Bool, y_ = (x5_3.set (x43_3 : Int).toNat (!(rdOf false x5_3 (rd x8_3 x9_2)))) := ⟨_, rfl⟩
                                                      replace H : (if x8_3.length < 17592186044416 then (impl_groups.l2 k3 l0 y570 y571 x6_1 (x8_3 ++ [x43_3]) x9_2 (l0.length : Int) x20_1 (l0.length : Int) (wrap64 (x43_3 + 1))) else (none)) = some (r1, r2) := by first | (rw [hy571]; with_reducible exact H) | (have H2_ := (Option.bind_some _ _).symm.trans H; rw [hy571]; with_reducible exact H2_) | (have H2_ := (Option.bind_some _ _).symm.trans H; with_reducible exact H2_) | with_reducible exact H | (rw [hy571]; exact H) | exact H
                                                      have Ny571 := Aside0.mk hy571
                                                      clear hy571
                                                      by_cases c47 : x8_3.length < 17592186044416
                                                      · rw [if_pos c47] at H
                                                        have LMc47 := Aside0.mk c47
                                                        clear c47
                                                        obtain ⟨y572, hy572⟩ : ∃ y_ : List Int, y_ = (x8_3 ++ [x43_3]) := ⟨_, rfl⟩
                                                        replace H : (impl_groups.l2 k3 l0 y570 y571 x6_1 y572 x9_2 (l0.length : Int) x20_1 (l0.length : Int) (wrap64 (x43_3 + 1))) = some (r1, r2) := by first | (rw [hy572]; with_reducible exact H) | (have H2_ := (Option.bind_some _ _).symm.trans H; rw [hy572]; with_reducible exact H2_) | (have H2_ := (Option.bind_some _ _).symm.trans H; with_reducible exact H2_) | with_reducible exact H | (rw [hy572]; exact H) | exact H
                                                        have Ny572 := Aside0.mk hy572
                                                        clear hy572
                                                        have H' := Aside0.mk H
                                                        clear H
                                                        try go_wp2
                                                        have n0_ := Aside0.mk (Kd.R_drew HO_4.out)
                                                        have n1_ := Aside0.mk (Kd.R_drew HO_5.out)
                                                        have n2_ := Aside0.mk (Kd.S_drew HO_6.out)
                                                        have n3_ := Aside0.mk (Kd.R_drew HO_8.out)
                                                        have n4_ := Aside0.mk (below_drew1 HB.out)
                                                        clear HO_4
                                                        clear HO_5
                                                        clear HO_6
                                                        clear HO_8
                                                        clear HB
                                                        have HO_4 := n0_
                                                        have HO_5 := n1_
                                                        have HO_6 := n2_
                                                        have HO_8 := n3_
                                                        have HB := n4_
                                                        clear n0_ n1_ n2_ n3_ n4_
                                                        have p563 : 0 ≤ (x43_3 : Int) := of_decide_eq_true (by first | (with_reducible assumption) | assumption)
                                                        have q563 : x43_3 < (x4_3.length : Int) := of_decide_eq_true (by first | (with_reducible assumption) | assumption)
                                                        obtain ⟨ad563, e563, hx563_0⟩ := Kd.at_bool (Kd.R_reads' HO_4.out).2.2 x43_3 p563 q563
                                                        (try rw [← Nbq15.out] at hx563_0)
                                                        (try rw [← Nbq33.out] at hx563_0)
                                                        obtain rfl : (⟨go18, 0, none⟩ : Addr) = ad563 := (by injection e563)
                                                        (first | simp only [add_plain] at hx563_0 | simp only [add_at] at hx563_0 | simp only [Addr.add, Nat.zero_add] at hx563_0 | skip)
                                                        replace p563 := eq_true p563
                                                        replace q563 := eq_true q563
                                                        obtain ⟨Ao49, co49, eo49⟩ := Kd.R_slice HO_8.out
                                                        (first | subst eo49 | (injection eo49 with f1_ f2_ f3_; have f4_ := f1_.symm; have f5_ := f3_.symm; clear f1_ f2_ f3_; subst f4_; subst f5_))
                                                        have p564 : 0 ≤ (x9_2 : Int) := of_decide_eq_true (by first | (with_reducible assumption) | assumption)
                                                        have q564 : x9_2 < (x8_3.length : Int) := of_decide_eq_true (by first | (with_reducible assumption) | assumption)
                                                        obtain ⟨ad564, e564, hx564_0⟩ := Kd.at_int (Kd.R_reads' HO_8.out).2.2 x9_2 p564 q564
                                                        cases e564
                                                        replace p564 := eq_true p564
                                                        replace q564 := eq_true q564
                                                        have p565 : 0 ≤ ((rd x8_3 x9_2) : Int) := of_decide_eq_true (by first | (with_reducible assumption) | assumption)
                                                        have q565 : (rd x8_3 x9_2) < (l0.length : Int) := of_decide_eq_true (by first | (with_reducible assumption) | assumption)
                                                        obtain ⟨ad565, e565, hx565_0, hx565_1⟩ := at_T50 HR0.out (rd x8_3 x9_2) p565 q565
                                                        have hw565_1 := hx565_1
                                                        have hw565_0 := hx565_0
                                                        cases e565
                                                        replace hx565_0 := (HB.out.cell (World.block_lt_of_cell? w _ hx565_0)).trans hx565_0
                                                        replace hx565_1 := (HB.out.cell (World.block_lt_of_cell? w _ hx565_1)).trans hx565_1
                                                        replace p565 := eq_true p565
                                                        replace q565 := eq_true q565
                                                        have p566 : 0 ≤ (x43_3 : Int) := of_decide_eq_true (by first | (with_reducible assumption) | assumption)
                                                        have q566 : x43_3 < (l0.length : Int) := of_decide_eq_true (by first | (with_reducible assumption) | assumption)
                                                        obtain ⟨ad566, e566, hx566_0, hx566_1⟩ := at_T50 HR0.out x43_3 p566 q566
                                                        have hw566_1 := hx566_1
                                                        have hw566_0 := hx566_0
                                                        obtain rfl : ad565 = ad566 := (by injection e566)
                                                        replace hx566_0 := (HB.out.cell (World.block_lt_of_cell? w _ hx566_0)).trans hx566_0
                                                        replace hx566_1 := (HB.out.cell (World.block_lt_of_cell? w _ hx566_1)).trans hx566_1
                                                        replace p566 := eq_true p566
                                                        replace q566 := eq_true q566
                                                        refine start_ (n := 19) (S := fun w' => w'.cell? ⟨go18, (x43_3).toNat, none⟩ = some (.bool false) ∧ w'.cell? (ad564.add (x9_2).toNat) = some (.int .i64 (rd x8_3 x9_2)) ∧ w'.cell? (ad565.add (((rd x8_3 x9_2)).toNat * 2)) = some (.int .i64 ((rd_T50 l0 (rd x8_3 x9_2)).f0)) ∧ w'.cell? ⟨(ad565.add (((rd x8_3 x9_2)).toNat * 2)).block, (ad565.add (((rd x8_3 x9_2)).toNat * 2)).off + 1, none⟩ = some (.int .i64 ((rd_T50 l0 (rd x8_3 x9_2)).f1)) ∧ w'.cell? (ad565.add ((x43_3).toNat * 2)) = some (.int .i64 ((rd_T50 l0 x43_3).f0)) ∧ w'.cell? ⟨(ad565.add ((x43_3).toNat * 2)).block, (ad565.add ((x43_3).toNat * 2)).off + 1, none⟩ = some (.int .i64 ((rd_T50 l0 x43_3).f1))) (ds := []) #[false, false, false, false, false, false, false, false, false, false, false, false, false, false, false, false, false, false, false] (by kernel_rfl) rfl rfl ⟨hx563_0, hx564_0, ((HB.out.cell (World.block_lt_of_cell? w _ hw565_0)).trans hw565_0), ((HB.out.cell (World.block_lt_of_cell? w _ hw565_1)).trans hw565_1), ((HB.out.cell (World.block_lt_of_cell? w _ hw566_0)).trans hw566_0), ((HB.out.cell (World.block_lt_of_cell? w _ hw566_1)).trans hw566_1)⟩ (fun hHeld => ?_); refine with_tabW impl_groups.tab15 impl_groups.bits15 (fun HT_ HW_ => ?_)
                                                        generalize wr.drew = w48 at HO_4 HO_5 HO_6 HO_8 HB hx563_0 hx564_0 hx565_0 hx565_1 hx566_0 hx566_1 hHeld ⊢
                                                        refine pure_ (i := 0) (N := some 46) (v := ?_) (a' := ?_) #[true, false, false, false, false, false, false, false, false, false, false, false, false, false, false, false, false, false, false] rfl rfl (any_of HT_.out (by kernel_rfl)) (fun _ _ _ h => h) (Or.inl ⟨by rfl, ?_⟩) ?_ ?_
                                                        rotate_left
                                                        · intro w'
                                                          go_simp
                                                          with_reducible rfl
                                                        rotate_left
                                                        · simp only [Act.put, List.setIfInBounds_toArray, List.set_cons_zero, List.set_cons_succ, i64_w, i32_w]
                                                          rfl
                                                        refine pure_ (i := 1) (N := some 47) (v := ?_) (a' := ?_) #[true, true, false, false, false, false, false, false, false, false, false, false, false, false, false, false, false, false, false] rfl rfl (any_of HT_.out (by kernel_rfl)) (fun _ _ _ h => h) (Or.inl ⟨by rfl, ?_⟩) ?_ ?_
                                                        rotate_left
                                                        · intro w'
                                                          go_simp
                                                          with_reducible rfl
                                                        rotate_left
                                                        · simp only [Act.put, List.setIfInBounds_toArray, List.set_cons_zero, List.set_cons_succ, i64_w, i32_w]
                                                          rfl
                                                        refine pure_ (i := 2) (N := some 48) (v := ?_) (a' := ?_) #[true, true, true, false, false, false, false, false, false, false, false, false, false, false, false, false, false, false, false] rfl rfl (any_of HT_.out (by kernel_rfl)) (fun _ _ _ h => h) (Or.inl ⟨by rfl, ?_⟩) ?_ ?_
                                                        rotate_left
                                                        · intro w'
                                                          go_simp
                                                          with_reducible rfl
                                                        rotate_left
                                                        · simp only [Act.put, List.setIfInBounds_toArray, List.set_cons_zero, List.set_cons_succ, i64_w, i32_w]
                                                          rfl
                                                        refine take_ (i := 3) (N := some 49) (v := ?_) (a' := ?_) #[true, true, true, true, false, false, false, false, false, false, false, false, false, false, false, false, false, false, false] rfl rfl (take_ofW HT_.out HW_.out (by kernel_rfl)) (fun _ _ _ h => h) (Or.inl ⟨by rfl, ?_⟩) hHeld ?_ ?_
                                                        rotate_left
                                                        · rintro w' ⟨s0, s1, s2, s3, s4, s5⟩
                                                          go_simp
                                                          with_reducible rfl
                                                        rotate_left
                                                        · simp only [Act.put, List.setIfInBounds_toArray, List.set_cons_zero, List.set_cons_succ, i64_w, i32_w]
                                                          rfl
                                                        refine pure_ (i := 4) (N := some 50) (v := ?_) (a' := ?_) #[true, true, true, true, true, false, false, false, false, false, false, false, false, false, false, false, false, false, false] rfl rfl (any_of HT_.out (by kernel_rfl)) (fun _ _ _ h => h) (Or.inl ⟨by rfl, ?_⟩) ?_ ?_
                                                        rotate_left
                                                        · intro w'
                                                          go_simp
                                                          with_reducible rfl
                                                        rotate_left
                                                        · simp only [Act.put, List.setIfInBounds_toArray, List.set_cons_zero, List.set_cons_succ, i64_w, i32_w]
                                                          rfl
                                                        refine pure_ (i := 5) (N := some 51) (v := ?_) (a' := ?_) #[true, true, true, true, true, true, false, false, false, false, false, false, false, false, false, false, false, false, false] rfl rfl (any_of HT_.out (by kernel_rfl)) (fun _ _ _ h => h) (Or.inl ⟨by rfl, ?_⟩) ?_ ?_
                                                        rotate_left
                                                        · intro w'
                                                          go_simp
                                                          with_reducible rfl
                                                        rotate_left
                                                        · simp only [Act.put, List.setIfInBounds_toArray, List.set_cons_zero, List.set_cons_succ, i64_w, i32_w]
                                                          rfl
                                                        refine pure_ (i := 6) (N := some 52) (v := ?_) (a' := ?_) #[true, true, true, true, true, true, true, false, false, false, false, false, false, false, false, false, false, false, false] rfl rfl (any_of HT_.out (by kernel_rfl)) (fun _ _ _ h => h) (Or.inl ⟨by rfl, ?_⟩) ?_ ?_
                                                        rotate_left
                                                        · intro w'
                                                          go_simp
                                                          with_reducible rfl
                                                        rotate_left
                                                        · simp only [Act.put, List.setIfInBounds_toArray, List.set_cons_zero, List.set_cons_succ, i64_w, i32_w]
                                                          rfl
                                                        refine pure_ (i := 7) (N := some 53) (v := ?_) (a' := ?_) #[true, true, true, true, true, true, true, true, false, false, false, false, false, false, false, false, false, false, false] rfl rfl (any_of HT_.out (by kernel_rfl)) (fun _ _ _ h => h) (Or.inl ⟨by rfl, ?_⟩) ?_ ?_
                                                        rotate_left
                                                        · intro w'
                                                          go_simp
                                                          with_reducible rfl
                                                        rotate_left
                                                        · simp only [Act.put, List.setIfInBounds_toArray, List.set_cons_zero, List.set_cons_succ, i64_w, i32_w]
                                                          rfl
                                                        refine pure_ (i := 8) (N := some 54) (v := ?_) (a' := ?_) #[true, true, true, true, true, true, true, true, true, false, false, false, false, false, false, false, false, false, false] rfl rfl (any_of HT_.out (by kernel_rfl)) (fun _ _ _ h => h) (Or.inl ⟨by rfl, ?_⟩) ?_ ?_
                                                        rotate_left
                                                        · intro w'
                                                          go_simp
                                                          with_reducible rfl
                                                        rotate_left
                                                        · simp only [Act.put, List.setIfInBounds_toArray, List.set_cons_zero, List.set_cons_succ, i64_w, i32_w]
                                                          rfl
                                                        refine pure_ (i := 9) (N := some 55) (v := ?_) (a' := ?_) #[true, true, true, true, true, true, true, true, true, true, false, false, false, false, false, false, false, false, false] rfl rfl (any_of HT_.out (by kernel_rfl)) (fun _ _ _ h => h) (Or.inl ⟨by rfl, ?_⟩) ?_ ?_
                                                        rotate_left
                                                        · intro w'
                                                          go_simp
                                                          with_reducible rfl
                                                        rotate_left
                                                        · simp only [Act.put, List.setIfInBounds_toArray, List.set_cons_zero, List.set_cons_succ, i64_w, i32_w]
                                                          rfl
                                                        refine pure_ (i := 13) (N := some 59) (v := ?_) (a' := ?_) #[true, true, true, true, true, true, true, true, true, true, false, false, false, true, false, false, false, false, false] rfl rfl (any_of HT_.out (by kernel_rfl)) (fun _ _ _ h => h) (Or.inl ⟨by rfl, ?_⟩) ?_ ?_
                                                        rotate_left
                                                        · intro w'
                                                          go_simp
                                                          with_reducible rfl
                                                        rotate_left
                                                        · simp only [Act.put, List.setIfInBounds_toArray, List.set_cons_zero, List.set_cons_succ, i64_w, i32_w]
                                                          rfl
                                                        refine pure_ (i := 14) (N := some 60) (v := ?_) (a' := ?_) #[true, true, true, true, true, true, true, true, true, true, false, false, false, true, true, false, false, false, false] rfl rfl (any_of HT_.out (by kernel_rfl)) (fun _ _ _ h => h) (Or.inl ⟨by rfl, ?_⟩) ?_ ?_
                                                        rotate_left
                                                        · intro w'
                                                          go_simp
                                                          with_reducible rfl
                                                        rotate_left
                                                        · simp only [Act.put, List.setIfInBounds_toArray, List.set_cons_zero, List.set_cons_succ, i64_w, i32_w]
                                                          rfl
                                                        refine pure_ (i := 15) (N := some 61) (v := ?_) (a' := ?_) #[true, true, true, true, true, true, true, true, true, true, false, false, false, true, true, true, false, false, false] rfl rfl (any_of HT_.out (by kernel_rfl)) (fun _ _ _ h => h) (Or.inl ⟨by rfl, ?_⟩) ?_ ?_
                                                        rotate_left
                                                        · intro w'
                                                          go_simp
                                                          with_reducible rfl
                                                        rotate_left
                                                        · simp only [Act.put, List.setIfInBounds_toArray, List.set_cons_zero, List.set_cons_succ, i64_w, i32_w]
                                                          rfl
                                                        refine take_ (i := 10) (N := some 56) (v := ?_) (a' := ?_) #[true, true, true, true, true, true, true, true, true, true, true, false, false, true, true, true, false, false, false] rfl rfl (take_ofW HT_.out HW_.out (by kernel_rfl)) (fun _ _ _ h => h) (Or.inl ⟨by rfl, ?_⟩) hHeld ?_ ?_
                                                        rotate_left
                                                        · rintro w' ⟨s0, s1, s2, s3, s4, s5⟩
                                                          go_simp
                                                          with_reducible rfl
                                                        rotate_left
                                                        · simp only [Act.put, List.setIfInBounds_toArray, List.set_cons_zero, List.set_cons_succ, i64_w, i32_w]
                                                          rfl
                                                        refine pure_ (i := 11) (N := some 57) (v := ?_) (a' := ?_) #[true, true, true, true, true, true, true, true, true, true, true, true, false, true, true, true, false, false, false] rfl rfl (any_of HT_.out (by kernel_rfl)) (fun _ _ _ h => h) (Or.inl ⟨by rfl, ?_⟩) ?_ ?_
                                                        rotate_left
                                                        · intro w'
                                                          go_simp
                                                          with_reducible rfl
                                                        rotate_left
                                                        · simp only [Act.put, List.setIfInBounds_toArray, List.set_cons_zero, List.set_cons_succ, i64_w, i32_w]
                                                          rfl
                                                        refine take_ (i := 12) (N := some 58) (v := ?_) (a' := ?_) #[true, true, true, true, true, true, true, true, true, true, true, true, true, true, true, true, false, false, false] rfl rfl (take_ofW HT_.out HW_.out (by kernel_rfl)) (fun _ _ _ h => h) (Or.inl ⟨by rfl, ?_⟩) hHeld ?_ ?_
                                                        rotate_left
                                                        · rintro w' ⟨s0, s1, s2, s3, s4, s5⟩
                                                          go_simp
                                                          with_reducible rfl
                                                        rotate_left
                                                        · simp only [Act.put, List.setIfInBounds_toArray, List.set_cons_zero, List.set_cons_succ, i64_w, i32_w]
                                                          rfl
                                                        refine take_ (i := 16) (N := some 62) (v := ?_) (a' := ?_) #[true, true, true, true, true, true, true, true, true, true, true, true, true, true, true, true, true, false, false] rfl rfl (take_ofW HT_.out HW_.out (by kernel_rfl)) (fun _ _ _ h => h) (Or.inl ⟨by rfl, ?_⟩) hHeld ?_ ?_
                                                        rotate_left
                                                        · rintro w' ⟨s0, s1, s2, s3, s4, s5⟩
                                                          go_simp
                                                          with_reducible rfl
                                                        rotate_left
                                                        · simp only [Act.put, List.setIfInBounds_toArray, List.set_cons_zero, List.set_cons_succ, i64_w, i32_w]
                                                          rfl
                                                        refine one_ (i := 17) (N := some 63) #[true, true, true, true, true, true, true, true, true, true, true, true, true, true, true, true, true, true, false] rfl rfl (one_of HT_.out (by kernel_rfl)) (by decide) (fun K hK => ?_)
                                                        refine goes_ Try.func74 (by kernel_rfl) rfl #[.agg #[.int .i64 ((rd_T50 l0 (rd x8_3 x9_2)).f0), .int .i64 ((rd_T50 l0 (rd x8_3 x9_2)).f1)], .agg #[.int .i64 ((rd_T50 l0 x43_3).f0), .int .i64 ((rd_T50 l0 x43_3).f1)]] (by rfl) rfl rfl (by (try simp only [List.map_toArray, List.map_cons, List.map_nil]); first | done | rfl | (simp only [List.length_drop, List.length_take]; rfl)) ?_
                                                        with_reducible refine (impl_crossing.calls ((rd_T50 l0 (rd x8_3 x9_2)).f0) ((rd_T50 l0 (rd x8_3 x9_2)).f1) ((rd_T50 l0 x43_3).f0) ((rd_T50 l0 x43_3).f1) true _ A41.out).mono ?_
                                                        rintro e w50 ⟨rfl, hb⟩
                                                        have HS0_ := (hb.cell (World.block_lt_of_cell? _ _ (hHeld.1))).trans (hHeld.1)
                                                        have HS1_ := (hb.cell (World.block_lt_of_cell? _ _ (hHeld.2.1))).trans (hHeld.2.1)
                                                        refine ⟨_, rfl, ?_⟩
                                                        have n0_ := Aside0.mk (Kd.R_below (by (with_reducible repeat (first | apply Kd.R_alloc | apply Kd.R_drewN | apply Kd.R_drew)); exact HO_4.out) hb)
                                                        have n1_ := Aside0.mk (Kd.R_below (by (with_reducible repeat (first | apply Kd.R_alloc | apply Kd.R_drewN | apply Kd.R_drew)); exact HO_5.out) hb)
                                                        have n2_ := Aside0.mk (Kd.S_below (by (with_reducible repeat (first | apply Kd.S_alloc | apply Kd.S_drewN | apply Kd.S_drew)); exact HO_6.out) hb)
                                                        have n3_ := Aside0.mk (Kd.R_below (by (with_reducible repeat (first | apply Kd.R_alloc | apply Kd.R_drewN | apply Kd.R_drew)); exact HO_8.out) hb)
                                                        have n4_ := Aside0.mk (below_step (by repeat (first | (with_reducible first | exact HB.out | apply below_alloc | apply pw_below_drewN | apply below_drew1) | exact HB.out)) hb)
                                                        clear HO_4
                                                        clear HO_5
                                                        clear HO_6
                                                        clear HO_8
                                                        clear HB
                                                        have HO_4 := n0_
                                                        have HO_5 := n1_
                                                        have HO_6 := n2_
                                                        have HO_8 := n3_
                                                        have HB := n4_
                                                        clear n0_ n1_ n2_ n3_ n4_
                                                        (try clear hb)
                                                        (try clear hb2)
                                                        (try clear hk)
                                                        (try clear hi)
                                                        refine hK.out _ _ ⟨HS0_, HS1_, ((HB.out.cell (World.block_lt_of_cell? w _ hw565_0)).trans hw565_0), ((HB.out.cell (World.block_lt_of_cell? w _ hw565_1)).trans hw565_1), ((HB.out.cell (World.block_lt_of_cell? w _ hw566_0)).trans hw566_0), ((HB.out.cell (World.block_lt_of_cell? w _ hw566_1)).trans hw566_1)⟩ (fun hHeld => ?_)
                                                        clear hK K
                                                        refine norm_ (a' := ?_) ?_ ?_
                                                        rotate_left
                                                        · show Act.put _ (some 63) _ = _
                                                          simp only [Act.put, List.setIfInBounds_toArray, List.set_cons_zero, List.set_cons_succ, i64_w, i32_w]
                                                          rfl
                                                        refine pure_ (i := 18) (N := some 64) (v := ?_) (a' := ?_) #[true, true, true, true, true, true, true, true, true, true, true, true, true, true, true, true, true, true, true] rfl rfl (any_of HT_.out (by kernel_rfl)) (fun _ _ _ h => h) (Or.inl ⟨by rfl, ?_⟩) ?_ ?_
                                                        rotate_left
                                                        · intro w'
                                                          go_simp
                                                          with_reducible rfl
                                                        rotate_left
                                                        · simp only [Act.put, List.setIfInBounds_toArray, List.set_cons_zero, List.set_cons_succ, i64_w, i32_w]
                                                          rfl
                                                        refine done_ (done_of HT_.out (by kernel_rfl)) ?_
                                                        have p568 : 0 ≤ (x9_2 : Int) := of_decide_eq_true (by first | (with_reducible assumption) | assumption)
                                                        have q568 : x9_2 < (x8_3.length : Int) := of_decide_eq_true (by first | (with_reducible assumption) | assumption)
                                                        obtain ⟨ad568, e568, hx568_0⟩ := Kd.at_int (Kd.R_reads' HO_8.out).2.2 x9_2 p568 q568
                                                        obtain rfl : ad564 = ad568 := (by injection e568)
                                                        replace p568 := eq_true p568
                                                        replace q568 := eq_true q568
                                                        have p569 : 0 ≤ ((rd x8_3 x9_2) : Int) := of_decide_eq_true (by first | (with_reducible assumption) | assumption)
                                                        have q569 : (rd x8_3 x9_2) < (x5_3.length : Int) := of_decide_eq_true (by first | (with_reducible assumption) | assumption)
                                                        obtain ⟨ad569, e569, hx569_0⟩ := Kd.at_bool (Kd.R_reads' HO_5.out).2.2 (rd x8_3 x9_2) p569 q569
                                                        (try rw [← Nbq15.out] at hx569_0)
                                                        (try rw [← Nbq33.out] at hx569_0)
                                                        obtain rfl : (⟨go20, 0, none⟩ : Addr) = ad569 := (by injection e569)
                                                        (first | simp only [add_plain] at hx569_0 | simp only [add_at] at hx569_0 | simp only [Addr.add, Nat.zero_add] at hx569_0 | skip)
                                                        replace p569 := eq_true p569
                                                        replace q569 := eq_true q569
                                                        have p44 : 0 ≤ (x43_3 : Int) := of_decide_eq_true (by first | (with_reducible assumption) | assumption)
                                                        have q44 : (x43_3 : Int) < ((x4_3.length : Int) : Int) := of_decide_eq_true (by first | (with_reducible assumption) | assumption)
                                                        obtain ⟨hx44_0, hf44_0⟩ := Kd.R_celln false HO_4.out (x43_3 : Int) p44 q44
                                                        replace p44 := eq_true p44
                                                        replace q44 := eq_true q44
                                                        obtain ⟨hy51_, hz51_⟩ := Kd.R_celln false HO_4.out (x43_3 : Int) (of_decide_eq_true (by first | (with_reducible assumption) | assumption)) (of_decide_eq_true (by first | (with_reducible assumption) | assumption))
                                                        have HP51 := Kd.R_putg HO_4.out (x43_3 : Int) true
                                                        try go_wp2_with (first | ((with_reducible refine gate_store (t := 4) (p := 77) rfl ?_); refine store_event (t := 4) (p := 77) (v := ?vo_w52) (w1 := (w50.setCell ⟨go18, (x43_3 : Int).toNat, none⟩ (.bool true))) ?hg ?ho ?hn ?hr ?_; (case ho => rfl); (case hg => rfl); (case hn => rfl); (case hr => first | (go_simp; done) | (go_simp; rfl)); intro w52 hw; have hg : w50.grownBy w52 (some go18) := (by rw [hw]; exact HP51.2); have hp_ : Kd.R Kd.bool 4 w52 w.heap.size (fun k_ => some k_ ≠ (.slice (some ⟨go20, 0, none⟩) x5_3.length co20 : Value).ownBlock) (.slice (some ⟨go18, 0, none⟩) x4_3.length co21) y570 := (by rw [hw, Ny570.out]; exact HP51.1); clear HP51; have n0_ := Aside0.mk (hp_); have n1_ := Aside0.mk (Kd.R_after (v := (.slice (some ⟨go18, 0, none⟩) x4_3.length co21)) (v1 := (.slice (some ⟨go18, 0, none⟩) x4_3.length co21)) (ok := (fun _ => True)) (by (with_reducible repeat (first | apply Kd.R_alloc | apply Kd.R_drewN | apply Kd.R_drew)); exact Kd.R_mono HO_5.out (fun _ hk => ⟨trivial, hk⟩)) hg (.inl rfl)); have n2_ := Aside0.mk (Kd.S_over' (v := (.slice (some ⟨go18, 0, none⟩) x4_3.length co21)) (by (with_reducible repeat (first | apply Kd.S_alloc | apply Kd.S_drewN | apply Kd.S_drew)); exact HO_6.out) (Kd.R_typed HO_4.out) (by decide) hg); have n3_ := Aside0.mk (Kd.R_over' (v := (.slice (some ⟨go18, 0, none⟩) x4_3.length co21)) (by (with_reducible repeat (first | apply Kd.R_alloc | apply Kd.R_drewN | apply Kd.R_drew)); exact HO_8.out) (Kd.R_typed HO_4.out) (by decide) hg); have n4_ := Aside0.mk ((by rw [hw]; exact below_set (HB.out) GB18.out : Below w.heap.size w w52)); clear HO_4; clear HO_5; clear HO_6; clear HO_8; clear HB; have HO_4 := n0_; have HO_5 := n1_; have HO_6 := n2_; have HO_8 := n3_; have HB := n4_; clear n0_ n1_ n2_ n3_ n4_; clear hg hw hp_; have p46 : 0 ≤ (x43_3 : Int) := of_decide_eq_true (by first | (with_reducible assumption) | assumption); have q46 : (x43_3 : Int) < ((x5_3.length : Int) : Int) := of_decide_eq_true (by first | (with_reducible assumption) | assumption); obtain ⟨hx46_0, hf46_0⟩ := Kd.R_celln false HO_5.out (x43_3 : Int) p46 q46; replace p46 := eq_true p46; replace q46 := eq_true q46; have n_ := Aside0.mk (Kd.R_mono (ok' := (fun k_ => some k_ ≠ (.slice (some ⟨go18, 0, none⟩) x4_3.length co21 : Value).ownBlock)) HO_5.out (fun k_ hk => hk.2)); clear HO_5; have HO_5 := n_; clear n_; obtain ⟨hy53_, hz53_⟩ := Kd.R_celln false HO_5.out (x43_3 : Int) (of_decide_eq_true (by first | (with_reducible assumption) | assumption)) (of_decide_eq_true (by first | (with_reducible assumption) | assumption)); have HP53 := Kd.R_putg HO_5.out (x43_3 : Int) (!(rdOf false x5_3 (rd x8_3 x9_2)))) | ((with_reducible refine gate_store (t := 4) (p := 78) rfl ?_); refine store_event (t := 4) (p := 78) (v := ?vo_w54) (w1 := (w52.setCell ⟨go20, (x43_3 : Int).toNat, none⟩ (.bool (!(rdOf false x5_3 (rd x8_3 x9_2)))))) ?hg ?ho ?hn ?hr ?_; (case ho => rfl); (case hg => rfl); (case hn => rfl); (case hr => first | (go_simp; done) | (go_simp; rfl)); intro w54 hw; have hg : w52.grownBy w54 (some go20) := (by rw [hw]; exact HP53.2); have hp_ : Kd.R Kd.bool 4 w54 w.heap.size (fun k_ => some k_ ≠ (.slice (some ⟨go18, 0, none⟩) x4_3.length co21 : Value).ownBlock) (.slice (some ⟨go20, 0, none⟩) x5_3.length co20) y571 := (by rw [hw, Ny571.out]; exact HP53.1); clear HP53; have n0_ := Aside0.mk (Kd.R_after (v := (.slice (some ⟨go20, 0, none⟩) x5_3.length co20)) (v1 := (.slice (some ⟨go20, 0, none⟩) x5_3.length co20)) (ok := (fun _ => True)) (by (with_reducible repeat (first | apply Kd.R_alloc | apply Kd.R_drewN | apply Kd.R_drew)); exact Kd.R_mono HO_4.out (fun _ hk => ⟨trivial, hk⟩)) hg (.inl rfl)); have n1_ := Aside0.mk (hp_); have n2_ := Aside0.mk (Kd.S_over' (v := (.slice (some ⟨go20, 0, none⟩) x5_3.length co20)) (by (with_reducible repeat (first | apply Kd.S_alloc | apply Kd.S_drewN | apply Kd.S_drew)); exact HO_6.out) (Kd.R_typed HO_5.out) (by decide) hg); have n3_ := Aside0.mk (Kd.R_over' (v := (.slice (some ⟨go20, 0, none⟩) x5_3.length co20)) (by (with_reducible repeat (first | apply Kd.R_alloc | apply Kd.R_drewN | apply Kd.R_drew)); exact HO_8.out) (Kd.R_typed HO_5.out) (by decide) hg); have n4_ := Aside0.mk ((by rw [hw]; exact below_set (HB.out) GB20.out : Below w.heap.size w w54)); clear HO_4; clear HO_5; clear HO_6; clear HO_8; clear HB; have HO_4 := n0_; have HO_5 := n1_; have HO_6 := n2_; have HO_8 := n3_; have HB := n4_; clear n0_ n1_ n2_ n3_ n4_; clear hg hw hp_) | ((with_reducible refine gate_builtin (b := .append) (xs := #[.tmp 79, .tmp 81]) rfl ?_); at_builtin; refine Kd.R_append (Kd.int .i64) (w0 := w) w.heap.size rfl (.tmp 79) (.tmp 81) 28 3 (.int .i64 0) 8 rfl Try.underlying28 info3 rfl (by decide) (by omega) (.slice (some ad564) x8_3.length co49) x8_3 x43_3 [.int .i64 x43_3] (fun _ => True) (fun _ => False) rfl rfl ?aP (fun _ hk => hk.elim) ?aF ?aO ?aB ?aS ?aL ?_; (case aP => exact rfl); (case aB => exact (by repeat (first | (with_reducible first | exact HB.out | apply below_alloc | apply pw_below_drewN | apply below_drew1) | exact HB.out))); (case aF => exact (fun _ _ => trivial)); (case aO => exact (by (with_reducible repeat (first | apply Kd.R_alloc | apply Kd.R_drewN | apply Kd.R_drew)); exact HO_8.out)); (case aS => exact (below_size (by repeat (first | (with_reducible first | exact HB.out | apply below_alloc | apply pw_below_drewN | apply below_drew1) | exact HB.out)))); (case aL => have := LMc47.out; omega); intro v573 w55 ho hb hg hat; rw [← Ny572.out] at ho; have n0_ := Aside0.mk (Kd.R_over' (by (with_reducible repeat (first | apply Kd.R_alloc | apply Kd.R_drewN | apply Kd.R_drew)); exact HO_4.out) (Kd.R_typed (by (with_reducible repeat (first | apply Kd.R_alloc | apply Kd.R_drewN | apply Kd.R_drew)); exact HO_8.out)) (by decide) hg); have n1_ := Aside0.mk (Kd.R_over' (by (with_reducible repeat (first | apply Kd.R_alloc | apply Kd.R_drewN | apply Kd.R_drew)); exact HO_5.out) (Kd.R_typed (by (with_reducible repeat (first | apply Kd.R_alloc | apply Kd.R_drewN | apply Kd.R_drew)); exact HO_8.out)) (by decide) hg); have n2_ := Aside0.mk (Kd.S_after (ok := (fun _ => True)) (by (with_reducible repeat (first | apply Kd.S_alloc | apply Kd.S_drewN | apply Kd.S_drew)); exact Kd.S_mono HO_6.out (fun _ hk => ⟨trivial, hk⟩)) hg hat); have n3_ := Aside0.mk (hb); have n4_ := Aside0.mk (ho); clear HO_4; clear HO_5; clear HO_6; clear HB; clear HO_8; have HO_4 := n0_; have HO_5 := n1_; have HO_6 := n2_; have HB := n3_; have HO574 := n4_; clear n0_ n1_ n2_ n3_ n4_; clear ho hb hg hat))
                                                        (try simp only [← hl4_3, ← hl5_3])
                                                        go_roundg k3
                                                        case measure => have := HK1.out; have := HK2.out; have := HK3.out; omega
                                                        case rel => exact ⟨(y570), (y571), (y572), (wrap64 (x43_3 + 1)), (by first | rfl | (simp; done) | (simp [*]; done)), H', ⟨by have := HK1.out; have := HK2.out; have := HK3.out; omega⟩, ⟨by (try simp only [hl4_2]); (try simp only [hl5_2]); (try simp only [hl4_3]); (try simp only [hl5_3]); (with_reducible repeat (first | apply Kd.R_alloc | apply Kd.R_drewN | apply Kd.R_drew)); exact Kd.R_mono HO_4.out (fun _ hk => hk.2)⟩, ⟨by (try simp only [hl4_2]); (try simp only [hl5_2]); (try simp only [hl4_3]); (try simp only [hl5_3]); (with_reducible repeat (first | apply Kd.R_alloc | apply Kd.R_drewN | apply Kd.R_drew)); exact HO_5.out⟩, ⟨by (try simp only [hl4_2]); (try simp only [hl5_2]); (try simp only [hl4_3]); (try simp only [hl5_3]); (with_reducible repeat (first | apply Kd.S_alloc | apply Kd.S_drewN | apply Kd.S_drew)); exact Kd.S_mono HO_6.out (fun _ hk => hk.2)⟩, ⟨by (try simp only [hl4_2]); (try simp only [hl5_2]); (try simp only [hl4_3]); (try simp only [hl5_3]); (with_reducible repeat (first | apply Kd.R_alloc | apply Kd.R_drewN | apply Kd.R_drew)); exact HO574.out⟩, ⟨by repeat (first | (with_reducible first | exact HB.out | apply below_alloc | apply pw_below_drewN | apply below_drew1) | exact HB.out)⟩⟩
                                                      · rw [if_neg c47] at H
                                                        exact absurd H (by simp)
                                                    · rw [if_neg c45] at H
                                                      exact absurd H (by simp)
                                                  · rw [if_neg c43] at H
                                                    exact absurd H (by simp)
                                                · replace c42 := Bool.eq_false_iff.mpr c42
                                                  subst c42
                                                  have H1 : (impl_groups.l2 k3 l0 x4_3 x5_3 x6_1 x8_3 x9_2 (l0.length : Int) x20_1 (l0.length : Int) (wrap64 (x43_3 + 1))) = some (r1, r2) := by rw [if_neg (show ¬ (false = true) by decide)] at H; exact H
                                                  clear H
                                                  have H := H1
                                                  clear H1
                                                  have H' := Aside0.mk H
                                                  clear H
                                                  try go_wp2
                                                  have n0_ := Aside0.mk (Kd.R_drew HO_4.out)
                                                  have n1_ := Aside0.mk (Kd.R_drew HO_5.out)
                                                  have n2_ := Aside0.mk (Kd.S_drew HO_6.out)
                                                  have n3_ := Aside0.mk (Kd.R_drew HO_8.out)
                                                  have n4_ := Aside0.mk (below_drew1 HB.out)
                                                  clear HO_4
                                                  clear HO_5
                                                  clear HO_6
                                                  clear HO_8
                                                  clear HB
                                                  have HO_4 := n0_
                                                  have HO_5 := n1_
                                                  have HO_6 := n2_
                                                  have HO_8 := n3_
                                                  have HB := n4_
                                                  clear n0_ n1_ n2_ n3_ n4_
                                                  have p563 : 0 ≤ (x43_3 : Int) := of_decide_eq_true (by first | (with_reducible assumption) | assumption)
                                                  have q563 : x43_3 < (x4_3.length : Int) := of_decide_eq_true (by first | (with_reducible assumption) | assumption)
                                                  obtain ⟨ad563, e563, hx563_0⟩ := Kd.at_bool (Kd.R_reads' HO_4.out).2.2 x43_3 p563 q563
                                                  (try rw [← Nbq15.out] at hx563_0)
                                                  (try rw [← Nbq33.out] at hx563_0)
                                                  obtain rfl : (⟨go18, 0, none⟩ : Addr) = ad563 := (by injection e563)
                                                  (first | simp only [add_plain] at hx563_0 | simp only [add_at] at hx563_0 | simp only [Addr.add, Nat.zero_add] at hx563_0 | skip)
                                                  replace p563 := eq_true p563
                                                  replace q563 := eq_true q563
                                                  obtain ⟨Ao57, co57, eo57⟩ := Kd.R_slice HO_8.out
                                                  (first | subst eo57 | (injection eo57 with f1_ f2_ f3_; have f4_ := f1_.symm; have f5_ := f3_.symm; clear f1_ f2_ f3_; subst f4_; subst f5_))
                                                  have p564 : 0 ≤ (x9_2 : Int) := of_decide_eq_true (by first | (with_reducible assumption) | assumption)
                                                  have q564 : x9_2 < (x8_3.length : Int) := of_decide_eq_true (by first | (with_reducible assumption) | assumption)
                                                  obtain ⟨ad564, e564, hx564_0⟩ := Kd.at_int (Kd.R_reads' HO_8.out).2.2 x9_2 p564 q564
                                                  cases e564
                                                  replace p564 := eq_true p564
                                                  replace q564 := eq_true q564
                                                  have p565 : 0 ≤ ((rd x8_3 x9_2) : Int) := of_decide_eq_true (by first | (with_reducible assumption) | assumption)
                                                  have q565 : (rd x8_3 x9_2) < (l0.length : Int) := of_decide_eq_true (by first | (with_reducible assumption) | assumption)
                                                  obtain ⟨ad565, e565, hx565_0, hx565_1⟩ := at_T50 HR0.out (rd x8_3 x9_2) p565 q565
                                                  have hw565_1 := hx565_1
                                                  have hw565_0 := hx565_0
                                                  cases e565
                                                  replace hx565_0 := (HB.out.cell (World.block_lt_of_cell? w _ hx565_0)).trans hx565_0
                                                  replace hx565_1 := (HB.out.cell (World.block_lt_of_cell? w _ hx565_1)).trans hx565_1
                                                  replace p565 := eq_true p565
                                                  replace q565 := eq_true q565
                                                  have p566 : 0 ≤ (x43_3 : Int) := of_decide_eq_true (by first | (with_reducible assumption) | assumption)
                                                  have q566 : x43_3 < (l0.length : Int) := of_decide_eq_true (by first | (with_reducible assumption) | assumption)
                                                  obtain ⟨ad566, e566, hx566_0, hx566_1⟩ := at_T50 HR0.out x43_3 p566 q566
                                                  have hw566_1 := hx566_1
                                                  have hw566_0 := hx566_0
                                                  obtain rfl : ad565 = ad566 := (by injection e566)
                                                  replace hx566_0 := (HB.out.cell (World.block_lt_of_cell? w _ hx566_0)).trans hx566_0
                                                  replace hx566_1 := (HB.out.cell (World.block_lt_of_cell? w _ hx566_1)).trans hx566_1
                                                  replace p566 := eq_true p566
                                                  replace q566 := eq_true q566
                                                  refine start_ (n := 19) (S := fun w' => w'.cell? ⟨go18, (x43_3).toNat, none⟩ = some (.bool false) ∧ w'.cell? (ad564.add (x9_2).toNat) = some (.int .i64 (rd x8_3 x9_2)) ∧ w'.cell? (ad565.add (((rd x8_3 x9_2)).toNat * 2)) = some (.int .i64 ((rd_T50 l0 (rd x8_3 x9_2)).f0)) ∧ w'.cell? ⟨(ad565.add (((rd x8_3 x9_2)).toNat * 2)).block, (ad565.add (((rd x8_3 x9_2)).toNat * 2)).off + 1, none⟩ = some (.int .i64 ((rd_T50 l0 (rd x8_3 x9_2)).f1)) ∧ w'.cell? (ad565.add ((x43_3).toNat * 2)) = some (.int .i64 ((rd_T50 l0 x43_3).f0)) ∧ w'.cell? ⟨(ad565.add ((x43_3).toNat * 2)).block, (ad565.add ((x43_3).toNat * 2)).off + 1, none⟩ = some (.int .i64 ((rd_T50 l0 x43_3).f1))) (ds := []) #[false, false, false, false, false, false, false, false, false, false, false, false, false, false, false, false, false, false, false] (by kernel_rfl) rfl rfl ⟨hx563_0, hx564_0, ((HB.out.cell (World.block_lt_of_cell? w _ hw565_0)).trans hw565_0), ((HB.out.cell (World.block_lt_of_cell? w _ hw565_1)).trans hw565_1), ((HB.out.cell (World.block_lt_of_cell? w _ hw566_0)).trans hw566_0), ((HB.out.cell (World.block_lt_of_cell? w _ hw566_1)).trans hw566_1)⟩ (fun hHeld => ?_); refine with_tabW impl_groups.tab15 impl_groups.bits15 (fun HT_ HW_ => ?_)
                                                  generalize wr.drew = w56 at HO_4 HO_5 HO_6 HO_8 HB hx563_0 hx564_0 hx565_0 hx565_1 hx566_0 hx566_1 hHeld ⊢
                                                  refine pure_ (i := 0) (N := some 46) (v := ?_) (a' := ?_) #[true, false, false, false, false, false, false, false, false, false, false, false, false, false, false, false, false, false, false] rfl rfl (any_of HT_.out (by kernel_rfl)) (fun _ _ _ h => h) (Or.inl ⟨by rfl, ?_⟩) ?_ ?_
                                                  rotate_left
                                                  · intro w'
                                                    go_simp
                                                    with_reducible rfl
                                                  rotate_left
                                                  · simp only [Act.put, List.setIfInBounds_toArray, List.set_cons_zero, List.set_cons_succ, i64_w, i32_w]
                                                    rfl
                                                  refine pure_ (i := 1) (N := some 47) (v := ?_) (a' := ?_) #[true, true, false, false, false, false, false, false, false, false, false, false, false, false, false, false, false, false, false] rfl rfl (any_of HT_.out (by kernel_rfl)) (fun _ _ _ h => h) (Or.inl ⟨by rfl, ?_⟩) ?_ ?_
                                                  rotate_left
                                                  · intro w'
                                                    go_simp
                                                    with_reducible rfl
                                                  rotate_left
                                                  · simp only [Act.put, List.setIfInBounds_toArray, List.set_cons_zero, List.set_cons_succ, i64_w, i32_w]
                                                    rfl
                                                  refine pure_ (i := 2) (N := some 48) (v := ?_) (a' := ?_) #[true, true, true, false, false, false, false, false, false, false, false, false, false, false, false, false, false, false, false] rfl rfl (any_of HT_.out (by kernel_rfl)) (fun _ _ _ h => h) (Or.inl ⟨by rfl, ?_⟩) ?_ ?_
                                                  rotate_left
                                                  · intro w'
                                                    go_simp
                                                    with_reducible rfl
                                                  rotate_left
                                                  · simp only [Act.put, List.setIfInBounds_toArray, List.set_cons_zero, List.set_cons_succ, i64_w, i32_w]
                                                    rfl
                                                  refine take_ (i := 3) (N := some 49) (v := ?_) (a' := ?_) #[true, true, true, true, false, false, false, false, false, false, false, false, false, false, false, false, false, false, false] rfl rfl (take_ofW HT_.out HW_.out (by kernel_rfl)) (fun _ _ _ h => h) (Or.inl ⟨by rfl, ?_⟩) hHeld ?_ ?_
                                                  rotate_left
                                                  · rintro w' ⟨s0, s1, s2, s3, s4, s5⟩
                                                    go_simp
                                                    with_reducible rfl
                                                  rotate_left
                                                  · simp only [Act.put, List.setIfInBounds_toArray, List.set_cons_zero, List.set_cons_succ, i64_w, i32_w]
                                                    rfl
                                                  refine pure_ (i := 4) (N := some 50) (v := ?_) (a' := ?_) #[true, true, true, true, true, false, false, false, false, false, false, false, false, false, false, false, false, false, false] rfl rfl (any_of HT_.out (by kernel_rfl)) (fun _ _ _ h => h) (Or.inl ⟨by rfl, ?_⟩) ?_ ?_
                                                  rotate_left
                                                  · intro w'
                                                    go_simp
                                                    with_reducible rfl
                                                  rotate_left
                                                  · simp only [Act.put, List.setIfInBounds_toArray, List.set_cons_zero, List.set_cons_succ, i64_w, i32_w]
                                                    rfl
                                                  refine pure_ (i := 5) (N := some 51) (v := ?_) (a' := ?_) #[true, true, true, true, true, true, false, false, false, false, false, false, false, false, false, false, false, false, false] rfl rfl (any_of HT_.out (by kernel_rfl)) (fun _ _ _ h => h) (Or.inl ⟨by rfl, ?_⟩) ?_ ?_
                                                  rotate_left
                                                  · intro w'
                                                    go_simp
                                                    with_reducible rfl
                                                  rotate_left
                                                  · simp only [Act.put, List.setIfInBounds_toArray, List.set_cons_zero, List.set_cons_succ, i64_w, i32_w]
                                                    rfl
                                                  refine pure_ (i := 6) (N := some 52) (v := ?_) (a' := ?_) #[true, true, true, true, true, true, true, false, false, false, false, false, false, false, false, false, false, false, false] rfl rfl (any_of HT_.out (by kernel_rfl)) (fun _ _ _ h => h) (Or.inl ⟨by rfl, ?_⟩) ?_ ?_
                                                  rotate_left
                                                  · intro w'
                                                    go_simp
                                                    with_reducible rfl
                                                  rotate_left
                                                  · simp only [Act.put, List.setIfInBounds_toArray, List.set_cons_zero, List.set_cons_succ, i64_w, i32_w]
                                                    rfl
                                                  refine pure_ (i := 7) (N := some 53) (v := ?_) (a' := ?_) #[true, true, true, true, true, true, true, true, false, false, false, false, false, false, false, false, false, false, false] rfl rfl (any_of HT_.out (by kernel_rfl)) (fun _ _ _ h => h) (Or.inl ⟨by rfl, ?_⟩) ?_ ?_
                                                  rotate_left
                                                  · intro w'
                                                    go_simp
                                                    with_reducible rfl
                                                  rotate_left
                                                  · simp only [Act.put, List.setIfInBounds_toArray, List.set_cons_zero, List.set_cons_succ, i64_w, i32_w]
                                                    rfl
                                                  refine pure_ (i := 8) (N := some 54) (v := ?_) (a' := ?_) #[true, true, true, true, true, true, true, true, true, false, false, false, false, false, false, false, false, false, false] rfl rfl (any_of HT_.out (by kernel_rfl)) (fun _ _ _ h => h) (Or.inl ⟨by rfl, ?_⟩) ?_ ?_
                                                  rotate_left
                                                  · intro w'
                                                    go_simp
                                                    with_reducible rfl
                                                  rotate_left
                                                  · simp only [Act.put, List.setIfInBounds_toArray, List.set_cons_zero, List.set_cons_succ, i64_w, i32_w]
                                                    rfl
                                                  refine pure_ (i := 9) (N := some 55) (v := ?_) (a' := ?_) #[true, true, true, true, true, true, true, true, true, true, false, false, false, false, false, false, false, false, false] rfl rfl (any_of HT_.out (by kernel_rfl)) (fun _ _ _ h => h) (Or.inl ⟨by rfl, ?_⟩) ?_ ?_
                                                  rotate_left
                                                  · intro w'
                                                    go_simp
                                                    with_reducible rfl
                                                  rotate_left
                                                  · simp only [Act.put, List.setIfInBounds_toArray, List.set_cons_zero, List.set_cons_succ, i64_w, i32_w]
                                                    rfl
                                                  refine pure_ (i := 13) (N := some 59) (v := ?_) (a' := ?_) #[true, true, true, true, true, true, true, true, true, true, false, false, false, true, false, false, false, false, false] rfl rfl (any_of HT_.out (by kernel_rfl)) (fun _ _ _ h => h) (Or.inl ⟨by rfl, ?_⟩) ?_ ?_
                                                  rotate_left
                                                  · intro w'
                                                    go_simp
                                                    with_reducible rfl
                                                  rotate_left
                                                  · simp only [Act.put, List.setIfInBounds_toArray, List.set_cons_zero, List.set_cons_succ, i64_w, i32_w]
                                                    rfl
                                                  refine pure_ (i := 14) (N := some 60) (v := ?_) (a' := ?_) #[true, true, true, true, true, true, true, true, true, true, false, false, false, true, true, false, false, false, false] rfl rfl (any_of HT_.out (by kernel_rfl)) (fun _ _ _ h => h) (Or.inl ⟨by rfl, ?_⟩) ?_ ?_
                                                  rotate_left
                                                  · intro w'
                                                    go_simp
                                                    with_reducible rfl
                                                  rotate_left
                                                  · simp only [Act.put, List.setIfInBounds_toArray, List.set_cons_zero, List.set_cons_succ, i64_w, i32_w]
                                                    rfl
                                                  refine pure_ (i := 15) (N := some 61) (v := ?_) (a' := ?_) #[true, true, true, true, true, true, true, true, true, true, false, false, false, true, true, true, false, false, false] rfl rfl (any_of HT_.out (by kernel_rfl)) (fun _ _ _ h => h) (Or.inl ⟨by rfl, ?_⟩) ?_ ?_
                                                  rotate_left
                                                  · intro w'
                                                    go_simp
                                                    with_reducible rfl
                                                  rotate_left
                                                  · simp only [Act.put, List.setIfInBounds_toArray, List.set_cons_zero, List.set_cons_succ, i64_w, i32_w]
                                                    rfl
                                                  refine take_ (i := 10) (N := some 56) (v := ?_) (a' := ?_) #[true, true, true, true, true, true, true, true, true, true, true, false, false, true, true, true, false, false, false] rfl rfl (take_ofW HT_.out HW_.out (by kernel_rfl)) (fun _ _ _ h => h) (Or.inl ⟨by rfl, ?_⟩) hHeld ?_ ?_
                                                  rotate_left
                                                  · rintro w' ⟨s0, s1, s2, s3, s4, s5⟩
                                                    go_simp
                                                    with_reducible rfl
                                                  rotate_left
                                                  · simp only [Act.put, List.setIfInBounds_toArray, List.set_cons_zero, List.set_cons_succ, i64_w, i32_w]
                                                    rfl
                                                  refine pure_ (i := 11) (N := some 57) (v := ?_) (a' := ?_) #[true, true, true, true, true, true, true, true, true, true, true, true, false, true, true, true, false, false, false] rfl rfl (any_of HT_.out (by kernel_rfl)) (fun _ _ _ h => h) (Or.inl ⟨by rfl, ?_⟩) ?_ ?_
                                                  rotate_left
                                                  · intro w'
                                                    go_simp
                                                    with_reducible rfl
                                                  rotate_left
                                                  · simp only [Act.put, List.setIfInBounds_toArray, List.set_cons_zero, List.set_cons_succ, i64_w, i32_w]
                                                    rfl
                                                  refine take_ (i := 12) (N := some 58) (v := ?_) (a' := ?_) #[true, true, true, true, true, true, true, true, true, true, true, true, true, true, true, true, false, false, false] rfl rfl (take_ofW HT_.out HW_.out (by kernel_rfl)) (fun _ _ _ h => h) (Or.inl ⟨by rfl, ?_⟩) hHeld ?_ ?_
                                                  rotate_left
                                                  · rintro w' ⟨s0, s1, s2, s3, s4, s5⟩
                                                    go_simp
                                                    with_reducible rfl
                                                  rotate_left
                                                  · simp only [Act.put, List.setIfInBounds_toArray, List.set_cons_zero, List.set_cons_succ, i64_w, i32_w]
                                                    rfl
                                                  refine take_ (i := 16) (N := some 62) (v := ?_) (a' := ?_) #[true, true, true, true, true, true, true, true, true, true, true, true, true, true, true, true, true, false, false] rfl rfl (take_ofW HT_.out HW_.out (by kernel_rfl)) (fun _ _ _ h => h) (Or.inl ⟨by rfl, ?_⟩) hHeld ?_ ?_
                                                  rotate_left
                                                  · rintro w' ⟨s0, s1, s2, s3, s4, s5⟩
                                                    go_simp
                                                    with_reducible rfl
                                                  rotate_left
                                                  · simp only [Act.put, List.setIfInBounds_toArray, List.set_cons_zero, List.set_cons_succ, i64_w, i32_w]
                                                    rfl
                                                  refine one_ (i := 17) (N := some 63) #[true, true, true, true, true, true, true, true, true, true, true, true, true, true, true, true, true, true, false] rfl rfl (one_of HT_.out (by kernel_rfl)) (by decide) (fun K hK => ?_)
                                                  refine goes_ Try.func74 (by kernel_rfl) rfl #[.agg #[.int .i64 ((rd_T50 l0 (rd x8_3 x9_2)).f0), .int .i64 ((rd_T50 l0 (rd x8_3 x9_2)).f1)], .agg #[.int .i64 ((rd_T50 l0 x43_3).f0), .int .i64 ((rd_T50 l0 x43_3).f1)]] (by rfl) rfl rfl (by (try simp only [List.map_toArray, List.map_cons, List.map_nil]); first | done | rfl | (simp only [List.length_drop, List.length_take]; rfl)) ?_
                                                  with_reducible refine (impl_crossing.calls ((rd_T50 l0 (rd x8_3 x9_2)).f0) ((rd_T50 l0 (rd x8_3 x9_2)).f1) ((rd_T50 l0 x43_3).f0) ((rd_T50 l0 x43_3).f1) false _ A41.out).mono ?_
                                                  rintro e w58 ⟨rfl, hb⟩
                                                  have HS0_ := (hb.cell (World.block_lt_of_cell? _ _ (hHeld.1))).trans (hHeld.1)
                                                  have HS1_ := (hb.cell (World.block_lt_of_cell? _ _ (hHeld.2.1))).trans (hHeld.2.1)
                                                  refine ⟨_, rfl, ?_⟩
                                                  have n0_ := Aside0.mk (Kd.R_below (by (with_reducible repeat (first | apply Kd.R_alloc | apply Kd.R_drewN | apply Kd.R_drew)); exact HO_4.out) hb)
                                                  have n1_ := Aside0.mk (Kd.R_below (by (with_reducible repeat (first | apply Kd.R_alloc | apply Kd.R_drewN | apply Kd.R_drew)); exact HO_5.out) hb)
                                                  have n2_ := Aside0.mk (Kd.S_below (by (with_reducible repeat (first | apply Kd.S_alloc | apply Kd.S_drewN | apply Kd.S_drew)); exact HO_6.out) hb)
                                                  have n3_ := Aside0.mk (Kd.R_below (by (with_reducible repeat (first | apply Kd.R_alloc | apply Kd.R_drewN | apply Kd.R_drew)); exact HO_8.out) hb)
                                                  have n4_ := Aside0.mk (below_step (by repeat (first | (with_reducible first | exact HB.out | apply below_alloc | apply pw_below_drewN | apply below_drew1) | exact HB.out)) hb)
                                                  clear HO_4
                                                  clear HO_5
                                                  clear HO_6
                                                  clear HO_8
                                                  clear HB
                                                  have HO_4 := n0_
                                                  have HO_5 := n1_
                                                  have HO_6 := n2_
                                                  have HO_8 := n3_
                                                  have HB := n4_
                                                  clear n0_ n1_ n2_ n3_ n4_
                                                  (try clear hb)
                                                  (try clear hb2)
                                                  (try clear hk)
                                                  (try clear hi)
                                                  refine hK.out _ _ ⟨HS0_, HS1_, ((HB.out.cell (World.block_lt_of_cell? w _ hw565_0)).trans hw565_0), ((HB.out.cell (World.block_lt_of_cell? w _ hw565_1)).trans hw565_1), ((HB.out.cell (World.block_lt_of_cell? w _ hw566_0)).trans hw566_0), ((HB.out.cell (World.block_lt_of_cell? w _ hw566_1)).trans hw566_1)⟩ (fun hHeld => ?_)
                                                  clear hK K
                                                  refine norm_ (a' := ?_) ?_ ?_
                                                  rotate_left
                                                  · show Act.put _ (some 63) _ = _
                                                    simp only [Act.put, List.setIfInBounds_toArray, List.set_cons_zero, List.set_cons_succ, i64_w, i32_w]
                                                    rfl
                                                  refine pure_ (i := 18) (N := some 64) (v := ?_) (a' := ?_) #[true, true, true, true, true, true, true, true, true, true, true, true, true, true, true, true, true, true, true] rfl rfl (any_of HT_.out (by kernel_rfl)) (fun _ _ _ h => h) (Or.inl ⟨by rfl, ?_⟩) ?_ ?_
                                                  rotate_left
                                                  · intro w'
                                                    go_simp
                                                    with_reducible rfl
                                                  rotate_left
                                                  · simp only [Act.put, List.setIfInBounds_toArray, List.set_cons_zero, List.set_cons_succ, i64_w, i32_w]
                                                    rfl
                                                  refine done_ (done_of HT_.out (by kernel_rfl)) ?_
                                                  try go_wp2
                                                  (try simp only [← hl4_3, ← hl5_3])
                                                  go_roundg k3
                                                  case measure => have := HK1.out; have := HK2.out; have := HK3.out; omega
                                                  case rel => exact ⟨(x4_3), (x5_3), (x8_3), (wrap64 (x43_3 + 1)), (by first | rfl | (simp; done) | (simp [*]; done)), H', ⟨by have := HK1.out; have := HK2.out; have := HK3.out; omega⟩, ⟨by (try simp only [hl4_2]); (try simp only [hl5_2]); (try simp only [hl4_3]); (try simp only [hl5_3]); (with_reducible repeat (first | apply Kd.R_alloc | apply Kd.R_drewN | apply Kd.R_drew)); exact HO_4.out⟩, ⟨by (try simp only [hl4_2]); (try simp only [hl5_2]); (try simp only [hl4_3]); (try simp only [hl5_3]); (with_reducible repeat (first | apply Kd.R_alloc | apply Kd.R_drewN | apply Kd.R_drew)); exact HO_5.out⟩, ⟨by (try simp only [hl4_2]); (try simp only [hl5_2]); (try simp only [hl4_3]); (try simp only [hl5_3]); (with_reducible repeat (first | apply Kd.S_alloc | apply Kd.S_drewN | apply Kd.S_drew)); exact HO_6.out⟩, ⟨by (try simp only [hl4_2]); (try simp only [hl5_2]); (try simp only [hl4_3]); (try simp only [hl5_3]); (with_reducible repeat (first | apply Kd.R_alloc | apply Kd.R_drewN | apply Kd.R_drew)); exact HO_8.out⟩, ⟨by repeat (first | (with_reducible first | exact HB.out | apply below_alloc | apply pw_below_drewN | apply below_drew1) | exact HB.out)⟩⟩
                                              · rw [if_neg c40] at H
                                                exact absurd H (by simp)
                                            · rw [if_neg c39] at H
                                              exact absurd H (by simp)
                                          · rw [if_neg c38] at H
                                            exact absurd H (by simp)
                                        · rw [if_neg c37] at H
                                          exact absurd H (by simp)
                                      · rw [if_neg c36] at H
                                        exact absurd H (by simp)
                                  · rw [if_neg c32] at H
                                    exact absurd H (by simp)
                                · rw [if_neg c31] at H
                                  exact absurd H (by simp)
                              · rw [if_neg c30] at H
                                have c30b0 : decide (x43_3 < (l0.length : Int)) = false := decide_eq_false c30
                                clear c30
                                have H' := Aside0.mk H
                                clear H
                                go_wp2
                                (try simp only [← hl4_2, ← hl5_2, ← hl4_3, ← hl5_3])
                                go_roundg k3
                                case measure => have := HK1.out; have := HK2.out; have := HK3.out; omega
                                case rel => exact ⟨(x4_3), (x5_3), (x8_3), (wrap64 (x9_2 + 1)), (by first | rfl | (simp; done) | (simp [*]; done)), H', ⟨by have := HK1.out; have := HK2.out; have := HK3.out; omega⟩, ⟨by (try simp only [hl4_2]); (try simp only [hl5_2]); (try simp only [hl4_3]); (try simp only [hl5_3]); (with_reducible repeat (first | apply Kd.R_alloc | apply Kd.R_drewN | apply Kd.R_drew)); exact HO_4.out⟩, ⟨by (try simp only [hl4_2]); (try simp only [hl5_2]); (try simp only [hl4_3]); (try simp only [hl5_3]); (with_reducible repeat (first | apply Kd.R_alloc | apply Kd.R_drewN | apply Kd.R_drew)); exact HO_5.out⟩, ⟨by (try simp only [hl4_2]); (try simp only [hl5_2]); (try simp only [hl4_3]); (try simp only [hl5_3]); (with_reducible repeat (first | apply Kd.S_alloc | apply Kd.S_drewN | apply Kd.S_drew)); exact HO_6.out⟩, ⟨by (try simp only [hl4_2]); (try simp only [hl5_2]); (try simp only [hl4_3]); (try simp only [hl5_3]); (with_reducible repeat (first | apply Kd.R_alloc | apply Kd.R_drewN | apply Kd.R_drew)); exact HO_8.out⟩, ⟨by repeat (first | (with_reducible first | exact HB.out | apply below_alloc | apply pw_below_drewN | apply below_drew1) | exact HB.out)⟩⟩
                        · rw [if_neg c28] at H
                          have c28b0 : decide (x9_2 < (x8_2.length : Int)) = false := decide_eq_false c28
                          clear c28
                          replace H := Option.bind_eq_some_iff.mp H
                          obtain ⟨t559, A590, H⟩ := H
                          replace H : (if x6_1.length < 5864062014805 then (impl_groups.l0 k2 l0 x4_2 x5_2 (x6_1 ++ [t559]) (l0.length : Int) (wrap64 (x20_1 + 1))) else (none)) = some (r1, r2) := H
                          have A59 := Aside0.mk A590
                          clear A590
                          by_cases c60 : x6_1.length < 5864062014805
                          · rw [if_pos c60] at H
                            have LMc60 := Aside0.mk c60
                            clear c60
                            obtain ⟨y560, hy560⟩ : ∃ y_ : List (List Int), y_ = (x6_1 ++ [t559]) := ⟨_, rfl⟩
                            replace H : (impl_groups.l0 k2 l0 x4_2 x5_2 y560 (l0.length : Int) (wrap64 (x20_1 + 1))) = some (r1, r2) := by first | (rw [hy560]; with_reducible exact H) | (have H2_ := (Option.bind_some _ _).symm.trans H; rw [hy560]; with_reducible exact H2_) | (have H2_ := (Option.bind_some _ _).symm.trans H; with_reducible exact H2_) | with_reducible exact H | (rw [hy560]; exact H) | exact H
                            have Ny560 := Aside0.mk hy560
                            clear hy560
                            have H' := Aside0.mk H
                            clear H
                            obtain ⟨Ao61, co61, eo61⟩ := Kd.R_slice HO_8.out
                            subst eo61
                            go_wp2_with (first | ((with_reducible refine gate_callee (f := 75) rfl ?_); refine goesL_ (some 85) rfl rfl Try.func75 (by kernel_rfl) rfl #[.slice Ao61 x8_2.length co61] rfl (by (try simp only [List.map_toArray, List.map_cons, List.map_nil]); first | done | rfl | (simp only [List.length_drop, List.length_take]; rfl)) ?_; (with_reducible refine (slices_Sort_int_int.calls (fun k_ => some k_ = (.slice Ao61 x8_2.length co61 : Value).ownBlock) (.slice Ao61 x8_2.length co61) x8_2 t559 w _ ?side1 ?side2 A59.out).mono ?_); (case side1 => repeat (first | (with_reducible first | exact HB.out | apply below_alloc | apply pw_below_drewN | apply below_drew1) | exact HB.out)); (case side2 => exact Kd.R_tight rfl HO_8.out); rintro e w62 ⟨rfl, hy0, hb, hkp⟩; refine ⟨_, rfl, ?_⟩; have n0_ := Aside0.mk (Kd.R_mono (ok' := fun k_ => some k_ ≠ (.slice (some ⟨go20, 0, none⟩) x5_2.length co20 : Value).ownBlock) (Kd.R_keptB ((Kd.R_apart' HO_4.out (Kd.R_typed HO_8.out) (by decide))) hkp (fun k_ hk_ hs_ => (hk_.2) hs_)) (fun k_ hk_ => hk_.1.1)); have n1_ := Aside0.mk (Kd.R_mono (ok' := fun k_ => some k_ ≠ (.slice (some ⟨go18, 0, none⟩) x4_2.length co21 : Value).ownBlock) (Kd.R_keptB ((Kd.R_apart' HO_5.out (Kd.R_typed HO_8.out) (by decide))) hkp (fun k_ hk_ hs_ => (hk_.2) hs_)) (fun k_ hk_ => hk_.1.1)); have n2_ := Aside0.mk (Kd.S_mono (ok' := fun k_ => some k_ ≠ (.slice Ao61 x8_2.length co61 : Value).ownBlock) (Kd.S_keptB (HO_6.out) hkp (fun k_ hk_ hs_ => (hk_) hs_)) (fun k_ hk_ => hk_.1)); have n3_ := Aside0.mk (Kd.R_reok rfl hy0 (fun k_ e_ => HO_8.out.1 k_ e_)); have n4_ := Aside0.mk (hb); clear HO_4; clear HO_5; clear HO_6; clear HO_8; clear HB; have HO_4 := n0_; have HO_5 := n1_; have HO_6 := n2_; have HO_8 := n3_; have HB := n4_; clear n0_ n1_ n2_ n3_ n4_; (try clear hb); (try clear hkp); (try clear hy0)) | ((with_reducible refine gate_builtin (b := .append) (xs := #[.tmp 86, .tmp 88]) rfl ?_); at_builtin; refine Kd.S_append (Kd.slice 3 (Kd.int .i64)) (w0 := w) w.heap.size rfl (.tmp 86) (.tmp 88) 31 28 (.slice none 0 0) 24 rfl Try.underlying31 info28 rfl (by decide) (by omega) u6 x6_1 t559 [.slice Ao61 x8_2.length co61] (fun _ => True) (fun k_ => some k_ = (.slice Ao61 x8_2.length co61 : Value).ownBlock) rfl rfl ?aP (fun k_ hk_ => ((Kd.R_mono (ok' := fun k_ => ((fun _ => True)) k_ ∧ some k_ ≠ (u6 : Value).ownBlock) (Kd.R_apart' (HO_8.out) (Kd.S_typed HO_6.out) (by decide)) (fun k_ hk => ⟨trivial, hk.2⟩))).1 k_ hk_.symm) ?aF ?aO ?aB ?aS ?aL ?_; (case aP => exact Kd.M_row (Kd.R_mono (Kd.R_tight rfl (Kd.R_mono (ok' := fun k_ => ((fun _ => True)) k_ ∧ some k_ ≠ (u6 : Value).ownBlock) (Kd.R_apart' (HO_8.out) (Kd.S_typed HO_6.out) (by decide)) (fun k_ hk => ⟨trivial, hk.2⟩))) (fun _ h_ => h_))); (case aB => exact (by repeat (first | (with_reducible first | exact HB.out | apply below_alloc | apply pw_below_drewN | apply below_drew1) | exact HB.out))); (case aF => exact (fun _ _ => trivial)); (case aO => exact (by (with_reducible repeat (first | apply Kd.S_alloc | apply Kd.S_drewN | apply Kd.S_drew)); exact Kd.S_mono HO_6.out (fun k_ hk => ⟨trivial, fun e_ => hk e_⟩))); (case aS => exact (below_size (by repeat (first | (with_reducible first | exact HB.out | apply below_alloc | apply pw_below_drewN | apply below_drew1) | exact HB.out)))); (case aL => have := LMc60.out; omega); intro v561 w63 ho hb hg hat; rw [← Ny560.out] at ho; have n0_ := Aside0.mk (Kd.R_over' (by (with_reducible repeat (first | apply Kd.R_alloc | apply Kd.R_drewN | apply Kd.R_drew)); exact HO_4.out) (Kd.S_typed (by (with_reducible repeat (first | apply Kd.S_alloc | apply Kd.S_drewN | apply Kd.S_drew)); exact HO_6.out)) (by decide) hg); have n1_ := Aside0.mk (Kd.R_over' (by (with_reducible repeat (first | apply Kd.R_alloc | apply Kd.R_drewN | apply Kd.R_drew)); exact HO_5.out) (Kd.S_typed (by (with_reducible repeat (first | apply Kd.S_alloc | apply Kd.S_drewN | apply Kd.S_drew)); exact HO_6.out)) (by decide) hg); have n2_ := Aside0.mk (hb); have n3_ := Aside0.mk (ho); clear HO_4; clear HO_5; clear HB; clear HO_6; clear HO_8; have HO_4 := n0_; have HO_5 := n1_; have HB := n2_; have HO562 := n3_; clear n0_ n1_ n2_ n3_; clear ho hb hg hat))
                            (try simp only [← hl4_2, ← hl5_2])
                            go_roundg k2
                            case measure => have := HK1.out; have := HK2.out; omega
                            case rel => exact ⟨(x4_2), (x5_2), (y560), (wrap64 (x20_1 + 1)), (by first | rfl | (simp; done) | (simp [*]; done)), H', ⟨by have := HK1.out; have := HK2.out; omega⟩, ⟨by (try simp only [hl4_2]); (try simp only [hl5_2]); (with_reducible repeat (first | apply Kd.R_alloc | apply Kd.R_drewN | apply Kd.R_drew)); exact HO_4.out⟩, ⟨by (try simp only [hl4_2]); (try simp only [hl5_2]); (with_reducible repeat (first | apply Kd.R_alloc | apply Kd.R_drewN | apply Kd.R_drew)); exact HO_5.out⟩, ⟨by (try simp only [hl4_2]); (try simp only [hl5_2]); (with_reducible repeat (first | apply Kd.S_alloc | apply Kd.S_drewN | apply Kd.S_drew)); exact HO562.out⟩, ⟨by repeat (first | (with_reducible first | exact HB.out | apply below_alloc | apply pw_below_drewN | apply below_drew1) | exact HB.out)⟩⟩
                          · rw [if_neg c60] at H
                            exact absurd H (by simp)
                  · rw [if_neg c19] at H
                    exact absurd H (by simp)
              · rw [if_neg c14] at H
                exact absurd H (by simp)
            · rw [if_neg c13] at H
              exact absurd H (by simp)
          · rw [if_neg c12] at H
            have c12b0 : decide (x20_1 < (l0.length : Int)) = false := decide_eq_false c12
            clear c12
            simp only [Option.some.injEq, Prod.mk.injEq] at H
            obtain ⟨rfl, rfl⟩ := H
            go_wp2
            go_ret2
            exact ⟨_, _, by first | rfl | (simp [errW_none, errW_some] <;> rfl) | (simp [*, errW_none, errW_some] <;> rfl), by (with_reducible repeat (first | apply Kd.S_alloc | apply Kd.S_drewN | apply Kd.S_drew)); exact HO_6.out, by (with_reducible repeat (first | apply Kd.R_alloc | apply Kd.R_drewN | apply Kd.R_drew)); exact Kd.R_mono HO_5.out (fun _ hk => trivial), by repeat (first | (with_reducible first | exact HB.out | apply below_alloc | apply pw_below_drewN | apply below_drew1) | exact HB.out)⟩
    · rw [if_neg c3] at H
      exact absurd H (by simp)
  · rw [if_neg c2] at H
    exact absurd H (by simp)

/-! ### impl_SidesOfChords: function 29 (given by hand) -/
/-- Some place at which q holds, if there is one; else a number below 0. -/
def IdxPostL (q : List Int → Bool) (l : List (List Int)) (w : World) (e : Ending) (w' : World) : Prop := ∃ r : Int, e = .returned (.int .i64 r) ∧ decide (0 ≤ r) = l.any q ∧ ∃ n, w' = w.drewN n
def NoneYetL (q : List Int → Bool) (l : List (List Int)) (kk : Nat) : Prop := ∀ j : Nat, j < kk → q (rd_L1 l j) = false
theorem rdL_mem (l : List (List Int)) (j : Nat) (h : j < l.length) : rd_L1 l (j : Int) ∈ l := by
  unfold rd_L1
  rw [Int.toNat_natCast, List.getD_eq_getElem?_getD, List.getElem?_eq_getElem h, Option.getD_some]
  exact List.getElem_mem h
theorem noneYetL_all {q : List Int → Bool} {l : List (List Int)} (h : NoneYetL q l l.length) : l.any q = false := by
  rw [List.any_eq_false]
  intro x hx
  obtain ⟨i, hi, rfl⟩ := List.getElem_of_mem hx
  have := h i hi
  unfold rd_L1 at this
  rw [Int.toNat_natCast, List.getD_eq_getElem?_getD, List.getElem?_eq_getElem hi, Option.getD_some] at this
  rw [this]; simp
theorem anyL_at {q : List Int → Bool} {l : List (List Int)} {kk : Nat} (hk : kk < l.length) (h : q (rd_L1 l kk) = true) : l.any q = true := by
  rw [List.any_eq_true]
  exact ⟨_, rdL_mem l kk hk, h⟩
set_option maxHeartbeats 2000000 in
set_option maxRecDepth 100000 in
theorem indexFuncL_walk (q : List Int → Bool) (g : Nat) (lb : Array Value) (eg : ∀ args w, (callFunc g args).run Try.prog w = .ok (.enter g args) w) (A : Option Addr) (c : Nat) (l : List (List Int)) (w : World)
    (hr : Kd.C (Kd.slice 3 (Kd.int .i64)) w A l.length l) (hl : l.length ≤ 9223372036854775807)
    (hq : ∀ (x : List Int) (Ax : Option Addr) (cx n : Nat), x ∈ l → Kd.C (Kd.int .i64) w Ax x.length x → x.length ≤ cx → Calls Try.prog g (#[.slice Ax x.length cx] ++ lb) (w.drewN n) fun e w' => e = .returned (.bool (q x)) ∧ ∃ m, w' = (w.drewN n).drewN m) :
    Calls Try.prog 76 #[.slice A l.length c, .func (.func g) #[] lb] w (IdxPostL q l w) := by
  have HR := Aside0.mk hr
  clear hr
  have HQ := Aside0.mk hq
  clear hq
  go_enter Try.func76, Try.ntmps76
  go_wp2
  go_loopg [5, 8] l.length (fun gg _ s8 wr => ∃ kk n : Nat, kk ≤ l.length ∧ l.length - kk ≤ gg ∧ s8 = .int .i64 kk ∧ wr = w.drewN n ∧ Aside0 (NoneYetL q l kk))
  case atStart => exact ⟨0, 0, Nat.zero_le _, by omega, rfl, rfl, ⟨fun j hj => absurd hj (Nat.not_lt_zero _)⟩⟩
  case round =>
    obtain ⟨kk, n, hkk, hg, rfl, rfl, HN⟩ := hrel
    by_cases hlt : kk < l.length
    · have hltz : (kk : Int) < (l.length : Int) := by omega
      obtain ⟨ad, A0, c0, rfl, hcell0, hle0, hC0⟩ := at_L1 HR.out (kk : Int) (by omega) hltz
      rw [Int.toNat_natCast] at hcell0
      have hcall := HQ.out (rd_L1 l kk) A0 c0 n (rdL_mem l kk hlt) hC0 hle0
      clear hle0 hC0
      generalize hy : rd_L1 l kk = y at hcell0 hcall
      have HY := Aside0.mk hy
      clear hy
      cases hqy : q y with
      | true =>
        rw [hqy] at hcall
        have HCALL := Aside0.mk hcall
        clear hcall
        have HQY := Aside0.mk hqy
        clear hqy
        go_wp2_with fail
        refine HCALL.out.mono ?_
        rintro e w' ⟨rfl, q', rfl⟩
        go_wp2_with fail
        go_ret
        refine ⟨_, rfl, ?_, _, rfl⟩
        rw [anyL_at hlt (by rw [HY.out]; exact HQY.out)]
        simp
      | false =>
        rw [hqy] at hcall
        have HCALL := Aside0.mk hcall
        clear hcall
        have HQY := Aside0.mk hqy
        clear hqy
        go_wp2_with fail
        refine HCALL.out.mono ?_
        rintro e w' ⟨rfl, q', rfl⟩
        go_wp2_with fail
        go_roundg (l.length - (kk + 1))
        case measure => omega
        case rel =>
          refine ⟨kk + 1, _, by omega, by omega, by go_num, rfl, ⟨fun j hj => ?_⟩⟩
          by_cases e : j = kk
          · subst e
            rw [HY.out]; exact HQY.out
          · exact HN.out j (by omega)
    · have hltz : ¬ (kk : Int) < (l.length : Int) := by omega
      obtain rfl : kk = l.length := by omega
      go_wp2
      go_ret
      refine ⟨_, rfl, ?_, n, rfl⟩
      rw [noneYetL_all HN.out]
      rfl
set_option maxHeartbeats 2000000 in
theorem containsFuncL_walk (q : List Int → Bool) (g : Nat) (lb : Array Value) (eg : ∀ args w, (callFunc g args).run Try.prog w = .ok (.enter g args) w) (A : Option Addr) (c : Nat) (l : List (List Int)) (w : World)
    (hr : Kd.C (Kd.slice 3 (Kd.int .i64)) w A l.length l) (hl : l.length ≤ 9223372036854775807)
    (hq : ∀ (x : List Int) (Ax : Option Addr) (cx n : Nat), x ∈ l → Kd.C (Kd.int .i64) w Ax x.length x → x.length ≤ cx → Calls Try.prog g (#[.slice Ax x.length cx] ++ lb) (w.drewN n) fun e w' => e = .returned (.bool (q x)) ∧ ∃ m, w' = (w.drewN n).drewN m) :
    Calls Try.prog 55 #[.slice A l.length c, .func (.func g) #[] lb] w fun e w' => e = .returned (.bool (l.any q)) ∧ ∃ n, w' = w.drewN n := by
  have hc := indexFuncL_walk q g lb eg A c l w hr hl hq
  clear hr hl hq eg
  generalize hz : l.any q = z
  have HZ := Aside0.mk hz
  clear hz
  go_enter Try.func55, Try.ntmps55
  have HC := Aside0.mk hc
  clear hc
  go_wp2_with fail
  refine HC.out.mono ?_
  rintro e w' ⟨r, rfl, hr0, n, rfl⟩
  have HR0 := Aside0.mk hr0
  clear hr0
  go_wp2_with fail
  go_ret
  exact ⟨by rw [← HZ.out, ← HR0.out]; rfl, n, rfl⟩
def evP (E : List Bool) (p : List Int) : Bool := rdOf false E (rd p 0) == rdOf false E (rd p 1)
set_option maxHeartbeats 2000000 in
set_option maxRecDepth 100000 in
theorem sides_closure (E : List Bool) (AE : Option Addr) (cE B : Nat) (x : List Int) (Ax : Option Addr) (cx : Nat) (w : World) (hcell : w.cell? ⟨B, 0, none⟩ = some (.slice AE E.length cE)) (hE : Kd.C Kd.bool w AE E.length E)
    (hx : Kd.C (Kd.int .i64) w Ax x.length x) (hx2 : x.length = 2) (h0 : 0 ≤ rd x 0 ∧ rd x 0 < E.length) (h1 : 0 ≤ rd x 1 ∧ rd x 1 < E.length) :
    Calls Try.prog 56 (#[.slice Ax x.length cx] ++ #[.pointer (some ⟨B, 0, none⟩)]) w fun e w' => e = .returned (.bool (evP E x)) ∧ ∃ m, w' = w.drewN m := by
  have hu := Try.underlying78
  obtain ⟨ad, rfl, hp0⟩ := Kd.at_int hx 0 (by omega) (by omega)
  obtain ⟨ad2, e2, hp1⟩ := Kd.at_int hx 1 (by omega) (by omega)
  obtain rfl : ad = ad2 := Option.some.inj e2
  obtain ⟨ae, rfl, he0⟩ := Kd.at_bool hE (rd x 0) h0.1 h0.2
  obtain ⟨ae2, e3, he1⟩ := Kd.at_bool hE (rd x 1) h1.1 h1.2
  obtain rfl : ae = ae2 := Option.some.inj e3
  clear e2 e3 hx hE
  simp only [show (0 : Int).toNat = 0 from rfl, show (1 : Int).toNat = 1 from rfl, Addr.add_zero'] at hp0 hp1
  simp only [Go.Addr.add, Nat.reduceEqDiff, ↓reduceIte] at hp1
  obtain ⟨h00, h01⟩ := h0
  obtain ⟨h10, h11⟩ := h1
  unfold evP
  generalize rd x 0 = p at *
  generalize rd x 1 = q at *
  rw [hx2]
  show Calls Try.prog 56 #[.slice (some ad) 2 cx, .pointer (some ⟨B, 0, none⟩)] w _
  go_enter Try.func56, Try.ntmps56
  go_wp2
  go_region
  all_goals go_wp2
  all_goals go_ret
  all_goals exact ⟨rfl, 1, rfl⟩
theorem infoU8 : (Try.prog.info? 5).map (fun i => (i.zero, i.size, i.bytes)) = some (some (.int .u8 0), 1, 1) := by kernel_rfl
def sideL (E : List Bool) : List Int := E.map fun b => if b = true then 105 else 111
def evOk (E : List Bool) (p : List Int) : Bool := decide (p.length = 2) && (decide (0 ≤ rd p 0 ∧ rd p 0 < E.length) && decide (0 ≤ rd p 1 ∧ rd p 1 < E.length))
def impl_SidesOfChords.f (k : Nat) (a0 : Int) (l1 : List S50) : Option (ByteArray × Bool) :=
  (impl_CrossingPairs.f k a0 l1).bind fun ps => if ps.2 = false then some (⟨#[]⟩, false) else (impl_groups.f k l1).bind fun ge =>
    if (ps.1.all (evOk ge.2)) = true ∧ ge.2.length ≤ 1000 ∧ ps.1.length ≤ 1000000 then (if ps.1.any (evP ge.2) = true then some (⟨#[]⟩, false) else some (strOfNums (sideL ge.2), true)) else none
theorem sideL_take (E : List Bool) (i : Nat) (hi : i < E.length) : sideL (E.take (i + 1)) = sideL (E.take i) ++ [if rdOf false E (i : Int) = true then 105 else 111] := by
  have e : E.take (i + 1) = E.take i ++ [E[i]] := List.take_succ_eq_append_getElem hi
  have e2 : rdOf false E (i : Int) = E[i] := by
    unfold rdOf
    rw [Int.toNat_natCast, List.getD_eq_getElem?_getD, List.getElem?_eq_getElem hi, Option.getD_some]
  unfold sideL
  rw [e, e2, List.map_append]
  rfl
theorem sideL_len (E : List Bool) (i : Nat) : (sideL (E.take i)).length ≤ i := by
  unfold sideL
  rw [List.length_map, List.length_take]
  omega
set_option maxHeartbeats 8000000 in
set_option maxRecDepth 100000 in
theorem sides_walk (k : Nat) (a0 : Int) (A1 : Option Addr) (c1 : Nat) (l1 : List S50) (ps : List (List Int)) (gs : List (List Int)) (E : List Bool) (z : Bool) (w : World) (hr1 : Kd.C k50 w A1 l1.length l1) (hc1 : l1.length ≤ c1)
    (hps : impl_CrossingPairs.f k a0 l1 = some (ps, true)) (hge : impl_groups.f k l1 = some (gs, E)) (hok : ∀ p ∈ ps, evOk E p = true) (hE : E.length ≤ 1000) (hpl : ps.length ≤ 1000000) (hz : Aside0 (ps.any (evP E) = z)) :
    Calls Try.prog 29 #[.int .i64 a0, .slice A1 l1.length c1] w fun e w' => e = .returned (.tuple #[.string (if z = true then ⟨#[]⟩ else strOfNums (sideL E)), .bool (!z)]) ∧ Below w.heap.size w w' := by
  have HS := Aside0.mk (impl_CrossingPairs.calls k a0 A1 c1 l1 ps true w hr1 hc1 hps)
  have HG := Aside0.mk (fun (W : World) (hb : Below w.heap.size w W) => impl_groups.calls k A1 c1 l1 gs E W (Kd.C_below hr1 hb) hc1 hge)
  have HOK := Aside0.mk hok
  clear hr1 hc1 hps hge hok
  go_enter Try.func29, Try.ntmps29
  go_wp2_with fail
  refine HS.out.mono ?_
  rintro e w1 ⟨v0, rfl, hS, hb1⟩
  have HB := Aside0.mk hb1
  have HP := Aside0.mk hS
  clear hb1 HS hS
  go_wp2_with fail
  refine (HG.out _ HB.out).mono ?_
  rintro e w2 ⟨vg, ve, rfl, _, hE2, hb2⟩
  have HB2 := Aside0.mk (below_step HB.out hb2)
  have HP2 := Aside0.mk (Kd.S_below HP.out hb2)
  obtain ⟨AE, cE, rfl, hle, _⟩ := Kd.R_reads hE2
  have HE := Aside0.mk hE2
  clear HG HB HP hE2 hb2
  obtain ⟨AP, cP, rfl, hlp, _⟩ := Kd.S_reads HP2.out
  have HC := Aside0.mk (containsFuncL_walk (evP E) 56 #[.pointer (some ⟨w2.heap.size, 0, none⟩)] (enters_of Try.func56 (by kernel_rfl) rfl) AP cP ps (w2.alloc (.cells #[.slice AE E.length cE] 78)) (Kd.S_reads' (Kd.S_alloc HP2.out _)).2.2 (by omega) (fun x Ax cx n hx hC hl => by
    have ho := HOK.out x hx
    unfold evOk at ho
    rw [Bool.and_eq_true, Bool.and_eq_true, decide_eq_true_eq, decide_eq_true_eq, decide_eq_true_eq] at ho
    exact sides_closure E AE cE w2.heap.size x Ax cx ((w2.alloc (.cells #[.slice AE E.length cE] 78)).drewN n) (by simp) (Kd.C_drewN (Kd.R_reads' (Kd.R_alloc HE.out _)).2.2 n) (Kd.C_drewN hC n) ho.1 ho.2.1 ho.2.2))
  rw [hz.out] at HC
  go_wp2_with fail
  refine HC.out.mono ?_
  rintro e w3 ⟨rfl, n3, rfl⟩
  cases z with
  | true =>
    go_wp2_with fail
    go_ret2
    exact ⟨rfl, pw_below_drewN (below_alloc HB2.out _) n3⟩
  | false =>
    have HB3 := Aside0.mk (pw_below_drewN (below_alloc HB2.out (.cells #[.slice AE E.length cE] 78)) n3)
    have HE3 := Aside0.mk (Kd.R_drewN (Kd.R_alloc HE.out (.cells #[.slice AE E.length cE] 78)) n3)
    have hcz0 : ((w2.alloc (.cells #[.slice AE E.length cE] 78)).drewN n3).cell? ⟨w2.heap.size, 0, none⟩ = some (.slice AE E.length cE) := by simp
    generalize (w2.alloc (.cells #[.slice AE E.length cE] 78)).drewN n3 = W3 at HB3 HE3 hcz0 ⊢
    have hcz : (W3.alloc (.cells #[] 5)).cell? ⟨w2.heap.size, 0, none⟩ = some (.slice AE E.length cE) := (World.cell?_alloc_past _ _ _ (World.block_lt_of_cell? _ _ hcz0)).trans hcz0
    clear hcz0
    go_wp2_with fail
    clear hcz
    go_loopg [10, 32] E.length (fun gg v10 v32 wr => ∃ (i : Nat), v32 = .int .i64 (i : Int) ∧ i ≤ E.length ∧ E.length - i ≤ gg ∧ Aside0 (Kd.R (Kd.int .u8) 5 wr W3.heap.size (fun _ => True) v10 (sideL (E.take i))) ∧ Aside0 (Below W3.heap.size W3 wr))
    case atStart => exact ⟨0, rfl, Nat.zero_le _, by omega, ⟨show Kd.R (Kd.int .u8) 5 (W3.alloc (.cells #[] 5)) W3.heap.size (fun _ => True) (.slice (some ⟨W3.heap.size, 0, none⟩) 0 0) [] from ⟨fun _ _ => trivial, OwnRow.lit W3 W3.heap.size (Reps.none _ _) (Nat.le_refl _) (by simp)⟩⟩, ⟨below_alloc (Below.refl _ _) _⟩⟩
    case round =>
      obtain ⟨i, rfl, hi, hmi, HO, HX⟩ := hrel
      by_cases hil : i < E.length
      · have c0 : decide ((i : Int) < (E.length : Int)) = true := decide_eq_true (by omega)
        obtain ⟨ad, rfl, hcell⟩ := Kd.at_bool (Kd.R_reads' (Kd.R_below HE3.out HX.out)).2.2 (i : Int) (by omega) (by omega)
        rw [Int.toNat_natCast] at hcell
        have HSL := Aside0.mk (sideL_len E i)
        cases hbb : rdOf false E (i : Int) with
        | true =>
          have HB0 := Aside0.mk hbb
          rw [hbb] at hcell
          clear hbb
          go_wp2_with (first | ((with_reducible refine gate_builtin (b := .append) (xs := #[.tmp 37, .tmp 38]) rfl ?_); at_builtin; refine Kd.R_append (Kd.int .u8) (w0 := W3) W3.heap.size rfl (.tmp 37) (.tmp 38) 59 5 (.int .u8 0) 1 rfl Try.underlying59 infoU8 rfl (by decide) (by omega) u10 (sideL (E.take i)) 105 [.int .u8 105] (fun _ => True) (fun _ => False) rfl (by go_simp) ?aP (fun _ hk => hk.elim) ?aF HO.out HX.out ?aS ?aL ?_; (case aP => exact rfl); (case aF => exact fun _ _ => trivial); (case aS => exact below_size HX.out); (case aL => have := HSL.out; omega); intro v1 w4 ho hb hg hat; have n0_ := Aside0.mk ho; have n1_ := Aside0.mk hb; clear ho hb hg hat))
          go_roundg (E.length - (i + 1))
          case measure => omega
          case rel =>
            refine ⟨i + 1, by go_num, by omega, Nat.le_refl _, ⟨?_⟩, n1_⟩
            rw [sideL_take E i hil, HB0.out]
            exact n0_.out
  
        | false =>
          have HB0 := Aside0.mk hbb
          rw [hbb] at hcell
          clear hbb
          go_wp2_with (first | ((with_reducible refine gate_builtin (b := .append) (xs := #[.tmp 40, .tmp 41]) rfl ?_); at_builtin; refine Kd.R_append (Kd.int .u8) (w0 := W3) W3.heap.size rfl (.tmp 40) (.tmp 41) 59 5 (.int .u8 0) 1 rfl Try.underlying59 infoU8 rfl (by decide) (by omega) u10 (sideL (E.take i)) 111 [.int .u8 111] (fun _ => True) (fun _ => False) rfl (by go_simp) ?aP (fun _ hk => hk.elim) ?aF HO.out HX.out ?aS ?aL ?_; (case aP => exact rfl); (case aF => exact fun _ _ => trivial); (case aS => exact below_size HX.out); (case aL => have := HSL.out; omega); intro v1 w4 ho hb hg hat; have n0_ := Aside0.mk ho; have n1_ := Aside0.mk hb; clear ho hb hg hat))
          go_roundg (E.length - (i + 1))
          case measure => omega
          case rel =>
            refine ⟨i + 1, by go_num, by omega, Nat.le_refl _, ⟨?_⟩, n1_⟩
            rw [sideL_take E i hil, HB0.out]
            exact n0_.out
  
      · obtain rfl : i = E.length := by omega
        have c0 : decide ((E.length : Int) < (E.length : Int)) = false := decide_eq_false (by omega)
        have ht : E.take E.length = E := List.take_length
        have HO2 := HO.out
        rw [ht] at HO2
        obtain ⟨Ao, co, rfl, hlo, hCo⟩ := Kd.R_reads HO2
        have hcv := Kd.C_string (P := Try.prog) (A := Ao) (c := co) Try.underlying59 Try.underlying5 Try.underlying9 hCo
        clear ht hCo hlo HO2
        go_wp2_with fail
        go_ret2
        exact ⟨rfl, below_step HB3.out HX.out⟩
set_option maxHeartbeats 1000000 in
set_option maxRecDepth 100000 in
theorem sides_small (k : Nat) (a0 : Int) (A1 : Option Addr) (c1 : Nat) (l1 : List S50) (ps : List (List Int)) (w : World) (hr1 : Kd.C k50 w A1 l1.length l1) (hc1 : l1.length ≤ c1)
    (hps : impl_CrossingPairs.f k a0 l1 = some (ps, false)) :
    Calls Try.prog 29 #[.int .i64 a0, .slice A1 l1.length c1] w fun e w' => e = .returned (.tuple #[.string ⟨#[]⟩, .bool false]) ∧ Below w.heap.size w w' := by
  have HS := Aside0.mk (impl_CrossingPairs.calls k a0 A1 c1 l1 ps false w hr1 hc1 hps)
  clear hr1 hc1 hps
  go_enter Try.func29, Try.ntmps29
  go_wp2_with fail
  refine HS.out.mono ?_
  rintro e w1 ⟨v0, rfl, hS, hb1⟩
  have HB := Aside0.mk hb1
  clear hb1 HS hS
  go_wp2_with fail
  go_ret2
  exact ⟨rfl, HB.out⟩
theorem impl_SidesOfChords.calls (k : Nat) (a0 : Int) (A1 : Option Addr) (c1 : Nat) (l1 : List S50) (r1 : ByteArray) (r2 : Bool) (w : World) (hr1 : Kd.C k50 w A1 l1.length l1) (hc1 : l1.length ≤ c1) (h : impl_SidesOfChords.f k a0 l1 = some (r1, r2)) :
    Calls Try.prog 29 #[.int .i64 a0, .slice A1 l1.length c1] w fun e w' => e = .returned (.tuple #[.string r1, .bool r2]) ∧ Below w.heap.size w w' := by
  unfold impl_SidesOfChords.f at h
  obtain ⟨⟨ps, b⟩, hps, h⟩ := Option.bind_eq_some_iff.mp h
  cases b with
  | false =>
    simp only [if_true] at h
    injection h with h
    injection h with e1 e2
    subst e1
    subst e2
    exact sides_small k a0 A1 c1 l1 ps w hr1 hc1 hps
  | true =>
    simp only [Bool.true_eq_false, if_false] at h
    obtain ⟨⟨gs, E⟩, hge, h⟩ := Option.bind_eq_some_iff.mp h
    simp only at h
    by_cases hc : (ps.all (evOk E)) = true ∧ E.length ≤ 1000 ∧ ps.length ≤ 1000000
    · rw [if_pos hc] at h
      obtain ⟨hc1', hc2, hc3⟩ := hc
      have hw := sides_walk k a0 A1 c1 l1 ps gs E (ps.any (evP E)) w hr1 hc1 hps hge (List.all_eq_true.1 hc1') hc2 hc3 ⟨rfl⟩
      by_cases hz : ps.any (evP E) = true
      · rw [if_pos hz] at h
        injection h with h
        injection h with e1 e2
        subst e1
        subst e2
        rw [hz] at hw
        simpa using hw
      · rw [if_neg hz] at h
        injection h with h
        injection h with e1 e2
        subst e1
        subst e2
        rw [Bool.eq_false_iff.2 hz] at hw
        simpa using hw
    · rw [if_neg hc] at h
      cases h
theorem impl_SidesOfChords.mono (a0 : Int) (l1 : List S50) (k : Nat) : LeO (impl_SidesOfChords.f k a0 l1) (impl_SidesOfChords.f (k + 1) a0 l1) := by
  unfold impl_SidesOfChords.f
  exact LeO.bind (impl_CrossingPairs.mono _ _ k) (fun ps => LeO.ite (LeO.refl _) (LeO.bind (impl_groups.mono _ k) (fun ge => LeO.refl _)))

/-! ### laws_FnExactSidesOfChords: function 7 -/
def laws_FnExactSidesOfChords.j0 : Nat → List (S68) → List (S50) → Bool → Option (Bool)
  | 0, _, _, _ => none
  | k + 1, x1, x8, x38 => if x38 = true then (some false) else ((laws_toChordS.f k x1).bind fun t595 => ((laws_eqChordS.f k x8 t595).bind fun t598 => (if t598 = true then (some true) else (some false))))
def laws_FnExactSidesOfChords.f (k : Nat) (a0 : Int) (l1 : List (S68)) : Option (Bool) := (laws_szChordS.f l1 1048576).bind fun t584 => (if t584 < 0 then (some true) else ((laws_toChordS.f k l1).bind fun t585 => ((spec_SidesOfChords.f k a0 t585).bind fun bt588 => ((laws_toChordS.f k l1).bind fun t590 => ((impl_SidesOfChords.f k a0 t590).bind fun bt593 => (if bt593.1.toList = bt588.1.toList then (laws_FnExactSidesOfChords.j0 k l1 t590 (bt593.2 != bt588.2)) else (laws_FnExactSidesOfChords.j0 k l1 t590 true)))))))
theorem laws_FnExactSidesOfChords.mono_l : ∀ k, (∀ y0 y1 y2, LeO (laws_FnExactSidesOfChords.j0 k y0 y1 y2) (laws_FnExactSidesOfChords.j0 (k + 1) y0 y1 y2))
  | 0 => fun _ _ _ r h => by simp [laws_FnExactSidesOfChords.j0] at h
  | k + 1 => by
    have ih0 := laws_FnExactSidesOfChords.mono_l k
    · intro y0 y1 y2
      unfold laws_FnExactSidesOfChords.j0
      repeat' first
      | (with_reducible exact ih0 _ _ _)
      | (with_reducible exact impl_SidesOfChords.mono _ _ _)
      | (with_reducible exact laws_eqChordS.mono _ _ _)
      | (with_reducible exact laws_toChordS.mono _ _)
      | (with_reducible exact spec_SidesOfChords.mono _ _ _)
      | (with_reducible exact LeO.refl _)
      | (with_reducible exact LeO.none _)
      | (with_reducible refine LeO.ite ?_ ?_)
      | (with_reducible refine LeO.bind ?_ (fun _ => ?_))
      | exact ih0 _ _ _
      | exact impl_SidesOfChords.mono _ _ _
      | exact laws_eqChordS.mono _ _ _
      | exact laws_toChordS.mono _ _
      | exact spec_SidesOfChords.mono _ _ _
      | exact LeO.none _
      | refine LeO.ite ?_ ?_
      | refine LeO.bind ?_ (fun _ => ?_)
theorem laws_FnExactSidesOfChords.mono : ∀ a0 a1 k, LeO (laws_FnExactSidesOfChords.f k a0 a1) (laws_FnExactSidesOfChords.f (k + 1) a0 a1) := by
  intro a0 a1 k
  have ih0 := laws_FnExactSidesOfChords.mono_l k
  unfold laws_FnExactSidesOfChords.f
  repeat' first
      | (with_reducible exact ih0 _ _ _)
      | (with_reducible exact impl_SidesOfChords.mono _ _ _)
      | (with_reducible exact laws_eqChordS.mono _ _ _)
      | (with_reducible exact laws_toChordS.mono _ _)
      | (with_reducible exact spec_SidesOfChords.mono _ _ _)
      | (with_reducible exact LeO.refl _)
      | (with_reducible exact LeO.none _)
      | (with_reducible refine LeO.ite ?_ ?_)
      | (with_reducible refine LeO.bind ?_ (fun _ => ?_))
      | exact ih0 _ _ _
      | exact impl_SidesOfChords.mono _ _ _
      | exact laws_eqChordS.mono _ _ _
      | exact laws_toChordS.mono _ _
      | exact spec_SidesOfChords.mono _ _ _
      | exact LeO.none _
      | refine LeO.ite ?_ ?_
      | refine LeO.bind ?_ (fun _ => ?_)
set_option maxHeartbeats 8000000 in
set_option maxRecDepth 100000 in
theorem laws_FnExactSidesOfChords.calls (k : Nat) (a0 : Int) (A1 : Option Addr) (c1 : Nat) (l1 : List (S68)) (r : Bool) (w : World) (hr1 : Kd.C k68 w A1 l1.length l1) (hc1 : l1.length ≤ c1) (h : laws_FnExactSidesOfChords.f k a0 l1 = some r) :
    Calls Try.prog 7 #[.int .i64 a0, .slice A1 l1.length c1] w fun e w' => e = .returned (.bool r) ∧ Below w.heap.size w w' := by
  have HR1 := Aside0.mk hr1
  have HC1 := Aside0.mk hc1
  clear hr1 hc1
  have HB := Aside0.mk (Below.refl w.heap.size w)
  have H : ((laws_szChordS.f l1 1048576).bind fun t584 => (if t584 < 0 then (some true) else ((laws_toChordS.f k l1).bind fun t585 => ((spec_SidesOfChords.f k a0 t585).bind fun bt588 => ((laws_toChordS.f k l1).bind fun t590 => ((impl_SidesOfChords.f k a0 t590).bind fun bt593 => (if bt593.1.toList = bt588.1.toList then (laws_FnExactSidesOfChords.j0 k l1 t590 (bt593.2 != bt588.2)) else (laws_FnExactSidesOfChords.j0 k l1 t590 true)))))))) = some r := h
  clear h
  replace H := Option.bind_eq_some_iff.mp H
  obtain ⟨t584, A30, H⟩ := H
  replace H : (if t584 < 0 then (some true) else ((laws_toChordS.f k l1).bind fun t585 => ((spec_SidesOfChords.f k a0 t585).bind fun bt588 => ((laws_toChordS.f k l1).bind fun t590 => ((impl_SidesOfChords.f k a0 t590).bind fun bt593 => (if bt593.1.toList = bt588.1.toList then (laws_FnExactSidesOfChords.j0 k l1 t590 (bt593.2 != bt588.2)) else (laws_FnExactSidesOfChords.j0 k l1 t590 true))))))) = some r := H
  have A3 := Aside0.mk A30
  clear A30
  by_cases c4 : t584 < 0
  · rw [if_pos c4] at H
    have c4b0 : decide (t584 < 0) = true := decide_eq_true c4
    clear c4
    obtain rfl := Option.some.inj H
    go_enter Try.func7, Try.ntmps7
    go_wp2_with (first | ((with_reducible refine gate_callee (f := 16) rfl ?_); refine goesL_ (some 13) rfl rfl Try.func16 (by kernel_rfl) rfl #[.slice A1 l1.length c1, .int .i64 1048576] rfl (by (try simp only [List.map_toArray, List.map_cons, List.map_nil]); first | done | rfl | (simp only [List.length_drop, List.length_take]; rfl)) ?_; (with_reducible refine (laws_szChordS.calls _ _ l1 1048576 t584 _ ?side1 ?side2 A3.out).mono ?_); (case side1 => repeat (first | exact HR1.out | (with_reducible refine Kd.C_alloc ?_ _) | (with_reducible refine Kd.C_drewN ?_ _) | (with_reducible refine Kd.C_drew ?_))); (case side2 => exact HC1.out); rintro e w' ⟨rfl, ⟨nd, rfl⟩⟩; refine ⟨_, rfl, ?_⟩))
    go_ret
    exact ⟨by first | rfl | (simp [errW_none, errW_some] <;> rfl) | (simp [*, errW_none, errW_some] <;> rfl), by repeat (first | (with_reducible first | exact HB.out | apply below_alloc | apply pw_below_drewN | apply below_drew1) | exact HB.out)⟩
  · rw [if_neg c4] at H
    have c4b0 : decide (t584 < 0) = false := decide_eq_false c4
    clear c4
    replace H := Option.bind_eq_some_iff.mp H
    obtain ⟨t585, A50, H⟩ := H
    replace H : ((spec_SidesOfChords.f k a0 t585).bind fun bt588 => ((laws_toChordS.f k l1).bind fun t590 => ((impl_SidesOfChords.f k a0 t590).bind fun bt593 => (if bt593.1.toList = bt588.1.toList then (laws_FnExactSidesOfChords.j0 k l1 t590 (bt593.2 != bt588.2)) else (laws_FnExactSidesOfChords.j0 k l1 t590 true))))) = some r := H
    have A5 := Aside0.mk A50
    clear A50
    replace H := Option.bind_eq_some_iff.mp H
    obtain ⟨⟨t588, t589⟩, A60, H⟩ := H
    replace H : ((laws_toChordS.f k l1).bind fun t590 => ((impl_SidesOfChords.f k a0 t590).bind fun bt593 => (if bt593.1.toList = t588.toList then (laws_FnExactSidesOfChords.j0 k l1 t590 (bt593.2 != t589)) else (laws_FnExactSidesOfChords.j0 k l1 t590 true)))) = some r := H
    have A6 := Aside0.mk A60
    clear A60
    replace H := Option.bind_eq_some_iff.mp H
    obtain ⟨t590, A70, H⟩ := H
    replace H : ((impl_SidesOfChords.f k a0 t590).bind fun bt593 => (if bt593.1.toList = t588.toList then (laws_FnExactSidesOfChords.j0 k l1 t590 (bt593.2 != t589)) else (laws_FnExactSidesOfChords.j0 k l1 t590 true))) = some r := H
    have A7 := Aside0.mk A70
    clear A70
    replace H := Option.bind_eq_some_iff.mp H
    obtain ⟨⟨t593, t594⟩, A80, H⟩ := H
    replace H : (if t593.toList = t588.toList then (laws_FnExactSidesOfChords.j0 k l1 t590 (t594 != t589)) else (laws_FnExactSidesOfChords.j0 k l1 t590 true)) = some r := H
    have A8 := Aside0.mk A80
    clear A80
    have HC9 := Aside0.mk H
    clear H
    go_enter Try.func7, Try.ntmps7
    go_upto_region 8 with (first | ((with_reducible refine gate_callee (f := 16) rfl ?_); refine goesL_ (some 13) rfl rfl Try.func16 (by kernel_rfl) rfl #[.slice A1 l1.length c1, .int .i64 1048576] rfl (by (try simp only [List.map_toArray, List.map_cons, List.map_nil]); first | done | rfl | (simp only [List.length_drop, List.length_take]; rfl)) ?_; (with_reducible refine (laws_szChordS.calls _ _ l1 1048576 t584 _ ?side1 ?side2 A3.out).mono ?_); (case side1 => repeat (first | exact HR1.out | (with_reducible refine Kd.C_alloc ?_ _) | (with_reducible refine Kd.C_drewN ?_ _) | (with_reducible refine Kd.C_drew ?_))); (case side2 => exact HC1.out); rintro e w' ⟨rfl, ⟨nd, rfl⟩⟩; refine ⟨_, rfl, ?_⟩) | ((with_reducible refine gate_callee (f := 18) rfl ?_); refine goesL_ (some 19) rfl rfl Try.func18 (by kernel_rfl) rfl #[.slice A1 l1.length c1] rfl (by (try simp only [List.map_toArray, List.map_cons, List.map_nil]); first | done | rfl | (simp only [List.length_drop, List.length_take]; rfl)) ?_; (with_reducible refine (laws_toChordS.calls k _ _ l1 t585 _ ?side1 ?side2 A5.out).mono ?_); (case side1 => repeat (first | exact HR1.out | (with_reducible refine Kd.C_alloc ?_ _) | (with_reducible refine Kd.C_drewN ?_ _) | (with_reducible refine Kd.C_drew ?_))); (case side2 => exact HC1.out); rintro e w10 ⟨v586, rfl, ho0, hb⟩; refine ⟨_, rfl, ?_⟩; have n0_ := Aside0.mk (Kd.R_lower ho0 (below_size (by repeat (first | (with_reducible first | exact HB.out | apply below_alloc | apply pw_below_drewN | apply below_drew1) | exact HB.out)))); have n1_ := Aside0.mk (below_step (by repeat (first | (with_reducible first | exact HB.out | apply below_alloc | apply pw_below_drewN | apply below_drew1) | exact HB.out)) hb); clear HB; have HO587 := n0_; have HB := n1_; clear n0_ n1_; (try clear hb); (try clear hb2); (try clear hk); (try clear hi); (try clear ho0); obtain ⟨Ao11, co11, eo11⟩ := Kd.R_slice HO587.out; subst eo11) | ((with_reducible refine gate_callee (f := 28) rfl ?_); refine goesL_ (some 20) rfl rfl Try.func28 (by kernel_rfl) rfl #[.int .i64 a0, .slice Ao11 t585.length co11] rfl (by (try simp only [List.map_toArray, List.map_cons, List.map_nil]); first | done | rfl | (simp only [List.length_drop, List.length_take]; rfl)) ?_; (with_reducible refine (spec_SidesOfChords.calls k a0 _ _ t585 t588 t589 _ ?side1 ?side2 A6.out).mono ?_); (case side1 => repeat (first | exact (Kd.R_reads' HO587.out).2.2 | (with_reducible refine Kd.C_alloc ?_ _) | (with_reducible refine Kd.C_drewN ?_ _) | (with_reducible refine Kd.C_drew ?_))); (case side2 => exact (Kd.R_reads' HO587.out).2.1); rintro e w12 ⟨rfl, hb⟩; refine ⟨_, rfl, ?_⟩; have n0_ := Aside0.mk (Kd.R_below (by (with_reducible repeat (first | apply Kd.R_alloc | apply Kd.R_drewN | apply Kd.R_drew)); exact HO587.out) hb); have n1_ := Aside0.mk (below_step (by repeat (first | (with_reducible first | exact HB.out | apply below_alloc | apply pw_below_drewN | apply below_drew1) | exact HB.out)) hb); clear HO587; clear HB; have HO587 := n0_; have HB := n1_; clear n0_ n1_; (try clear hb); (try clear hb2); (try clear hk); (try clear hi)) | ((with_reducible refine gate_callee (f := 18) rfl ?_); refine goesL_ (some 24) rfl rfl Try.func18 (by kernel_rfl) rfl #[.slice A1 l1.length c1] rfl (by (try simp only [List.map_toArray, List.map_cons, List.map_nil]); first | done | rfl | (simp only [List.length_drop, List.length_take]; rfl)) ?_; (with_reducible refine (laws_toChordS.calls k _ _ l1 t590 _ ?side1 ?side2 A7.out).mono ?_); (case side1 => repeat (first | exact (Kd.C_below HR1.out HB.out) | (with_reducible refine Kd.C_alloc ?_ _) | (with_reducible refine Kd.C_drewN ?_ _) | (with_reducible refine Kd.C_drew ?_))); (case side2 => exact HC1.out); rintro e w13 ⟨v591, rfl, ho0, hb⟩; refine ⟨_, rfl, ?_⟩; have n0_ := Aside0.mk (Kd.R_elder' (by (with_reducible repeat (first | apply Kd.R_alloc | apply Kd.R_drewN | apply Kd.R_drew)); exact HO587.out) (Kd.R_base ho0) hb); have n1_ := Aside0.mk (Kd.R_lower (Kd.R_new' ho0 (Kd.R_lt (by (with_reducible repeat (first | apply Kd.R_alloc | apply Kd.R_drewN | apply Kd.R_drew)); exact HO587.out))) (below_size (by repeat (first | (with_reducible first | exact HB.out | apply below_alloc | apply pw_below_drewN | apply below_drew1) | exact HB.out)))); have n2_ := Aside0.mk (below_step (by repeat (first | (with_reducible first | exact HB.out | apply below_alloc | apply pw_below_drewN | apply below_drew1) | exact HB.out)) hb); clear HO587; clear HB; have HO587 := n0_; have HO592 := n1_; have HB := n2_; clear n0_ n1_ n2_; (try clear hb); (try clear hb2); (try clear hk); (try clear hi); (try clear ho0); obtain ⟨Ao14, co14, eo14⟩ := Kd.R_slice HO592.out; subst eo14) | ((with_reducible refine gate_callee (f := 29) rfl ?_); refine goesL_ (some 28) rfl rfl Try.func29 (by kernel_rfl) rfl #[.int .i64 a0, .slice Ao14 t590.length co14] rfl (by (try simp only [List.map_toArray, List.map_cons, List.map_nil]); first | done | rfl | (simp only [List.length_drop, List.length_take]; rfl)) ?_; (with_reducible refine (impl_SidesOfChords.calls k a0 _ _ t590 t593 t594 _ ?side1 ?side2 A8.out).mono ?_); (case side1 => repeat (first | exact (Kd.R_reads' HO592.out).2.2 | (with_reducible refine Kd.C_alloc ?_ _) | (with_reducible refine Kd.C_drewN ?_ _) | (with_reducible refine Kd.C_drew ?_))); (case side2 => exact (Kd.R_reads' HO592.out).2.1); rintro e w15 ⟨rfl, hb⟩; refine ⟨_, rfl, ?_⟩; have n0_ := Aside0.mk (Kd.R_below (by (with_reducible repeat (first | apply Kd.R_alloc | apply Kd.R_drewN | apply Kd.R_drew)); exact HO587.out) hb); have n1_ := Aside0.mk (Kd.R_below (by (with_reducible repeat (first | apply Kd.R_alloc | apply Kd.R_drewN | apply Kd.R_drew)); exact HO592.out) hb); have n2_ := Aside0.mk (below_step (by repeat (first | (with_reducible first | exact HB.out | apply below_alloc | apply pw_below_drewN | apply below_drew1) | exact HB.out)) hb); clear HO587; clear HO592; clear HB; have HO587 := n0_; have HO592 := n1_; have HB := n2_; clear n0_ n1_ n2_; (try clear hb); (try clear hb2); (try clear hk); (try clear hi)))
    (try simp only [Act.put, List.setIfInBounds_toArray, List.set_cons_zero, List.set_cons_succ])
    go_cut [38] (fun v38 wc => ∃ (kq : Nat) (x38_8 : Bool), v38 = .bool x38_8 ∧ Aside0 (laws_FnExactSidesOfChords.j0 kq l1 t590 x38_8 = some r) ∧ Aside0 (kq ≤ k) ∧ Aside0 (Kd.R k50 50 wc w.heap.size (fun _ => True) (.slice Ao14 t590.length co14) t590) ∧ Aside0 (Below w.heap.size w wc))
    case first =>
      have H := HC9.out
      clear HC9
      by_cases c16 : t593.toList = t588.toList
      · rw [if_pos c16] at H
        have c16b0 : (t593.toList == t588.toList) = true := beq_iff_eq.mpr c16
        have c16b1 : (t593.toList != t588.toList) = false := bne_eq_false_iff_eq.mpr c16
        clear c16
        (first | rw [c16b0] | (simp only [i64_w, i32_w]; rw [c16b0]) | rw [c16b1] | skip)
        have H' := Aside0.mk H
        clear H
        go_wp2
        go_meet
        case rel => exact ⟨_, ((t594 != t589)), (by first | rfl | (simp; done) | (simp [*]; done)), H', ⟨by first | omega | exact Nat.le_refl _⟩, ⟨by (with_reducible repeat (first | apply Kd.R_alloc | apply Kd.R_drewN | apply Kd.R_drew)); exact Kd.R_mono HO592.out (fun _ hk => trivial)⟩, ⟨by repeat (first | (with_reducible first | exact HB.out | apply below_alloc | apply pw_below_drewN | apply below_drew1) | exact HB.out)⟩⟩
      · rw [if_neg c16] at H
        have c16b0 : (t593.toList == t588.toList) = false := beq_eq_false_iff_ne.mpr c16
        have c16b1 : (t593.toList != t588.toList) = true := bne_iff_ne.mpr c16
        (first | rw [c16b0] | (simp only [i64_w, i32_w]; rw [c16b0]) | rw [c16b1] | skip)
        have H' := Aside0.mk H
        clear H
        go_wp2
        go_meet
        case rel => exact ⟨_, (true), (by first | rfl | (simp; done) | (simp [*]; done)), H', ⟨by first | omega | exact Nat.le_refl _⟩, ⟨by (with_reducible repeat (first | apply Kd.R_alloc | apply Kd.R_drewN | apply Kd.R_drew)); exact Kd.R_mono HO592.out (fun _ hk => trivial)⟩, ⟨by repeat (first | (with_reducible first | exact HB.out | apply below_alloc | apply pw_below_drewN | apply below_drew1) | exact HB.out)⟩⟩
    case rest =>
      clear HC9
      try clear c1
      try clear c2
      try clear p2
      try clear c4
      try clear c4b0
      try clear c7
      try clear c16
      try clear c16b0
      try clear c16b1
      obtain ⟨kq, x38_8, rfl, HA, HJ8, HO_8, HB⟩ := hcut
      cases kq with
      | zero => exact absurd HA.out (by simp [laws_FnExactSidesOfChords.j0])
      | succ kj8 =>
        have H := HA.out
        clear HA
        simp only [laws_FnExactSidesOfChords.j0] at H
        by_cases c17 : x38_8 = true
        · subst c17
          have H1 : (some false) = some r := by rw [if_pos rfl] at H; exact H
          clear H
          have H := H1
          clear H1
          obtain rfl := Option.some.inj H
          go_wp2
          go_ret
          exact ⟨by first | rfl | (simp [errW_none, errW_some] <;> rfl) | (simp [*, errW_none, errW_some] <;> rfl), by repeat (first | (with_reducible first | exact HB.out | apply below_alloc | apply pw_below_drewN | apply below_drew1) | exact HB.out)⟩
        · replace c17 := Bool.eq_false_iff.mpr c17
          subst c17
          have H1 : ((laws_toChordS.f kj8 l1).bind fun t595 => ((laws_eqChordS.f kj8 t590 t595).bind fun t598 => (if t598 = true then (some true) else (some false)))) = some r := by rw [if_neg (show ¬ (false = true) by decide)] at H; exact H
          clear H
          have H := H1
          clear H1
          replace H := Option.bind_eq_some_iff.mp H
          obtain ⟨t595, A180, H⟩ := H
          replace H : ((laws_eqChordS.f kj8 t590 t595).bind fun t598 => (if t598 = true then (some true) else (some false))) = some r := H
          have A18 := Aside0.mk A180
          clear A180
          replace H := Option.bind_eq_some_iff.mp H
          obtain ⟨t598, A190, H⟩ := H
          replace H : (if t598 = true then (some true) else (some false)) = some r := H
          have A19 := Aside0.mk A190
          clear A190
          by_cases c20 : t598 = true
          · subst c20
            have H1 : (some true) = some r := by rw [if_pos rfl] at H; exact H
            clear H
            have H := H1
            clear H1
            obtain rfl := Option.some.inj H
            go_wp2_with (first | ((with_reducible refine gate_callee (f := 18) rfl ?_); refine goesL_ (some 41) rfl rfl Try.func18 (by kernel_rfl) rfl #[.slice A1 l1.length c1] rfl (by (try simp only [List.map_toArray, List.map_cons, List.map_nil]); first | done | rfl | (simp only [List.length_drop, List.length_take]; rfl)) ?_; (with_reducible refine (laws_toChordS.calls kj8 _ _ l1 t595 _ ?side1 ?side2 A18.out).mono ?_); (case side1 => repeat (first | exact (Kd.C_below HR1.out HB.out) | (with_reducible refine Kd.C_alloc ?_ _) | (with_reducible refine Kd.C_drewN ?_ _) | (with_reducible refine Kd.C_drew ?_))); (case side2 => exact HC1.out); rintro e w21 ⟨v596, rfl, ho0, hb⟩; refine ⟨_, rfl, ?_⟩; have n0_ := Aside0.mk (Kd.R_elder' (by (with_reducible repeat (first | apply Kd.R_alloc | apply Kd.R_drewN | apply Kd.R_drew)); exact HO_8.out) (Kd.R_base ho0) hb); have n1_ := Aside0.mk (Kd.R_lower (Kd.R_new' ho0 (Kd.R_lt (by (with_reducible repeat (first | apply Kd.R_alloc | apply Kd.R_drewN | apply Kd.R_drew)); exact HO_8.out))) (below_size (by repeat (first | (with_reducible first | exact HB.out | apply below_alloc | apply pw_below_drewN | apply below_drew1) | exact HB.out)))); have n2_ := Aside0.mk (below_step (by repeat (first | (with_reducible first | exact HB.out | apply below_alloc | apply pw_below_drewN | apply below_drew1) | exact HB.out)) hb); clear HO_8; clear HB; have HO_8 := n0_; have HO597 := n1_; have HB := n2_; clear n0_ n1_ n2_; (try clear hb); (try clear hb2); (try clear hk); (try clear hi); (try clear ho0); obtain ⟨Ao22, co22, eo22⟩ := Kd.R_slice HO597.out; subst eo22) | ((with_reducible refine gate_callee (f := 21) rfl ?_); refine goesL_ (some 42) rfl rfl Try.func21 (by kernel_rfl) rfl #[.slice Ao14 t590.length co14, .slice Ao22 t595.length co22] rfl (by (try simp only [List.map_toArray, List.map_cons, List.map_nil]); first | done | rfl | (simp only [List.length_drop, List.length_take]; rfl)) ?_; (with_reducible refine (laws_eqChordS.calls kj8 _ _ t590 _ _ t595 true _ ?side1 ?side2 ?side3 ?side4 A19.out).mono ?_); (case side1 => repeat (first | exact (Kd.R_reads' HO_8.out).2.2 | (with_reducible refine Kd.C_alloc ?_ _) | (with_reducible refine Kd.C_drewN ?_ _) | (with_reducible refine Kd.C_drew ?_))); (case side2 => exact (Kd.R_reads' HO_8.out).2.1); (case side3 => repeat (first | exact (Kd.R_reads' HO597.out).2.2 | (with_reducible refine Kd.C_alloc ?_ _) | (with_reducible refine Kd.C_drewN ?_ _) | (with_reducible refine Kd.C_drew ?_))); (case side4 => exact (Kd.R_reads' HO597.out).2.1); rintro e w23 ⟨rfl, hb⟩; refine ⟨_, rfl, ?_⟩; have n0_ := Aside0.mk (Kd.R_below (by (with_reducible repeat (first | apply Kd.R_alloc | apply Kd.R_drewN | apply Kd.R_drew)); exact HO_8.out) hb); have n1_ := Aside0.mk (Kd.R_below (by (with_reducible repeat (first | apply Kd.R_alloc | apply Kd.R_drewN | apply Kd.R_drew)); exact HO597.out) hb); have n2_ := Aside0.mk (below_step (by repeat (first | (with_reducible first | exact HB.out | apply below_alloc | apply pw_below_drewN | apply below_drew1) | exact HB.out)) hb); clear HO_8; clear HO597; clear HB; have HO_8 := n0_; have HO597 := n1_; have HB := n2_; clear n0_ n1_ n2_; (try clear hb); (try clear hb2); (try clear hk); (try clear hi)))
            go_ret
            exact ⟨by first | rfl | (simp [errW_none, errW_some] <;> rfl) | (simp [*, errW_none, errW_some] <;> rfl), by repeat (first | (with_reducible first | exact HB.out | apply below_alloc | apply pw_below_drewN | apply below_drew1) | exact HB.out)⟩
          · replace c20 := Bool.eq_false_iff.mpr c20
            subst c20
            have H1 : (some false) = some r := by rw [if_neg (show ¬ (false = true) by decide)] at H; exact H
            clear H
            have H := H1
            clear H1
            obtain rfl := Option.some.inj H
            go_wp2_with (first | ((with_reducible refine gate_callee (f := 18) rfl ?_); refine goesL_ (some 41) rfl rfl Try.func18 (by kernel_rfl) rfl #[.slice A1 l1.length c1] rfl (by (try simp only [List.map_toArray, List.map_cons, List.map_nil]); first | done | rfl | (simp only [List.length_drop, List.length_take]; rfl)) ?_; (with_reducible refine (laws_toChordS.calls kj8 _ _ l1 t595 _ ?side1 ?side2 A18.out).mono ?_); (case side1 => repeat (first | exact (Kd.C_below HR1.out HB.out) | (with_reducible refine Kd.C_alloc ?_ _) | (with_reducible refine Kd.C_drewN ?_ _) | (with_reducible refine Kd.C_drew ?_))); (case side2 => exact HC1.out); rintro e w24 ⟨v596, rfl, ho0, hb⟩; refine ⟨_, rfl, ?_⟩; have n0_ := Aside0.mk (Kd.R_elder' (by (with_reducible repeat (first | apply Kd.R_alloc | apply Kd.R_drewN | apply Kd.R_drew)); exact HO_8.out) (Kd.R_base ho0) hb); have n1_ := Aside0.mk (Kd.R_lower (Kd.R_new' ho0 (Kd.R_lt (by (with_reducible repeat (first | apply Kd.R_alloc | apply Kd.R_drewN | apply Kd.R_drew)); exact HO_8.out))) (below_size (by repeat (first | (with_reducible first | exact HB.out | apply below_alloc | apply pw_below_drewN | apply below_drew1) | exact HB.out)))); have n2_ := Aside0.mk (below_step (by repeat (first | (with_reducible first | exact HB.out | apply below_alloc | apply pw_below_drewN | apply below_drew1) | exact HB.out)) hb); clear HO_8; clear HB; have HO_8 := n0_; have HO597 := n1_; have HB := n2_; clear n0_ n1_ n2_; (try clear hb); (try clear hb2); (try clear hk); (try clear hi); (try clear ho0); obtain ⟨Ao25, co25, eo25⟩ := Kd.R_slice HO597.out; subst eo25) | ((with_reducible refine gate_callee (f := 21) rfl ?_); refine goesL_ (some 42) rfl rfl Try.func21 (by kernel_rfl) rfl #[.slice Ao14 t590.length co14, .slice Ao25 t595.length co25] rfl (by (try simp only [List.map_toArray, List.map_cons, List.map_nil]); first | done | rfl | (simp only [List.length_drop, List.length_take]; rfl)) ?_; (with_reducible refine (laws_eqChordS.calls kj8 _ _ t590 _ _ t595 false _ ?side1 ?side2 ?side3 ?side4 A19.out).mono ?_); (case side1 => repeat (first | exact (Kd.R_reads' HO_8.out).2.2 | (with_reducible refine Kd.C_alloc ?_ _) | (with_reducible refine Kd.C_drewN ?_ _) | (with_reducible refine Kd.C_drew ?_))); (case side2 => exact (Kd.R_reads' HO_8.out).2.1); (case side3 => repeat (first | exact (Kd.R_reads' HO597.out).2.2 | (with_reducible refine Kd.C_alloc ?_ _) | (with_reducible refine Kd.C_drewN ?_ _) | (with_reducible refine Kd.C_drew ?_))); (case side4 => exact (Kd.R_reads' HO597.out).2.1); rintro e w26 ⟨rfl, hb⟩; refine ⟨_, rfl, ?_⟩; have n0_ := Aside0.mk (Kd.R_below (by (with_reducible repeat (first | apply Kd.R_alloc | apply Kd.R_drewN | apply Kd.R_drew)); exact HO_8.out) hb); have n1_ := Aside0.mk (Kd.R_below (by (with_reducible repeat (first | apply Kd.R_alloc | apply Kd.R_drewN | apply Kd.R_drew)); exact HO597.out) hb); have n2_ := Aside0.mk (below_step (by repeat (first | (with_reducible first | exact HB.out | apply below_alloc | apply pw_below_drewN | apply below_drew1) | exact HB.out)) hb); clear HO_8; clear HO597; clear HB; have HO_8 := n0_; have HO597 := n1_; have HB := n2_; clear n0_ n1_ n2_; (try clear hb); (try clear hb2); (try clear hk); (try clear hi)))
            go_ret
            exact ⟨by first | rfl | (simp [errW_none, errW_some] <;> rfl) | (simp [*, errW_none, errW_some] <;> rfl), by repeat (first | (with_reducible first | exact HB.out | apply below_alloc | apply pw_below_drewN | apply below_drew1) | exact HB.out)⟩

end Go.Proofs.Ytlnjfbnabjgffaa.X
