/- What the statement FnChordsCross needs, part 4 of 7: words, contracts and lemmas, cut to what is named. Written by a program of this work (wip/tools/gpack.py) out of its texts and the print's. -/
import Derived.Test.YtfdocedppachkaaGreatZFnChordsCross2
set_option linter.unusedVariables false
set_option linter.unusedSimpArgs false
set_option maxHeartbeats 80000000
set_option maxRecDepth 100000
section
namespace Go.Proofs.YtfdocedppachkaaGreat.X
open Go.RowKit Go.Proofs.YtfdocedppachkaaGreatW.PrintWords Go.Proofs.YtfdocedppachkaaGreatW.PrintLast Go.Proofs.YtfdocedppachkaaGreatW.PrintMore
attribute [local go_sem] max2_int min2_int max_two min_two max_three min_three max_four min_four
set_option linter.unusedVariables false
set_option linter.unusedSimpArgs false
mutual
def impl_groups.l0 : Nat → List (S44) → List Bool → List Bool → List (List Int) → Int → Int → Option ((List (List Int)) × List Bool)
 | 0, _, _, _, _, _, _ => none
 | k + 1, x0, x4, x5, x6, x19, x20 => if x20 < x19 then (if 0 ≤ x20 then (if x20 < (x4.length : Int) then (if rdOf false x4 x20 = true then (impl_groups.l0 k x0 x4 x5 x6 x19 (wrap64 (x20 + 1))) else (if x20 < (x5.length : Int) then (impl_groups.l1 k x0 (x4.set (x20 : Int).toNat true) (x5.set (x20 : Int).toNat true) x6 (([x20] : List Int)) 0 x19 x20) else (none))) else (none)) else (none)) else (some (x6, x5))
def impl_groups.l1 : Nat → List (S44) → List Bool → List Bool → List (List Int) → List Int → Int → Int → Int → Option ((List (List Int)) × List Bool)
 | 0, _, _, _, _, _, _, _, _ => none
 | k + 1, x0, x4, x5, x6, x8, x9, x19, x20 => if x9 < (x8.length : Int) then (impl_groups.l2 k x0 x4 x5 x6 x8 x9 x19 x20 (x0.length : Int) 0) else ((slices_Sort_int_int.f x8).bind fun t288 => (if x6.length < 5864062014805 then (impl_groups.l0 k x0 x4 x5 (x6 ++ [t288]) x19 (wrap64 (x20 + 1))) else (none)))
def impl_groups.l2 : Nat → List (S44) → List Bool → List Bool → List (List Int) → List Int → Int → Int → Int → Int → Int → Option ((List (List Int)) × List Bool)
 | 0, _, _, _, _, _, _, _, _, _, _ => none
 | k + 1, x0, x4, x5, x6, x8, x9, x19, x20, x42, x43 => if x43 < x42 then (if 0 ≤ x43 then (if x43 < (x4.length : Int) then (if rdOf false x4 x43 = true then (impl_groups.l2 k x0 x4 x5 x6 x8 x9 x19 x20 x42 (wrap64 (x43 + 1))) else (if 0 ≤ x9 then (if x9 < (x8.length : Int) then (if 0 ≤ (rd x8 x9) then (if (rd x8 x9) < (x0.length : Int) then (if x43 < (x0.length : Int) then ((impl_crossing.f ((rd_T44 x0 (rd x8 x9)).f0) ((rd_T44 x0 (rd x8 x9)).f1) ((rd_T44 x0 x43).f0) ((rd_T44 x0 x43).f1)).bind fun t296 => (if t296 = true then (if (rd x8 x9) < (x5.length : Int) then (if x43 < (x5.length : Int) then (if x8.length < 17592186044416 then (impl_groups.l2 k x0 (x4.set (x43 : Int).toNat true) (x5.set (x43 : Int).toNat (!(rdOf false x5 (rd x8 x9)))) x6 (x8 ++ [x43]) x9 x19 x20 x42 (wrap64 (x43 + 1))) else (none)) else (none)) else (none)) else (impl_groups.l2 k x0 x4 x5 x6 x8 x9 x19 x20 x42 (wrap64 (x43 + 1))))) else (none)) else (none)) else (none)) else (none)) else (none))) else (none)) else (none)) else (impl_groups.l1 k x0 x4 x5 x6 x8 (wrap64 (x9 + 1)) x19 x20)
end
def impl_groups.f (k : Nat) (l0 : List (S44)) : Option ((List (List Int)) × List Bool) := if 0 ≤ (l0.length : Int) then (if ((l0.length : Int) : Int).toNat ≤ 281474976710656 then (impl_groups.l0 k l0 (List.replicate ((l0.length : Int) : Int).toNat false) (List.replicate ((l0.length : Int) : Int).toNat false) (([] : List (List Int))) (l0.length : Int) 0) else (none)) else (none)
theorem impl_groups.mono_l : ∀ k, (∀ y0 y1 y2 y3 y4 y5, LeO (impl_groups.l0 k y0 y1 y2 y3 y4 y5) (impl_groups.l0 (k + 1) y0 y1 y2 y3 y4 y5)) ∧ (∀ y0 y1 y2 y3 y4 y5 y6 y7, LeO (impl_groups.l1 k y0 y1 y2 y3 y4 y5 y6 y7) (impl_groups.l1 (k + 1) y0 y1 y2 y3 y4 y5 y6 y7)) ∧ (∀ y0 y1 y2 y3 y4 y5 y6 y7 y8 y9, LeO (impl_groups.l2 k y0 y1 y2 y3 y4 y5 y6 y7 y8 y9) (impl_groups.l2 (k + 1) y0 y1 y2 y3 y4 y5 y6 y7 y8 y9))
 | 0 => ⟨fun _ _ _ _ _ _ r h => by simp [impl_groups.l0] at h, fun _ _ _ _ _ _ _ _ r h => by simp [impl_groups.l1] at h, fun _ _ _ _ _ _ _ _ _ _ r h => by simp [impl_groups.l2] at h⟩
 | k + 1 => by
  obtain ⟨ih0, ih1, ih2⟩ := impl_groups.mono_l k
  refine ⟨?_, ?_, ?_⟩
  ·intro y0 y1 y2 y3 y4 y5
   unfold impl_groups.l0
   exact lo_
  ·intro y0 y1 y2 y3 y4 y5 y6 y7
   unfold impl_groups.l1
   exact lo_
  ·intro y0 y1 y2 y3 y4 y5 y6 y7 y8 y9
   unfold impl_groups.l2
   exact lo_
theorem impl_groups.mono : ∀ a0 k, LeO (impl_groups.f k a0) (impl_groups.f (k + 1) a0) := by
 intro a0 k
 obtain ⟨ih0, ih1, ih2⟩ := impl_groups.mono_l k
 unfold impl_groups.f
 exact lo_
def impl_groups.T1 : Bool × List (List Nat × List Nat) := (true, [([], []), ([0], [0]), ([1, 1], [1]), ([], []), ([3], [3]), ([4, 4], [4]), ([2, 0, 1, 2], [2]), ([5, 6, 0, 1, 2, 3, 4, 5, 6], [5])])
def impl_groups.B1 : List Nat := [0, 1, 3, 0, 8, 24, 7, 127]
theorem impl_groups.tab1 : rtab .any (opsOf Tryz.f39 1) = impl_groups.T1 := by kernel_rfl
theorem impl_groups.bits1 : waitsOk impl_groups.T1.2 impl_groups.B1 = true := by kernel_rfl
def impl_groups.T15 : Bool × List (List Nat × List Nat) := (true, [([], []), ([], []), ([0, 1], [0, 1]), ([2], [2]), ([3], [3]), ([4], [4]), ([5], [5]), ([5], [5]), ([5], [5]), ([7, 8, 5], [5, 7, 8]), ([9, 5], [5, 9]), ([6, 10, 5], [5, 6, 10]), ([11, 5], [5, 11]), ([5], [5]), ([5], [5]), ([13, 14, 5], [5, 13, 14]), ([15, 5], [5, 15]), ([12, 16, 5, 5], [5, 12, 16]), ([5, 17], [5, 17])])
def impl_groups.B15 : List Nat := [0, 0, 3, 7, 15, 31, 63, 63, 63, 447, 959, 2047, 4095, 63, 63, 24639, 57407, 131071, 262143]
theorem impl_groups.tab15 : rtab .any (opsOf Tryz.f39 15) = impl_groups.T15 := by kernel_rfl
theorem impl_groups.bits15 : waitsOk impl_groups.T15.2 impl_groups.B15 = true := by kernel_rfl
theorem impl_groups.calls (k : Nat) (A0 : Option Addr) (c0 : Nat) (l0 : List (S44)) (r1 : List (List Int)) (r2 : List Bool) (w : World) (hr0 : Kd.C k44 w A0 l0.length l0) (hc0 : l0.length ≤ c0) (h : impl_groups.f k l0 = some (r1, r2)) :
  Calls Tryz.prog 39 #[.slice A0 l0.length c0] w fun e w' => ∃ v0_ v1_ : Value, e = .returned (.tuple #[v0_, v1_]) ∧ Kd.S (Kd.slice 3 (Kd.int .i64)) 36 w' w.heap.size (fun _ => True) v0_ r1 ∧ Kd.R Kd.bool 4 w' w.heap.size (fun _ => True) v1_ r2 ∧ Below w.heap.size w w' := by
 have hu44 := Tryz.underlying44
 have HR0 := Aside0.mk hr0
 have HC0 := Aside0.mk hc0
 clear hr0 hc0
 have HB := Aside0.mk (Below.refl w.heap.size w)
 have H : (if 0 ≤ (l0.length : Int) then (if ((l0.length : Int) : Int).toNat ≤ 281474976710656 then (impl_groups.l0 k l0 (List.replicate ((l0.length : Int) : Int).toNat false) (List.replicate ((l0.length : Int) : Int).toNat false) (([] : List (List Int))) (l0.length : Int) 0) else (none)) else (none)) = some (r1, r2) := h
 clear h
 by_cases c2 : 0 ≤ (l0.length : Int)
 rotate_left
 ·rw [if_neg c2] at H
  exact absurd H (by simp)
 rw [if_pos c2] at H
 have c2b0 := eq_true c2
 have c2b1 : decide (0 ≤ (l0.length : Int)) = true := decide_eq_true c2
 clear c2
 by_cases c3 : ((l0.length : Int) : Int).toNat ≤ 281474976710656
 rotate_left
 ·rw [if_neg c3] at H
  exact absurd H (by simp)
 rw [if_pos c3] at H
 have c3b0 := eq_true c3
 have c3b1 : decide (((l0.length : Int) : Int).toNat ≤ 281474976710656) = true := decide_eq_true c3
 clear c3
 obtain ⟨y273, hy273⟩ : ∃ y_ : List Bool, y_ = (List.replicate ((l0.length : Int) : Int).toNat false) := ⟨_, rfl⟩
 replace H : (impl_groups.l0 k l0 y273 (List.replicate ((l0.length : Int) : Int).toNat false) (([] : List (List Int))) (l0.length : Int) 0) = some (r1, r2) := by first | (rw [hy273]; with_reducible exact H) | (have H2_ := (Option.bind_some _ _).symm.trans H; rw [hy273]; with_reducible exact H2_) | (have H2_ := (Option.bind_some _ _).symm.trans H; with_reducible exact H2_) | with_reducible exact H | (rw [hy273]; exact H) | exact H
 have Ny273 := Aside0.mk hy273
 clear hy273
 obtain ⟨y276, hy276⟩ : ∃ y_ : List Bool, y_ = (List.replicate ((l0.length : Int) : Int).toNat false) := ⟨_, rfl⟩
 replace H : (impl_groups.l0 k l0 y273 y276 (([] : List (List Int))) (l0.length : Int) 0) = some (r1, r2) := by first | (rw [hy276]; with_reducible exact H) | (have H2_ := (Option.bind_some _ _).symm.trans H; rw [hy276]; with_reducible exact H2_) | (have H2_ := (Option.bind_some _ _).symm.trans H; with_reducible exact H2_) | with_reducible exact H | (rw [hy276]; exact H) | exact H
 have Ny276 := Aside0.mk hy276
 clear hy276
 obtain ⟨y279, hy279⟩ : ∃ y_ : List (List Int), y_ = (([] : List (List Int))) := ⟨_, rfl⟩
 replace H : (impl_groups.l0 k l0 y273 y276 y279 (l0.length : Int) 0) = some (r1, r2) := by first | (rw [hy279]; with_reducible exact H) | (have H2_ := (Option.bind_some _ _).symm.trans H; rw [hy279]; with_reducible exact H2_) | (have H2_ := (Option.bind_some _ _).symm.trans H; with_reducible exact H2_) | with_reducible exact H | (rw [hy279]; exact H) | exact H
 have Ny279 := Aside0.mk hy279
 clear hy279
 have H' := Aside0.mk H
 clear H
 go_enter Tryz.func39, Tryz.ntmps39
 try go_wp2
 have n0_ := Aside0.mk (below_drew1 HB.out)
 clear HB
 have HB := n0_
 clear n0_
 refine start_ (n := 8) (S := fun w' => True) (ds := []) #[false, false, false, false, false, false, false, false] (by kernel_rfl) rfl rfl trivial (fun hHeld => ?_); refine with_tabW impl_groups.tab1 impl_groups.bits1 (fun HT_ HW_ => ?_)
 generalize w.drew = w4 at HB hHeld ⊢
 refine pt_ 0 (some 11) HT_ ?_
 refine pt_ 1 (some 12) HT_ ?_
 refine pt_ 3 (some 14) HT_ ?_
 refine pt_ 4 (some 15) HT_ ?_
 refine join_ (σ := Value × Value) 1 #[true, true, true, true, true, true, true, false] (fun s_ => [(13, s_.1), (16, s_.2), (4, s_.1)]) (fun s_ w' => (Kd.R Kd.bool 4 w' w.heap.size (fun k_ => some k_ ≠ (s_.2 : Value).ownBlock) s_.1 y273) ∧ (Kd.R Kd.bool 4 w' w.heap.size (fun k_ => some k_ ≠ (s_.1 : Value).ownBlock) s_.2 y276) ∧ (Below w.heap.size w w')) ?_ ?_
 rotate_left
 ·intro hCont
  refine two_ (i := 2) (j := 5) (Ni := some 13) (Nj := some 16) #[true, true, true, true, true, false, false, false] #[true, true, false, true, true, true, false, false] rfl rfl rfl rfl (two_of HT_.out (by kernel_rfl)) (by decide) (by decide) (fun K hK => ?_) (fun K hK => ?_)
  ·skip
   refine Kd.R_make_step Kd.bool _ 4 (by rfl) (N := 13) rfl 56 _ _ rfl (l0.length : Int) rfl rfl Tryz.underlying56 (.bool false) 1 info4 rfl (by decide) (by omega) false (ok := fun _ => True) (okp := fun _ => True) rfl (fun _ hk => hk) trivial (od_) (Nat.le_trans (Nat.mul_le_mul_right _ (od_ : (l0.length : Int).toNat ≤ 281474976710656)) (by omega)) (Below.refl _ _) (Nat.le_refl _) ?_
   intro v274 w5 ho6 hb hg_ hnew_
   clear hg_ hnew_
   (first | rw [← Ny273.out] at ho6 | (simp only [Int.reduceToNat] at ho6; rw [← Ny273.out] at ho6))
   have n0_ := Aside0.mk (Kd.R_lower ho6 (below_size bl_))
   have n1_ := Aside0.mk (below_step bl_ hb)
   clear HB
   have HO275 := n0_
   have HB := n1_
   clear n0_ n1_
   clear hb ho6
   refine hK.out _ _ trivial (fun hHeld => ?_)
   clear hK K
   refine nm_ (some 13) ?_
   refine pt_ 6 (some 4) HT_ ?_
   refine one_ (i := 5) (N := some 16) #[true, true, true, true, true, true, true, false] rfl rfl (one_of HT_.out (by kernel_rfl)) (by decide) (fun K hK => ?_)
   refine Kd.R_make_step Kd.bool _ 4 (by rfl) (N := 16) rfl 56 _ _ rfl (l0.length : Int) rfl rfl Tryz.underlying56 (.bool false) 1 info4 rfl (by decide) (by omega) false (ok := fun _ => True) (okp := fun _ => True) rfl (fun _ hk => hk) trivial (od_) (Nat.le_trans (Nat.mul_le_mul_right _ (od_ : (l0.length : Int).toNat ≤ 281474976710656)) (by omega)) (Below.refl _ _) (Nat.le_refl _) ?_
   intro v277 w7 ho8 hb hg_ hnew_
   clear hg_ hnew_
   (first | rw [← Ny276.out] at ho8 | (simp only [Int.reduceToNat] at ho8; rw [← Ny276.out] at ho8))
   have n0_ := Aside0.mk (Kd.R_elder' (kr_ <| HO275.out) (Kd.R_base ho8) hb)
   have n1_ := Aside0.mk (Kd.R_lower (Kd.R_new' ho8 (Kd.R_lt (kr_ <| HO275.out))) (below_size bl_))
   have n2_ := Aside0.mk (below_step bl_ hb)
   clear HO275
   clear HB
   have HO275 := n0_
   have HO278 := n1_
   have HB := n2_
   clear n0_ n1_ n2_
   clear hb ho8
   refine hK.out _ _ trivial (fun hHeld => ?_)
   clear hK K
   refine nm_ (some 16) ?_
   exact norm_ (by simp only [putAll, Act.put, List.setIfInBounds_toArray, List.set_cons_zero, List.set_cons_succ]) (hCont (v274, v277) _ ⟨(kr_ <| Kd.R_mono HO275.out (fun _ hk => hk.2)), (kr_ <| Kd.R_mono HO278.out (fun _ hk => hk.2)), bl_⟩)
  ·skip
   refine Kd.R_make_step Kd.bool _ 4 (by rfl) (N := 16) rfl 56 _ _ rfl (l0.length : Int) rfl rfl Tryz.underlying56 (.bool false) 1 info4 rfl (by decide) (by omega) false (ok := fun _ => True) (okp := fun _ => True) rfl (fun _ hk => hk) trivial (od_) (Nat.le_trans (Nat.mul_le_mul_right _ (od_ : (l0.length : Int).toNat ≤ 281474976710656)) (by omega)) (Below.refl _ _) (Nat.le_refl _) ?_
   intro v277 w5 ho6 hb hg_ hnew_
   clear hg_ hnew_
   (first | rw [← Ny276.out] at ho6 | (simp only [Int.reduceToNat] at ho6; rw [← Ny276.out] at ho6))
   have n0_ := Aside0.mk (Kd.R_lower ho6 (below_size bl_))
   have n1_ := Aside0.mk (below_step bl_ hb)
   clear HB
   have HO278 := n0_
   have HB := n1_
   clear n0_ n1_
   clear hb ho6
   refine hK.out _ _ trivial (fun hHeld => ?_)
   clear hK K
   refine nm_ (some 16) ?_
   refine one_ (i := 2) (N := some 13) #[true, true, true, true, true, true, false, false] rfl rfl (one_of HT_.out (by kernel_rfl)) (by decide) (fun K hK => ?_)
   refine Kd.R_make_step Kd.bool _ 4 (by rfl) (N := 13) rfl 56 _ _ rfl (l0.length : Int) rfl rfl Tryz.underlying56 (.bool false) 1 info4 rfl (by decide) (by omega) false (ok := fun _ => True) (okp := fun _ => True) rfl (fun _ hk => hk) trivial (od_) (Nat.le_trans (Nat.mul_le_mul_right _ (od_ : (l0.length : Int).toNat ≤ 281474976710656)) (by omega)) (Below.refl _ _) (Nat.le_refl _) ?_
   intro v274 w7 ho8 hb hg_ hnew_
   clear hg_ hnew_
   (first | rw [← Ny273.out] at ho8 | (simp only [Int.reduceToNat] at ho8; rw [← Ny273.out] at ho8))
   have n0_ := Aside0.mk (Kd.R_elder' (kr_ <| HO278.out) (Kd.R_base ho8) hb)
   have n1_ := Aside0.mk (Kd.R_lower (Kd.R_new' ho8 (Kd.R_lt (kr_ <| HO278.out))) (below_size bl_))
   have n2_ := Aside0.mk (below_step bl_ hb)
   clear HO278
   clear HB
   have HO278 := n0_
   have HO275 := n1_
   have HB := n2_
   clear n0_ n1_ n2_
   clear hb ho8
   refine hK.out _ _ trivial (fun hHeld => ?_)
   clear hK K
   refine nm_ (some 13) ?_
   refine pt_ 6 (some 4) HT_ ?_
   exact norm_ (by simp only [putAll, Act.put, List.setIfInBounds_toArray, List.set_cons_zero, List.set_cons_succ]) (hCont (v274, v277) _ ⟨(kr_ <| Kd.R_mono HO275.out (fun _ hk => hk.2)), (kr_ <| Kd.R_mono HO278.out (fun _ hk => hk.2)), bl_⟩)
 rintro ⟨v274, v277⟩ w9 ⟨h0_, h1_, h2_⟩
 have n0_ : Aside0 (Kd.R Kd.bool 4 w9 w.heap.size (fun k_ => some k_ ≠ (v277 : Value).ownBlock) v274 y273) := ⟨h0_⟩
 have n1_ : Aside0 (Kd.R Kd.bool 4 w9 w.heap.size (fun k_ => some k_ ≠ (v274 : Value).ownBlock) v277 y276) := ⟨h1_⟩
 have n2_ : Aside0 (Below w.heap.size w w9) := ⟨h2_⟩
 clear HB
 clear h0_ h1_ h2_
 have HO275 := n0_
 have HO278 := n1_
 have HB := n2_
 clear n0_ n1_ n2_
 have hHeld := trivial
 refine norm_ (a' := ?_) ?_ ?_
 rotate_left
 ·simp only [putAll, Act.put, List.setIfInBounds_toArray, List.set_cons_zero, List.set_cons_succ]
  rfl
 refine pt_ 7 (some 5) HT_ ?_
 refine done_ (done_of HT_.out (by kernel_rfl)) ?_
 try go_wp2_with (first | ((with_reducible refine gate_dst (N := 17) rfl ?_); refine Kd.S_lit (Kd.slice 3 (Kd.int .i64)) _ 36 ?hg (N := 17) ?hd (xs := ([] : List (List Int))) (inner := []) (ok := fun _ => True) (okp := fun _ => True) ?hr ?hp (fun _ hk => hk) trivial (Below.refl _ _) (Nat.le_refl _) (by simp) ?_; (case hd => rfl); (case hg => rfl); (case hr => first | (go_simp; done) | (go_simp; rfl)); (case hp => exact (Reps.none _ _)); intro v280 w10 ho11 hb hg_ hnew_; clear hg_ hnew_; (first | rw [← Ny279.out] at ho11 | (simp only [Int.reduceToNat] at ho11; rw [← Ny279.out] at ho11)); have n0_ := Aside0.mk (Kd.R_below (kr_ <| HO275.out) hb); have n1_ := Aside0.mk (Kd.R_below (kr_ <| HO278.out) hb); have n2_ := Aside0.mk (Kd.S_lower ho11 (below_size bl_)); have n3_ := Aside0.mk (below_step bl_ hb); clear HO275; clear HO278; clear HB; have HO275 := n0_; have HO278 := n1_; have HO281 := n2_; have HB := n3_; clear n0_ n1_ n2_ n3_; clear hb ho11))
 go_loopg [6, 20] k (fun kq v6 v20 w' => ∃ (x4_1 : List Bool) (x5_1 : List Bool) (x6_1 : List (List Int)) (x20_1 : Int), v20 = .int .i64 x20_1 ∧ Aside0 (impl_groups.l0 kq l0 x4_1 x5_1 x6_1 (l0.length : Int) x20_1 = some (r1, r2)) ∧ Aside0 (kq ≤ k) ∧ Aside0 (Kd.R Kd.bool 4 w' w.heap.size (fun k_ => some k_ ≠ (v277 : Value).ownBlock) v274 x4_1) ∧ Aside0 (Kd.R Kd.bool 4 w' w.heap.size (fun k_ => some k_ ≠ (v274 : Value).ownBlock) v277 x5_1) ∧ Aside0 (Kd.S (Kd.slice 3 (Kd.int .i64)) 36 w' w.heap.size (fun _ => True) v6 x6_1) ∧ Aside0 (Below w.heap.size w w'))
 case atStart => exact ⟨(y273), (y276), (y279), (0), (es_), H', ⟨Nat.le_refl _⟩, ⟨by exact kr_ <| HO275.out⟩, ⟨by exact kr_ <| HO278.out⟩, ⟨by (with_reducible repeat (first | apply Kd.S_alloc | apply Kd.S_drewN | apply Kd.S_drew)); exact HO281.out⟩, ⟨bl_⟩⟩
 case round =>
  clear H'
  try clear c2
  try clear c2b0
  try clear c2b1
  try clear p2
  try clear c3
  try clear c3b0
  try clear c3b1
  obtain ⟨x4_1, x5_1, x6_1, x20_1, rfl, HA, HK1, HO_4, HO_5, HO_6, HB⟩ := hrel
  cases gk with
  | zero => exact absurd HA.out (by simp [impl_groups.l0])
  | succ k1 =>
   have H := HA.out
   clear HA
   simp only [impl_groups.l0] at H
   by_cases c12 : x20_1 < (l0.length : Int)
   ·rw [if_pos c12] at H
    have c12b0 : decide (x20_1 < (l0.length : Int)) = true := decide_eq_true c12
    clear c12
    by_cases c13 : 0 ≤ x20_1
    rotate_left
    ·rw [if_neg c13] at H
     exact absurd H (by simp)
    rw [if_pos c13] at H
    have c13b0 : decide (0 ≤ x20_1) = true := decide_eq_true c13
    clear c13
    by_cases c14 : x20_1 < (x4_1.length : Int)
    rotate_left
    ·rw [if_neg c14] at H
     exact absurd H (by simp)
    rw [if_pos c14] at H
    have c14b0 : decide (x20_1 < (x4_1.length : Int)) = true := decide_eq_true c14
    clear c14
    obtain ⟨bq15, hbq15⟩ : ∃ b_ : Bool, b_ = (rdOf false x4_1 x20_1) := ⟨_, rfl⟩
    replace H : (if bq15 = true then (impl_groups.l0 k1 l0 x4_1 x5_1 x6_1 (l0.length : Int) (wrap64 (x20_1 + 1))) else (if x20_1 < (x5_1.length : Int) then (impl_groups.l1 k1 l0 (x4_1.set (x20_1 : Int).toNat true) (x5_1.set (x20_1 : Int).toNat true) x6_1 (([x20_1] : List Int)) 0 (l0.length : Int) x20_1) else (none))) = some (r1, r2) := by rw [← hbq15] at H; exact H
    have Nbq15 := Aside0.mk hbq15
    clear hbq15
    by_cases c16 : bq15 = true
    ·subst c16
     have H1 : (impl_groups.l0 k1 l0 x4_1 x5_1 x6_1 (l0.length : Int) (wrap64 (x20_1 + 1))) = some (r1, r2) := by rw [if_pos rfl] at H; exact H
     clear H
     have H := H1
     clear H1
     have H' := Aside0.mk H
     clear H
     obtain ⟨Ao17, co17, eo17⟩ := Kd.R_slice HO_4.out
     subst eo17
     have p282 : 0 ≤ (x20_1 : Int) := od_
     have q282 : x20_1 < (x4_1.length : Int) := od_
     obtain ⟨ad282, e282, hx282_0⟩ := Kd.at_bool (Kd.R_reads' HO_4.out).2.2 x20_1 p282 q282
     (try rw [← Nbq15.out] at hx282_0)
     cases e282
     replace p282 := eq_true p282
     replace q282 := eq_true q282
     go_wp2
     go_roundg k1
     case measure => have := HK1.out; omega
     case rel => exact ⟨(x4_1), (x5_1), (x6_1), (wrap64 (x20_1 + 1)), (es_), H', ⟨by have := HK1.out; omega⟩, ⟨by exact kr_ <| HO_4.out⟩, ⟨by exact kr_ <| HO_5.out⟩, ⟨by (with_reducible repeat (first | apply Kd.S_alloc | apply Kd.S_drewN | apply Kd.S_drew)); exact HO_6.out⟩, ⟨bl_⟩⟩
    ·replace c16 := Bool.eq_false_iff.mpr c16
     subst c16
     have H1 : (if x20_1 < (x5_1.length : Int) then (impl_groups.l1 k1 l0 (x4_1.set (x20_1 : Int).toNat true) (x5_1.set (x20_1 : Int).toNat true) x6_1 (([x20_1] : List Int)) 0 (l0.length : Int) x20_1) else (none)) = some (r1, r2) := by rw [if_neg (show ¬ (false = true) by decide)] at H; exact H
     clear H
     have H := H1
     clear H1
     obtain ⟨y283, hy283⟩ : ∃ y_ : List Bool, y_ = (x4_1.set (x20_1 : Int).toNat true) := ⟨_, rfl⟩
     replace H : (if x20_1 < (x5_1.length : Int) then (impl_groups.l1 k1 l0 y283 (x5_1.set (x20_1 : Int).toNat true) x6_1 (([x20_1] : List Int)) 0 (l0.length : Int) x20_1) else (none)) = some (r1, r2) := by first | (rw [hy283]; with_reducible exact H) | (have H2_ := (Option.bind_some _ _).symm.trans H; rw [hy283]; with_reducible exact H2_) | (have H2_ := (Option.bind_some _ _).symm.trans H; with_reducible exact H2_) | with_reducible exact H | (rw [hy283]; exact H) | exact H
     have Ny283 := Aside0.mk hy283
     clear hy283
     by_cases c19 : x20_1 < (x5_1.length : Int)
     rotate_left
     ·rw [if_neg c19] at H
      exact absurd H (by simp)
     rw [if_pos c19] at H
     have c19b0 : decide (x20_1 < (x5_1.length : Int)) = true := decide_eq_true c19
     clear c19
     obtain ⟨y284, hy284⟩ : ∃ y_ : List Bool, y_ = (x5_1.set (x20_1 : Int).toNat true) := ⟨_, rfl⟩
     replace H : (impl_groups.l1 k1 l0 y283 y284 x6_1 (([x20_1] : List Int)) 0 (l0.length : Int) x20_1) = some (r1, r2) := by first | (rw [hy284]; with_reducible exact H) | (have H2_ := (Option.bind_some _ _).symm.trans H; rw [hy284]; with_reducible exact H2_) | (have H2_ := (Option.bind_some _ _).symm.trans H; with_reducible exact H2_) | with_reducible exact H | (rw [hy284]; exact H) | exact H
     have Ny284 := Aside0.mk hy284
     clear hy284
     obtain ⟨y285, hy285⟩ : ∃ y_ : List Int, y_ = (([x20_1] : List Int)) := ⟨_, rfl⟩
     replace H : (impl_groups.l1 k1 l0 y283 y284 x6_1 y285 0 (l0.length : Int) x20_1) = some (r1, r2) := by first | (rw [hy285]; with_reducible exact H) | (have H2_ := (Option.bind_some _ _).symm.trans H; rw [hy285]; with_reducible exact H2_) | (have H2_ := (Option.bind_some _ _).symm.trans H; with_reducible exact H2_) | with_reducible exact H | (rw [hy285]; exact H) | exact H
     have Ny285 := Aside0.mk hy285
     clear hy285
     have H' := Aside0.mk H
     clear H
     obtain ⟨Ao21, co21, eo21⟩ := Kd.R_slice HO_4.out
     subst eo21
     have p282 : 0 ≤ (x20_1 : Int) := od_
     have q282 : x20_1 < (x4_1.length : Int) := od_
     obtain ⟨ad282, e282, hx282_0⟩ := Kd.at_bool (Kd.R_reads' HO_4.out).2.2 x20_1 p282 q282
     (try rw [← Nbq15.out] at hx282_0)
     cases e282
     replace p282 := eq_true p282
     replace q282 := eq_true q282
     have p18 : 0 ≤ (x20_1 : Int) := od_
     have q18 : (x20_1 : Int) < ((x4_1.length : Int) : Int) := od_
     obtain ⟨go18, co18, eo18, gb18, gl18, cl18, HG18⟩ := Kd.R_form HO_4.out (by omega)
     (first | cases eo18 | (injection eo18 with ea_ en_ ec_; (first | subst ea_ | (injection ea_ with ea_; subst ea_)); subst ec_; clear en_))
     have GB18 := Aside0.mk gb18
     have GG18 := Aside0.mk HG18
     clear gb18 gl18 HG18
     (first | simp only [add_plain] at hx282_0 | skip)
     obtain ⟨hx18_0, hf18_0⟩ := Kd.R_celln false HO_4.out (x20_1 : Int) p18 q18
     replace p18 := eq_true p18
     replace q18 := eq_true q18
     have HP22 := Kd.R_putg HO_4.out (x20_1 : Int) true
     go_wp2_with (first | ((with_reducible refine gate_store (t := 4) (p := 31) rfl ?_); refine store_event (t := 4) (p := 31) (v := ?vo_w23) (w1 := (wr.setCell ⟨go18, (x20_1 : Int).toNat, none⟩ (.bool true))) ?hg ?ho ?hn ?hr ?_; (case ho => rfl); (case hg => rfl); (case hn => rfl); (case hr => first | (go_simp; done) | (go_simp; rfl)); intro w23 hw; have hg : wr.grownBy w23 (some go18) := (by rw [hw]; exact HP22.2); have hp_ : Kd.R Kd.bool 4 w23 w.heap.size (fun k_ => some k_ ≠ (v277 : Value).ownBlock) (.slice (some ⟨go18, 0, none⟩) x4_1.length co21) y283 := (by rw [hw, Ny283.out]; exact HP22.1); clear HP22; have n0_ := Aside0.mk (hp_); have n1_ := Aside0.mk (Kd.R_after (v := (.slice (some ⟨go18, 0, none⟩) x4_1.length co21)) (v1 := (.slice (some ⟨go18, 0, none⟩) x4_1.length co21)) (ok := (fun _ => True)) (kr_ <| Kd.R_mono HO_5.out (fun _ hk => ⟨trivial, hk⟩)) hg (.inl rfl)); have n2_ := Aside0.mk (Kd.S_over' (v := (.slice (some ⟨go18, 0, none⟩) x4_1.length co21)) (by (with_reducible repeat (first | apply Kd.S_alloc | apply Kd.S_drewN | apply Kd.S_drew)); exact HO_6.out) (Kd.R_typed HO_4.out) (by decide) hg); have n3_ := Aside0.mk ((by rw [hw]; exact below_set (HB.out) GB18.out : Below w.heap.size w w23)); clear HO_4; clear HO_5; clear HO_6; clear HB; have HO_4 := n0_; have HO_5 := n1_; have HO_6 := n2_; have HB := n3_; clear n0_ n1_ n2_ n3_; clear hg hw hp_; have p20 : 0 ≤ (x20_1 : Int) := od_; have q20 : (x20_1 : Int) < ((x5_1.length : Int) : Int) := od_; obtain ⟨go20, co20, eo20, gb20, gl20, cl20, HG20⟩ := Kd.R_form HO_5.out (by omega); (first | cases eo20 | (injection eo20 with ea_ en_ ec_; (first | subst ea_ | (injection ea_ with ea_; subst ea_)); subst ec_; clear en_)); have GB20 := Aside0.mk gb20; have GG20 := Aside0.mk HG20; clear gb20 gl20 HG20; obtain ⟨hx20_0, hf20_0⟩ := Kd.R_celln false HO_5.out (x20_1 : Int) p20 q20; replace p20 := eq_true p20; replace q20 := eq_true q20; have n_ := Aside0.mk (Kd.R_mono (ok' := (fun k_ => some k_ ≠ (.slice (some ⟨go18, 0, none⟩) x4_1.length co21 : Value).ownBlock)) HO_5.out (fun k_ hk => hk.2)); clear HO_5; have HO_5 := n_; clear n_; obtain ⟨hy24_, hz24_⟩ := Kd.R_celln false HO_5.out (x20_1 : Int) (od_) (od_); have HP24 := Kd.R_putg HO_5.out (x20_1 : Int) true) | ((with_reducible refine gate_store (t := 4) (p := 32) rfl ?_); refine store_event (t := 4) (p := 32) (v := ?vo_w25) (w1 := (w23.setCell ⟨go20, (x20_1 : Int).toNat, none⟩ (.bool true))) ?hg ?ho ?hn ?hr ?_; (case ho => rfl); (case hg => rfl); (case hn => rfl); (case hr => first | (go_simp; done) | (go_simp; rfl)); intro w25 hw; have hg : w23.grownBy w25 (some go20) := (by rw [hw]; exact HP24.2); have hp_ : Kd.R Kd.bool 4 w25 w.heap.size (fun k_ => some k_ ≠ (.slice (some ⟨go18, 0, none⟩) x4_1.length co21 : Value).ownBlock) (.slice (some ⟨go20, 0, none⟩) x5_1.length co20) y284 := (by rw [hw, Ny284.out]; exact HP24.1); clear HP24; have n0_ := Aside0.mk (Kd.R_after (v := (.slice (some ⟨go20, 0, none⟩) x5_1.length co20)) (v1 := (.slice (some ⟨go20, 0, none⟩) x5_1.length co20)) (ok := (fun _ => True)) (kr_ <| Kd.R_mono HO_4.out (fun _ hk => ⟨trivial, hk⟩)) hg (.inl rfl)); have n1_ := Aside0.mk (hp_); have n2_ := Aside0.mk (Kd.S_over' (v := (.slice (some ⟨go20, 0, none⟩) x5_1.length co20)) (by (with_reducible repeat (first | apply Kd.S_alloc | apply Kd.S_drewN | apply Kd.S_drew)); exact HO_6.out) (Kd.R_typed HO_5.out) (by decide) hg); have n3_ := Aside0.mk ((by rw [hw]; exact below_set (HB.out) GB20.out : Below w.heap.size w w25)); clear HO_4; clear HO_5; clear HO_6; clear HB; have HO_4 := n0_; have HO_5 := n1_; have HO_6 := n2_; have HB := n3_; clear n0_ n1_ n2_ n3_; clear hg hw hp_) | ((with_reducible refine gate_dst (N := 34) rfl ?_); refine Kd.R_lit (Kd.int .i64) _ 3 ?hg (N := 34) ?hd (xs := ([x20_1] : List Int)) (inner := [.int .i64 x20_1]) (ok := fun _ => True) (okp := fun _ => True) ?hr ?hp (fun _ hk => hk) trivial (Below.refl _ _) (Nat.le_refl _) (by simp) ?_; (case hd => rfl); (case hg => rfl); (case hr => first | (go_simp; done) | (go_simp; rfl)); (case hp => exact (Reps.one (show Kd.M (Kd.int .i64) _ _ _ x20_1 [.int .i64 x20_1] from rfl) (Reps.none _ _))); intro v286 w26 ho27 hb hg_ hnew_; clear hg_ hnew_; (first | rw [← Ny285.out] at ho27 | (simp only [Int.reduceToNat] at ho27; rw [← Ny285.out] at ho27)); have n0_ := Aside0.mk (Kd.R_below (kr_ <| HO_4.out) hb); have n1_ := Aside0.mk (Kd.R_below (kr_ <| HO_5.out) hb); have n2_ := Aside0.mk (Kd.S_elder' (by (with_reducible repeat (first | apply Kd.S_alloc | apply Kd.S_drewN | apply Kd.S_drew)); exact HO_6.out) (Kd.R_base ho27) hb); have n3_ := Aside0.mk (Kd.R_lower ho27 (below_size bl_)); have n4_ := Aside0.mk (below_step bl_ hb); clear HO_4; clear HO_5; clear HO_6; clear HB; have HO_4 := n0_; have HO_5 := n1_; have HO_6 := n2_; have HO287 := n3_; have HB := n4_; clear n0_ n1_ n2_ n3_ n4_; clear hb ho27))
     go_loopg [8, 9] k1 (fun kq v8 v9 w' => ∃ (x4_2 : List Bool) (x5_2 : List Bool) (x8_2 : List Int) (x9_2 : Int), v9 = .int .i64 x9_2 ∧ Aside0 (impl_groups.l1 kq l0 x4_2 x5_2 x6_1 x8_2 x9_2 (l0.length : Int) x20_1 = some (r1, r2)) ∧ Aside0 (kq ≤ k1) ∧ Aside0 (Kd.R Kd.bool 4 w' w.heap.size (fun k_ => some k_ ≠ ((.slice (some ⟨go20, 0, none⟩) x5_1.length co20) : Value).ownBlock) (.slice (some ⟨go18, 0, none⟩) x4_1.length co21) x4_2) ∧ Aside0 (Kd.R Kd.bool 4 w' w.heap.size (fun k_ => some k_ ≠ ((.slice (some ⟨go18, 0, none⟩) x4_1.length co21) : Value).ownBlock) (.slice (some ⟨go20, 0, none⟩) x5_1.length co20) x5_2) ∧ Aside0 (Kd.S (Kd.slice 3 (Kd.int .i64)) 36 w' w.heap.size (fun k_ => some k_ ≠ (v8 : Value).ownBlock) u6 x6_1) ∧ Aside0 (Kd.R (Kd.int .i64) 3 w' w.heap.size (fun _ => True) v8 x8_2) ∧ Aside0 (Below w.heap.size w w'))
     case atStart => exact ⟨(y283), (y284), (y285), (0), (es_), H', ⟨Nat.le_refl _⟩, ⟨by exact kr_ <| Kd.R_mono HO_4.out (fun _ hk => hk.2)⟩, ⟨by exact kr_ <| HO_5.out⟩, ⟨by (with_reducible repeat (first | apply Kd.S_alloc | apply Kd.S_drewN | apply Kd.S_drew)); exact Kd.S_mono HO_6.out (fun _ hk => hk.2)⟩, ⟨by exact kr_ <| HO287.out⟩, ⟨bl_⟩⟩
     case round =>
      clear H'
      try clear c1
      try clear p1
      try clear q1
      try clear hx1
      try clear hf1
      try clear c2
      try clear c2b0
      try clear c2b1
      try clear p2
      try clear q2
      try clear hx2
      try clear hf2
      try clear c3
      try clear c3b0
      try clear c3b1
      try clear p6
      try clear c12
      try clear c12b0
      try clear c13
      try clear c13b0
      try clear c14
      try clear c14b0
      try clear q15
      try clear c16
      try clear p18
      try clear q18
      try clear hx18
      try clear hf18
      try clear c19
      try clear c19b0
      try clear p20
      try clear q20
      try clear hx20
      try clear hf20
      try clear hx18_0
      try clear hx20_0
      try clear hx282_0
      try clear p18
      try clear p2
      try clear p20
      try clear p282
      try clear q18
      try clear q20
      try clear q282
      obtain ⟨x4_2, x5_2, x8_2, x9_2, rfl, HA, HK2, HO_4, HO_5, HO_6, HO_8, HB⟩ := hrel
      have hl4_2 := (Kd.R_reads' HO_4.out).1
      rw [hl4_2] at HO_4
      (try simp only [hl4_2])
      (try simp only [hl4_2] at HO_5)
      (try simp only [hl4_2] at HO_6)
      (try simp only [hl4_2] at HO_8)
      have hl5_2 := (Kd.R_reads' HO_5.out).1
      rw [hl5_2] at HO_5
      (try simp only [hl5_2])
      (try simp only [hl5_2] at HO_4)
      (try simp only [hl5_2] at HO_6)
      (try simp only [hl5_2] at HO_8)
      cases gk with
      | zero => exact absurd HA.out (by simp [impl_groups.l1])
      | succ k2 =>
       have H := HA.out
       clear HA
       simp only [impl_groups.l1] at H
       by_cases c28 : x9_2 < (x8_2.length : Int)
       ·rw [if_pos c28] at H
        have c28b0 : decide (x9_2 < (x8_2.length : Int)) = true := decide_eq_true c28
        clear c28
        have H' := Aside0.mk H
        clear H
        obtain ⟨Ao29, co29, eo29⟩ := Kd.R_slice HO_8.out
        subst eo29
        go_wp2
        go_loopg [8, 43] k2 (fun kq v8 v43 w' => ∃ (x4_3 : List Bool) (x5_3 : List Bool) (x8_3 : List Int) (x43_3 : Int), v43 = .int .i64 x43_3 ∧ Aside0 (impl_groups.l2 kq l0 x4_3 x5_3 x6_1 x8_3 x9_2 (l0.length : Int) x20_1 (l0.length : Int) x43_3 = some (r1, r2)) ∧ Aside0 (kq ≤ k2) ∧ Aside0 (Kd.R Kd.bool 4 w' w.heap.size (fun k_ => some k_ ≠ ((.slice (some ⟨go20, 0, none⟩) x5_2.length co20) : Value).ownBlock) (.slice (some ⟨go18, 0, none⟩) x4_2.length co21) x4_3) ∧ Aside0 (Kd.R Kd.bool 4 w' w.heap.size (fun k_ => some k_ ≠ ((.slice (some ⟨go18, 0, none⟩) x4_2.length co21) : Value).ownBlock) (.slice (some ⟨go20, 0, none⟩) x5_2.length co20) x5_3) ∧ Aside0 (Kd.S (Kd.slice 3 (Kd.int .i64)) 36 w' w.heap.size (fun k_ => some k_ ≠ (v8 : Value).ownBlock) u6 x6_1) ∧ Aside0 (Kd.R (Kd.int .i64) 3 w' w.heap.size (fun _ => True) v8 x8_3) ∧ Aside0 (Below w.heap.size w w'))
        case atStart => exact ⟨(x4_2), (x5_2), (x8_2), (0), (es_), H', ⟨Nat.le_refl _⟩, ⟨by (try simp only [hl4_2]); (try simp only [hl5_2]); exact kr_ <| HO_4.out⟩, ⟨by (try simp only [hl4_2]); (try simp only [hl5_2]); exact kr_ <| HO_5.out⟩, ⟨by (try simp only [hl4_2]); (try simp only [hl5_2]); (with_reducible repeat (first | apply Kd.S_alloc | apply Kd.S_drewN | apply Kd.S_drew)); exact HO_6.out⟩, ⟨by (try simp only [hl4_2]); (try simp only [hl5_2]); exact kr_ <| HO_8.out⟩, ⟨bl_⟩⟩
        case round =>
         clear H'
         try clear c1
         try clear p1
         try clear q1
         try clear hx1
         try clear hf1
         try clear c2
         try clear c2b0
         try clear c2b1
         try clear p2
         try clear q2
         try clear hx2
         try clear hf2
         try clear c3
         try clear c3b0
         try clear c3b1
         try clear p6
         try clear c12
         try clear c12b0
         try clear c13
         try clear c13b0
         try clear c14
         try clear c14b0
         try clear q15
         try clear c16
         try clear p18
         try clear q18
         try clear hx18
         try clear hf18
         try clear c19
         try clear c19b0
         try clear p20
         try clear q20
         try clear hx20
         try clear hf20
         try clear c28
         try clear c28b0
         try clear p28
         try clear q28
         try clear hx28
         try clear hx18_0
         try clear hx20_0
         try clear hx282_0
         try clear p1
         try clear p18
         try clear p2
         try clear p20
         try clear p282
         try clear p6
         try clear q1
         try clear q15
         try clear q18
         try clear q2
         try clear q20
         try clear q282
         obtain ⟨x4_3, x5_3, x8_3, x43_3, rfl, HA, HK3, HO_4, HO_5, HO_6, HO_8, HB⟩ := hrel
         have hl4_3 := (Kd.R_reads' HO_4.out).1
         rw [hl4_3] at HO_4
         (try simp only [hl4_3])
         (try simp only [hl4_3] at HO_5)
         (try simp only [hl4_3] at HO_6)
         (try simp only [hl4_3] at HO_8)
         have hl5_3 := (Kd.R_reads' HO_5.out).1
         rw [hl5_3] at HO_5
         (try simp only [hl5_3])
         (try simp only [hl5_3] at HO_4)
         (try simp only [hl5_3] at HO_6)
         (try simp only [hl5_3] at HO_8)
         cases gk with
         | zero => exact absurd HA.out (by simp [impl_groups.l2])
         | succ k3 =>
          have H := HA.out
          clear HA
          simp only [impl_groups.l2] at H
          by_cases c30 : x43_3 < (l0.length : Int)
          ·rw [if_pos c30] at H
           have c30b0 : decide (x43_3 < (l0.length : Int)) = true := decide_eq_true c30
           clear c30
           by_cases c31 : 0 ≤ x43_3
           rotate_left
           ·rw [if_neg c31] at H
            exact absurd H (by simp)
           rw [if_pos c31] at H
           have c31b0 : decide (0 ≤ x43_3) = true := decide_eq_true c31
           clear c31
           by_cases c32 : x43_3 < (x4_3.length : Int)
           rotate_left
           ·rw [if_neg c32] at H
            exact absurd H (by simp)
           rw [if_pos c32] at H
           have c32b0 : decide (x43_3 < (x4_3.length : Int)) = true := decide_eq_true c32
           clear c32
           obtain ⟨bq33, hbq33⟩ : ∃ b_ : Bool, b_ = (rdOf false x4_3 x43_3) := ⟨_, rfl⟩
           replace H : (if bq33 = true then (impl_groups.l2 k3 l0 x4_3 x5_3 x6_1 x8_3 x9_2 (l0.length : Int) x20_1 (l0.length : Int) (wrap64 (x43_3 + 1))) else (if 0 ≤ x9_2 then (if x9_2 < (x8_3.length : Int) then (if 0 ≤ (rd x8_3 x9_2) then (if (rd x8_3 x9_2) < (l0.length : Int) then (if x43_3 < (l0.length : Int) then ((impl_crossing.f ((rd_T44 l0 (rd x8_3 x9_2)).f0) ((rd_T44 l0 (rd x8_3 x9_2)).f1) ((rd_T44 l0 x43_3).f0) ((rd_T44 l0 x43_3).f1)).bind fun t296 => (if t296 = true then (if (rd x8_3 x9_2) < (x5_3.length : Int) then (if x43_3 < (x5_3.length : Int) then (if x8_3.length < 17592186044416 then (impl_groups.l2 k3 l0 (x4_3.set (x43_3 : Int).toNat true) (x5_3.set (x43_3 : Int).toNat (!(rdOf false x5_3 (rd x8_3 x9_2)))) x6_1 (x8_3 ++ [x43_3]) x9_2 (l0.length : Int) x20_1 (l0.length : Int) (wrap64 (x43_3 + 1))) else (none)) else (none)) else (none)) else (impl_groups.l2 k3 l0 x4_3 x5_3 x6_1 x8_3 x9_2 (l0.length : Int) x20_1 (l0.length : Int) (wrap64 (x43_3 + 1))))) else (none)) else (none)) else (none)) else (none)) else (none))) = some (r1, r2) := by rw [← hbq33] at H; exact H
           have Nbq33 := Aside0.mk hbq33
           clear hbq33
           by_cases c34 : bq33 = true
           ·subst c34
            have H1 : (impl_groups.l2 k3 l0 x4_3 x5_3 x6_1 x8_3 x9_2 (l0.length : Int) x20_1 (l0.length : Int) (wrap64 (x43_3 + 1))) = some (r1, r2) := by rw [if_pos rfl] at H; exact H
            clear H
            have H := H1
            clear H1
            have H' := Aside0.mk H
            clear H
            try go_wp2
            have n0_ := Aside0.mk (Kd.R_drew HO_4.out)
            have n1_ := Aside0.mk (Kd.R_drew HO_5.out)
            have n2_ := Aside0.mk (Kd.S_drew HO_6.out)
            have n3_ := Aside0.mk (Kd.R_drew HO_8.out)
            have n4_ := Aside0.mk (below_drew1 HB.out)
            clear HO_4
            clear HO_5
            clear HO_6
            clear HO_8
            clear HB
            have HO_4 := n0_
            have HO_5 := n1_
            have HO_6 := n2_
            have HO_8 := n3_
            have HB := n4_
            clear n0_ n1_ n2_ n3_ n4_
            have p292 : 0 ≤ (x43_3 : Int) := od_
            have q292 : x43_3 < (x4_3.length : Int) := od_
            obtain ⟨ad292, e292, hx292_0⟩ := Kd.at_bool (Kd.R_reads' HO_4.out).2.2 x43_3 p292 q292
            (try rw [← Nbq15.out] at hx292_0)
            (try rw [← Nbq33.out] at hx292_0)
            obtain rfl : (⟨go18, 0, none⟩ : Addr) = ad292 := (by injection e292)
            (first | simp only [add_plain] at hx292_0 | simp only [add_at] at hx292_0 | simp only [Addr.add, Nat.zero_add] at hx292_0 | skip)
            replace p292 := eq_true p292
            replace q292 := eq_true q292
            refine start_ (n := 19) (S := fun w' => w'.cell? ⟨go18, (x43_3).toNat, none⟩ = some (.bool true)) (ds := []) #[false, false, false, false, false, false, false, false, false, false, false, false, false, false, false, false, false, false, false] (by kernel_rfl) rfl rfl (hx292_0) (fun hHeld => ?_); refine with_tabW impl_groups.tab15 impl_groups.bits15 (fun HT_ HW_ => ?_)
            generalize wr.drew = w35 at HO_4 HO_5 HO_6 HO_8 HB hx292_0 hHeld ⊢
            refine pt_ 0 (some 46) HT_ ?_
            refine pt_ 1 (some 47) HT_ ?_
            refine pt_ 2 (some 48) HT_ ?_
            refine tb1_ 3 (some 49) HT_ HW_ hHeld ?_
            refine pt_ 4 (some 50) HT_ ?_
            refine pt_ 5 (some 51) HT_ ?_
            refine po_ 6 (some 52) HT_ ?_
            refine po_ 7 (some 53) HT_ ?_
            refine po_ 8 (some 54) HT_ ?_
            refine po_ 9 (some 55) HT_ ?_
            refine po_ 10 (some 56) HT_ ?_
            refine po_ 11 (some 57) HT_ ?_
            refine po_ 12 (some 58) HT_ ?_
            refine po_ 13 (some 59) HT_ ?_
            refine po_ 14 (some 60) HT_ ?_
            refine po_ 15 (some 61) HT_ ?_
            refine po_ 16 (some 62) HT_ ?_
            refine po_ 17 (some 63) HT_ ?_
            refine pt_ 18 (some 64) HT_ ?_
            refine done_ (done_of HT_.out (by kernel_rfl)) ?_
            try go_wp2
            (try simp only [← hl4_3, ← hl5_3])
            go_roundg k3
            case measure => have := HK1.out; have := HK2.out; have := HK3.out; omega
            case rel => exact ⟨(x4_3), (x5_3), (x8_3), (wrap64 (x43_3 + 1)), (es_), H', ⟨by have := HK1.out; have := HK2.out; have := HK3.out; omega⟩, ⟨by (try simp only [hl4_2]); (try simp only [hl5_2]); (try simp only [hl4_3]); (try simp only [hl5_3]); exact kr_ <| HO_4.out⟩, ⟨by (try simp only [hl4_2]); (try simp only [hl5_2]); (try simp only [hl4_3]); (try simp only [hl5_3]); exact kr_ <| HO_5.out⟩, ⟨by (try simp only [hl4_2]); (try simp only [hl5_2]); (try simp only [hl4_3]); (try simp only [hl5_3]); (with_reducible repeat (first | apply Kd.S_alloc | apply Kd.S_drewN | apply Kd.S_drew)); exact HO_6.out⟩, ⟨by (try simp only [hl4_2]); (try simp only [hl5_2]); (try simp only [hl4_3]); (try simp only [hl5_3]); exact kr_ <| HO_8.out⟩, ⟨bl_⟩⟩
           ·replace c34 := Bool.eq_false_iff.mpr c34
            subst c34
            have H1 : (if 0 ≤ x9_2 then (if x9_2 < (x8_3.length : Int) then (if 0 ≤ (rd x8_3 x9_2) then (if (rd x8_3 x9_2) < (l0.length : Int) then (if x43_3 < (l0.length : Int) then ((impl_crossing.f ((rd_T44 l0 (rd x8_3 x9_2)).f0) ((rd_T44 l0 (rd x8_3 x9_2)).f1) ((rd_T44 l0 x43_3).f0) ((rd_T44 l0 x43_3).f1)).bind fun t296 => (if t296 = true then (if (rd x8_3 x9_2) < (x5_3.length : Int) then (if x43_3 < (x5_3.length : Int) then (if x8_3.length < 17592186044416 then (impl_groups.l2 k3 l0 (x4_3.set (x43_3 : Int).toNat true) (x5_3.set (x43_3 : Int).toNat (!(rdOf false x5_3 (rd x8_3 x9_2)))) x6_1 (x8_3 ++ [x43_3]) x9_2 (l0.length : Int) x20_1 (l0.length : Int) (wrap64 (x43_3 + 1))) else (none)) else (none)) else (none)) else (impl_groups.l2 k3 l0 x4_3 x5_3 x6_1 x8_3 x9_2 (l0.length : Int) x20_1 (l0.length : Int) (wrap64 (x43_3 + 1))))) else (none)) else (none)) else (none)) else (none)) else (none)) = some (r1, r2) := by rw [if_neg (show ¬ (false = true) by decide)] at H; exact H
            clear H
            have H := H1
            clear H1
            by_cases c36 : 0 ≤ x9_2
            rotate_left
            ·rw [if_neg c36] at H
             exact absurd H (by simp)
            rw [if_pos c36] at H
            have c36b0 : decide (0 ≤ x9_2) = true := decide_eq_true c36
            clear c36
            by_cases c37 : x9_2 < (x8_3.length : Int)
            rotate_left
            ·rw [if_neg c37] at H
             exact absurd H (by simp)
            rw [if_pos c37] at H
            have c37b0 : decide (x9_2 < (x8_3.length : Int)) = true := decide_eq_true c37
            clear c37
            by_cases c38 : 0 ≤ (rd x8_3 x9_2)
            rotate_left
            ·rw [if_neg c38] at H
             exact absurd H (by simp)
            rw [if_pos c38] at H
            have c38b0 : decide (0 ≤ (rd x8_3 x9_2)) = true := decide_eq_true c38
            clear c38
            by_cases c39 : (rd x8_3 x9_2) < (l0.length : Int)
            rotate_left
            ·rw [if_neg c39] at H
             exact absurd H (by simp)
            rw [if_pos c39] at H
            have c39b0 : decide ((rd x8_3 x9_2) < (l0.length : Int)) = true := decide_eq_true c39
            clear c39
            by_cases c40 : x43_3 < (l0.length : Int)
            rotate_left
            ·rw [if_neg c40] at H
             exact absurd H (by simp)
            rw [if_pos c40] at H
            have c40b0 : decide (x43_3 < (l0.length : Int)) = true := decide_eq_true c40
            clear c40
            replace H := Option.bind_eq_some_iff.mp H
            obtain ⟨t296, A410, H⟩ := H
            try dsimp only at H
            have A41 := Aside0.mk A410
            clear A410
            by_cases c42 : t296 = true
            ·subst c42
             have H1 : (if (rd x8_3 x9_2) < (x5_3.length : Int) then (if x43_3 < (x5_3.length : Int) then (if x8_3.length < 17592186044416 then (impl_groups.l2 k3 l0 (x4_3.set (x43_3 : Int).toNat true) (x5_3.set (x43_3 : Int).toNat (!(rdOf false x5_3 (rd x8_3 x9_2)))) x6_1 (x8_3 ++ [x43_3]) x9_2 (l0.length : Int) x20_1 (l0.length : Int) (wrap64 (x43_3 + 1))) else (none)) else (none)) else (none)) = some (r1, r2) := by rw [if_pos rfl] at H; exact H
             clear H
             have H := H1
             clear H1
             by_cases c43 : (rd x8_3 x9_2) < (x5_3.length : Int)
             rotate_left
             ·rw [if_neg c43] at H
              exact absurd H (by simp)
             rw [if_pos c43] at H
             have c43b0 : decide ((rd x8_3 x9_2) < (x5_3.length : Int)) = true := decide_eq_true c43
             clear c43
             obtain ⟨y299, hy299⟩ : ∃ y_ : List Bool, y_ = (x4_3.set (x43_3 : Int).toNat true) := ⟨_, rfl⟩
             replace H : (if x43_3 < (x5_3.length : Int) then (if x8_3.length < 17592186044416 then (impl_groups.l2 k3 l0 y299 (x5_3.set (x43_3 : Int).toNat (!(rdOf false x5_3 (rd x8_3 x9_2)))) x6_1 (x8_3 ++ [x43_3]) x9_2 (l0.length : Int) x20_1 (l0.length : Int) (wrap64 (x43_3 + 1))) else (none)) else (none)) = some (r1, r2) := by first | (rw [hy299]; with_reducible exact H) | (have H2_ := (Option.bind_some _ _).symm.trans H; rw [hy299]; with_reducible exact H2_) | (have H2_ := (Option.bind_some _ _).symm.trans H; with_reducible exact H2_) | with_reducible exact H | (rw [hy299]; exact H) | exact H
             have Ny299 := Aside0.mk hy299
             clear hy299
             by_cases c45 : x43_3 < (x5_3.length : Int)
             rotate_left
             ·rw [if_neg c45] at H
              exact absurd H (by simp)
             rw [if_pos c45] at H
             have c45b0 : decide (x43_3 < (x5_3.length : Int)) = true := decide_eq_true c45
             clear c45
             obtain ⟨y300, hy300⟩ : ∃ y_ : List Bool, y_ = (x5_3.set (x43_3 : Int).toNat (!(rdOf false x5_3 (rd x8_3 x9_2)))) := ⟨_, rfl⟩
             replace H : (if x8_3.length < 17592186044416 then (impl_groups.l2 k3 l0 y299 y300 x6_1 (x8_3 ++ [x43_3]) x9_2 (l0.length : Int) x20_1 (l0.length : Int) (wrap64 (x43_3 + 1))) else (none)) = some (r1, r2) := by first | (rw [hy300]; with_reducible exact H) | (have H2_ := (Option.bind_some _ _).symm.trans H; rw [hy300]; with_reducible exact H2_) | (have H2_ := (Option.bind_some _ _).symm.trans H; with_reducible exact H2_) | with_reducible exact H | (rw [hy300]; exact H) | exact H
             have Ny300 := Aside0.mk hy300
             clear hy300
             by_cases c47 : x8_3.length < 17592186044416
             rotate_left
             ·rw [if_neg c47] at H
              exact absurd H (by simp)
             rw [if_pos c47] at H
             have LMc47 := Aside0.mk c47
             clear c47
             obtain ⟨y301, hy301⟩ : ∃ y_ : List Int, y_ = (x8_3 ++ [x43_3]) := ⟨_, rfl⟩
             replace H : (impl_groups.l2 k3 l0 y299 y300 x6_1 y301 x9_2 (l0.length : Int) x20_1 (l0.length : Int) (wrap64 (x43_3 + 1))) = some (r1, r2) := by first | (rw [hy301]; with_reducible exact H) | (have H2_ := (Option.bind_some _ _).symm.trans H; rw [hy301]; with_reducible exact H2_) | (have H2_ := (Option.bind_some _ _).symm.trans H; with_reducible exact H2_) | with_reducible exact H | (rw [hy301]; exact H) | exact H
             have Ny301 := Aside0.mk hy301
             clear hy301
             have H' := Aside0.mk H
             clear H
             try go_wp2
             have n0_ := Aside0.mk (Kd.R_drew HO_4.out)
             have n1_ := Aside0.mk (Kd.R_drew HO_5.out)
             have n2_ := Aside0.mk (Kd.S_drew HO_6.out)
             have n3_ := Aside0.mk (Kd.R_drew HO_8.out)
             have n4_ := Aside0.mk (below_drew1 HB.out)
             clear HO_4
             clear HO_5
             clear HO_6
             clear HO_8
             clear HB
             have HO_4 := n0_
             have HO_5 := n1_
             have HO_6 := n2_
             have HO_8 := n3_
             have HB := n4_
             clear n0_ n1_ n2_ n3_ n4_
             have p292 : 0 ≤ (x43_3 : Int) := od_
             have q292 : x43_3 < (x4_3.length : Int) := od_
             obtain ⟨ad292, e292, hx292_0⟩ := Kd.at_bool (Kd.R_reads' HO_4.out).2.2 x43_3 p292 q292
             (try rw [← Nbq15.out] at hx292_0)
             (try rw [← Nbq33.out] at hx292_0)
             obtain rfl : (⟨go18, 0, none⟩ : Addr) = ad292 := (by injection e292)
             (first | simp only [add_plain] at hx292_0 | simp only [add_at] at hx292_0 | simp only [Addr.add, Nat.zero_add] at hx292_0 | skip)
             replace p292 := eq_true p292
             replace q292 := eq_true q292
             obtain ⟨Ao49, co49, eo49⟩ := Kd.R_slice HO_8.out
             (first | subst eo49 | (injection eo49 with f1_ f2_ f3_; have f4_ := f1_.symm; have f5_ := f3_.symm; clear f1_ f2_ f3_; subst f4_; subst f5_))
             have p293 : 0 ≤ (x9_2 : Int) := od_
             have q293 : x9_2 < (x8_3.length : Int) := od_
             obtain ⟨ad293, e293, hx293_0⟩ := Kd.at_int (Kd.R_reads' HO_8.out).2.2 x9_2 p293 q293
             cases e293
             replace p293 := eq_true p293
             replace q293 := eq_true q293
             have p294 : 0 ≤ ((rd x8_3 x9_2) : Int) := od_
             have q294 : (rd x8_3 x9_2) < (l0.length : Int) := od_
             obtain ⟨ad294, e294, hx294_0, hx294_1⟩ := at_T44 HR0.out (rd x8_3 x9_2) p294 q294
             have hw294_1 := hx294_1
             have hw294_0 := hx294_0
             cases e294
             replace hx294_0 := (HB.out.cell (World.block_lt_of_cell? w _ hx294_0)).trans hx294_0
             replace hx294_1 := (HB.out.cell (World.block_lt_of_cell? w _ hx294_1)).trans hx294_1
             replace p294 := eq_true p294
             replace q294 := eq_true q294
             have p295 : 0 ≤ (x43_3 : Int) := od_
             have q295 : x43_3 < (l0.length : Int) := od_
             obtain ⟨ad295, e295, hx295_0, hx295_1⟩ := at_T44 HR0.out x43_3 p295 q295
             have hw295_1 := hx295_1
             have hw295_0 := hx295_0
             obtain rfl : ad294 = ad295 := (by injection e295)
             replace hx295_0 := (HB.out.cell (World.block_lt_of_cell? w _ hx295_0)).trans hx295_0
             replace hx295_1 := (HB.out.cell (World.block_lt_of_cell? w _ hx295_1)).trans hx295_1
             replace p295 := eq_true p295
             replace q295 := eq_true q295
             refine start_ (n := 19) (S := fun w' => w'.cell? ⟨go18, (x43_3).toNat, none⟩ = some (.bool false) ∧ w'.cell? (ad293.add (x9_2).toNat) = some (.int .i64 (rd x8_3 x9_2)) ∧ w'.cell? (ad294.add (((rd x8_3 x9_2)).toNat * 2)) = some (.int .i64 ((rd_T44 l0 (rd x8_3 x9_2)).f0)) ∧ w'.cell? ⟨(ad294.add (((rd x8_3 x9_2)).toNat * 2)).block, (ad294.add (((rd x8_3 x9_2)).toNat * 2)).off + 1, none⟩ = some (.int .i64 ((rd_T44 l0 (rd x8_3 x9_2)).f1)) ∧ w'.cell? (ad294.add ((x43_3).toNat * 2)) = some (.int .i64 ((rd_T44 l0 x43_3).f0)) ∧ w'.cell? ⟨(ad294.add ((x43_3).toNat * 2)).block, (ad294.add ((x43_3).toNat * 2)).off + 1, none⟩ = some (.int .i64 ((rd_T44 l0 x43_3).f1))) (ds := []) #[false, false, false, false, false, false, false, false, false, false, false, false, false, false, false, false, false, false, false] (by kernel_rfl) rfl rfl ⟨hx292_0, hx293_0, ((HB.out.cell (World.block_lt_of_cell? w _ hw294_0)).trans hw294_0), ((HB.out.cell (World.block_lt_of_cell? w _ hw294_1)).trans hw294_1), ((HB.out.cell (World.block_lt_of_cell? w _ hw295_0)).trans hw295_0), ((HB.out.cell (World.block_lt_of_cell? w _ hw295_1)).trans hw295_1)⟩ (fun hHeld => ?_); refine with_tabW impl_groups.tab15 impl_groups.bits15 (fun HT_ HW_ => ?_)
             generalize wr.drew = w48 at HO_4 HO_5 HO_6 HO_8 HB hx292_0 hx293_0 hx294_0 hx294_1 hx295_0 hx295_1 hHeld ⊢
             refine pt_ 0 (some 46) HT_ ?_
             refine pt_ 1 (some 47) HT_ ?_
             refine pt_ 2 (some 48) HT_ ?_
             refine tb6_ 3 (some 49) HT_ HW_ hHeld ?_
             refine pt_ 4 (some 50) HT_ ?_
             refine pt_ 5 (some 51) HT_ ?_
             refine pt_ 6 (some 52) HT_ ?_
             refine pt_ 7 (some 53) HT_ ?_
             refine pt_ 8 (some 54) HT_ ?_
             refine pt_ 9 (some 55) HT_ ?_
             refine pt_ 13 (some 59) HT_ ?_
             refine pt_ 14 (some 60) HT_ ?_
             refine pt_ 15 (some 61) HT_ ?_
             refine tb6_ 10 (some 56) HT_ HW_ hHeld ?_
             refine pt_ 11 (some 57) HT_ ?_
             refine tb6_ 12 (some 58) HT_ HW_ hHeld ?_
             refine tb6_ 16 (some 62) HT_ HW_ hHeld ?_
             refine one_ (i := 17) (N := some 63) #[true, true, true, true, true, true, true, true, true, true, true, true, true, true, true, true, true, true, false] rfl rfl (one_of HT_.out (by kernel_rfl)) (by decide) (fun K hK => ?_)
             refine goes_ Tryz.func35 (by kernel_rfl) rfl #[.agg #[.int .i64 ((rd_T44 l0 (rd x8_3 x9_2)).f0), .int .i64 ((rd_T44 l0 (rd x8_3 x9_2)).f1)], .agg #[.int .i64 ((rd_T44 l0 x43_3).f0), .int .i64 ((rd_T44 l0 x43_3).f1)]] (by rfl) rfl rfl ma_ ?_
             with_reducible refine (impl_crossing.calls ((rd_T44 l0 (rd x8_3 x9_2)).f0) ((rd_T44 l0 (rd x8_3 x9_2)).f1) ((rd_T44 l0 x43_3).f0) ((rd_T44 l0 x43_3).f1) true _ A41.out).mono ?_
             rintro e w50 ⟨rfl, hb⟩
             have HS0_ := (hb.cell (World.block_lt_of_cell? _ _ (hHeld.1))).trans (hHeld.1)
             have HS1_ := (hb.cell (World.block_lt_of_cell? _ _ (hHeld.2.1))).trans (hHeld.2.1)
             refine ⟨_, rfl, ?_⟩
             have n0_ := Aside0.mk (Kd.R_below (kr_ <| HO_4.out) hb)
             have n1_ := Aside0.mk (Kd.R_below (kr_ <| HO_5.out) hb)
             have n2_ := Aside0.mk (Kd.S_below (by (with_reducible repeat (first | apply Kd.S_alloc | apply Kd.S_drewN | apply Kd.S_drew)); exact HO_6.out) hb)
             have n3_ := Aside0.mk (Kd.R_below (kr_ <| HO_8.out) hb)
             have n4_ := Aside0.mk (below_step bl_ hb)
             clear HO_4
             clear HO_5
             clear HO_6
             clear HO_8
             clear HB
             have HO_4 := n0_
             have HO_5 := n1_
             have HO_6 := n2_
             have HO_8 := n3_
             have HB := n4_
             clear n0_ n1_ n2_ n3_ n4_
             (try clear hb)
             (try clear hb2)
             (try clear hk)
             (try clear hi)
             refine hK.out _ _ ⟨HS0_, HS1_, ((HB.out.cell (World.block_lt_of_cell? w _ hw294_0)).trans hw294_0), ((HB.out.cell (World.block_lt_of_cell? w _ hw294_1)).trans hw294_1), ((HB.out.cell (World.block_lt_of_cell? w _ hw295_0)).trans hw295_0), ((HB.out.cell (World.block_lt_of_cell? w _ hw295_1)).trans hw295_1)⟩ (fun hHeld => ?_)
             clear hK K
             refine nm_ (some 63) ?_
             refine pt_ 18 (some 64) HT_ ?_
             refine done_ (done_of HT_.out (by kernel_rfl)) ?_
             have p297 : 0 ≤ (x9_2 : Int) := od_
             have q297 : x9_2 < (x8_3.length : Int) := od_
             obtain ⟨ad297, e297, hx297_0⟩ := Kd.at_int (Kd.R_reads' HO_8.out).2.2 x9_2 p297 q297
             obtain rfl : ad293 = ad297 := (by injection e297)
             replace p297 := eq_true p297
             replace q297 := eq_true q297
             have p298 : 0 ≤ ((rd x8_3 x9_2) : Int) := od_
             have q298 : (rd x8_3 x9_2) < (x5_3.length : Int) := od_
             obtain ⟨ad298, e298, hx298_0⟩ := Kd.at_bool (Kd.R_reads' HO_5.out).2.2 (rd x8_3 x9_2) p298 q298
             (try rw [← Nbq15.out] at hx298_0)
             (try rw [← Nbq33.out] at hx298_0)
             obtain rfl : (⟨go20, 0, none⟩ : Addr) = ad298 := (by injection e298)
             (first | simp only [add_plain] at hx298_0 | simp only [add_at] at hx298_0 | simp only [Addr.add, Nat.zero_add] at hx298_0 | skip)
             replace p298 := eq_true p298
             replace q298 := eq_true q298
             have p44 : 0 ≤ (x43_3 : Int) := od_
             have q44 : (x43_3 : Int) < ((x4_3.length : Int) : Int) := od_
             obtain ⟨hx44_0, hf44_0⟩ := Kd.R_celln false HO_4.out (x43_3 : Int) p44 q44
             replace p44 := eq_true p44
             replace q44 := eq_true q44
             obtain ⟨hy51_, hz51_⟩ := Kd.R_celln false HO_4.out (x43_3 : Int) (od_) (od_)
             have HP51 := Kd.R_putg HO_4.out (x43_3 : Int) true
             try go_wp2_with (first | ((with_reducible refine gate_store (t := 4) (p := 77) rfl ?_); refine store_event (t := 4) (p := 77) (v := ?vo_w52) (w1 := (w50.setCell ⟨go18, (x43_3 : Int).toNat, none⟩ (.bool true))) ?hg ?ho ?hn ?hr ?_; (case ho => rfl); (case hg => rfl); (case hn => rfl); (case hr => first | (go_simp; done) | (go_simp; rfl)); intro w52 hw; have hg : w50.grownBy w52 (some go18) := (by rw [hw]; exact HP51.2); have hp_ : Kd.R Kd.bool 4 w52 w.heap.size (fun k_ => some k_ ≠ (.slice (some ⟨go20, 0, none⟩) x5_3.length co20 : Value).ownBlock) (.slice (some ⟨go18, 0, none⟩) x4_3.length co21) y299 := (by rw [hw, Ny299.out]; exact HP51.1); clear HP51; have n0_ := Aside0.mk (hp_); have n1_ := Aside0.mk (Kd.R_after (v := (.slice (some ⟨go18, 0, none⟩) x4_3.length co21)) (v1 := (.slice (some ⟨go18, 0, none⟩) x4_3.length co21)) (ok := (fun _ => True)) (kr_ <| Kd.R_mono HO_5.out (fun _ hk => ⟨trivial, hk⟩)) hg (.inl rfl)); have n2_ := Aside0.mk (Kd.S_over' (v := (.slice (some ⟨go18, 0, none⟩) x4_3.length co21)) (by (with_reducible repeat (first | apply Kd.S_alloc | apply Kd.S_drewN | apply Kd.S_drew)); exact HO_6.out) (Kd.R_typed HO_4.out) (by decide) hg); have n3_ := Aside0.mk (Kd.R_over' (v := (.slice (some ⟨go18, 0, none⟩) x4_3.length co21)) (kr_ <| HO_8.out) (Kd.R_typed HO_4.out) (by decide) hg); have n4_ := Aside0.mk ((by rw [hw]; exact below_set (HB.out) GB18.out : Below w.heap.size w w52)); clear HO_4; clear HO_5; clear HO_6; clear HO_8; clear HB; have HO_4 := n0_; have HO_5 := n1_; have HO_6 := n2_; have HO_8 := n3_; have HB := n4_; clear n0_ n1_ n2_ n3_ n4_; clear hg hw hp_; have p46 : 0 ≤ (x43_3 : Int) := od_; have q46 : (x43_3 : Int) < ((x5_3.length : Int) : Int) := od_; obtain ⟨hx46_0, hf46_0⟩ := Kd.R_celln false HO_5.out (x43_3 : Int) p46 q46; replace p46 := eq_true p46; replace q46 := eq_true q46; have n_ := Aside0.mk (Kd.R_mono (ok' := (fun k_ => some k_ ≠ (.slice (some ⟨go18, 0, none⟩) x4_3.length co21 : Value).ownBlock)) HO_5.out (fun k_ hk => hk.2)); clear HO_5; have HO_5 := n_; clear n_; obtain ⟨hy53_, hz53_⟩ := Kd.R_celln false HO_5.out (x43_3 : Int) (od_) (od_); have HP53 := Kd.R_putg HO_5.out (x43_3 : Int) (!(rdOf false x5_3 (rd x8_3 x9_2)))) | ((with_reducible refine gate_store (t := 4) (p := 78) rfl ?_); refine store_event (t := 4) (p := 78) (v := ?vo_w54) (w1 := (w52.setCell ⟨go20, (x43_3 : Int).toNat, none⟩ (.bool (!(rdOf false x5_3 (rd x8_3 x9_2)))))) ?hg ?ho ?hn ?hr ?_; (case ho => rfl); (case hg => rfl); (case hn => rfl); (case hr => first | (go_simp; done) | (go_simp; rfl)); intro w54 hw; have hg : w52.grownBy w54 (some go20) := (by rw [hw]; exact HP53.2); have hp_ : Kd.R Kd.bool 4 w54 w.heap.size (fun k_ => some k_ ≠ (.slice (some ⟨go18, 0, none⟩) x4_3.length co21 : Value).ownBlock) (.slice (some ⟨go20, 0, none⟩) x5_3.length co20) y300 := (by rw [hw, Ny300.out]; exact HP53.1); clear HP53; have n0_ := Aside0.mk (Kd.R_after (v := (.slice (some ⟨go20, 0, none⟩) x5_3.length co20)) (v1 := (.slice (some ⟨go20, 0, none⟩) x5_3.length co20)) (ok := (fun _ => True)) (kr_ <| Kd.R_mono HO_4.out (fun _ hk => ⟨trivial, hk⟩)) hg (.inl rfl)); have n1_ := Aside0.mk (hp_); have n2_ := Aside0.mk (Kd.S_over' (v := (.slice (some ⟨go20, 0, none⟩) x5_3.length co20)) (by (with_reducible repeat (first | apply Kd.S_alloc | apply Kd.S_drewN | apply Kd.S_drew)); exact HO_6.out) (Kd.R_typed HO_5.out) (by decide) hg); have n3_ := Aside0.mk (Kd.R_over' (v := (.slice (some ⟨go20, 0, none⟩) x5_3.length co20)) (kr_ <| HO_8.out) (Kd.R_typed HO_5.out) (by decide) hg); have n4_ := Aside0.mk ((by rw [hw]; exact below_set (HB.out) GB20.out : Below w.heap.size w w54)); clear HO_4; clear HO_5; clear HO_6; clear HO_8; clear HB; have HO_4 := n0_; have HO_5 := n1_; have HO_6 := n2_; have HO_8 := n3_; have HB := n4_; clear n0_ n1_ n2_ n3_ n4_; clear hg hw hp_) | ((with_reducible refine gate_builtin (b := .append) (xs := #[.tmp 79, .tmp 81]) rfl ?_); at_builtin; refine Kd.R_append (Kd.int .i64) (w0 := w) w.heap.size rfl (.tmp 79) (.tmp 81) 36 3 (.int .i64 0) 8 rfl Tryz.underlying36 info3 rfl (by decide) (by omega) (.slice (some ad293) x8_3.length co49) x8_3 x43_3 [.int .i64 x43_3] (fun _ => True) (fun _ => False) rfl rfl ?aP (fun _ hk => hk.elim) ?aF ?aO ?aB ?aS ?aL ?_; (case aP => exact rfl); (case aB => exact bl_); (case aF => exact (fun _ _ => trivial)); (case aO => exact (kr_ <| HO_8.out)); (case aS => exact (below_size bl_)); (case aL => have := LMc47.out; omega); intro v302 w55 ho hb hg hat; rw [← Ny301.out] at ho; have n0_ := Aside0.mk (Kd.R_over' (kr_ <| HO_4.out) (Kd.R_typed (kr_ <| HO_8.out)) (by decide) hg); have n1_ := Aside0.mk (Kd.R_over' (kr_ <| HO_5.out) (Kd.R_typed (kr_ <| HO_8.out)) (by decide) hg); have n2_ := Aside0.mk (Kd.S_after (ok := (fun _ => True)) (by (with_reducible repeat (first | apply Kd.S_alloc | apply Kd.S_drewN | apply Kd.S_drew)); exact Kd.S_mono HO_6.out (fun _ hk => ⟨trivial, hk⟩)) hg hat); have n3_ := Aside0.mk (hb); have n4_ := Aside0.mk (ho); clear HO_4; clear HO_5; clear HO_6; clear HB; clear HO_8; have HO_4 := n0_; have HO_5 := n1_; have HO_6 := n2_; have HB := n3_; have HO303 := n4_; clear n0_ n1_ n2_ n3_ n4_; clear ho hb hg hat))
             (try simp only [← hl4_3, ← hl5_3])
             go_roundg k3
             case measure => have := HK1.out; have := HK2.out; have := HK3.out; omega
             case rel => exact ⟨(y299), (y300), (y301), (wrap64 (x43_3 + 1)), (es_), H', ⟨by have := HK1.out; have := HK2.out; have := HK3.out; omega⟩, ⟨by (try simp only [hl4_2]); (try simp only [hl5_2]); (try simp only [hl4_3]); (try simp only [hl5_3]); exact kr_ <| Kd.R_mono HO_4.out (fun _ hk => hk.2)⟩, ⟨by (try simp only [hl4_2]); (try simp only [hl5_2]); (try simp only [hl4_3]); (try simp only [hl5_3]); exact kr_ <| HO_5.out⟩, ⟨by (try simp only [hl4_2]); (try simp only [hl5_2]); (try simp only [hl4_3]); (try simp only [hl5_3]); (with_reducible repeat (first | apply Kd.S_alloc | apply Kd.S_drewN | apply Kd.S_drew)); exact Kd.S_mono HO_6.out (fun _ hk => hk.2)⟩, ⟨by (try simp only [hl4_2]); (try simp only [hl5_2]); (try simp only [hl4_3]); (try simp only [hl5_3]); exact kr_ <| HO303.out⟩, ⟨bl_⟩⟩
            ·replace c42 := Bool.eq_false_iff.mpr c42
             subst c42
             have H1 : (impl_groups.l2 k3 l0 x4_3 x5_3 x6_1 x8_3 x9_2 (l0.length : Int) x20_1 (l0.length : Int) (wrap64 (x43_3 + 1))) = some (r1, r2) := by rw [if_neg (show ¬ (false = true) by decide)] at H; exact H
             clear H
             have H := H1
             clear H1
             have H' := Aside0.mk H
             clear H
             try go_wp2
             have n0_ := Aside0.mk (Kd.R_drew HO_4.out)
             have n1_ := Aside0.mk (Kd.R_drew HO_5.out)
             have n2_ := Aside0.mk (Kd.S_drew HO_6.out)
             have n3_ := Aside0.mk (Kd.R_drew HO_8.out)
             have n4_ := Aside0.mk (below_drew1 HB.out)
             clear HO_4
             clear HO_5
             clear HO_6
             clear HO_8
             clear HB
             have HO_4 := n0_
             have HO_5 := n1_
             have HO_6 := n2_
             have HO_8 := n3_
             have HB := n4_
             clear n0_ n1_ n2_ n3_ n4_
             have p292 : 0 ≤ (x43_3 : Int) := od_
             have q292 : x43_3 < (x4_3.length : Int) := od_
             obtain ⟨ad292, e292, hx292_0⟩ := Kd.at_bool (Kd.R_reads' HO_4.out).2.2 x43_3 p292 q292
             (try rw [← Nbq15.out] at hx292_0)
             (try rw [← Nbq33.out] at hx292_0)
             obtain rfl : (⟨go18, 0, none⟩ : Addr) = ad292 := (by injection e292)
             (first | simp only [add_plain] at hx292_0 | simp only [add_at] at hx292_0 | simp only [Addr.add, Nat.zero_add] at hx292_0 | skip)
             replace p292 := eq_true p292
             replace q292 := eq_true q292
             obtain ⟨Ao57, co57, eo57⟩ := Kd.R_slice HO_8.out
             (first | subst eo57 | (injection eo57 with f1_ f2_ f3_; have f4_ := f1_.symm; have f5_ := f3_.symm; clear f1_ f2_ f3_; subst f4_; subst f5_))
             have p293 : 0 ≤ (x9_2 : Int) := od_
             have q293 : x9_2 < (x8_3.length : Int) := od_
             obtain ⟨ad293, e293, hx293_0⟩ := Kd.at_int (Kd.R_reads' HO_8.out).2.2 x9_2 p293 q293
             cases e293
             replace p293 := eq_true p293
             replace q293 := eq_true q293
             have p294 : 0 ≤ ((rd x8_3 x9_2) : Int) := od_
             have q294 : (rd x8_3 x9_2) < (l0.length : Int) := od_
             obtain ⟨ad294, e294, hx294_0, hx294_1⟩ := at_T44 HR0.out (rd x8_3 x9_2) p294 q294
             have hw294_1 := hx294_1
             have hw294_0 := hx294_0
             cases e294
             replace hx294_0 := (HB.out.cell (World.block_lt_of_cell? w _ hx294_0)).trans hx294_0
             replace hx294_1 := (HB.out.cell (World.block_lt_of_cell? w _ hx294_1)).trans hx294_1
             replace p294 := eq_true p294
             replace q294 := eq_true q294
             have p295 : 0 ≤ (x43_3 : Int) := od_
             have q295 : x43_3 < (l0.length : Int) := od_
             obtain ⟨ad295, e295, hx295_0, hx295_1⟩ := at_T44 HR0.out x43_3 p295 q295
             have hw295_1 := hx295_1
             have hw295_0 := hx295_0
             obtain rfl : ad294 = ad295 := (by injection e295)
             replace hx295_0 := (HB.out.cell (World.block_lt_of_cell? w _ hx295_0)).trans hx295_0
             replace hx295_1 := (HB.out.cell (World.block_lt_of_cell? w _ hx295_1)).trans hx295_1
             replace p295 := eq_true p295
             replace q295 := eq_true q295
             refine start_ (n := 19) (S := fun w' => w'.cell? ⟨go18, (x43_3).toNat, none⟩ = some (.bool false) ∧ w'.cell? (ad293.add (x9_2).toNat) = some (.int .i64 (rd x8_3 x9_2)) ∧ w'.cell? (ad294.add (((rd x8_3 x9_2)).toNat * 2)) = some (.int .i64 ((rd_T44 l0 (rd x8_3 x9_2)).f0)) ∧ w'.cell? ⟨(ad294.add (((rd x8_3 x9_2)).toNat * 2)).block, (ad294.add (((rd x8_3 x9_2)).toNat * 2)).off + 1, none⟩ = some (.int .i64 ((rd_T44 l0 (rd x8_3 x9_2)).f1)) ∧ w'.cell? (ad294.add ((x43_3).toNat * 2)) = some (.int .i64 ((rd_T44 l0 x43_3).f0)) ∧ w'.cell? ⟨(ad294.add ((x43_3).toNat * 2)).block, (ad294.add ((x43_3).toNat * 2)).off + 1, none⟩ = some (.int .i64 ((rd_T44 l0 x43_3).f1))) (ds := []) #[false, false, false, false, false, false, false, false, false, false, false, false, false, false, false, false, false, false, false] (by kernel_rfl) rfl rfl ⟨hx292_0, hx293_0, ((HB.out.cell (World.block_lt_of_cell? w _ hw294_0)).trans hw294_0), ((HB.out.cell (World.block_lt_of_cell? w _ hw294_1)).trans hw294_1), ((HB.out.cell (World.block_lt_of_cell? w _ hw295_0)).trans hw295_0), ((HB.out.cell (World.block_lt_of_cell? w _ hw295_1)).trans hw295_1)⟩ (fun hHeld => ?_); refine with_tabW impl_groups.tab15 impl_groups.bits15 (fun HT_ HW_ => ?_)
             generalize wr.drew = w56 at HO_4 HO_5 HO_6 HO_8 HB hx292_0 hx293_0 hx294_0 hx294_1 hx295_0 hx295_1 hHeld ⊢
             refine pt_ 0 (some 46) HT_ ?_
             refine pt_ 1 (some 47) HT_ ?_
             refine pt_ 2 (some 48) HT_ ?_
             refine tb6_ 3 (some 49) HT_ HW_ hHeld ?_
             refine pt_ 4 (some 50) HT_ ?_
             refine pt_ 5 (some 51) HT_ ?_
             refine pt_ 6 (some 52) HT_ ?_
             refine pt_ 7 (some 53) HT_ ?_
             refine pt_ 8 (some 54) HT_ ?_
             refine pt_ 9 (some 55) HT_ ?_
             refine pt_ 13 (some 59) HT_ ?_
             refine pt_ 14 (some 60) HT_ ?_
             refine pt_ 15 (some 61) HT_ ?_
             refine tb6_ 10 (some 56) HT_ HW_ hHeld ?_
             refine pt_ 11 (some 57) HT_ ?_
             refine tb6_ 12 (some 58) HT_ HW_ hHeld ?_
             refine tb6_ 16 (some 62) HT_ HW_ hHeld ?_
             refine one_ (i := 17) (N := some 63) #[true, true, true, true, true, true, true, true, true, true, true, true, true, true, true, true, true, true, false] rfl rfl (one_of HT_.out (by kernel_rfl)) (by decide) (fun K hK => ?_)
             refine goes_ Tryz.func35 (by kernel_rfl) rfl #[.agg #[.int .i64 ((rd_T44 l0 (rd x8_3 x9_2)).f0), .int .i64 ((rd_T44 l0 (rd x8_3 x9_2)).f1)], .agg #[.int .i64 ((rd_T44 l0 x43_3).f0), .int .i64 ((rd_T44 l0 x43_3).f1)]] (by rfl) rfl rfl ma_ ?_
             with_reducible refine (impl_crossing.calls ((rd_T44 l0 (rd x8_3 x9_2)).f0) ((rd_T44 l0 (rd x8_3 x9_2)).f1) ((rd_T44 l0 x43_3).f0) ((rd_T44 l0 x43_3).f1) false _ A41.out).mono ?_
             rintro e w58 ⟨rfl, hb⟩
             have HS0_ := (hb.cell (World.block_lt_of_cell? _ _ (hHeld.1))).trans (hHeld.1)
             have HS1_ := (hb.cell (World.block_lt_of_cell? _ _ (hHeld.2.1))).trans (hHeld.2.1)
             refine ⟨_, rfl, ?_⟩
             have n0_ := Aside0.mk (Kd.R_below (kr_ <| HO_4.out) hb)
             have n1_ := Aside0.mk (Kd.R_below (kr_ <| HO_5.out) hb)
             have n2_ := Aside0.mk (Kd.S_below (by (with_reducible repeat (first | apply Kd.S_alloc | apply Kd.S_drewN | apply Kd.S_drew)); exact HO_6.out) hb)
             have n3_ := Aside0.mk (Kd.R_below (kr_ <| HO_8.out) hb)
             have n4_ := Aside0.mk (below_step bl_ hb)
             clear HO_4
             clear HO_5
             clear HO_6
             clear HO_8
             clear HB
             have HO_4 := n0_
             have HO_5 := n1_
             have HO_6 := n2_
             have HO_8 := n3_
             have HB := n4_
             clear n0_ n1_ n2_ n3_ n4_
             (try clear hb)
             (try clear hb2)
             (try clear hk)
             (try clear hi)
             refine hK.out _ _ ⟨HS0_, HS1_, ((HB.out.cell (World.block_lt_of_cell? w _ hw294_0)).trans hw294_0), ((HB.out.cell (World.block_lt_of_cell? w _ hw294_1)).trans hw294_1), ((HB.out.cell (World.block_lt_of_cell? w _ hw295_0)).trans hw295_0), ((HB.out.cell (World.block_lt_of_cell? w _ hw295_1)).trans hw295_1)⟩ (fun hHeld => ?_)
             clear hK K
             refine nm_ (some 63) ?_
             refine pt_ 18 (some 64) HT_ ?_
             refine done_ (done_of HT_.out (by kernel_rfl)) ?_
             try go_wp2
             (try simp only [← hl4_3, ← hl5_3])
             go_roundg k3
             case measure => have := HK1.out; have := HK2.out; have := HK3.out; omega
             case rel => exact ⟨(x4_3), (x5_3), (x8_3), (wrap64 (x43_3 + 1)), (es_), H', ⟨by have := HK1.out; have := HK2.out; have := HK3.out; omega⟩, ⟨by (try simp only [hl4_2]); (try simp only [hl5_2]); (try simp only [hl4_3]); (try simp only [hl5_3]); exact kr_ <| HO_4.out⟩, ⟨by (try simp only [hl4_2]); (try simp only [hl5_2]); (try simp only [hl4_3]); (try simp only [hl5_3]); exact kr_ <| HO_5.out⟩, ⟨by (try simp only [hl4_2]); (try simp only [hl5_2]); (try simp only [hl4_3]); (try simp only [hl5_3]); (with_reducible repeat (first | apply Kd.S_alloc | apply Kd.S_drewN | apply Kd.S_drew)); exact HO_6.out⟩, ⟨by (try simp only [hl4_2]); (try simp only [hl5_2]); (try simp only [hl4_3]); (try simp only [hl5_3]); exact kr_ <| HO_8.out⟩, ⟨bl_⟩⟩
          ·rw [if_neg c30] at H
           have c30b0 : decide (x43_3 < (l0.length : Int)) = false := decide_eq_false c30
           clear c30
           have H' := Aside0.mk H
           clear H
           go_wp2
           (try simp only [← hl4_2, ← hl5_2, ← hl4_3, ← hl5_3])
           go_roundg k3
           case measure => have := HK1.out; have := HK2.out; have := HK3.out; omega
           case rel => exact ⟨(x4_3), (x5_3), (x8_3), (wrap64 (x9_2 + 1)), (es_), H', ⟨by have := HK1.out; have := HK2.out; have := HK3.out; omega⟩, ⟨by (try simp only [hl4_2]); (try simp only [hl5_2]); (try simp only [hl4_3]); (try simp only [hl5_3]); exact kr_ <| HO_4.out⟩, ⟨by (try simp only [hl4_2]); (try simp only [hl5_2]); (try simp only [hl4_3]); (try simp only [hl5_3]); exact kr_ <| HO_5.out⟩, ⟨by (try simp only [hl4_2]); (try simp only [hl5_2]); (try simp only [hl4_3]); (try simp only [hl5_3]); (with_reducible repeat (first | apply Kd.S_alloc | apply Kd.S_drewN | apply Kd.S_drew)); exact HO_6.out⟩, ⟨by (try simp only [hl4_2]); (try simp only [hl5_2]); (try simp only [hl4_3]); (try simp only [hl5_3]); exact kr_ <| HO_8.out⟩, ⟨bl_⟩⟩
       ·rw [if_neg c28] at H
        have c28b0 : decide (x9_2 < (x8_2.length : Int)) = false := decide_eq_false c28
        clear c28
        replace H := Option.bind_eq_some_iff.mp H
        obtain ⟨t288, A590, H⟩ := H
        try dsimp only at H
        have A59 := Aside0.mk A590
        clear A590
        by_cases c60 : x6_1.length < 5864062014805
        rotate_left
        ·rw [if_neg c60] at H
         exact absurd H (by simp)
        rw [if_pos c60] at H
        have LMc60 := Aside0.mk c60
        clear c60
        obtain ⟨y289, hy289⟩ : ∃ y_ : List (List Int), y_ = (x6_1 ++ [t288]) := ⟨_, rfl⟩
        replace H : (impl_groups.l0 k2 l0 x4_2 x5_2 y289 (l0.length : Int) (wrap64 (x20_1 + 1))) = some (r1, r2) := by first | (rw [hy289]; with_reducible exact H) | (have H2_ := (Option.bind_some _ _).symm.trans H; rw [hy289]; with_reducible exact H2_) | (have H2_ := (Option.bind_some _ _).symm.trans H; with_reducible exact H2_) | with_reducible exact H | (rw [hy289]; exact H) | exact H
        have Ny289 := Aside0.mk hy289
        clear hy289
        have H' := Aside0.mk H
        clear H
        obtain ⟨Ao61, co61, eo61⟩ := Kd.R_slice HO_8.out
        subst eo61
        go_wp2_with (first | ((with_reducible refine gate_callee (f := 65) rfl ?_); refine goesL_ (some 85) rfl rfl Tryz.func65 (by kernel_rfl) rfl #[.slice Ao61 x8_2.length co61] rfl ma_ ?_; (with_reducible refine (slices_Sort_int_int.calls (fun k_ => some k_ = (.slice Ao61 x8_2.length co61 : Value).ownBlock) (.slice Ao61 x8_2.length co61) x8_2 t288 w _ ?side1 ?side2 A59.out).mono ?_); (case side1 => repeat (first | (with_reducible first | exact HB.out | apply below_alloc | apply pw_below_drewN | apply below_drew1) | exact HB.out)); (case side2 => exact Kd.R_tight rfl HO_8.out); rintro e w62 ⟨rfl, hy0, hb, hkp⟩; refine ⟨_, rfl, ?_⟩; have n0_ := Aside0.mk (Kd.R_mono (ok' := fun k_ => some k_ ≠ (.slice (some ⟨go20, 0, none⟩) x5_2.length co20 : Value).ownBlock) (Kd.R_keptB ((Kd.R_apart' HO_4.out (Kd.R_typed HO_8.out) (by decide))) hkp (fun k_ hk_ hs_ => (hk_.2) hs_)) (fun k_ hk_ => hk_.1.1)); have n1_ := Aside0.mk (Kd.R_mono (ok' := fun k_ => some k_ ≠ (.slice (some ⟨go18, 0, none⟩) x4_2.length co21 : Value).ownBlock) (Kd.R_keptB ((Kd.R_apart' HO_5.out (Kd.R_typed HO_8.out) (by decide))) hkp (fun k_ hk_ hs_ => (hk_.2) hs_)) (fun k_ hk_ => hk_.1.1)); have n2_ := Aside0.mk (Kd.S_mono (ok' := fun k_ => some k_ ≠ (.slice Ao61 x8_2.length co61 : Value).ownBlock) (Kd.S_keptB (HO_6.out) hkp (fun k_ hk_ hs_ => (hk_) hs_)) (fun k_ hk_ => hk_.1)); have n3_ := Aside0.mk (Kd.R_reok rfl hy0 (fun k_ e_ => HO_8.out.1 k_ e_)); have n4_ := Aside0.mk (hb); clear HO_4; clear HO_5; clear HO_6; clear HO_8; clear HB; have HO_4 := n0_; have HO_5 := n1_; have HO_6 := n2_; have HO_8 := n3_; have HB := n4_; clear n0_ n1_ n2_ n3_ n4_; (try clear hb); (try clear hkp); (try clear hy0)) | ((with_reducible refine gate_builtin (b := .append) (xs := #[.tmp 86, .tmp 88]) rfl ?_); at_builtin; refine Kd.S_append (Kd.slice 3 (Kd.int .i64)) (w0 := w) w.heap.size rfl (.tmp 86) (.tmp 88) 27 36 (.slice none 0 0) 24 rfl Tryz.underlying27 info36 rfl (by decide) (by omega) u6 x6_1 t288 [.slice Ao61 x8_2.length co61] (fun _ => True) (fun k_ => some k_ = (.slice Ao61 x8_2.length co61 : Value).ownBlock) rfl rfl ?aP (fun k_ hk_ => ((Kd.R_mono (ok' := fun k_ => ((fun _ => True)) k_ ∧ some k_ ≠ (u6 : Value).ownBlock) (Kd.R_apart' (HO_8.out) (Kd.S_typed HO_6.out) (by decide)) (fun k_ hk => ⟨trivial, hk.2⟩))).1 k_ hk_.symm) ?aF ?aO ?aB ?aS ?aL ?_; (case aP => exact Kd.M_row (Kd.R_mono (Kd.R_tight rfl (Kd.R_mono (ok' := fun k_ => ((fun _ => True)) k_ ∧ some k_ ≠ (u6 : Value).ownBlock) (Kd.R_apart' (HO_8.out) (Kd.S_typed HO_6.out) (by decide)) (fun k_ hk => ⟨trivial, hk.2⟩))) (fun _ h_ => h_))); (case aB => exact bl_); (case aF => exact (fun _ _ => trivial)); (case aO => exact (by (with_reducible repeat (first | apply Kd.S_alloc | apply Kd.S_drewN | apply Kd.S_drew)); exact Kd.S_mono HO_6.out (fun k_ hk => ⟨trivial, fun e_ => hk e_⟩))); (case aS => exact (below_size bl_)); (case aL => have := LMc60.out; omega); intro v290 w63 ho hb hg hat; rw [← Ny289.out] at ho; have n0_ := Aside0.mk (Kd.R_over' (kr_ <| HO_4.out) (Kd.S_typed (by (with_reducible repeat (first | apply Kd.S_alloc | apply Kd.S_drewN | apply Kd.S_drew)); exact HO_6.out)) (by decide) hg); have n1_ := Aside0.mk (Kd.R_over' (kr_ <| HO_5.out) (Kd.S_typed (by (with_reducible repeat (first | apply Kd.S_alloc | apply Kd.S_drewN | apply Kd.S_drew)); exact HO_6.out)) (by decide) hg); have n2_ := Aside0.mk (hb); have n3_ := Aside0.mk (ho); clear HO_4; clear HO_5; clear HB; clear HO_6; clear HO_8; have HO_4 := n0_; have HO_5 := n1_; have HB := n2_; have HO291 := n3_; clear n0_ n1_ n2_ n3_; clear ho hb hg hat))
        (try simp only [← hl4_2, ← hl5_2])
        go_roundg k2
        case measure => have := HK1.out; have := HK2.out; omega
        case rel => exact ⟨(x4_2), (x5_2), (y289), (wrap64 (x20_1 + 1)), (es_), H', ⟨by have := HK1.out; have := HK2.out; omega⟩, ⟨by (try simp only [hl4_2]); (try simp only [hl5_2]); exact kr_ <| HO_4.out⟩, ⟨by (try simp only [hl4_2]); (try simp only [hl5_2]); exact kr_ <| HO_5.out⟩, ⟨by (try simp only [hl4_2]); (try simp only [hl5_2]); (with_reducible repeat (first | apply Kd.S_alloc | apply Kd.S_drewN | apply Kd.S_drew)); exact HO291.out⟩, ⟨bl_⟩⟩
   ·rw [if_neg c12] at H
    have c12b0 : decide (x20_1 < (l0.length : Int)) = false := decide_eq_false c12
    clear c12
    simp only [Option.some.injEq, Prod.mk.injEq] at H
    obtain ⟨rfl, rfl⟩ := H
    go_wp2
    go_ret2
    exact ⟨_, _, ew_, by (with_reducible repeat (first | apply Kd.S_alloc | apply Kd.S_drewN | apply Kd.S_drew)); exact HO_6.out, by exact kr_ <| Kd.R_mono HO_5.out (fun _ hk => trivial), bl_⟩
def impl_CrossingGroups.f (k : Nat) (a0 : Int) (l1 : List (S44)) : Option ((List (List Int)) × Bool) := (impl_isSet.f k a0 l1).bind fun t304 => (if t304 = true then ((impl_groups.f k l1).bind fun bt305 => (some (bt305.1, true))) else (some (([] : List (List Int)), false)))
theorem impl_CrossingGroups.mono : ∀ a0 a1 k, LeO (impl_CrossingGroups.f k a0 a1) (impl_CrossingGroups.f (k + 1) a0 a1) := by
 intro a0 a1 k
 unfold impl_CrossingGroups.f
 have m0_ := @impl_groups.mono
 have m1_ := @impl_isSet.mono
 exact lo_
theorem impl_CrossingGroups.calls (k : Nat) (a0 : Int) (A1 : Option Addr) (c1 : Nat) (l1 : List (S44)) (r1 : List (List Int)) (r2 : Bool) (w : World) (hr1 : Kd.C k44 w A1 l1.length l1) (hc1 : l1.length ≤ c1) (h : impl_CrossingGroups.f k a0 l1 = some (r1, r2)) :
  Calls Tryz.prog 12 #[.int .i64 a0, .slice A1 l1.length c1] w fun e w' => ∃ v0_ : Value, e = .returned (.tuple #[v0_, .bool r2]) ∧ Kd.S (Kd.slice 3 (Kd.int .i64)) 36 w' w.heap.size (fun _ => True) v0_ r1 ∧ Below w.heap.size w w' := by
 have HR1 := Aside0.mk hr1
 have HC1 := Aside0.mk hc1
 clear hr1 hc1
 have HB := Aside0.mk (Below.refl w.heap.size w)
 have H : ((impl_isSet.f k a0 l1).bind fun t304 => (if t304 = true then ((impl_groups.f k l1).bind fun bt305 => (some (bt305.1, true))) else (some (([] : List (List Int)), false)))) = some (r1, r2) := h
 clear h
 replace H := Option.bind_eq_some_iff.mp H
 obtain ⟨t304, A30, H⟩ := H
 try dsimp only at H
 have A3 := Aside0.mk A30
 clear A30
 by_cases c4 : t304 = true
 ·subst c4
  have H1 : ((impl_groups.f k l1).bind fun bt305 => (some (bt305.1, true))) = some (r1, r2) := by rw [if_pos rfl] at H; exact H
  clear H
  have H := H1
  clear H1
  replace H := Option.bind_eq_some_iff.mp H
  obtain ⟨⟨t305, t306⟩, A50, H⟩ := H
  try dsimp only at H
  have A5 := Aside0.mk A50
  clear A50
  simp only [Option.some.injEq, Prod.mk.injEq] at H
  obtain ⟨rfl, rfl⟩ := H
  go_enter Tryz.func12, Tryz.ntmps12
  go_wp2_with (first | ((with_reducible refine gate_callee (f := 34) rfl ?_); refine goesL_ (some 10) rfl rfl Tryz.func34 (by kernel_rfl) rfl #[.int .i64 a0, .slice A1 l1.length c1] rfl ma_ ?_; (with_reducible refine (impl_isSet.calls k a0 _ _ l1 true _ ?side1 ?side2 A3.out).mono ?_); (case side1 => exact kc_ <| HR1.out); (case side2 => exact HC1.out); rintro e w6 ⟨rfl, hb⟩; refine ⟨_, rfl, ?_⟩; have n0_ := Aside0.mk (below_step bl_ hb); clear HB; have HB := n0_; clear n0_; (try clear hb); (try clear hb2); (try clear hk); (try clear hi)) | ((with_reducible refine gate_callee (f := 39) rfl ?_); refine goesL_ (some 14) rfl rfl Tryz.func39 (by kernel_rfl) rfl #[.slice A1 l1.length c1] rfl ma_ ?_; (with_reducible refine (impl_groups.calls k _ _ l1 t305 t306 _ ?side1 ?side2 A5.out).mono ?_); (case side1 => exact kc_ <| (Kd.C_below HR1.out HB.out)); (case side2 => exact HC1.out); rintro e w7 ⟨v307, v309, rfl, ho0, ho1, hb⟩; refine ⟨_, rfl, ?_⟩; have n0_ := Aside0.mk (Kd.S_lower ho0 (below_size bl_)); have n1_ := Aside0.mk (Kd.R_lower ho1 (below_size bl_)); have n2_ := Aside0.mk (below_step bl_ hb); clear HB; have HO308 := n0_; have HO310 := n1_; have HB := n2_; clear n0_ n1_ n2_; (try clear hb); (try clear hb2); (try clear hk); (try clear hi); (try clear ho0); (try clear ho1)))
  go_ret2
  exact ⟨_, ew_, by (with_reducible repeat (first | apply Kd.S_alloc | apply Kd.S_drewN | apply Kd.S_drew)); exact HO308.out, bl_⟩
 ·replace c4 := Bool.eq_false_iff.mpr c4
  subst c4
  have H1 : (some (([] : List (List Int)), false)) = some (r1, r2) := by rw [if_neg (show ¬ (false = true) by decide)] at H; exact H
  clear H
  have H := H1
  clear H1
  simp only [Option.some.injEq, Prod.mk.injEq] at H
  obtain ⟨rfl, rfl⟩ := H
  go_enter Tryz.func12, Tryz.ntmps12
  go_wp2_with (first | ((with_reducible refine gate_callee (f := 34) rfl ?_); refine goesL_ (some 10) rfl rfl Tryz.func34 (by kernel_rfl) rfl #[.int .i64 a0, .slice A1 l1.length c1] rfl ma_ ?_; (with_reducible refine (impl_isSet.calls k a0 _ _ l1 false _ ?side1 ?side2 A3.out).mono ?_); (case side1 => exact kc_ <| HR1.out); (case side2 => exact HC1.out); rintro e w8 ⟨rfl, hb⟩; refine ⟨_, rfl, ?_⟩; have n0_ := Aside0.mk (below_step bl_ hb); clear HB; have HB := n0_; clear n0_; (try clear hb); (try clear hb2); (try clear hk); (try clear hi)))
  go_ret2
  exact ⟨_, ew_, by first | exact Kd.S_nil _ _ _ _ _ | exact Kd.N_nil _ _ _ _ _ | exact Kd.V_nil _ _ _ _ _ | exact Kd.Q_nil _ _ _ _ _ | exact Kd.R_nil _ _ _ _ _, bl_⟩
mutual
def spec_cdGroups.l0 : Nat → List (S44) → List Int → List Int → Int → Int → Option (List Int × List Int)
 | 0, _, _, _, _, _ => none
 | k + 1, x0, x4, x5, x18, x19 => if x19 < x18 then (if 0 ≤ x19 then (if x19 < (x4.length : Int) then (spec_cdGroups.l0 k x0 (x4.set (x19 : Int).toNat (-1)) x5 x18 (wrap64 (x19 + 1))) else (none)) else (none)) else (spec_cdGroups.l1 k x0 x4 x5 (x0.length : Int) 0)
def spec_cdGroups.l1 : Nat → List (S44) → List Int → List Int → Int → Int → Option (List Int × List Int)
 | 0, _, _, _, _, _ => none
 | k + 1, x0, x4, x5, x27, x28 => if x28 < x27 then (if 0 ≤ x28 then (if x28 < (x4.length : Int) then (if (rd x4 x28) ≥ 0 then (spec_cdGroups.l1 k x0 x4 x5 x27 (wrap64 (x28 + 1))) else (spec_cdGroups.l2 k x0 (x4.set (x28 : Int).toNat x28) x5 x28 (([x28] : List Int)) 0 x27 x28)) else (none)) else (none)) else (some (x4, x5))
def spec_cdGroups.l2 : Nat → List (S44) → List Int → List Int → Int → List Int → Int → Int → Int → Option (List Int × List Int)
 | 0, _, _, _, _, _, _, _, _ => none
 | k + 1, x0, x4, x5, x7, x8, x9, x27, x28 => if x9 < (x8.length : Int) then (spec_cdGroups.l3 k x0 x4 x5 x7 x8 x9 x27 x28 (x0.length : Int) 0) else (spec_cdGroups.l1 k x0 x4 x5 x27 (wrap64 (x28 + 1)))
def spec_cdGroups.l3 : Nat → List (S44) → List Int → List Int → Int → List Int → Int → Int → Int → Int → Int → Option (List Int × List Int)
 | 0, _, _, _, _, _, _, _, _, _, _ => none
 | k + 1, x0, x4, x5, x7, x8, x9, x27, x28, x49, x50 => if x50 < x49 then (if 0 ≤ x50 then (if x50 < (x4.length : Int) then (if (rd x4 x50) < 0 then (if 0 ≤ x9 then (if x9 < (x8.length : Int) then (if 0 ≤ (rd x8 x9) then (if (rd x8 x9) < (x0.length : Int) then (if x50 < (x0.length : Int) then ((spec_srCross.f ((rd_T44 x0 (rd x8 x9)).f0) ((rd_T44 x0 (rd x8 x9)).f1) ((rd_T44 x0 x50).f0) ((rd_T44 x0 x50).f1)).bind fun t327 => (if t327 = true then (if (rd x8 x9) < (x5.length : Int) then (if x50 < (x5.length : Int) then (if x8.length < 17592186044416 then (spec_cdGroups.l3 k x0 (x4.set (x50 : Int).toNat x7) (x5.set (x50 : Int).toNat (wrap64 ((rd x5 (rd x8 x9)) + 1))) x7 (x8 ++ [x50]) x9 x27 x28 x49 (wrap64 (x50 + 1))) else (none)) else (none)) else (none)) else (spec_cdGroups.l3 k x0 x4 x5 x7 x8 x9 x27 x28 x49 (wrap64 (x50 + 1))))) else (none)) else (none)) else (none)) else (none)) else (none)) else (spec_cdGroups.l3 k x0 x4 x5 x7 x8 x9 x27 x28 x49 (wrap64 (x50 + 1)))) else (none)) else (none)) else (spec_cdGroups.l2 k x0 x4 x5 x7 x8 (wrap64 (x9 + 1)) x27 x28)
end
def spec_cdGroups.f (k : Nat) (l0 : List (S44)) : Option (List Int × List Int) := if 0 ≤ (l0.length : Int) then (if ((l0.length : Int) : Int).toNat ≤ 35184372088832 then ((some (List.replicate ((l0.length : Int) : Int).toNat 0 : List Int)).bind fun y311 => (spec_cdGroups.l0 k l0 y311 (List.replicate ((l0.length : Int) : Int).toNat 0) (y311.length : Int) 0)) else (none)) else (none)
theorem spec_cdGroups.mono_l : ∀ k, (∀ y0 y1 y2 y3 y4, LeO (spec_cdGroups.l0 k y0 y1 y2 y3 y4) (spec_cdGroups.l0 (k + 1) y0 y1 y2 y3 y4)) ∧ (∀ y0 y1 y2 y3 y4, LeO (spec_cdGroups.l1 k y0 y1 y2 y3 y4) (spec_cdGroups.l1 (k + 1) y0 y1 y2 y3 y4)) ∧ (∀ y0 y1 y2 y3 y4 y5 y6 y7, LeO (spec_cdGroups.l2 k y0 y1 y2 y3 y4 y5 y6 y7) (spec_cdGroups.l2 (k + 1) y0 y1 y2 y3 y4 y5 y6 y7)) ∧ (∀ y0 y1 y2 y3 y4 y5 y6 y7 y8 y9, LeO (spec_cdGroups.l3 k y0 y1 y2 y3 y4 y5 y6 y7 y8 y9) (spec_cdGroups.l3 (k + 1) y0 y1 y2 y3 y4 y5 y6 y7 y8 y9))
 | 0 => ⟨fun _ _ _ _ _ r h => by simp [spec_cdGroups.l0] at h, fun _ _ _ _ _ r h => by simp [spec_cdGroups.l1] at h, fun _ _ _ _ _ _ _ _ r h => by simp [spec_cdGroups.l2] at h, fun _ _ _ _ _ _ _ _ _ _ r h => by simp [spec_cdGroups.l3] at h⟩
 | k + 1 => by
  obtain ⟨ih0, ih1, ih2, ih3⟩ := spec_cdGroups.mono_l k
  refine ⟨?_, ?_, ?_, ?_⟩
  ·intro y0 y1 y2 y3 y4
   unfold spec_cdGroups.l0
   exact lo_
  ·intro y0 y1 y2 y3 y4
   unfold spec_cdGroups.l1
   exact lo_
  ·intro y0 y1 y2 y3 y4 y5 y6 y7
   unfold spec_cdGroups.l2
   exact lo_
  ·intro y0 y1 y2 y3 y4 y5 y6 y7 y8 y9
   unfold spec_cdGroups.l3
   exact lo_
theorem spec_cdGroups.mono : ∀ a0 k, LeO (spec_cdGroups.f k a0) (spec_cdGroups.f (k + 1) a0) := by
 intro a0 k
 obtain ⟨ih0, ih1, ih2, ih3⟩ := spec_cdGroups.mono_l k
 unfold spec_cdGroups.f
 exact lo_
def spec_cdGroups.T20 : Bool × List (List Nat × List Nat) := (true, [([], []), ([], []), ([0, 1], [0, 1]), ([2], [2]), ([3], [3]), ([4], [4]), ([5], [5]), ([5], [5]), ([5], [5]), ([7, 8, 5], [5, 7, 8]), ([9, 5], [5, 9]), ([6, 10, 5], [5, 6, 10]), ([11, 5], [5, 11]), ([5], [5]), ([5], [5]), ([13, 14, 5], [5, 13, 14]), ([15, 5], [5, 15]), ([12, 16, 5, 5], [5, 12, 16]), ([5, 17], [5, 17])])
def spec_cdGroups.B20 : List Nat := [0, 0, 3, 7, 15, 31, 63, 63, 63, 447, 959, 2047, 4095, 63, 63, 24639, 57407, 131071, 262143]
theorem spec_cdGroups.tab20 : rtab .any (opsOf Tryz.f40 20) = spec_cdGroups.T20 := by kernel_rfl
theorem spec_cdGroups.bits20 : waitsOk spec_cdGroups.T20.2 spec_cdGroups.B20 = true := by kernel_rfl
theorem spec_cdGroups.calls (k : Nat) (A0 : Option Addr) (c0 : Nat) (l0 : List (S44)) (r1 : List Int) (r2 : List Int) (w : World) (hr0 : Kd.C k44 w A0 l0.length l0) (hc0 : l0.length ≤ c0) (h : spec_cdGroups.f k l0 = some (r1, r2)) :
  Calls Tryz.prog 40 #[.slice A0 l0.length c0] w fun e w' => ∃ v0_ v1_ : Value, e = .returned (.tuple #[v0_, v1_]) ∧ Kd.R (Kd.int .i64) 3 w' w.heap.size (fun k_ => some k_ ≠ (v1_ : Value).ownBlock) v0_ r1 ∧ Kd.R (Kd.int .i64) 3 w' w.heap.size (fun k_ => some k_ ≠ (v0_ : Value).ownBlock) v1_ r2 ∧ Below w.heap.size w w' := by
 have hu44 := Tryz.underlying44
 have HR0 := Aside0.mk hr0
 have HC0 := Aside0.mk hc0
 clear hr0 hc0
 have HB := Aside0.mk (Below.refl w.heap.size w)
 have H : (if 0 ≤ (l0.length : Int) then (if ((l0.length : Int) : Int).toNat ≤ 35184372088832 then ((some (List.replicate ((l0.length : Int) : Int).toNat 0 : List Int)).bind fun y311 => (spec_cdGroups.l0 k l0 y311 (List.replicate ((l0.length : Int) : Int).toNat 0) (y311.length : Int) 0)) else (none)) else (none)) = some (r1, r2) := h
 clear h
 by_cases c2 : 0 ≤ (l0.length : Int)
 rotate_left
 ·rw [if_neg c2] at H
  exact absurd H (by simp)
 rw [if_pos c2] at H
 have c2b0 := eq_true c2
 have c2b1 : decide (0 ≤ (l0.length : Int)) = true := decide_eq_true c2
 clear c2
 by_cases c3 : ((l0.length : Int) : Int).toNat ≤ 35184372088832
 rotate_left
 ·rw [if_neg c3] at H
  exact absurd H (by simp)
 rw [if_pos c3] at H
 have c3b0 := eq_true c3
 have c3b1 : decide (((l0.length : Int) : Int).toNat ≤ 35184372088832) = true := decide_eq_true c3
 clear c3
 obtain ⟨y311, hy311⟩ : ∃ y_ : List Int, y_ = (List.replicate ((l0.length : Int) : Int).toNat 0) := ⟨_, rfl⟩
 replace H : (spec_cdGroups.l0 k l0 y311 (List.replicate ((l0.length : Int) : Int).toNat 0) (y311.length : Int) 0) = some (r1, r2) := by first | (rw [hy311]; with_reducible exact H) | (have H2_ := (Option.bind_some _ _).symm.trans H; rw [hy311]; with_reducible exact H2_) | (have H2_ := (Option.bind_some _ _).symm.trans H; with_reducible exact H2_) | with_reducible exact H | (rw [hy311]; exact H) | exact H
 have Ny311 := Aside0.mk hy311
 clear hy311
 obtain ⟨y314, hy314⟩ : ∃ y_ : List Int, y_ = (List.replicate ((l0.length : Int) : Int).toNat 0) := ⟨_, rfl⟩
 replace H : (spec_cdGroups.l0 k l0 y311 y314 (y311.length : Int) 0) = some (r1, r2) := by first | (rw [hy314]; with_reducible exact H) | (have H2_ := (Option.bind_some _ _).symm.trans H; rw [hy314]; with_reducible exact H2_) | (have H2_ := (Option.bind_some _ _).symm.trans H; with_reducible exact H2_) | with_reducible exact H | (rw [hy314]; exact H) | exact H
 have Ny314 := Aside0.mk hy314
 clear hy314
 have H' := Aside0.mk H
 clear H
 go_enter Tryz.func40, Tryz.ntmps40
 go_wp2_with (first | ((with_reducible refine gate_dst (N := 13) rfl ?_); refine Kd.R_make (Kd.int .i64) _ 3 rfl (N := 13) rfl 36 _ _ rfl (l0.length : Int) rfl rfl Tryz.underlying36 (.int .i64 0) 8 info3 rfl (by decide) (by omega) 0 (ok := fun _ => True) (okp := fun _ => True) rfl (fun _ hk => hk) trivial (od_) (Nat.le_trans (Nat.mul_le_mul_right _ (od_ : (l0.length : Int).toNat ≤ 35184372088832)) (by omega)) (Below.refl _ _) (Nat.le_refl _) ?_; intro v312 w4 ho5 hb hg_ hnew_; clear hg_ hnew_; (first | rw [← Ny311.out] at ho5 | (simp only [Int.reduceToNat] at ho5; rw [← Ny311.out] at ho5)); have n0_ := Aside0.mk (Kd.R_lower ho5 (below_size bl_)); have n1_ := Aside0.mk (below_step bl_ hb); clear HB; have HO313 := n0_; have HB := n1_; clear n0_ n1_; clear hb ho5) | ((with_reducible refine gate_dst (N := 16) rfl ?_); refine Kd.R_make (Kd.int .i64) _ 3 rfl (N := 16) rfl 36 _ _ rfl (l0.length : Int) rfl rfl Tryz.underlying36 (.int .i64 0) 8 info3 rfl (by decide) (by omega) 0 (ok := fun _ => True) (okp := fun _ => True) rfl (fun _ hk => hk) trivial (od_) (Nat.le_trans (Nat.mul_le_mul_right _ (od_ : (l0.length : Int).toNat ≤ 35184372088832)) (by omega)) (Below.refl _ _) (Nat.le_refl _) ?_; intro v315 w6 ho7 hb hg_ hnew_; clear hg_ hnew_; (first | rw [← Ny314.out] at ho7 | (simp only [Int.reduceToNat] at ho7; rw [← Ny314.out] at ho7)); have n0_ := Aside0.mk (Kd.R_elder' (kr_ <| HO313.out) (Kd.R_base ho7) hb); have n1_ := Aside0.mk (Kd.R_lower (Kd.R_new' ho7 (Kd.R_lt (kr_ <| HO313.out))) (below_size bl_)); have n2_ := Aside0.mk (below_step bl_ hb); clear HO313; clear HB; have HO313 := n0_; have HO316 := n1_; have HB := n2_; clear n0_ n1_ n2_; clear hb ho7; obtain ⟨Ao8, co8, eo8⟩ := Kd.R_slice HO313.out; subst eo8))
 go_loopg [19] k (fun kq v19 w' => ∃ (x4_1 : List Int) (x19_1 : Int), v19 = .int .i64 x19_1 ∧ Aside0 (spec_cdGroups.l0 kq l0 x4_1 y314 (y311.length : Int) x19_1 = some (r1, r2)) ∧ Aside0 (kq ≤ k) ∧ Aside0 (Kd.R (Kd.int .i64) 3 w' w.heap.size (fun k_ => some k_ ≠ (v315 : Value).ownBlock) (.slice Ao8 y311.length co8) x4_1) ∧ Aside0 (Kd.R (Kd.int .i64) 3 w' w.heap.size (fun k_ => some k_ ≠ ((.slice Ao8 y311.length co8) : Value).ownBlock) v315 y314) ∧ Aside0 (Below w.heap.size w w'))
 case atStart => exact ⟨(y311), (0), (es_), H', ⟨Nat.le_refl _⟩, ⟨by exact kr_ <| Kd.R_mono HO313.out (fun _ hk => hk.2)⟩, ⟨by exact kr_ <| Kd.R_mono HO316.out (fun _ hk => hk.2)⟩, ⟨bl_⟩⟩
 case round =>
  clear H'
  try clear c2
  try clear c2b0
  try clear c2b1
  try clear p2
  try clear c3
  try clear c3b0
  try clear c3b1
  try clear c4
  obtain ⟨x4_1, x19_1, rfl, HA, HK1, HO_4, HO_5, HB⟩ := hrel
  have hl4_1 := (Kd.R_reads' HO_4.out).1
  rw [hl4_1] at HO_4
  (try simp only [hl4_1])
  (try simp only [hl4_1] at HO_5)
  cases gk with
  | zero => exact absurd HA.out (by simp [spec_cdGroups.l0])
  | succ k1 =>
   have H := HA.out
   clear HA
   simp only [spec_cdGroups.l0] at H
   by_cases c9 : x19_1 < (y311.length : Int)
   ·rw [if_pos c9] at H
    have c9b0 : decide (x19_1 < (y311.length : Int)) = true := decide_eq_true c9
    clear c9
    by_cases c10 : 0 ≤ x19_1
    rotate_left
    ·rw [if_neg c10] at H
     exact absurd H (by simp)
    rw [if_pos c10] at H
    have c10b0 : decide (0 ≤ x19_1) = true := decide_eq_true c10
    clear c10
    by_cases c11 : x19_1 < (x4_1.length : Int)
    rotate_left
    ·rw [if_neg c11] at H
     exact absurd H (by simp)
    rw [if_pos c11] at H
    have c11b0 : decide (x19_1 < (x4_1.length : Int)) = true := decide_eq_true c11
    clear c11
    obtain ⟨y317, hy317⟩ : ∃ y_ : List Int, y_ = (x4_1.set (x19_1 : Int).toNat (-1)) := ⟨_, rfl⟩
    replace H : (spec_cdGroups.l0 k1 l0 y317 y314 (y311.length : Int) (wrap64 (x19_1 + 1))) = some (r1, r2) := by first | (rw [hy317]; with_reducible exact H) | (have H2_ := (Option.bind_some _ _).symm.trans H; rw [hy317]; with_reducible exact H2_) | (have H2_ := (Option.bind_some _ _).symm.trans H; with_reducible exact H2_) | with_reducible exact H | (rw [hy317]; exact H) | exact H
    have Ny317 := Aside0.mk hy317
    clear hy317
    have H' := Aside0.mk H
    clear H
    have p12 : 0 ≤ (x19_1 : Int) := od_
    have q12 : (x19_1 : Int) < ((x4_1.length : Int) : Int) := od_
    obtain ⟨go12, co12, eo12, gb12, gl12, cl12, HG12⟩ := Kd.R_form HO_4.out (by omega)
    (first | cases eo12 | (injection eo12 with ea_ en_ ec_; (first | subst ea_ | (injection ea_ with ea_; subst ea_)); subst ec_; clear en_))
    have GB12 := Aside0.mk gb12
    have GG12 := Aside0.mk HG12
    clear gb12 gl12 HG12
    obtain ⟨hx12_0, hf12_0⟩ := Kd.R_celln 0 HO_4.out (x19_1 : Int) p12 q12
    replace p12 := eq_true p12
    replace q12 := eq_true q12
    have HP13 := Kd.R_putg HO_4.out (x19_1 : Int) (-1)
    go_wp2_with (first | ((with_reducible refine gate_store (t := 3) (p := 24) rfl ?_); refine store_event (t := 3) (p := 24) (v := ?vo_w14) (w1 := (wr.setCell ⟨go12, (x19_1 : Int).toNat, none⟩ (.int .i64 (-1)))) ?hg ?ho ?hn ?hr ?_; (case ho => rfl); (case hg => rfl); (case hn => rfl); (case hr => first | (go_simp; done) | (go_simp; rfl)); intro w14 hw; have hg : wr.grownBy w14 (some go12) := (by rw [hw]; exact HP13.2); have hp_ : Kd.R (Kd.int .i64) 3 w14 w.heap.size (fun k_ => some k_ ≠ (v315 : Value).ownBlock) (.slice (some ⟨go12, 0, none⟩) x4_1.length co8) y317 := (by rw [hw, Ny317.out]; exact HP13.1); clear HP13; have n0_ := Aside0.mk (hp_); have n1_ := Aside0.mk (Kd.R_after (v := (.slice (some ⟨go12, 0, none⟩) x4_1.length co8)) (v1 := (.slice (some ⟨go12, 0, none⟩) x4_1.length co8)) (ok := (fun _ => True)) (kr_ <| Kd.R_mono HO_5.out (fun _ hk => ⟨trivial, hk⟩)) hg (.inl rfl)); have n2_ := Aside0.mk ((by rw [hw]; exact below_set (HB.out) GB12.out : Below w.heap.size w w14)); clear HO_4; clear HO_5; clear HB; have HO_4 := n0_; have HO_5 := n1_; have HB := n2_; clear n0_ n1_ n2_; clear hg hw hp_))
    (try simp only [← hl4_1])
    go_roundg k1
    case measure => have := HK1.out; omega
    case rel => exact ⟨(y317), (wrap64 (x19_1 + 1)), (es_), H', ⟨by have := HK1.out; omega⟩, ⟨by (try simp only [hl4_1]); exact kr_ <| HO_4.out⟩, ⟨by (try simp only [hl4_1]); exact kr_ <| Kd.R_mono HO_5.out (fun _ hk => hk.2)⟩, ⟨bl_⟩⟩
   ·rw [if_neg c9] at H
    have c9b0 : decide (x19_1 < (y311.length : Int)) = false := decide_eq_false c9
    (try rw [hl4_1] at c9b0)
    clear c9
    have H' := Aside0.mk H
    clear H
    go_wp2
    go_loopg [28] k1 (fun kq v28 w' => ∃ (x4_2 : List Int) (x5_2 : List Int) (x28_2 : Int), v28 = .int .i64 x28_2 ∧ Aside0 (spec_cdGroups.l1 kq l0 x4_2 x5_2 (l0.length : Int) x28_2 = some (r1, r2)) ∧ Aside0 (kq ≤ k1) ∧ Aside0 (Kd.R (Kd.int .i64) 3 w' w.heap.size (fun k_ => some k_ ≠ (v315 : Value).ownBlock) (.slice Ao8 x4_1.length co8) x4_2) ∧ Aside0 (Kd.R (Kd.int .i64) 3 w' w.heap.size (fun k_ => some k_ ≠ ((.slice Ao8 x4_1.length co8) : Value).ownBlock) v315 x5_2) ∧ Aside0 (Below w.heap.size w w'))
    case atStart => exact ⟨(x4_1), (y314), (0), (es_), H', ⟨Nat.le_refl _⟩, ⟨by (try simp only [hl4_1]); exact kr_ <| HO_4.out⟩, ⟨by (try simp only [hl4_1]); exact kr_ <| HO_5.out⟩, ⟨bl_⟩⟩
    case round =>
     clear H'
     try clear c1
     try clear p1
     try clear q1
     try clear hx1
     try clear hf1
     try clear c2
     try clear c2b0
     try clear c2b1
     try clear p2
     try clear c3
     try clear c3b0
     try clear c3b1
     try clear c4
     try clear p6
     try clear c9
     try clear c9b0
     try clear c10
     try clear c10b0
     try clear c11
     try clear c11b0
     try clear p12
     try clear q12
     try clear hx12
     try clear hf12
     try clear hx12_0
     try clear p12
     try clear p2
     try clear q12
     obtain ⟨x4_2, x5_2, x28_2, rfl, HA, HK2, HO_4, HO_5, HB⟩ := hrel
     have hl4_2 := (Kd.R_reads' HO_4.out).1
     rw [hl4_2] at HO_4
     (try simp only [hl4_2])
     (try simp only [hl4_2] at HO_5)
     cases gk with
     | zero => exact absurd HA.out (by simp [spec_cdGroups.l1])
     | succ k2 =>
      have H := HA.out
      clear HA
      simp only [spec_cdGroups.l1] at H
      by_cases c15 : x28_2 < (l0.length : Int)
      ·rw [if_pos c15] at H
       have c15b0 : decide (x28_2 < (l0.length : Int)) = true := decide_eq_true c15
       clear c15
       by_cases c16 : 0 ≤ x28_2
       rotate_left
       ·rw [if_neg c16] at H
        exact absurd H (by simp)
       rw [if_pos c16] at H
       have c16b0 : decide (0 ≤ x28_2) = true := decide_eq_true c16
       clear c16
       by_cases c17 : x28_2 < (x4_2.length : Int)
       rotate_left
       ·rw [if_neg c17] at H
        exact absurd H (by simp)
       rw [if_pos c17] at H
       have c17b0 : decide (x28_2 < (x4_2.length : Int)) = true := decide_eq_true c17
       clear c17
       by_cases c18 : (rd x4_2 x28_2) ≥ 0
       ·rw [if_pos c18] at H
        have c18b0 : decide (0 ≤ (rd x4_2 x28_2)) = true := decide_eq_true c18
        clear c18
        have H' := Aside0.mk H
        clear H
        have p318 : 0 ≤ (x28_2 : Int) := od_
        have q318 : x28_2 < (x4_2.length : Int) := od_
        obtain ⟨ad318, e318, hx318_0⟩ := Kd.at_int (Kd.R_reads' HO_4.out).2.2 x28_2 p318 q318
        cases e318
        replace p318 := eq_true p318
        replace q318 := eq_true q318
        go_wp2
        (try simp only [← hl4_2])
        go_roundg k2
        case measure => have := HK1.out; have := HK2.out; omega
        case rel => exact ⟨(x4_2), (x5_2), (wrap64 (x28_2 + 1)), (es_), H', ⟨by have := HK1.out; have := HK2.out; omega⟩, ⟨by (try simp only [hl4_1]); (try simp only [hl4_2]); exact kr_ <| HO_4.out⟩, ⟨by (try simp only [hl4_1]); (try simp only [hl4_2]); exact kr_ <| HO_5.out⟩, ⟨bl_⟩⟩
       ·rw [if_neg c18] at H
        have c18b0 : decide (0 ≤ (rd x4_2 x28_2)) = false := decide_eq_false c18
        clear c18
        obtain ⟨y319, hy319⟩ : ∃ y_ : List Int, y_ = (x4_2.set (x28_2 : Int).toNat x28_2) := ⟨_, rfl⟩
        replace H : (spec_cdGroups.l2 k2 l0 y319 x5_2 x28_2 (([x28_2] : List Int)) 0 (l0.length : Int) x28_2) = some (r1, r2) := by first | (rw [hy319]; with_reducible exact H) | (have H2_ := (Option.bind_some _ _).symm.trans H; rw [hy319]; with_reducible exact H2_) | (have H2_ := (Option.bind_some _ _).symm.trans H; with_reducible exact H2_) | with_reducible exact H | (rw [hy319]; exact H) | exact H
        have Ny319 := Aside0.mk hy319
        clear hy319
        obtain ⟨y320, hy320⟩ : ∃ y_ : List Int, y_ = (([x28_2] : List Int)) := ⟨_, rfl⟩
        replace H : (spec_cdGroups.l2 k2 l0 y319 x5_2 x28_2 y320 0 (l0.length : Int) x28_2) = some (r1, r2) := by first | (rw [hy320]; with_reducible exact H) | (have H2_ := (Option.bind_some _ _).symm.trans H; rw [hy320]; with_reducible exact H2_) | (have H2_ := (Option.bind_some _ _).symm.trans H; with_reducible exact H2_) | with_reducible exact H | (rw [hy320]; exact H) | exact H
        have Ny320 := Aside0.mk hy320
        clear hy320
        have H' := Aside0.mk H
        clear H
        have p318 : 0 ≤ (x28_2 : Int) := od_
        have q318 : x28_2 < (x4_2.length : Int) := od_
        obtain ⟨ad318, e318, hx318_0⟩ := Kd.at_int (Kd.R_reads' HO_4.out).2.2 x28_2 p318 q318
        cases e318
        replace p318 := eq_true p318
        replace q318 := eq_true q318
        have p19 : 0 ≤ (x28_2 : Int) := od_
        have q19 : (x28_2 : Int) < ((x4_2.length : Int) : Int) := od_
        obtain ⟨go19, co19, eo19, gb19, gl19, cl19, HG19⟩ := Kd.R_form HO_4.out (by omega)
        (first | cases eo19 | (injection eo19 with ea_ en_ ec_; (first | subst ea_ | (injection ea_ with ea_; subst ea_)); subst ec_; clear en_))
        have GB19 := Aside0.mk gb19
        have GG19 := Aside0.mk HG19
        clear gb19 gl19 HG19
        (first | simp only [add_plain] at hx318_0 | skip)
        obtain ⟨hx19_0, hf19_0⟩ := Kd.R_celln 0 HO_4.out (x28_2 : Int) p19 q19
        replace p19 := eq_true p19
        replace q19 := eq_true q19
        have HP20 := Kd.R_putg HO_4.out (x28_2 : Int) x28_2
        go_wp2_with (first | ((with_reducible refine gate_store (t := 3) (p := 39) rfl ?_); refine store_event (t := 3) (p := 39) (v := ?vo_w21) (w1 := (wr.setCell ⟨go19, (x28_2 : Int).toNat, none⟩ (.int .i64 x28_2))) ?hg ?ho ?hn ?hr ?_; (case ho => rfl); (case hg => rfl); (case hn => rfl); (case hr => first | (go_simp; done) | (go_simp; rfl)); intro w21 hw; have hg : wr.grownBy w21 (some go19) := (by rw [hw]; exact HP20.2); have hp_ : Kd.R (Kd.int .i64) 3 w21 w.heap.size (fun k_ => some k_ ≠ (v315 : Value).ownBlock) (.slice (some ⟨go19, 0, none⟩) x4_2.length co8) y319 := (by rw [hw, Ny319.out]; exact HP20.1); clear HP20; have n0_ := Aside0.mk (hp_); have n1_ := Aside0.mk (Kd.R_after (v := (.slice (some ⟨go19, 0, none⟩) x4_2.length co8)) (v1 := (.slice (some ⟨go19, 0, none⟩) x4_2.length co8)) (ok := (fun _ => True)) (kr_ <| Kd.R_mono HO_5.out (fun _ hk => ⟨trivial, hk⟩)) hg (.inl rfl)); have n2_ := Aside0.mk ((by rw [hw]; exact below_set (HB.out) GB19.out : Below w.heap.size w w21)); clear HO_4; clear HO_5; clear HB; have HO_4 := n0_; have HO_5 := n1_; have HB := n2_; clear n0_ n1_ n2_; clear hg hw hp_) | ((with_reducible refine gate_dst (N := 41) rfl ?_); refine Kd.R_lit (Kd.int .i64) _ 3 ?hg (N := 41) ?hd (xs := ([x28_2] : List Int)) (inner := [.int .i64 x28_2]) (ok := fun _ => True) (okp := fun _ => True) ?hr ?hp (fun _ hk => hk) trivial (Below.refl _ _) (Nat.le_refl _) (by simp) ?_; (case hd => rfl); (case hg => rfl); (case hr => first | (go_simp; done) | (go_simp; rfl)); (case hp => exact (Reps.one (show Kd.M (Kd.int .i64) _ _ _ x28_2 [.int .i64 x28_2] from rfl) (Reps.none _ _))); intro v321 w22 ho23 hb hg_ hnew_; clear hg_ hnew_; (first | rw [← Ny320.out] at ho23 | (simp only [Int.reduceToNat] at ho23; rw [← Ny320.out] at ho23)); have n0_ := Aside0.mk (Kd.R_elder' (kr_ <| HO_4.out) (Kd.R_base ho23) hb); have n1_ := Aside0.mk (Kd.R_elder' (kr_ <| HO_5.out) (Kd.R_base ho23) hb); have n2_ := Aside0.mk (Kd.R_lower (Kd.R_new' (Kd.R_new' ho23 (Kd.R_lt (kr_ <| HO_4.out))) (Kd.R_lt (kr_ <| HO_5.out))) (below_size bl_)); have n3_ := Aside0.mk (below_step bl_ hb); clear HO_4; clear HO_5; clear HB; have HO_4 := n0_; have HO_5 := n1_; have HO322 := n2_; have HB := n3_; clear n0_ n1_ n2_ n3_; clear hb ho23))
        go_loopg [8, 9] k2 (fun kq v8 v9 w' => ∃ (x4_3 : List Int) (x5_3 : List Int) (x8_3 : List Int) (x9_3 : Int), v9 = .int .i64 x9_3 ∧ Aside0 (spec_cdGroups.l2 kq l0 x4_3 x5_3 x28_2 x8_3 x9_3 (l0.length : Int) x28_2 = some (r1, r2)) ∧ Aside0 (kq ≤ k2) ∧ Aside0 (Kd.R (Kd.int .i64) 3 w' w.heap.size (fun k_ => some k_ ≠ (v315 : Value).ownBlock ∧ some k_ ≠ (v8 : Value).ownBlock) (.slice (some ⟨go19, 0, none⟩) x4_2.length co8) x4_3) ∧ Aside0 (Kd.R (Kd.int .i64) 3 w' w.heap.size (fun k_ => some k_ ≠ ((.slice (some ⟨go19, 0, none⟩) x4_2.length co8) : Value).ownBlock ∧ some k_ ≠ (v8 : Value).ownBlock) v315 x5_3) ∧ Aside0 (Kd.R (Kd.int .i64) 3 w' w.heap.size (fun k_ => some k_ ≠ ((.slice (some ⟨go19, 0, none⟩) x4_2.length co8) : Value).ownBlock ∧ some k_ ≠ (v315 : Value).ownBlock) v8 x8_3) ∧ Aside0 (Below w.heap.size w w'))
        case atStart => exact ⟨(y319), (x5_2), (y320), (0), (es_), H', ⟨Nat.le_refl _⟩, ⟨by (try simp only [hl4_1]); (try simp only [hl4_2]); exact kr_ <| HO_4.out⟩, ⟨by (try simp only [hl4_1]); (try simp only [hl4_2]); exact kr_ <| Kd.R_mono HO_5.out (fun _ hk => ⟨hk.1.2, hk.2⟩)⟩, ⟨by (try simp only [hl4_1]); (try simp only [hl4_2]); exact kr_ <| Kd.R_mono HO322.out (fun _ hk => ⟨hk.1.2, hk.2⟩)⟩, ⟨bl_⟩⟩
        case round =>
         clear H'
         try clear c1
         try clear p1
         try clear q1
         try clear hx1
         try clear hf1
         try clear c2
         try clear c2b0
         try clear c2b1
         try clear p2
         try clear c3
         try clear c3b0
         try clear c3b1
         try clear p3
         try clear q3
         try clear hx3
         try clear c4
         try clear p6
         try clear c9
         try clear c9b0
         try clear c10
         try clear c10b0
         try clear c11
         try clear c11b0
         try clear p12
         try clear q12
         try clear hx12
         try clear hf12
         try clear c15
         try clear c15b0
         try clear c16
         try clear c16b0
         try clear c17
         try clear c17b0
         try clear c18
         try clear c18b0
         try clear p19
         try clear q19
         try clear hx19
         try clear hf19
         try clear hx12_0
         try clear hx19_0
         try clear hx318_0
         try clear p1
         try clear p12
         try clear p19
         try clear p2
         try clear p318
         try clear p6
         try clear q1
         try clear q12
         try clear q19
         try clear q318
         obtain ⟨x4_3, x5_3, x8_3, x9_3, rfl, HA, HK3, HO_4, HO_5, HO_8, HB⟩ := hrel
         have hl4_3 := (Kd.R_reads' HO_4.out).1
         rw [hl4_3] at HO_4
         (try simp only [hl4_3])
         (try simp only [hl4_3] at HO_5)
         (try simp only [hl4_3] at HO_8)
         cases gk with
         | zero => exact absurd HA.out (by simp [spec_cdGroups.l2])
         | succ k3 =>
          have H := HA.out
          clear HA
          simp only [spec_cdGroups.l2] at H
          by_cases c24 : x9_3 < (x8_3.length : Int)
          ·rw [if_pos c24] at H
           have c24b0 : decide (x9_3 < (x8_3.length : Int)) = true := decide_eq_true c24
           clear c24
           have H' := Aside0.mk H
           clear H
           obtain ⟨Ao25, co25, eo25⟩ := Kd.R_slice HO_8.out
           subst eo25
           go_wp2
           go_loopg [8, 50] k3 (fun kq v8 v50 w' => ∃ (x4_4 : List Int) (x5_4 : List Int) (x8_4 : List Int) (x50_4 : Int), v50 = .int .i64 x50_4 ∧ Aside0 (spec_cdGroups.l3 kq l0 x4_4 x5_4 x28_2 x8_4 x9_3 (l0.length : Int) x28_2 (l0.length : Int) x50_4 = some (r1, r2)) ∧ Aside0 (kq ≤ k3) ∧ Aside0 (Kd.R (Kd.int .i64) 3 w' w.heap.size (fun k_ => some k_ ≠ (v315 : Value).ownBlock ∧ some k_ ≠ (v8 : Value).ownBlock) (.slice (some ⟨go19, 0, none⟩) x4_3.length co8) x4_4) ∧ Aside0 (Kd.R (Kd.int .i64) 3 w' w.heap.size (fun k_ => some k_ ≠ ((.slice (some ⟨go19, 0, none⟩) x4_3.length co8) : Value).ownBlock ∧ some k_ ≠ (v8 : Value).ownBlock) v315 x5_4) ∧ Aside0 (Kd.R (Kd.int .i64) 3 w' w.heap.size (fun k_ => some k_ ≠ ((.slice (some ⟨go19, 0, none⟩) x4_3.length co8) : Value).ownBlock ∧ some k_ ≠ (v315 : Value).ownBlock) v8 x8_4) ∧ Aside0 (Below w.heap.size w w'))
           case atStart => exact ⟨(x4_3), (x5_3), (x8_3), (0), (es_), H', ⟨Nat.le_refl _⟩, ⟨by (try simp only [hl4_1]); (try simp only [hl4_2]); (try simp only [hl4_3]); exact kr_ <| HO_4.out⟩, ⟨by (try simp only [hl4_1]); (try simp only [hl4_2]); (try simp only [hl4_3]); exact kr_ <| HO_5.out⟩, ⟨by (try simp only [hl4_1]); (try simp only [hl4_2]); (try simp only [hl4_3]); exact kr_ <| HO_8.out⟩, ⟨bl_⟩⟩
           case round =>
            clear H'
            try clear c1
            try clear p1
            try clear q1
            try clear hx1
            try clear hf1
            try clear c2
            try clear c2b0
            try clear c2b1
            try clear p2
            try clear c3
            try clear c3b0
            try clear c3b1
            try clear p3
            try clear q3
            try clear hx3
            try clear c4
            try clear p6
            try clear c9
            try clear c9b0
            try clear c10
            try clear c10b0
            try clear c11
            try clear c11b0
            try clear p12
            try clear q12
            try clear hx12
            try clear hf12
            try clear c15
            try clear c15b0
            try clear c16
            try clear c16b0
            try clear c17
            try clear c17b0
            try clear c18
            try clear c18b0
            try clear p19
            try clear q19
            try clear hx19
            try clear hf19
            try clear c24
            try clear c24b0
            try clear hx12_0
            try clear hx19_0
            try clear hx318_0
            try clear p1
            try clear p12
            try clear p19
            try clear p2
            try clear p3
            try clear p318
            try clear p6
            try clear q1
            try clear q12
            try clear q19
            try clear q3
            try clear q318
            obtain ⟨x4_4, x5_4, x8_4, x50_4, rfl, HA, HK4, HO_4, HO_5, HO_8, HB⟩ := hrel
            have hl4_4 := (Kd.R_reads' HO_4.out).1
            rw [hl4_4] at HO_4
            (try simp only [hl4_4])
            (try simp only [hl4_4] at HO_5)
            (try simp only [hl4_4] at HO_8)
            cases gk with
            | zero => exact absurd HA.out (by simp [spec_cdGroups.l3])
            | succ k4 =>
             have H := HA.out
             clear HA
             simp only [spec_cdGroups.l3] at H
             by_cases c26 : x50_4 < (l0.length : Int)
             ·rw [if_pos c26] at H
              have c26b0 : decide (x50_4 < (l0.length : Int)) = true := decide_eq_true c26
              clear c26
              by_cases c27 : 0 ≤ x50_4
              rotate_left
              ·rw [if_neg c27] at H
               exact absurd H (by simp)
              rw [if_pos c27] at H
              have c27b0 : decide (0 ≤ x50_4) = true := decide_eq_true c27
              clear c27
              by_cases c28 : x50_4 < (x4_4.length : Int)
              rotate_left
              ·rw [if_neg c28] at H
               exact absurd H (by simp)
              rw [if_pos c28] at H
              have c28b0 : decide (x50_4 < (x4_4.length : Int)) = true := decide_eq_true c28
              clear c28
              by_cases c29 : (rd x4_4 x50_4) < 0
              ·rw [if_pos c29] at H
               have c29b0 : decide ((rd x4_4 x50_4) < 0) = true := decide_eq_true c29
               clear c29
               by_cases c30 : 0 ≤ x9_3
               rotate_left
               ·rw [if_neg c30] at H
                exact absurd H (by simp)
               rw [if_pos c30] at H
               have c30b0 : decide (0 ≤ x9_3) = true := decide_eq_true c30
               clear c30
               by_cases c31 : x9_3 < (x8_4.length : Int)
               rotate_left
               ·rw [if_neg c31] at H
                exact absurd H (by simp)
               rw [if_pos c31] at H
               have c31b0 : decide (x9_3 < (x8_4.length : Int)) = true := decide_eq_true c31
               clear c31
               by_cases c32 : 0 ≤ (rd x8_4 x9_3)
               rotate_left
               ·rw [if_neg c32] at H
                exact absurd H (by simp)
               rw [if_pos c32] at H
               have c32b0 : decide (0 ≤ (rd x8_4 x9_3)) = true := decide_eq_true c32
               clear c32
               by_cases c33 : (rd x8_4 x9_3) < (l0.length : Int)
               rotate_left
               ·rw [if_neg c33] at H
                exact absurd H (by simp)
               rw [if_pos c33] at H
               have c33b0 : decide ((rd x8_4 x9_3) < (l0.length : Int)) = true := decide_eq_true c33
               clear c33
               by_cases c34 : x50_4 < (l0.length : Int)
               rotate_left
               ·rw [if_neg c34] at H
                exact absurd H (by simp)
               rw [if_pos c34] at H
               have c34b0 : decide (x50_4 < (l0.length : Int)) = true := decide_eq_true c34
               clear c34
               replace H := Option.bind_eq_some_iff.mp H
               obtain ⟨t327, A350, H⟩ := H
               try dsimp only at H
               have A35 := Aside0.mk A350
               clear A350
               by_cases c36 : t327 = true
               ·subst c36
                have H1 : (if (rd x8_4 x9_3) < (x5_4.length : Int) then (if x50_4 < (x5_4.length : Int) then (if x8_4.length < 17592186044416 then (spec_cdGroups.l3 k4 l0 (x4_4.set (x50_4 : Int).toNat x28_2) (x5_4.set (x50_4 : Int).toNat (wrap64 ((rd x5_4 (rd x8_4 x9_3)) + 1))) x28_2 (x8_4 ++ [x50_4]) x9_3 (l0.length : Int) x28_2 (l0.length : Int) (wrap64 (x50_4 + 1))) else (none)) else (none)) else (none)) = some (r1, r2) := by rw [if_pos rfl] at H; exact H
                clear H
                have H := H1
                clear H1
                obtain ⟨y328, hy328⟩ : ∃ y_ : List Int, y_ = (x4_4.set (x50_4 : Int).toNat x28_2) := ⟨_, rfl⟩
                replace H : (if (rd x8_4 x9_3) < (x5_4.length : Int) then (if x50_4 < (x5_4.length : Int) then (if x8_4.length < 17592186044416 then (spec_cdGroups.l3 k4 l0 y328 (x5_4.set (x50_4 : Int).toNat (wrap64 ((rd x5_4 (rd x8_4 x9_3)) + 1))) x28_2 (x8_4 ++ [x50_4]) x9_3 (l0.length : Int) x28_2 (l0.length : Int) (wrap64 (x50_4 + 1))) else (none)) else (none)) else (none)) = some (r1, r2) := by first | (rw [hy328]; with_reducible exact H) | (have H2_ := (Option.bind_some _ _).symm.trans H; rw [hy328]; with_reducible exact H2_) | (have H2_ := (Option.bind_some _ _).symm.trans H; with_reducible exact H2_) | with_reducible exact H | (rw [hy328]; exact H) | exact H
                have Ny328 := Aside0.mk hy328
                clear hy328
                by_cases c38 : (rd x8_4 x9_3) < (x5_4.length : Int)
                rotate_left
                ·rw [if_neg c38] at H
                 exact absurd H (by simp)
                rw [if_pos c38] at H
                have c38b0 : decide ((rd x8_4 x9_3) < (x5_4.length : Int)) = true := decide_eq_true c38
                clear c38
                by_cases c39 : x50_4 < (x5_4.length : Int)
                rotate_left
                ·rw [if_neg c39] at H
                 exact absurd H (by simp)
                rw [if_pos c39] at H
                have c39b0 : decide (x50_4 < (x5_4.length : Int)) = true := decide_eq_true c39
                clear c39
                obtain ⟨y331, hy331⟩ : ∃ y_ : List Int, y_ = (x5_4.set (x50_4 : Int).toNat (wrap64 ((rd x5_4 (rd x8_4 x9_3)) + 1))) := ⟨_, rfl⟩
                replace H : (if x8_4.length < 17592186044416 then (spec_cdGroups.l3 k4 l0 y328 y331 x28_2 (x8_4 ++ [x50_4]) x9_3 (l0.length : Int) x28_2 (l0.length : Int) (wrap64 (x50_4 + 1))) else (none)) = some (r1, r2) := by first | (rw [hy331]; with_reducible exact H) | (have H2_ := (Option.bind_some _ _).symm.trans H; rw [hy331]; with_reducible exact H2_) | (have H2_ := (Option.bind_some _ _).symm.trans H; with_reducible exact H2_) | with_reducible exact H | (rw [hy331]; exact H) | exact H
                have Ny331 := Aside0.mk hy331
                clear hy331
                by_cases c41 : x8_4.length < 17592186044416
                rotate_left
                ·rw [if_neg c41] at H
                 exact absurd H (by simp)
                rw [if_pos c41] at H
                have LMc41 := Aside0.mk c41
                clear c41
                obtain ⟨y332, hy332⟩ : ∃ y_ : List Int, y_ = (x8_4 ++ [x50_4]) := ⟨_, rfl⟩
                replace H : (spec_cdGroups.l3 k4 l0 y328 y331 x28_2 y332 x9_3 (l0.length : Int) x28_2 (l0.length : Int) (wrap64 (x50_4 + 1))) = some (r1, r2) := by first | (rw [hy332]; with_reducible exact H) | (have H2_ := (Option.bind_some _ _).symm.trans H; rw [hy332]; with_reducible exact H2_) | (have H2_ := (Option.bind_some _ _).symm.trans H; with_reducible exact H2_) | with_reducible exact H | (rw [hy332]; exact H) | exact H
                have Ny332 := Aside0.mk hy332
                clear hy332
                have H' := Aside0.mk H
                clear H
                try go_wp2
                have n0_ := Aside0.mk (Kd.R_drew HO_4.out)
                have n1_ := Aside0.mk (Kd.R_drew HO_5.out)
                have n2_ := Aside0.mk (Kd.R_drew HO_8.out)
                have n3_ := Aside0.mk (below_drew1 HB.out)
                clear HO_4
                clear HO_5
                clear HO_8
                clear HB
                have HO_4 := n0_
                have HO_5 := n1_
                have HO_8 := n2_
                have HB := n3_
                clear n0_ n1_ n2_ n3_
                have p323 : 0 ≤ (x50_4 : Int) := od_
                have q323 : x50_4 < (x4_4.length : Int) := od_
                obtain ⟨ad323, e323, hx323_0⟩ := Kd.at_int (Kd.R_reads' HO_4.out).2.2 x50_4 p323 q323
                obtain rfl : (⟨go19, 0, none⟩ : Addr) = ad323 := (by injection e323)
                (first | simp only [add_plain] at hx323_0 | simp only [add_at] at hx323_0 | simp only [Addr.add, Nat.zero_add] at hx323_0 | skip)
                replace p323 := eq_true p323
                replace q323 := eq_true q323
                obtain ⟨Ao43, co43, eo43⟩ := Kd.R_slice HO_8.out
                (first | subst eo43 | (injection eo43 with f1_ f2_ f3_; have f4_ := f1_.symm; have f5_ := f3_.symm; clear f1_ f2_ f3_; subst f4_; subst f5_))
                have p324 : 0 ≤ (x9_3 : Int) := od_
                have q324 : x9_3 < (x8_4.length : Int) := od_
                obtain ⟨ad324, e324, hx324_0⟩ := Kd.at_int (Kd.R_reads' HO_8.out).2.2 x9_3 p324 q324
                cases e324
                replace p324 := eq_true p324
                replace q324 := eq_true q324
                have p325 : 0 ≤ ((rd x8_4 x9_3) : Int) := od_
                have q325 : (rd x8_4 x9_3) < (l0.length : Int) := od_
                obtain ⟨ad325, e325, hx325_0, hx325_1⟩ := at_T44 HR0.out (rd x8_4 x9_3) p325 q325
                have hw325_1 := hx325_1
                have hw325_0 := hx325_0
                cases e325
                replace hx325_0 := (HB.out.cell (World.block_lt_of_cell? w _ hx325_0)).trans hx325_0
                replace hx325_1 := (HB.out.cell (World.block_lt_of_cell? w _ hx325_1)).trans hx325_1
                replace p325 := eq_true p325
                replace q325 := eq_true q325
                have p326 : 0 ≤ (x50_4 : Int) := od_
                have q326 : x50_4 < (l0.length : Int) := od_
                obtain ⟨ad326, e326, hx326_0, hx326_1⟩ := at_T44 HR0.out x50_4 p326 q326
                have hw326_1 := hx326_1
                have hw326_0 := hx326_0
                obtain rfl : ad325 = ad326 := (by injection e326)
                replace hx326_0 := (HB.out.cell (World.block_lt_of_cell? w _ hx326_0)).trans hx326_0
                replace hx326_1 := (HB.out.cell (World.block_lt_of_cell? w _ hx326_1)).trans hx326_1
                replace p326 := eq_true p326
                replace q326 := eq_true q326
                refine start_ (n := 19) (S := fun w' => w'.cell? ⟨go19, (x50_4).toNat, none⟩ = some (.int .i64 (rd x4_4 x50_4)) ∧ w'.cell? (ad324.add (x9_3).toNat) = some (.int .i64 (rd x8_4 x9_3)) ∧ w'.cell? (ad325.add (((rd x8_4 x9_3)).toNat * 2)) = some (.int .i64 ((rd_T44 l0 (rd x8_4 x9_3)).f0)) ∧ w'.cell? ⟨(ad325.add (((rd x8_4 x9_3)).toNat * 2)).block, (ad325.add (((rd x8_4 x9_3)).toNat * 2)).off + 1, none⟩ = some (.int .i64 ((rd_T44 l0 (rd x8_4 x9_3)).f1)) ∧ w'.cell? (ad325.add ((x50_4).toNat * 2)) = some (.int .i64 ((rd_T44 l0 x50_4).f0)) ∧ w'.cell? ⟨(ad325.add ((x50_4).toNat * 2)).block, (ad325.add ((x50_4).toNat * 2)).off + 1, none⟩ = some (.int .i64 ((rd_T44 l0 x50_4).f1))) (ds := []) #[false, false, false, false, false, false, false, false, false, false, false, false, false, false, false, false, false, false, false] (by kernel_rfl) rfl rfl ⟨hx323_0, hx324_0, ((HB.out.cell (World.block_lt_of_cell? w _ hw325_0)).trans hw325_0), ((HB.out.cell (World.block_lt_of_cell? w _ hw325_1)).trans hw325_1), ((HB.out.cell (World.block_lt_of_cell? w _ hw326_0)).trans hw326_0), ((HB.out.cell (World.block_lt_of_cell? w _ hw326_1)).trans hw326_1)⟩ (fun hHeld => ?_); refine with_tabW spec_cdGroups.tab20 spec_cdGroups.bits20 (fun HT_ HW_ => ?_)
                generalize wr.drew = w42 at HO_4 HO_5 HO_8 HB hx323_0 hx324_0 hx325_0 hx325_1 hx326_0 hx326_1 hHeld ⊢
                refine pt_ 0 (some 53) HT_ ?_
                refine pt_ 1 (some 54) HT_ ?_
                refine pt_ 2 (some 55) HT_ ?_
                refine tb6_ 3 (some 56) HT_ HW_ hHeld ?_
                refine pt_ 4 (some 57) HT_ ?_
                refine pt_ 5 (some 58) HT_ ?_
                refine pt_ 6 (some 59) HT_ ?_
                refine pt_ 7 (some 60) HT_ ?_
                refine pt_ 8 (some 61) HT_ ?_
                refine pt_ 9 (some 62) HT_ ?_
                refine pt_ 13 (some 66) HT_ ?_
                refine pt_ 14 (some 67) HT_ ?_
                refine pt_ 15 (some 68) HT_ ?_
                refine tb6_ 10 (some 63) HT_ HW_ hHeld ?_
                refine pt_ 11 (some 64) HT_ ?_
                refine tb6_ 12 (some 65) HT_ HW_ hHeld ?_
                refine tb6_ 16 (some 69) HT_ HW_ hHeld ?_
                refine one_ (i := 17) (N := some 70) #[true, true, true, true, true, true, true, true, true, true, true, true, true, true, true, true, true, true, false] rfl rfl (one_of HT_.out (by kernel_rfl)) (by decide) (fun K hK => ?_)
                refine goes_ Tryz.func48 (by kernel_rfl) rfl #[.agg #[.int .i64 ((rd_T44 l0 (rd x8_4 x9_3)).f0), .int .i64 ((rd_T44 l0 (rd x8_4 x9_3)).f1)], .agg #[.int .i64 ((rd_T44 l0 x50_4).f0), .int .i64 ((rd_T44 l0 x50_4).f1)]] (by rfl) rfl rfl ma_ ?_
                with_reducible refine (spec_srCross.calls ((rd_T44 l0 (rd x8_4 x9_3)).f0) ((rd_T44 l0 (rd x8_4 x9_3)).f1) ((rd_T44 l0 x50_4).f0) ((rd_T44 l0 x50_4).f1) true _ A35.out).mono ?_
                rintro e w44 ⟨rfl, hb⟩
                have HS0_ := (hb.cell (World.block_lt_of_cell? _ _ (hHeld.1))).trans (hHeld.1)
                have HS1_ := (hb.cell (World.block_lt_of_cell? _ _ (hHeld.2.1))).trans (hHeld.2.1)
                refine ⟨_, rfl, ?_⟩
                have n0_ := Aside0.mk (Kd.R_below (kr_ <| HO_4.out) hb)
                have n1_ := Aside0.mk (Kd.R_below (kr_ <| HO_5.out) hb)
                have n2_ := Aside0.mk (Kd.R_below (kr_ <| HO_8.out) hb)
                have n3_ := Aside0.mk (below_step bl_ hb)
                clear HO_4
                clear HO_5
                clear HO_8
                clear HB
                have HO_4 := n0_
                have HO_5 := n1_
                have HO_8 := n2_
                have HB := n3_
                clear n0_ n1_ n2_ n3_
                (try clear hb)
                (try clear hb2)
                (try clear hk)
                (try clear hi)
                refine hK.out _ _ ⟨HS0_, HS1_, ((HB.out.cell (World.block_lt_of_cell? w _ hw325_0)).trans hw325_0), ((HB.out.cell (World.block_lt_of_cell? w _ hw325_1)).trans hw325_1), ((HB.out.cell (World.block_lt_of_cell? w _ hw326_0)).trans hw326_0), ((HB.out.cell (World.block_lt_of_cell? w _ hw326_1)).trans hw326_1)⟩ (fun hHeld => ?_)
                clear hK K
                refine nm_ (some 70) ?_
                refine pt_ 18 (some 71) HT_ ?_
                refine done_ (done_of HT_.out (by kernel_rfl)) ?_
                have p37 : 0 ≤ (x50_4 : Int) := od_
                have q37 : (x50_4 : Int) < ((x4_4.length : Int) : Int) := od_
                obtain ⟨hx37_0, hf37_0⟩ := Kd.R_celln 0 HO_4.out (x50_4 : Int) p37 q37
                replace p37 := eq_true p37
                replace q37 := eq_true q37
                obtain ⟨hy45_, hz45_⟩ := Kd.R_celln 0 HO_4.out (x50_4 : Int) (od_) (od_)
                have HP45 := Kd.R_putg HO_4.out (x50_4 : Int) x28_2
                try go_wp2_with (first | ((with_reducible refine gate_store (t := 3) (p := 75) rfl ?_); refine store_event (t := 3) (p := 75) (v := ?vo_w46) (w1 := (w44.setCell ⟨go19, (x50_4 : Int).toNat, none⟩ (.int .i64 x28_2))) ?hg ?ho ?hn ?hr ?_; (case ho => rfl); (case hg => rfl); (case hn => rfl); (case hr => first | (go_simp; done) | (go_simp; rfl)); intro w46 hw; have hg : w44.grownBy w46 (some go19) := (by rw [hw]; exact HP45.2); have hp_ : Kd.R (Kd.int .i64) 3 w46 w.heap.size (fun k_ => some k_ ≠ (v315 : Value).ownBlock ∧ some k_ ≠ (.slice (some ad324) x8_4.length co43 : Value).ownBlock) (.slice (some ⟨go19, 0, none⟩) x4_4.length co8) y328 := (by rw [hw, Ny328.out]; exact HP45.1); clear HP45; have n0_ := Aside0.mk (hp_); have n1_ := Aside0.mk (Kd.R_after (v := (.slice (some ⟨go19, 0, none⟩) x4_4.length co8)) (v1 := (.slice (some ⟨go19, 0, none⟩) x4_4.length co8)) (ok := (fun k_ => some k_ ≠ (.slice (some ad324) x8_4.length co43 : Value).ownBlock)) (kr_ <| Kd.R_mono HO_5.out (fun _ hk => ⟨hk.2, hk.1⟩)) hg (.inl rfl)); have n2_ := Aside0.mk (Kd.R_after (v := (.slice (some ⟨go19, 0, none⟩) x4_4.length co8)) (v1 := (.slice (some ⟨go19, 0, none⟩) x4_4.length co8)) (ok := (fun k_ => some k_ ≠ (v315 : Value).ownBlock)) (kr_ <| Kd.R_mono HO_8.out (fun _ hk => ⟨hk.2, hk.1⟩)) hg (.inl rfl)); have n3_ := Aside0.mk ((by rw [hw]; exact below_set (HB.out) GB19.out : Below w.heap.size w w46)); clear HO_4; clear HO_5; clear HO_8; clear HB; have HO_4 := n0_; have HO_5 := n1_; have HO_8 := n2_; have HB := n3_; clear n0_ n1_ n2_ n3_; clear hg hw hp_; have p329 : 0 ≤ (x9_3 : Int) := od_; have q329 : x9_3 < (x8_4.length : Int) := od_; obtain ⟨ad329, e329, hx329_0⟩ := Kd.at_int (Kd.R_reads' HO_8.out).2.2 x9_3 p329 q329; obtain rfl : ad324 = ad329 := (by injection e329); replace p329 := eq_true p329; replace q329 := eq_true q329; obtain ⟨Ao47, co47, eo47⟩ := Kd.R_slice HO_5.out; subst eo47; have p330 : 0 ≤ ((rd x8_4 x9_3) : Int) := od_; have q330 : (rd x8_4 x9_3) < (x5_4.length : Int) := od_; obtain ⟨ad330, e330, hx330_0⟩ := Kd.at_int (Kd.R_reads' HO_5.out).2.2 (rd x8_4 x9_3) p330 q330; cases e330; replace p330 := eq_true p330; replace q330 := eq_true q330; have p40 : 0 ≤ (x50_4 : Int) := od_; have q40 : (x50_4 : Int) < ((x5_4.length : Int) : Int) := od_; obtain ⟨go40, co40, eo40, gb40, gl40, cl40, HG40⟩ := Kd.R_form HO_5.out (by omega); (first | cases eo40 | (injection eo40 with ea_ en_ ec_; (first | subst ea_ | (injection ea_ with ea_; subst ea_)); subst ec_; clear en_)); have GB40 := Aside0.mk gb40; have GG40 := Aside0.mk HG40; clear gb40 gl40 HG40; (first | simp only [add_plain] at hx330_0 | skip); obtain ⟨hx40_0, hf40_0⟩ := Kd.R_celln 0 HO_5.out (x50_4 : Int) p40 q40; replace p40 := eq_true p40; replace q40 := eq_true q40; obtain ⟨hy48_, hz48_⟩ := Kd.R_celln 0 HO_5.out (x50_4 : Int) (od_) (od_); have HP48 := Kd.R_putg HO_5.out (x50_4 : Int) (wrap64 ((rd x5_4 (rd x8_4 x9_3)) + 1))) | ((with_reducible refine gate_store (t := 3) (p := 86) rfl ?_); refine store_event (t := 3) (p := 86) (v := ?vo_w49) (w1 := (w46.setCell ⟨go40, (x50_4 : Int).toNat, none⟩ (.int .i64 (wrap64 ((rd x5_4 (rd x8_4 x9_3)) + 1))))) ?hg ?ho ?hn ?hr ?_; (case ho => rfl); (case hg => rfl); (case hn => rfl); (case hr => first | (go_simp; done) | (go_simp; rfl)); intro w49 hw; have hg : w46.grownBy w49 (some go40) := (by rw [hw]; exact HP48.2); have hp_ : Kd.R (Kd.int .i64) 3 w49 w.heap.size (fun k_ => some k_ ≠ (.slice (some ad324) x8_4.length co43 : Value).ownBlock ∧ some k_ ≠ (.slice (some ⟨go19, 0, none⟩) x4_4.length co8 : Value).ownBlock) (.slice (some ⟨go40, 0, none⟩) x5_4.length co47) y331 := (by rw [hw, Ny331.out]; exact HP48.1); clear HP48; have n0_ := Aside0.mk (Kd.R_after (v := (.slice (some ⟨go40, 0, none⟩) x5_4.length co47)) (v1 := (.slice (some ⟨go40, 0, none⟩) x5_4.length co47)) (ok := (fun k_ => some k_ ≠ (.slice (some ad324) x8_4.length co43 : Value).ownBlock)) (kr_ <| Kd.R_mono HO_4.out (fun _ hk => ⟨hk.2, hk.1⟩)) hg (.inl rfl)); have n1_ := Aside0.mk (hp_); have n2_ := Aside0.mk (Kd.R_after (v := (.slice (some ⟨go40, 0, none⟩) x5_4.length co47)) (v1 := (.slice (some ⟨go40, 0, none⟩) x5_4.length co47)) (ok := (fun k_ => some k_ ≠ (.slice (some ⟨go19, 0, none⟩) x4_4.length co8 : Value).ownBlock)) (kr_ <| Kd.R_mono HO_8.out (fun _ hk => ⟨hk.2, hk.1⟩)) hg (.inl rfl)); have n3_ := Aside0.mk ((by rw [hw]; exact below_set (HB.out) GB40.out : Below w.heap.size w w49)); clear HO_4; clear HO_5; clear HO_8; clear HB; have HO_4 := n0_; have HO_5 := n1_; have HO_8 := n2_; have HB := n3_; clear n0_ n1_ n2_ n3_; clear hg hw hp_) | ((with_reducible refine gate_builtin (b := .append) (xs := #[.tmp 87, .tmp 89]) rfl ?_); at_builtin; refine Kd.R_append (Kd.int .i64) (w0 := w) w.heap.size rfl (.tmp 87) (.tmp 89) 36 3 (.int .i64 0) 8 rfl Tryz.underlying36 info3 rfl (by decide) (by omega) (.slice (some ad324) x8_4.length co43) x8_4 x50_4 [.int .i64 x50_4] (fun k_ => some k_ ≠ (.slice (some ⟨go19, 0, none⟩) x4_4.length co8 : Value).ownBlock ∧ some k_ ≠ (.slice (some ⟨go40, 0, none⟩) x5_4.length co47 : Value).ownBlock) (fun _ => False) rfl rfl ?aP (fun _ hk => hk.elim) ?aF ?aO ?aB ?aS ?aL ?_; (case aP => exact rfl); (case aB => exact bl_); (case aF => exact (fun k_ hk => ⟨Kd.fresh' (Kd.R_lt (kr_ <| HO_4.out)) k_ hk, Kd.fresh' (Kd.R_lt (kr_ <| HO_5.out)) k_ hk⟩)); (case aO => exact (kr_ <| HO_8.out)); (case aS => exact (below_size bl_)); (case aL => have := LMc41.out; omega); intro v333 w50 ho hb hg hat; rw [← Ny332.out] at ho; have n0_ := Aside0.mk (Kd.R_after (ok := (fun k_ => some k_ ≠ (.slice (some ⟨go40, 0, none⟩) x5_4.length co47 : Value).ownBlock)) (kr_ <| Kd.R_mono HO_4.out (fun _ hk => ⟨hk.2, hk.1⟩)) hg hat); have n1_ := Aside0.mk (Kd.R_after (ok := (fun k_ => some k_ ≠ (.slice (some ⟨go19, 0, none⟩) x4_4.length co8 : Value).ownBlock)) (kr_ <| Kd.R_mono HO_5.out (fun _ hk => ⟨hk.2, hk.1⟩)) hg hat); have n2_ := Aside0.mk (hb); have n3_ := Aside0.mk (ho); clear HO_4; clear HO_5; clear HB; clear HO_8; have HO_4 := n0_; have HO_5 := n1_; have HB := n2_; have HO334 := n3_; clear n0_ n1_ n2_ n3_; clear ho hb hg hat))
                (try simp only [← hl4_4])
                go_roundg k4
                case measure => have := HK1.out; have := HK2.out; have := HK3.out; have := HK4.out; omega
                case rel => exact ⟨(y328), (y331), (y332), (wrap64 (x50_4 + 1)), (es_), H', ⟨by have := HK1.out; have := HK2.out; have := HK3.out; have := HK4.out; omega⟩, ⟨by (try simp only [hl4_1]); (try simp only [hl4_2]); (try simp only [hl4_3]); (try simp only [hl4_4]); exact kr_ <| HO_4.out⟩, ⟨by (try simp only [hl4_1]); (try simp only [hl4_2]); (try simp only [hl4_3]); (try simp only [hl4_4]); exact kr_ <| HO_5.out⟩, ⟨by (try simp only [hl4_1]); (try simp only [hl4_2]); (try simp only [hl4_3]); (try simp only [hl4_4]); exact kr_ <| HO334.out⟩, ⟨bl_⟩⟩
               ·replace c36 := Bool.eq_false_iff.mpr c36
                subst c36
                have H1 : (spec_cdGroups.l3 k4 l0 x4_4 x5_4 x28_2 x8_4 x9_3 (l0.length : Int) x28_2 (l0.length : Int) (wrap64 (x50_4 + 1))) = some (r1, r2) := by rw [if_neg (show ¬ (false = true) by decide)] at H; exact H
                clear H
                have H := H1
                clear H1
                have H' := Aside0.mk H
                clear H
                try go_wp2
                have n0_ := Aside0.mk (Kd.R_drew HO_4.out)
                have n1_ := Aside0.mk (Kd.R_drew HO_5.out)
                have n2_ := Aside0.mk (Kd.R_drew HO_8.out)
                have n3_ := Aside0.mk (below_drew1 HB.out)
                clear HO_4
                clear HO_5
                clear HO_8
                clear HB
                have HO_4 := n0_
                have HO_5 := n1_
                have HO_8 := n2_
                have HB := n3_
                clear n0_ n1_ n2_ n3_
                have p323 : 0 ≤ (x50_4 : Int) := od_
                have q323 : x50_4 < (x4_4.length : Int) := od_
                obtain ⟨ad323, e323, hx323_0⟩ := Kd.at_int (Kd.R_reads' HO_4.out).2.2 x50_4 p323 q323
                obtain rfl : (⟨go19, 0, none⟩ : Addr) = ad323 := (by injection e323)
                (first | simp only [add_plain] at hx323_0 | simp only [add_at] at hx323_0 | simp only [Addr.add, Nat.zero_add] at hx323_0 | skip)
                replace p323 := eq_true p323
                replace q323 := eq_true q323
                obtain ⟨Ao52, co52, eo52⟩ := Kd.R_slice HO_8.out
                (first | subst eo52 | (injection eo52 with f1_ f2_ f3_; have f4_ := f1_.symm; have f5_ := f3_.symm; clear f1_ f2_ f3_; subst f4_; subst f5_))
                have p324 : 0 ≤ (x9_3 : Int) := od_
                have q324 : x9_3 < (x8_4.length : Int) := od_
                obtain ⟨ad324, e324, hx324_0⟩ := Kd.at_int (Kd.R_reads' HO_8.out).2.2 x9_3 p324 q324
                cases e324
                replace p324 := eq_true p324
                replace q324 := eq_true q324
                have p325 : 0 ≤ ((rd x8_4 x9_3) : Int) := od_
                have q325 : (rd x8_4 x9_3) < (l0.length : Int) := od_
                obtain ⟨ad325, e325, hx325_0, hx325_1⟩ := at_T44 HR0.out (rd x8_4 x9_3) p325 q325
                have hw325_1 := hx325_1
                have hw325_0 := hx325_0
                cases e325
                replace hx325_0 := (HB.out.cell (World.block_lt_of_cell? w _ hx325_0)).trans hx325_0
                replace hx325_1 := (HB.out.cell (World.block_lt_of_cell? w _ hx325_1)).trans hx325_1
                replace p325 := eq_true p325
                replace q325 := eq_true q325
                have p326 : 0 ≤ (x50_4 : Int) := od_
                have q326 : x50_4 < (l0.length : Int) := od_
                obtain ⟨ad326, e326, hx326_0, hx326_1⟩ := at_T44 HR0.out x50_4 p326 q326
                have hw326_1 := hx326_1
                have hw326_0 := hx326_0
                obtain rfl : ad325 = ad326 := (by injection e326)
                replace hx326_0 := (HB.out.cell (World.block_lt_of_cell? w _ hx326_0)).trans hx326_0
                replace hx326_1 := (HB.out.cell (World.block_lt_of_cell? w _ hx326_1)).trans hx326_1
                replace p326 := eq_true p326
                replace q326 := eq_true q326
                refine start_ (n := 19) (S := fun w' => w'.cell? ⟨go19, (x50_4).toNat, none⟩ = some (.int .i64 (rd x4_4 x50_4)) ∧ w'.cell? (ad324.add (x9_3).toNat) = some (.int .i64 (rd x8_4 x9_3)) ∧ w'.cell? (ad325.add (((rd x8_4 x9_3)).toNat * 2)) = some (.int .i64 ((rd_T44 l0 (rd x8_4 x9_3)).f0)) ∧ w'.cell? ⟨(ad325.add (((rd x8_4 x9_3)).toNat * 2)).block, (ad325.add (((rd x8_4 x9_3)).toNat * 2)).off + 1, none⟩ = some (.int .i64 ((rd_T44 l0 (rd x8_4 x9_3)).f1)) ∧ w'.cell? (ad325.add ((x50_4).toNat * 2)) = some (.int .i64 ((rd_T44 l0 x50_4).f0)) ∧ w'.cell? ⟨(ad325.add ((x50_4).toNat * 2)).block, (ad325.add ((x50_4).toNat * 2)).off + 1, none⟩ = some (.int .i64 ((rd_T44 l0 x50_4).f1))) (ds := []) #[false, false, false, false, false, false, false, false, false, false, false, false, false, false, false, false, false, false, false] (by kernel_rfl) rfl rfl ⟨hx323_0, hx324_0, ((HB.out.cell (World.block_lt_of_cell? w _ hw325_0)).trans hw325_0), ((HB.out.cell (World.block_lt_of_cell? w _ hw325_1)).trans hw325_1), ((HB.out.cell (World.block_lt_of_cell? w _ hw326_0)).trans hw326_0), ((HB.out.cell (World.block_lt_of_cell? w _ hw326_1)).trans hw326_1)⟩ (fun hHeld => ?_); refine with_tabW spec_cdGroups.tab20 spec_cdGroups.bits20 (fun HT_ HW_ => ?_)
                generalize wr.drew = w51 at HO_4 HO_5 HO_8 HB hx323_0 hx324_0 hx325_0 hx325_1 hx326_0 hx326_1 hHeld ⊢
                refine pt_ 0 (some 53) HT_ ?_
                refine pt_ 1 (some 54) HT_ ?_
                refine pt_ 2 (some 55) HT_ ?_
                refine tb6_ 3 (some 56) HT_ HW_ hHeld ?_
                refine pt_ 4 (some 57) HT_ ?_
                refine pt_ 5 (some 58) HT_ ?_
                refine pt_ 6 (some 59) HT_ ?_
                refine pt_ 7 (some 60) HT_ ?_
                refine pt_ 8 (some 61) HT_ ?_
                refine pt_ 9 (some 62) HT_ ?_
                refine pt_ 13 (some 66) HT_ ?_
                refine pt_ 14 (some 67) HT_ ?_
                refine pt_ 15 (some 68) HT_ ?_
                refine tb6_ 10 (some 63) HT_ HW_ hHeld ?_
                refine pt_ 11 (some 64) HT_ ?_
                refine tb6_ 12 (some 65) HT_ HW_ hHeld ?_
                refine tb6_ 16 (some 69) HT_ HW_ hHeld ?_
                refine one_ (i := 17) (N := some 70) #[true, true, true, true, true, true, true, true, true, true, true, true, true, true, true, true, true, true, false] rfl rfl (one_of HT_.out (by kernel_rfl)) (by decide) (fun K hK => ?_)
                refine goes_ Tryz.func48 (by kernel_rfl) rfl #[.agg #[.int .i64 ((rd_T44 l0 (rd x8_4 x9_3)).f0), .int .i64 ((rd_T44 l0 (rd x8_4 x9_3)).f1)], .agg #[.int .i64 ((rd_T44 l0 x50_4).f0), .int .i64 ((rd_T44 l0 x50_4).f1)]] (by rfl) rfl rfl ma_ ?_
                with_reducible refine (spec_srCross.calls ((rd_T44 l0 (rd x8_4 x9_3)).f0) ((rd_T44 l0 (rd x8_4 x9_3)).f1) ((rd_T44 l0 x50_4).f0) ((rd_T44 l0 x50_4).f1) false _ A35.out).mono ?_
                rintro e w53 ⟨rfl, hb⟩
                have HS0_ := (hb.cell (World.block_lt_of_cell? _ _ (hHeld.1))).trans (hHeld.1)
                have HS1_ := (hb.cell (World.block_lt_of_cell? _ _ (hHeld.2.1))).trans (hHeld.2.1)
                refine ⟨_, rfl, ?_⟩
                have n0_ := Aside0.mk (Kd.R_below (kr_ <| HO_4.out) hb)
                have n1_ := Aside0.mk (Kd.R_below (kr_ <| HO_5.out) hb)
                have n2_ := Aside0.mk (Kd.R_below (kr_ <| HO_8.out) hb)
                have n3_ := Aside0.mk (below_step bl_ hb)
                clear HO_4
                clear HO_5
                clear HO_8
                clear HB
                have HO_4 := n0_
                have HO_5 := n1_
                have HO_8 := n2_
                have HB := n3_
                clear n0_ n1_ n2_ n3_
                (try clear hb)
                (try clear hb2)
                (try clear hk)
                (try clear hi)
                refine hK.out _ _ ⟨HS0_, HS1_, ((HB.out.cell (World.block_lt_of_cell? w _ hw325_0)).trans hw325_0), ((HB.out.cell (World.block_lt_of_cell? w _ hw325_1)).trans hw325_1), ((HB.out.cell (World.block_lt_of_cell? w _ hw326_0)).trans hw326_0), ((HB.out.cell (World.block_lt_of_cell? w _ hw326_1)).trans hw326_1)⟩ (fun hHeld => ?_)
                clear hK K
                refine nm_ (some 70) ?_
                refine pt_ 18 (some 71) HT_ ?_
                refine done_ (done_of HT_.out (by kernel_rfl)) ?_
                try go_wp2
                (try simp only [← hl4_4])
                go_roundg k4
                case measure => have := HK1.out; have := HK2.out; have := HK3.out; have := HK4.out; omega
                case rel => exact ⟨(x4_4), (x5_4), (x8_4), (wrap64 (x50_4 + 1)), (es_), H', ⟨by have := HK1.out; have := HK2.out; have := HK3.out; have := HK4.out; omega⟩, ⟨by (try simp only [hl4_1]); (try simp only [hl4_2]); (try simp only [hl4_3]); (try simp only [hl4_4]); exact kr_ <| HO_4.out⟩, ⟨by (try simp only [hl4_1]); (try simp only [hl4_2]); (try simp only [hl4_3]); (try simp only [hl4_4]); exact kr_ <| HO_5.out⟩, ⟨by (try simp only [hl4_1]); (try simp only [hl4_2]); (try simp only [hl4_3]); (try simp only [hl4_4]); exact kr_ <| HO_8.out⟩, ⟨bl_⟩⟩
              ·rw [if_neg c29] at H
               have c29b0 : decide ((rd x4_4 x50_4) < 0) = false := decide_eq_false c29
               clear c29
               have H' := Aside0.mk H
               clear H
               try go_wp2
               have n0_ := Aside0.mk (Kd.R_drew HO_4.out)
               have n1_ := Aside0.mk (Kd.R_drew HO_5.out)
               have n2_ := Aside0.mk (Kd.R_drew HO_8.out)
               have n3_ := Aside0.mk (below_drew1 HB.out)
               clear HO_4
               clear HO_5
               clear HO_8
               clear HB
               have HO_4 := n0_
               have HO_5 := n1_
               have HO_8 := n2_
               have HB := n3_
               clear n0_ n1_ n2_ n3_
               have p323 : 0 ≤ (x50_4 : Int) := od_
               have q323 : x50_4 < (x4_4.length : Int) := od_
               obtain ⟨ad323, e323, hx323_0⟩ := Kd.at_int (Kd.R_reads' HO_4.out).2.2 x50_4 p323 q323
               obtain rfl : (⟨go19, 0, none⟩ : Addr) = ad323 := (by injection e323)
               (first | simp only [add_plain] at hx323_0 | simp only [add_at] at hx323_0 | simp only [Addr.add, Nat.zero_add] at hx323_0 | skip)
               replace p323 := eq_true p323
               replace q323 := eq_true q323
               refine start_ (n := 19) (S := fun w' => w'.cell? ⟨go19, (x50_4).toNat, none⟩ = some (.int .i64 (rd x4_4 x50_4))) (ds := []) #[false, false, false, false, false, false, false, false, false, false, false, false, false, false, false, false, false, false, false] (by kernel_rfl) rfl rfl (hx323_0) (fun hHeld => ?_); refine with_tabW spec_cdGroups.tab20 spec_cdGroups.bits20 (fun HT_ HW_ => ?_)
               generalize wr.drew = w54 at HO_4 HO_5 HO_8 HB hx323_0 hHeld ⊢
               refine pt_ 0 (some 53) HT_ ?_
               refine pt_ 1 (some 54) HT_ ?_
               refine pt_ 2 (some 55) HT_ ?_
               refine tb1_ 3 (some 56) HT_ HW_ hHeld ?_
               refine pt_ 4 (some 57) HT_ ?_
               refine pt_ 5 (some 58) HT_ ?_
               refine po_ 6 (some 59) HT_ ?_
               refine po_ 7 (some 60) HT_ ?_
               refine po_ 8 (some 61) HT_ ?_
               refine po_ 9 (some 62) HT_ ?_
               refine po_ 10 (some 63) HT_ ?_
               refine po_ 11 (some 64) HT_ ?_
               refine po_ 12 (some 65) HT_ ?_
               refine po_ 13 (some 66) HT_ ?_
               refine po_ 14 (some 67) HT_ ?_
               refine po_ 15 (some 68) HT_ ?_
               refine po_ 16 (some 69) HT_ ?_
               refine po_ 17 (some 70) HT_ ?_
               refine pt_ 18 (some 71) HT_ ?_
               refine done_ (done_of HT_.out (by kernel_rfl)) ?_
               try go_wp2
               (try simp only [← hl4_4])
               go_roundg k4
               case measure => have := HK1.out; have := HK2.out; have := HK3.out; have := HK4.out; omega
               case rel => exact ⟨(x4_4), (x5_4), (x8_4), (wrap64 (x50_4 + 1)), (es_), H', ⟨by have := HK1.out; have := HK2.out; have := HK3.out; have := HK4.out; omega⟩, ⟨by (try simp only [hl4_1]); (try simp only [hl4_2]); (try simp only [hl4_3]); (try simp only [hl4_4]); exact kr_ <| HO_4.out⟩, ⟨by (try simp only [hl4_1]); (try simp only [hl4_2]); (try simp only [hl4_3]); (try simp only [hl4_4]); exact kr_ <| HO_5.out⟩, ⟨by (try simp only [hl4_1]); (try simp only [hl4_2]); (try simp only [hl4_3]); (try simp only [hl4_4]); exact kr_ <| HO_8.out⟩, ⟨bl_⟩⟩
             ·rw [if_neg c26] at H
              have c26b0 : decide (x50_4 < (l0.length : Int)) = false := decide_eq_false c26
              (try rw [hl4_1] at c26b0)
              (try rw [hl4_2] at c26b0)
              (try rw [hl4_3] at c26b0)
              (try rw [hl4_4] at c26b0)
              clear c26
              have H' := Aside0.mk H
              clear H
              go_wp2
              (try simp only [← hl4_3, ← hl4_4])
              go_roundg k4
              case measure => have := HK1.out; have := HK2.out; have := HK3.out; have := HK4.out; omega
              case rel => exact ⟨(x4_4), (x5_4), (x8_4), (wrap64 (x9_3 + 1)), (es_), H', ⟨by have := HK1.out; have := HK2.out; have := HK3.out; have := HK4.out; omega⟩, ⟨by (try simp only [hl4_1]); (try simp only [hl4_2]); (try simp only [hl4_3]); (try simp only [hl4_4]); exact kr_ <| HO_4.out⟩, ⟨by (try simp only [hl4_1]); (try simp only [hl4_2]); (try simp only [hl4_3]); (try simp only [hl4_4]); exact kr_ <| HO_5.out⟩, ⟨by (try simp only [hl4_1]); (try simp only [hl4_2]); (try simp only [hl4_3]); (try simp only [hl4_4]); exact kr_ <| HO_8.out⟩, ⟨bl_⟩⟩
          ·rw [if_neg c24] at H
           have c24b0 : decide (x9_3 < (x8_3.length : Int)) = false := decide_eq_false c24
           (try rw [hl4_1] at c24b0)
           (try rw [hl4_2] at c24b0)
           (try rw [hl4_3] at c24b0)
           (try rw [hl4_4] at c24b0)
           clear c24
           have H' := Aside0.mk H
           clear H
           obtain ⟨Ao55, co55, eo55⟩ := Kd.R_slice HO_8.out
           subst eo55
           go_wp2
           (try simp only [← hl4_2, ← hl4_3])
           go_roundg k3
           case measure => have := HK1.out; have := HK2.out; have := HK3.out; omega
           case rel => exact ⟨(x4_3), (x5_3), (wrap64 (x28_2 + 1)), (es_), H', ⟨by have := HK1.out; have := HK2.out; have := HK3.out; omega⟩, ⟨by (try simp only [hl4_1]); (try simp only [hl4_2]); (try simp only [hl4_3]); exact kr_ <| Kd.R_mono HO_4.out (fun _ hk => hk.1)⟩, ⟨by (try simp only [hl4_1]); (try simp only [hl4_2]); (try simp only [hl4_3]); exact kr_ <| Kd.R_mono HO_5.out (fun _ hk => hk.1)⟩, ⟨bl_⟩⟩
      ·rw [if_neg c15] at H
       have c15b0 : decide (x28_2 < (l0.length : Int)) = false := decide_eq_false c15
       (try rw [hl4_1] at c15b0)
       (try rw [hl4_2] at c15b0)
       (try rw [hl4_3] at c15b0)
       (try rw [hl4_4] at c15b0)
       clear c15
       simp only [Option.some.injEq, Prod.mk.injEq] at H
       obtain ⟨rfl, rfl⟩ := H
       go_wp2
       go_ret2
       exact ⟨_, _, ew_, by exact kr_ <| HO_4.out, by exact kr_ <| HO_5.out, bl_⟩
mutual
def spec_CrossingGroups.l0 : Nat → List Int → List (List Int) → Int → Int → Option ((List (List Int)) × Bool)
 | 0, _, _, _, _ => none
 | k + 1, x6, x8, x23, x24 => if x24 < x23 then (spec_CrossingGroups.l1 k x6 x8 x24 ([] : List Int) x23 x24 x6 (x6.length : Int) 0) else (some (x8, true))
def spec_CrossingGroups.l1 : Nat → List Int → List (List Int) → Int → List Int → Int → Int → List Int → Int → Int → Option ((List (List Int)) × Bool)
 | 0, _, _, _, _, _, _, _, _, _ => none
 | k + 1, x6, x8, x9, x10, x23, x24, x27, x28, x29 => if x29 < x28 then (if 0 ≤ x29 then (if x29 < (x27.length : Int) then (if (rd x27 x29) = x9 then (if x10.length < 17592186044416 then (spec_CrossingGroups.l1 k x6 x8 x9 (x10 ++ [x29]) x23 x24 x27 x28 (wrap64 (x29 + 1))) else (none)) else (spec_CrossingGroups.l1 k x6 x8 x9 x10 x23 x24 x27 x28 (wrap64 (x29 + 1)))) else (none)) else (none)) else (if (x10.length : Int) > 0 then (if x8.length < 5864062014805 then (spec_CrossingGroups.l0 k x6 (x8 ++ [x10]) x23 (wrap64 (x24 + 1))) else (none)) else (spec_CrossingGroups.l0 k x6 x8 x23 (wrap64 (x24 + 1))))
end
def spec_CrossingGroups.f (k : Nat) (a0 : Int) (l1 : List (S44)) : Option ((List (List Int)) × Bool) := (spec_cdGood.f k a0 l1).bind fun t335 => (if t335 = true then ((spec_cdGroups.f k l1).bind fun bt336 => (spec_CrossingGroups.l0 k bt336.1 ([] : List (List Int)) (l1.length : Int) 0)) else (some (([] : List (List Int)), false)))
theorem spec_CrossingGroups.mono_l : ∀ k, (∀ y0 y1 y2 y3, LeO (spec_CrossingGroups.l0 k y0 y1 y2 y3) (spec_CrossingGroups.l0 (k + 1) y0 y1 y2 y3)) ∧ (∀ y0 y1 y2 y3 y4 y5 y6 y7 y8, LeO (spec_CrossingGroups.l1 k y0 y1 y2 y3 y4 y5 y6 y7 y8) (spec_CrossingGroups.l1 (k + 1) y0 y1 y2 y3 y4 y5 y6 y7 y8))
 | 0 => ⟨fun _ _ _ _ r h => by simp [spec_CrossingGroups.l0] at h, fun _ _ _ _ _ _ _ _ _ r h => by simp [spec_CrossingGroups.l1] at h⟩
 | k + 1 => by
  obtain ⟨ih0, ih1⟩ := spec_CrossingGroups.mono_l k
  refine ⟨?_, ?_⟩
  ·intro y0 y1 y2 y3
   unfold spec_CrossingGroups.l0
   have m0_ := @spec_cdGood.mono
   have m1_ := @spec_cdGroups.mono
   exact lo_
  ·intro y0 y1 y2 y3 y4 y5 y6 y7 y8
   unfold spec_CrossingGroups.l1
   have m0_ := @spec_cdGood.mono
   have m1_ := @spec_cdGroups.mono
   exact lo_
theorem spec_CrossingGroups.mono : ∀ a0 a1 k, LeO (spec_CrossingGroups.f k a0 a1) (spec_CrossingGroups.f (k + 1) a0 a1) := by
 intro a0 a1 k
 obtain ⟨ih0, ih1⟩ := spec_CrossingGroups.mono_l k
 unfold spec_CrossingGroups.f
 have m0_ := @spec_cdGood.mono
 have m1_ := @spec_cdGroups.mono
 exact lo_
theorem spec_CrossingGroups.calls (k : Nat) (a0 : Int) (A1 : Option Addr) (c1 : Nat) (l1 : List (S44)) (r1 : List (List Int)) (r2 : Bool) (w : World) (hr1 : Kd.C k44 w A1 l1.length l1) (hc1 : l1.length ≤ c1) (h : spec_CrossingGroups.f k a0 l1 = some (r1, r2)) :
  Calls Tryz.prog 13 #[.int .i64 a0, .slice A1 l1.length c1] w fun e w' => ∃ v0_ : Value, e = .returned (.tuple #[v0_, .bool r2]) ∧ Kd.S (Kd.slice 3 (Kd.int .i64)) 36 w' w.heap.size (fun _ => True) v0_ r1 ∧ Below w.heap.size w w' := by
 have HR1 := Aside0.mk hr1
 have HC1 := Aside0.mk hc1
 clear hr1 hc1
 have HB := Aside0.mk (Below.refl w.heap.size w)
 have H : ((spec_cdGood.f k a0 l1).bind fun t335 => (if t335 = true then ((spec_cdGroups.f k l1).bind fun bt336 => (spec_CrossingGroups.l0 k bt336.1 ([] : List (List Int)) (l1.length : Int) 0)) else (some (([] : List (List Int)), false)))) = some (r1, r2) := h
 clear h
 replace H := Option.bind_eq_some_iff.mp H
 obtain ⟨t335, A30, H⟩ := H
 try dsimp only at H
 have A3 := Aside0.mk A30
 clear A30
 by_cases c4 : t335 = true
 ·subst c4
  have H1 : ((spec_cdGroups.f k l1).bind fun bt336 => (spec_CrossingGroups.l0 k bt336.1 ([] : List (List Int)) (l1.length : Int) 0)) = some (r1, r2) := by rw [if_pos rfl] at H; exact H
  clear H
  have H := H1
  clear H1
  replace H := Option.bind_eq_some_iff.mp H
  obtain ⟨⟨t336, t337⟩, A50, H⟩ := H
  try dsimp only at H
  have A5 := Aside0.mk A50
  clear A50
  have H' := Aside0.mk H
  clear H
  go_enter Tryz.func13, Tryz.ntmps13
  go_wp2_with (first | ((with_reducible refine gate_callee (f := 36) rfl ?_); refine goesL_ (some 15) rfl rfl Tryz.func36 (by kernel_rfl) rfl #[.int .i64 a0, .slice A1 l1.length c1] rfl ma_ ?_; (with_reducible refine (spec_cdGood.calls k a0 _ _ l1 true _ ?side1 ?side2 A3.out).mono ?_); (case side1 => exact kc_ <| HR1.out); (case side2 => exact HC1.out); rintro e w6 ⟨rfl, hb⟩; refine ⟨_, rfl, ?_⟩; have n0_ := Aside0.mk (below_step bl_ hb); clear HB; have HB := n0_; clear n0_; (try clear hb); (try clear hb2); (try clear hk); (try clear hi)) | ((with_reducible refine gate_callee (f := 40) rfl ?_); refine goesL_ (some 19) rfl rfl Tryz.func40 (by kernel_rfl) rfl #[.slice A1 l1.length c1] rfl ma_ ?_; (with_reducible refine (spec_cdGroups.calls k _ _ l1 t336 t337 _ ?side1 ?side2 A5.out).mono ?_); (case side1 => exact kc_ <| (Kd.C_below HR1.out HB.out)); (case side2 => exact HC1.out); rintro e w7 ⟨v338, v340, rfl, ho0, ho1, hb⟩; refine ⟨_, rfl, ?_⟩; have n0_ := Aside0.mk (Kd.R_lower ho0 (below_size bl_)); have n1_ := Aside0.mk (Kd.R_lower ho1 (below_size bl_)); have n2_ := Aside0.mk (below_step bl_ hb); clear HB; have HO339 := n0_; have HO341 := n1_; have HB := n2_; clear n0_ n1_ n2_; (try clear hb); (try clear hb2); (try clear hk); (try clear hi); (try clear ho0); (try clear ho1)))
  go_loopg [8, 24] k (fun kq v8 v24 w' => ∃ (x8_1 : List (List Int)) (x24_1 : Int), v24 = .int .i64 x24_1 ∧ Aside0 (spec_CrossingGroups.l0 kq t336 x8_1 (l1.length : Int) x24_1 = some (r1, r2)) ∧ Aside0 (kq ≤ k) ∧ Aside0 (Kd.R (Kd.int .i64) 3 w' w.heap.size (fun _ => True) v338 t336) ∧ Aside0 (Kd.S (Kd.slice 3 (Kd.int .i64)) 36 w' w.heap.size (fun k_ => some k_ ≠ (v338 : Value).ownBlock) v8 x8_1) ∧ Aside0 (Below w.heap.size w w'))
  case atStart => exact ⟨(([] : List (List Int))), (0), (es_), H', ⟨Nat.le_refl _⟩, ⟨by exact kr_ <| Kd.R_mono HO339.out (fun _ hk => trivial)⟩, ⟨by first | exact Kd.S_nil _ _ _ _ _ | exact Kd.N_nil _ _ _ _ _ | exact Kd.V_nil _ _ _ _ _ | exact Kd.Q_nil _ _ _ _ _ | exact Kd.R_nil _ _ _ _ _⟩, ⟨bl_⟩⟩
  case round =>
   clear H'
   try clear c1
   try clear p2
   try clear c3
   try clear c4
   obtain ⟨x8_1, x24_1, rfl, HA, HK1, HO_6, HO_8, HB⟩ := hrel
   cases gk with
   | zero => exact absurd HA.out (by simp [spec_CrossingGroups.l0])
   | succ k1 =>
    have H := HA.out
    clear HA
    simp only [spec_CrossingGroups.l0] at H
    by_cases c8 : x24_1 < (l1.length : Int)
    ·rw [if_pos c8] at H
     have c8b0 : decide (x24_1 < (l1.length : Int)) = true := decide_eq_true c8
     clear c8
     have H' := Aside0.mk H
     clear H
     obtain ⟨Ao9, co9, eo9⟩ := Kd.R_slice HO_6.out
     subst eo9
     go_wp2
     go_loopg [10, 29] k1 (fun kq v10 v29 w' => ∃ (x10_2 : List Int) (x29_2 : Int), v29 = .int .i64 x29_2 ∧ Aside0 (spec_CrossingGroups.l1 kq t336 x8_1 x24_1 x10_2 (l1.length : Int) x24_1 t336 (t336.length : Int) x29_2 = some (r1, r2)) ∧ Aside0 (kq ≤ k1) ∧ Aside0 (Kd.R (Kd.int .i64) 3 w' w.heap.size (fun k_ => some k_ ≠ (v10 : Value).ownBlock) (.slice Ao9 t336.length co9) t336) ∧ Aside0 (Kd.S (Kd.slice 3 (Kd.int .i64)) 36 w' w.heap.size (fun k_ => some k_ ≠ ((.slice Ao9 t336.length co9) : Value).ownBlock ∧ some k_ ≠ (v10 : Value).ownBlock ∧ some k_ ≠ ((.slice Ao9 t336.length co9) : Value).ownBlock) u8 x8_1) ∧ Aside0 (Kd.R (Kd.int .i64) 3 w' w.heap.size (fun k_ => some k_ ≠ ((.slice Ao9 t336.length co9) : Value).ownBlock ∧ some k_ ≠ ((.slice Ao9 t336.length co9) : Value).ownBlock) v10 x10_2) ∧ Aside0 (Kd.R (Kd.int .i64) 3 w' w.heap.size (fun k_ => some k_ ≠ (v10 : Value).ownBlock) (.slice Ao9 t336.length co9) t336) ∧ Aside0 (Below w.heap.size w w'))
     case atStart => exact ⟨(([] : List Int)), (0), (es_), H', ⟨Nat.le_refl _⟩, ⟨by exact kr_ <| Kd.R_mono HO_6.out (fun _ hk => (by simp [Value.ownBlock]))⟩, ⟨by (with_reducible repeat (first | apply Kd.S_alloc | apply Kd.S_drewN | apply Kd.S_drew)); exact Kd.S_mono HO_8.out (fun _ hk => ⟨hk, ⟨(by simp [Value.ownBlock]), hk⟩⟩)⟩, ⟨by first | exact Kd.R_nil _ _ _ _ _ | exact Kd.N_nil _ _ _ _ _ | exact Kd.V_nil _ _ _ _ _ | exact Kd.Q_nil _ _ _ _ _ | exact Kd.S_nil _ _ _ _ _⟩, ⟨by exact kr_ <| Kd.R_mono HO_6.out (fun _ hk => (by simp [Value.ownBlock]))⟩, ⟨bl_⟩⟩
     case round =>
      clear H'
      try clear c1
      try clear p2
      try clear c3
      try clear c4
      try clear c8
      try clear c8b0
      try clear p2
      obtain ⟨x10_2, x29_2, rfl, HA, HK2, HO_6, HO_8, HO_10, HO_27, HB⟩ := hrel
      cases gk with
      | zero => exact absurd HA.out (by simp [spec_CrossingGroups.l1])
      | succ k2 =>
       have H := HA.out
       clear HA
       simp only [spec_CrossingGroups.l1] at H
       by_cases c10 : x29_2 < (t336.length : Int)
       ·rw [if_pos c10] at H
        have c10b0 : decide (x29_2 < (t336.length : Int)) = true := decide_eq_true c10
        clear c10
        by_cases c11 : 0 ≤ x29_2
        rotate_left
        ·rw [if_neg c11] at H
         exact absurd H (by simp)
        rw [if_pos c11] at H
        have c11b0 : decide (0 ≤ x29_2) = true := decide_eq_true c11
        clear c11
        by_cases c12 : x29_2 < (t336.length : Int)
        rotate_left
        ·rw [if_neg c12] at H
         exact absurd H (by simp)
        rw [if_pos c12] at H
        have c12b0 : decide (x29_2 < (t336.length : Int)) = true := decide_eq_true c12
        clear c12
        by_cases c13 : (rd t336 x29_2) = x24_1
        ·rw [if_pos c13] at H
         have c13b0 : ((rd t336 x29_2) == x24_1) = true := beq_iff_eq.mpr c13
         have c13b1 : ((rd t336 x29_2) != x24_1) = false := bne_eq_false_iff_eq.mpr c13
         clear c13
         by_cases c14 : x10_2.length < 17592186044416
         rotate_left
         ·rw [if_neg c14] at H
          exact absurd H (by simp)
         rw [if_pos c14] at H
         have LMc14 := Aside0.mk c14
         clear c14
         obtain ⟨y343, hy343⟩ : ∃ y_ : List Int, y_ = (x10_2 ++ [x29_2]) := ⟨_, rfl⟩
         replace H : (spec_CrossingGroups.l1 k2 t336 x8_1 x24_1 y343 (l1.length : Int) x24_1 t336 (t336.length : Int) (wrap64 (x29_2 + 1))) = some (r1, r2) := by first | (rw [hy343]; with_reducible exact H) | (have H2_ := (Option.bind_some _ _).symm.trans H; rw [hy343]; with_reducible exact H2_) | (have H2_ := (Option.bind_some _ _).symm.trans H; with_reducible exact H2_) | with_reducible exact H | (rw [hy343]; exact H) | exact H
         have Ny343 := Aside0.mk hy343
         clear hy343
         have H' := Aside0.mk H
         clear H
         have p342 : 0 ≤ (x29_2 : Int) := od_
         have q342 : x29_2 < (t336.length : Int) := od_
         obtain ⟨ad342, e342, hx342_0⟩ := Kd.at_int (Kd.R_reads' HO_27.out).2.2 x29_2 p342 q342
         cases e342
         replace p342 := eq_true p342
         replace q342 := eq_true q342
         go_wp2_with (first | ((with_reducible refine gate_builtin (b := .append) (xs := #[.tmp 37, .tmp 39]) rfl ?_); at_builtin; refine Kd.R_append (Kd.int .i64) (w0 := w) w.heap.size rfl (.tmp 37) (.tmp 39) 36 3 (.int .i64 0) 8 rfl Tryz.underlying36 info3 rfl (by decide) (by omega) u10 x10_2 x29_2 [.int .i64 x29_2] (fun k_ => some k_ ≠ (.slice (some ad342) t336.length co9 : Value).ownBlock ∧ some k_ ≠ (.slice (some ad342) t336.length co9 : Value).ownBlock) (fun _ => False) rfl rfl ?aP (fun _ hk => hk.elim) ?aF ?aO ?aB ?aS ?aL ?_; (case aP => exact rfl); (case aB => exact bl_); (case aF => exact (fun k_ hk => ⟨Kd.fresh' (Kd.R_lt (kr_ <| HO_6.out)) k_ hk, Kd.fresh' (Kd.R_lt (kr_ <| HO_27.out)) k_ hk⟩)); (case aO => exact (kr_ <| HO_10.out)); (case aS => exact (below_size bl_)); (case aL => have := LMc14.out; omega); intro v344 w15 ho hb hg hat; rw [← Ny343.out] at ho; have n0_ := Aside0.mk (Kd.R_after (ok := (fun _ => True)) (kr_ <| Kd.R_mono HO_6.out (fun _ hk => ⟨trivial, hk⟩)) hg hat); have n1_ := Aside0.mk (Kd.S_after (ok := (fun k_ => some k_ ≠ (.slice (some ad342) t336.length co9 : Value).ownBlock ∧ some k_ ≠ (.slice (some ad342) t336.length co9 : Value).ownBlock)) (by (with_reducible repeat (first | apply Kd.S_alloc | apply Kd.S_drewN | apply Kd.S_drew)); exact Kd.S_mono HO_8.out (fun _ hk => ⟨⟨hk.1, hk.2.2⟩, hk.2.1⟩)) hg hat); have n2_ := Aside0.mk (Kd.R_after (ok := (fun _ => True)) (kr_ <| Kd.R_mono HO_27.out (fun _ hk => ⟨trivial, hk⟩)) hg hat); have n3_ := Aside0.mk (hb); have n4_ := Aside0.mk (ho); clear HO_6; clear HO_8; clear HO_27; clear HB; clear HO_10; have HO_6 := n0_; have HO_8 := n1_; have HO_27 := n2_; have HB := n3_; have HO345 := n4_; clear n0_ n1_ n2_ n3_ n4_; clear ho hb hg hat))
         go_roundg k2
         case measure => have := HK1.out; have := HK2.out; omega
         case rel => exact ⟨(y343), (wrap64 (x29_2 + 1)), (es_), H', ⟨by have := HK1.out; have := HK2.out; omega⟩, ⟨by exact kr_ <| Kd.R_mono HO_6.out (fun _ hk => hk.2)⟩, ⟨by (with_reducible repeat (first | apply Kd.S_alloc | apply Kd.S_drewN | apply Kd.S_drew)); exact Kd.S_mono HO_8.out (fun _ hk => ⟨hk.1.1, ⟨hk.2, hk.1.2⟩⟩)⟩, ⟨by exact kr_ <| HO345.out⟩, ⟨by exact kr_ <| Kd.R_mono HO_27.out (fun _ hk => hk.2)⟩, ⟨bl_⟩⟩
        ·rw [if_neg c13] at H
         have c13b0 : ((rd t336 x29_2) == x24_1) = false := beq_eq_false_iff_ne.mpr c13
         have c13b1 : ((rd t336 x29_2) != x24_1) = true := bne_iff_ne.mpr c13
         have H' := Aside0.mk H
         clear H
         have p342 : 0 ≤ (x29_2 : Int) := od_
         have q342 : x29_2 < (t336.length : Int) := od_
         obtain ⟨ad342, e342, hx342_0⟩ := Kd.at_int (Kd.R_reads' HO_27.out).2.2 x29_2 p342 q342
         cases e342
         replace p342 := eq_true p342
         replace q342 := eq_true q342
         go_wp2
         go_roundg k2
         case measure => have := HK1.out; have := HK2.out; omega
         case rel => exact ⟨(x10_2), (wrap64 (x29_2 + 1)), (es_), H', ⟨by have := HK1.out; have := HK2.out; omega⟩, ⟨by exact kr_ <| HO_6.out⟩, ⟨by (with_reducible repeat (first | apply Kd.S_alloc | apply Kd.S_drewN | apply Kd.S_drew)); exact HO_8.out⟩, ⟨by exact kr_ <| HO_10.out⟩, ⟨by exact kr_ <| HO_27.out⟩, ⟨bl_⟩⟩
       ·rw [if_neg c10] at H
        have c10b0 : decide (x29_2 < (t336.length : Int)) = false := decide_eq_false c10
        clear c10
        by_cases c16 : (x10_2.length : Int) > 0
        ·rw [if_pos c16] at H
         have c16b0 : decide (0 < (x10_2.length : Int)) = true := decide_eq_true c16
         have c16b1 : decide (0 < x10_2.length) = true := decide_eq_true (by omega)
         clear c16
         by_cases c17 : x8_1.length < 5864062014805
         rotate_left
         ·rw [if_neg c17] at H
          exact absurd H (by simp)
         rw [if_pos c17] at H
         have LMc17 := Aside0.mk c17
         clear c17
         obtain ⟨y346, hy346⟩ : ∃ y_ : List (List Int), y_ = (x8_1 ++ [x10_2]) := ⟨_, rfl⟩
         replace H : (spec_CrossingGroups.l0 k2 t336 y346 (l1.length : Int) (wrap64 (x24_1 + 1))) = some (r1, r2) := by first | (rw [hy346]; with_reducible exact H) | (have H2_ := (Option.bind_some _ _).symm.trans H; rw [hy346]; with_reducible exact H2_) | (have H2_ := (Option.bind_some _ _).symm.trans H; with_reducible exact H2_) | with_reducible exact H | (rw [hy346]; exact H) | exact H
         have Ny346 := Aside0.mk hy346
         clear hy346
         have H' := Aside0.mk H
         clear H
         obtain ⟨Ao18, co18, eo18⟩ := Kd.R_slice HO_10.out
         subst eo18
         go_wp2_with (first | ((with_reducible refine gate_builtin (b := .append) (xs := #[.tmp 45, .tmp 47]) rfl ?_); at_builtin; refine Kd.S_append (Kd.slice 3 (Kd.int .i64)) (w0 := w) w.heap.size rfl (.tmp 45) (.tmp 47) 27 36 (.slice none 0 0) 24 rfl Tryz.underlying27 info36 rfl (by decide) (by omega) u8 x8_1 x10_2 [.slice Ao18 x10_2.length co18] (fun k_ => some k_ ≠ (.slice Ao9 t336.length co9 : Value).ownBlock ∧ some k_ ≠ (.slice Ao9 t336.length co9 : Value).ownBlock) (fun k_ => some k_ = (.slice Ao18 x10_2.length co18 : Value).ownBlock) rfl rfl ?aP (fun k_ hk_ => ((Kd.R_mono (ok' := fun k_ => ((fun k_ => some k_ ≠ (.slice Ao9 t336.length co9 : Value).ownBlock ∧ some k_ ≠ (.slice Ao9 t336.length co9 : Value).ownBlock)) k_ ∧ some k_ ≠ (u8 : Value).ownBlock) (Kd.R_apart' (HO_10.out) (Kd.S_typed HO_8.out) (by decide)) (fun k_ hk => ⟨⟨hk.1.1, hk.1.2⟩, hk.2⟩))).1 k_ hk_.symm) ?aF ?aO ?aB ?aS ?aL ?_; (case aP => exact Kd.M_row (Kd.R_mono (Kd.R_tight rfl (Kd.R_mono (ok' := fun k_ => ((fun k_ => some k_ ≠ (.slice Ao9 t336.length co9 : Value).ownBlock ∧ some k_ ≠ (.slice Ao9 t336.length co9 : Value).ownBlock)) k_ ∧ some k_ ≠ (u8 : Value).ownBlock) (Kd.R_apart' (HO_10.out) (Kd.S_typed HO_8.out) (by decide)) (fun k_ hk => ⟨⟨hk.1.1, hk.1.2⟩, hk.2⟩))) (fun _ h_ => h_))); (case aB => exact bl_); (case aF => exact (fun k_ hk => ⟨Kd.fresh' (Kd.R_lt (kr_ <| HO_6.out)) k_ hk, Kd.fresh' (Kd.R_lt (kr_ <| HO_27.out)) k_ hk⟩)); (case aO => exact (by (with_reducible repeat (first | apply Kd.S_alloc | apply Kd.S_drewN | apply Kd.S_drew)); exact Kd.S_mono HO_8.out (fun k_ hk => ⟨⟨hk.1, hk.2.2⟩, fun e_ => hk.2.1 e_⟩))); (case aS => exact (below_size bl_)); (case aL => have := LMc17.out; omega); intro v347 w19 ho hb hg hat; rw [← Ny346.out] at ho; have n0_ := Aside0.mk (Kd.R_over' (kr_ <| HO_6.out) (Kd.S_typed (by (with_reducible repeat (first | apply Kd.S_alloc | apply Kd.S_drewN | apply Kd.S_drew)); exact HO_8.out)) (by decide) hg); have n1_ := Aside0.mk (Kd.R_over' (kr_ <| HO_27.out) (Kd.S_typed (by (with_reducible repeat (first | apply Kd.S_alloc | apply Kd.S_drewN | apply Kd.S_drew)); exact HO_8.out)) (by decide) hg); have n2_ := Aside0.mk (hb); have n3_ := Aside0.mk (ho); clear HO_6; clear HO_27; clear HB; clear HO_8; clear HO_10; have HO_6 := n0_; have HO_27 := n1_; have HB := n2_; have HO348 := n3_; clear n0_ n1_ n2_ n3_; clear ho hb hg hat))
         go_roundg k2
         case measure => have := HK1.out; have := HK2.out; omega
         case rel => exact ⟨(y346), (wrap64 (x24_1 + 1)), (es_), H', ⟨by have := HK1.out; have := HK2.out; omega⟩, ⟨by exact kr_ <| Kd.R_mono HO_6.out (fun _ hk => trivial)⟩, ⟨by (with_reducible repeat (first | apply Kd.S_alloc | apply Kd.S_drewN | apply Kd.S_drew)); exact Kd.S_mono HO348.out (fun _ hk => hk.1)⟩, ⟨bl_⟩⟩
        ·rw [if_neg c16] at H
         have c16b0 : decide (0 < (x10_2.length : Int)) = false := decide_eq_false c16
         have c16b1 : decide (0 < x10_2.length) = false := decide_eq_false (by omega)
         clear c16
         have H' := Aside0.mk H
         clear H
         obtain ⟨Ao20, co20, eo20⟩ := Kd.R_slice HO_10.out
         subst eo20
         go_wp2
         go_roundg k2
         case measure => have := HK1.out; have := HK2.out; omega
         case rel => exact ⟨(x8_1), (wrap64 (x24_1 + 1)), (es_), H', ⟨by have := HK1.out; have := HK2.out; omega⟩, ⟨by exact kr_ <| Kd.R_mono HO_6.out (fun _ hk => trivial)⟩, ⟨by (with_reducible repeat (first | apply Kd.S_alloc | apply Kd.S_drewN | apply Kd.S_drew)); exact Kd.S_mono HO_8.out (fun _ hk => hk.1)⟩, ⟨bl_⟩⟩
    ·rw [if_neg c8] at H
     have c8b0 : decide (x24_1 < (l1.length : Int)) = false := decide_eq_false c8
     clear c8
     simp only [Option.some.injEq, Prod.mk.injEq] at H
     obtain ⟨rfl, rfl⟩ := H
     go_wp2
     go_ret2
     exact ⟨_, ew_, by (with_reducible repeat (first | apply Kd.S_alloc | apply Kd.S_drewN | apply Kd.S_drew)); exact Kd.S_mono HO_8.out (fun _ hk => trivial), bl_⟩
 ·replace c4 := Bool.eq_false_iff.mpr c4
  subst c4
  have H1 : (some (([] : List (List Int)), false)) = some (r1, r2) := by rw [if_neg (show ¬ (false = true) by decide)] at H; exact H
  clear H
  have H := H1
  clear H1
  simp only [Option.some.injEq, Prod.mk.injEq] at H
  obtain ⟨rfl, rfl⟩ := H
  go_enter Tryz.func13, Tryz.ntmps13
  go_wp2_with (first | ((with_reducible refine gate_callee (f := 36) rfl ?_); refine goesL_ (some 15) rfl rfl Tryz.func36 (by kernel_rfl) rfl #[.int .i64 a0, .slice A1 l1.length c1] rfl ma_ ?_; (with_reducible refine (spec_cdGood.calls k a0 _ _ l1 false _ ?side1 ?side2 A3.out).mono ?_); (case side1 => exact kc_ <| HR1.out); (case side2 => exact HC1.out); rintro e w21 ⟨rfl, hb⟩; refine ⟨_, rfl, ?_⟩; have n0_ := Aside0.mk (below_step bl_ hb); clear HB; have HB := n0_; clear n0_; (try clear hb); (try clear hb2); (try clear hk); (try clear hi)))
  go_ret2
  exact ⟨_, ew_, by first | exact Kd.S_nil _ _ _ _ _ | exact Kd.N_nil _ _ _ _ _ | exact Kd.V_nil _ _ _ _ _ | exact Kd.Q_nil _ _ _ _ _ | exact Kd.R_nil _ _ _ _ _, bl_⟩
def IdxPostL (q : List Int → Bool) (l : List (List Int)) (w : World) (e : Ending) (w' : World) : Prop := ∃ r : Int, e = .returned (.int .i64 r) ∧ decide (0 ≤ r) = l.any q ∧ ∃ n, w' = w.drewN n
def NoneYetL (q : List Int → Bool) (l : List (List Int)) (kk : Nat) : Prop := ∀ j : Nat, j < kk → q (rd_L3 l j) = false
theorem rdL_mem (l : List (List Int)) (j : Nat) (h : j < l.length) : rd_L3 l (j : Int) ∈ l := by
 unfold rd_L3
 rw [Int.toNat_natCast, List.getD_eq_getElem?_getD, List.getElem?_eq_getElem h, Option.getD_some]
 exact List.getElem_mem h
theorem noneYetL_all {q : List Int → Bool} {l : List (List Int)} (h : NoneYetL q l l.length) : l.any q = false := by
 rw [List.any_eq_false]
 intro x hx
 obtain ⟨i, hi, rfl⟩ := List.getElem_of_mem hx
 have := h i hi
 unfold rd_L3 at this
 rw [Int.toNat_natCast, List.getD_eq_getElem?_getD, List.getElem?_eq_getElem hi, Option.getD_some] at this
 rw [this]; simp
theorem anyL_at {q : List Int → Bool} {l : List (List Int)} {kk : Nat} (hk : kk < l.length) (h : q (rd_L3 l kk) = true) : l.any q = true := by
 rw [List.any_eq_true]
 exact ⟨_, rdL_mem l kk hk, h⟩
theorem indexFuncL_walk (q : List Int → Bool) (g : Nat) (lb : Array Value) (eg : ∀ args w, (callFunc g args).run Tryz.prog w = .ok (.enter g args) w) (A : Option Addr) (c : Nat) (l : List (List Int)) (w : World)
  (hr : Kd.C (Kd.slice 3 (Kd.int .i64)) w A l.length l) (hl : l.length ≤ 9223372036854775807)
  (hq : ∀ (x : List Int) (Ax : Option Addr) (cx n : Nat), x ∈ l → Kd.C (Kd.int .i64) w Ax x.length x → x.length ≤ cx → Calls Tryz.prog g (#[.slice Ax x.length cx] ++ lb) (w.drewN n) fun e w' => e = .returned (.bool (q x)) ∧ ∃ m, w' = (w.drewN n).drewN m) :
  Calls Tryz.prog 66 #[.slice A l.length c, .func (.func g) #[] lb] w (IdxPostL q l w) := by
 have HR := Aside0.mk hr
 clear hr
 have HQ := Aside0.mk hq
 clear hq
 go_enter Tryz.func66, Tryz.ntmps66
 go_wp2
 go_loopg [5, 8] l.length (fun gg _ s8 wr => ∃ kk n : Nat, kk ≤ l.length ∧ l.length - kk ≤ gg ∧ s8 = .int .i64 kk ∧ wr = w.drewN n ∧ Aside0 (NoneYetL q l kk))
 case atStart => exact ⟨0, 0, Nat.zero_le _, by omega, rfl, rfl, ⟨fun j hj => absurd hj (Nat.not_lt_zero _)⟩⟩
 case round =>
  obtain ⟨kk, n, hkk, hg, rfl, rfl, HN⟩ := hrel
  by_cases hlt : kk < l.length
  ·have hltz : (kk : Int) < (l.length : Int) := by omega
   obtain ⟨ad, A0, c0, rfl, hcell0, hle0, hC0⟩ := at_L3 HR.out (kk : Int) (by omega) hltz
   rw [Int.toNat_natCast] at hcell0
   have hcall := HQ.out (rd_L3 l kk) A0 c0 n (rdL_mem l kk hlt) hC0 hle0
   clear hle0 hC0
   generalize hy : rd_L3 l kk = y at hcell0 hcall
   have HY := Aside0.mk hy
   clear hy
   cases hqy : q y with
   | true =>
    rw [hqy] at hcall
    have HCALL := Aside0.mk hcall
    clear hcall
    have HQY := Aside0.mk hqy
    clear hqy
    go_wp2_with fail
    refine HCALL.out.mono ?_
    rintro e w' ⟨rfl, q', rfl⟩
    go_wp2_with fail
    go_ret
    refine ⟨_, rfl, ?_, _, rfl⟩
    rw [anyL_at hlt (by rw [HY.out]; exact HQY.out)]
    simp
   | false =>
    rw [hqy] at hcall
    have HCALL := Aside0.mk hcall
    clear hcall
    have HQY := Aside0.mk hqy
    clear hqy
    go_wp2_with fail
    refine HCALL.out.mono ?_
    rintro e w' ⟨rfl, q', rfl⟩
    go_wp2_with fail
    go_roundg (l.length - (kk + 1))
    case measure => omega
    case rel =>
     refine ⟨kk + 1, _, by omega, by omega, by go_num, rfl, ⟨fun j hj => ?_⟩⟩
     by_cases e : j = kk
     ·subst e
      rw [HY.out]; exact HQY.out
     ·exact HN.out j (by omega)
  ·have hltz : ¬ (kk : Int) < (l.length : Int) := by omega
   obtain rfl : kk = l.length := by omega
   go_wp2
   go_ret
   refine ⟨_, rfl, ?_, n, rfl⟩
   rw [noneYetL_all HN.out]
   rfl
theorem containsFuncL_walk (q : List Int → Bool) (g : Nat) (lb : Array Value) (eg : ∀ args w, (callFunc g args).run Tryz.prog w = .ok (.enter g args) w) (A : Option Addr) (c : Nat) (l : List (List Int)) (w : World)
  (hr : Kd.C (Kd.slice 3 (Kd.int .i64)) w A l.length l) (hl : l.length ≤ 9223372036854775807)
  (hq : ∀ (x : List Int) (Ax : Option Addr) (cx n : Nat), x ∈ l → Kd.C (Kd.int .i64) w Ax x.length x → x.length ≤ cx → Calls Tryz.prog g (#[.slice Ax x.length cx] ++ lb) (w.drewN n) fun e w' => e = .returned (.bool (q x)) ∧ ∃ m, w' = (w.drewN n).drewN m) :
  Calls Tryz.prog 41 #[.slice A l.length c, .func (.func g) #[] lb] w fun e w' => e = .returned (.bool (l.any q)) ∧ ∃ n, w' = w.drewN n := by
 have hc := indexFuncL_walk q g lb eg A c l w hr hl hq
 clear hr hl hq eg
 generalize hz : l.any q = z
 have HZ := Aside0.mk hz
 clear hz
 go_enter Tryz.func41, Tryz.ntmps41
 have HC := Aside0.mk hc
 clear hc
 go_wp2_with fail
 refine HC.out.mono ?_
 rintro e w' ⟨r, rfl, hr0, n, rfl⟩
 have HR0 := Aside0.mk hr0
 clear hr0
 go_wp2_with fail
 go_ret
 exact ⟨by rw [← HZ.out, ← HR0.out]; rfl, n, rfl⟩
def evP (E : List Bool) (p : List Int) : Bool := rdOf false E (rd p 0) == rdOf false E (rd p 1)
theorem sides_closure (E : List Bool) (AE : Option Addr) (cE B : Nat) (x : List Int) (Ax : Option Addr) (cx : Nat) (w : World) (hcell : w.cell? ⟨B, 0, none⟩ = some (.slice AE E.length cE)) (hE : Kd.C Kd.bool w AE E.length E)
  (hx : Kd.C (Kd.int .i64) w Ax x.length x) (hx2 : x.length = 2) (h0 : 0 ≤ rd x 0 ∧ rd x 0 < E.length) (h1 : 0 ≤ rd x 1 ∧ rd x 1 < E.length) :
  Calls Tryz.prog 42 (#[.slice Ax x.length cx] ++ #[.pointer (some ⟨B, 0, none⟩)]) w fun e w' => e = .returned (.bool (evP E x)) ∧ ∃ m, w' = w.drewN m := by
 have hu := Tryz.underlying56
 obtain ⟨ad, rfl, hp0⟩ := Kd.at_int hx 0 (by omega) (by omega)
 obtain ⟨ad2, e2, hp1⟩ := Kd.at_int hx 1 (by omega) (by omega)
 obtain rfl : ad = ad2 := Option.some.inj e2
 obtain ⟨ae, rfl, he0⟩ := Kd.at_bool hE (rd x 0) h0.1 h0.2
 obtain ⟨ae2, e3, he1⟩ := Kd.at_bool hE (rd x 1) h1.1 h1.2
 obtain rfl : ae = ae2 := Option.some.inj e3
 clear e2 e3 hx hE
 simp only [show (0 : Int).toNat = 0 from rfl, show (1 : Int).toNat = 1 from rfl, Addr.add_zero'] at hp0 hp1
 simp only [Go.Addr.add, Nat.reduceEqDiff, ↓reduceIte] at hp1
 obtain ⟨h00, h01⟩ := h0
 obtain ⟨h10, h11⟩ := h1
 unfold evP
 generalize rd x 0 = p at *
 generalize rd x 1 = q at *
 rw [hx2]
 show Calls Tryz.prog 42 #[.slice (some ad) 2 cx, .pointer (some ⟨B, 0, none⟩)] w _
 go_enter Tryz.func42, Tryz.ntmps42
 go_wp2
 go_region
 all_goals go_wp2
 all_goals go_ret
 all_goals exact ⟨rfl, 1, rfl⟩
theorem infoU8 : (Tryz.prog.info? 5).map (fun i => (i.zero, i.size, i.bytes)) = some (some (.int .u8 0), 1, 1) := by kernel_rfl
def sideL (E : List Bool) : List Int := E.map fun b => if b = true then 105 else 111
def evOk (E : List Bool) (p : List Int) : Bool := decide (p.length = 2) && (decide (0 ≤ rd p 0 ∧ rd p 0 < E.length) && decide (0 ≤ rd p 1 ∧ rd p 1 < E.length))
def impl_SidesOfChords.f (k : Nat) (a0 : Int) (l1 : List S44) : Option (ByteArray × Bool) :=
 (impl_CrossingPairs.f k a0 l1).bind fun ps => if ps.2 = false then some (⟨#[]⟩, false) else (impl_groups.f k l1).bind fun ge =>
  if (ps.1.all (evOk ge.2)) = true ∧ ge.2.length ≤ 1000 ∧ ps.1.length ≤ 1000000 then (if ps.1.any (evP ge.2) = true then some (⟨#[]⟩, false) else some (strOfNums (sideL ge.2), true)) else none
theorem sideL_take (E : List Bool) (i : Nat) (hi : i < E.length) : sideL (E.take (i + 1)) = sideL (E.take i) ++ [if rdOf false E (i : Int) = true then 105 else 111] := by
 have e : E.take (i + 1) = E.take i ++ [E[i]] := List.take_succ_eq_append_getElem hi
 have e2 : rdOf false E (i : Int) = E[i] := by
  unfold rdOf
  rw [Int.toNat_natCast, List.getD_eq_getElem?_getD, List.getElem?_eq_getElem hi, Option.getD_some]
 unfold sideL
 rw [e, e2, List.map_append]
 rfl
theorem sideL_len (E : List Bool) (i : Nat) : (sideL (E.take i)).length ≤ i := by
 unfold sideL
 rw [List.length_map, List.length_take]
 omega
theorem sides_walk (k : Nat) (a0 : Int) (A1 : Option Addr) (c1 : Nat) (l1 : List S44) (ps : List (List Int)) (gs : List (List Int)) (E : List Bool) (z : Bool) (w : World) (hr1 : Kd.C k44 w A1 l1.length l1) (hc1 : l1.length ≤ c1)
  (hps : impl_CrossingPairs.f k a0 l1 = some (ps, true)) (hge : impl_groups.f k l1 = some (gs, E)) (hok : ∀ p ∈ ps, evOk E p = true) (hE : E.length ≤ 1000) (hpl : ps.length ≤ 1000000) (hz : Aside0 (ps.any (evP E) = z)) :
  Calls Tryz.prog 14 #[.int .i64 a0, .slice A1 l1.length c1] w fun e w' => e = .returned (.tuple #[.string (if z = true then ⟨#[]⟩ else strOfNums (sideL E)), .bool (!z)]) ∧ Below w.heap.size w w' := by
 have HS := Aside0.mk (impl_CrossingPairs.calls k a0 A1 c1 l1 ps true w hr1 hc1 hps)
 have HG := Aside0.mk (fun (W : World) (hb : Below w.heap.size w W) => impl_groups.calls k A1 c1 l1 gs E W (Kd.C_below hr1 hb) hc1 hge)
 have HOK := Aside0.mk hok
 clear hr1 hc1 hps hge hok
 go_enter Tryz.func14, Tryz.ntmps14
 go_wp2_with fail
 refine HS.out.mono ?_
 rintro e w1 ⟨v0, rfl, hS, hb1⟩
 have HB := Aside0.mk hb1
 have HP := Aside0.mk hS
 clear hb1 HS hS
 go_wp2_with fail
 refine (HG.out _ HB.out).mono ?_
 rintro e w2 ⟨vg, ve, rfl, _, hE2, hb2⟩
 have HB2 := Aside0.mk (below_step HB.out hb2)
 have HP2 := Aside0.mk (Kd.S_below HP.out hb2)
 obtain ⟨AE, cE, rfl, hle, _⟩ := Kd.R_reads hE2
 have HE := Aside0.mk hE2
 clear HG HB HP hE2 hb2
 obtain ⟨AP, cP, rfl, hlp, _⟩ := Kd.S_reads HP2.out
 have HC := Aside0.mk (containsFuncL_walk (evP E) 42 #[.pointer (some ⟨w2.heap.size, 0, none⟩)] (enters_of Tryz.func42 (by kernel_rfl) rfl) AP cP ps (w2.alloc (.cells #[.slice AE E.length cE] 56)) (Kd.S_reads' (Kd.S_alloc HP2.out _)).2.2 (by omega) (fun x Ax cx n hx hC hl => by
  have ho := HOK.out x hx
  unfold evOk at ho
  rw [Bool.and_eq_true, Bool.and_eq_true, decide_eq_true_eq, decide_eq_true_eq, decide_eq_true_eq] at ho
  exact sides_closure E AE cE w2.heap.size x Ax cx ((w2.alloc (.cells #[.slice AE E.length cE] 56)).drewN n) (by simp) (Kd.C_drewN (Kd.R_reads' (Kd.R_alloc HE.out _)).2.2 n) (Kd.C_drewN hC n) ho.1 ho.2.1 ho.2.2))
 rw [hz.out] at HC
 go_wp2_with fail
 refine HC.out.mono ?_
 rintro e w3 ⟨rfl, n3, rfl⟩
 cases z with
 | true =>
  go_wp2_with fail
  go_ret2
  exact ⟨rfl, pw_below_drewN (below_alloc HB2.out _) n3⟩
 | false =>
  have HB3 := Aside0.mk (pw_below_drewN (below_alloc HB2.out (.cells #[.slice AE E.length cE] 56)) n3)
  have HE3 := Aside0.mk (Kd.R_drewN (Kd.R_alloc HE.out (.cells #[.slice AE E.length cE] 56)) n3)
  have hcz0 : ((w2.alloc (.cells #[.slice AE E.length cE] 56)).drewN n3).cell? ⟨w2.heap.size, 0, none⟩ = some (.slice AE E.length cE) := by simp
  generalize (w2.alloc (.cells #[.slice AE E.length cE] 56)).drewN n3 = W3 at HB3 HE3 hcz0 ⊢
  have hcz : (W3.alloc (.cells #[] 5)).cell? ⟨w2.heap.size, 0, none⟩ = some (.slice AE E.length cE) := (World.cell?_alloc_past _ _ _ (World.block_lt_of_cell? _ _ hcz0)).trans hcz0
  clear hcz0
  go_wp2_with fail
  clear hcz
  go_loopg [10, 32] E.length (fun gg v10 v32 wr => ∃ (i : Nat), v32 = .int .i64 (i : Int) ∧ i ≤ E.length ∧ E.length - i ≤ gg ∧ Aside0 (Kd.R (Kd.int .u8) 5 wr W3.heap.size (fun _ => True) v10 (sideL (E.take i))) ∧ Aside0 (Below W3.heap.size W3 wr))
  case atStart => exact ⟨0, rfl, Nat.zero_le _, by omega, ⟨show Kd.R (Kd.int .u8) 5 (W3.alloc (.cells #[] 5)) W3.heap.size (fun _ => True) (.slice (some ⟨W3.heap.size, 0, none⟩) 0 0) [] from ⟨fun _ _ => trivial, OwnRow.lit W3 W3.heap.size (Reps.none _ _) (Nat.le_refl _) (by simp)⟩⟩, ⟨below_alloc (Below.refl _ _) _⟩⟩
  case round =>
   obtain ⟨i, rfl, hi, hmi, HO, HX⟩ := hrel
   by_cases hil : i < E.length
   ·have c0 : decide ((i : Int) < (E.length : Int)) = true := decide_eq_true (by omega)
    obtain ⟨ad, rfl, hcell⟩ := Kd.at_bool (Kd.R_reads' (Kd.R_below HE3.out HX.out)).2.2 (i : Int) (by omega) (by omega)
    rw [Int.toNat_natCast] at hcell
    have HSL := Aside0.mk (sideL_len E i)
    cases hbb : rdOf false E (i : Int) with
    | true =>
     have HB0 := Aside0.mk hbb
     rw [hbb] at hcell
     clear hbb
     go_wp2_with (first | ((with_reducible refine gate_builtin (b := .append) (xs := #[.tmp 37, .tmp 38]) rfl ?_); at_builtin; refine Kd.R_append (Kd.int .u8) (w0 := W3) W3.heap.size rfl (.tmp 37) (.tmp 38) 22 5 (.int .u8 0) 1 rfl Tryz.underlying22 infoU8 rfl (by decide) (by omega) u10 (sideL (E.take i)) 105 [.int .u8 105] (fun _ => True) (fun _ => False) rfl (by go_simp) ?aP (fun _ hk => hk.elim) ?aF HO.out HX.out ?aS ?aL ?_; (case aP => exact rfl); (case aF => exact fun _ _ => trivial); (case aS => exact below_size HX.out); (case aL => have := HSL.out; omega); intro v1 w4 ho hb hg hat; have n0_ := Aside0.mk ho; have n1_ := Aside0.mk hb; clear ho hb hg hat))
     go_roundg (E.length - (i + 1))
     case measure => omega
     case rel =>
      refine ⟨i + 1, by go_num, by omega, Nat.le_refl _, ⟨?_⟩, n1_⟩
      rw [sideL_take E i hil, HB0.out]
      exact n0_.out
    | false =>
     have HB0 := Aside0.mk hbb
     rw [hbb] at hcell
     clear hbb
     go_wp2_with (first | ((with_reducible refine gate_builtin (b := .append) (xs := #[.tmp 40, .tmp 41]) rfl ?_); at_builtin; refine Kd.R_append (Kd.int .u8) (w0 := W3) W3.heap.size rfl (.tmp 40) (.tmp 41) 22 5 (.int .u8 0) 1 rfl Tryz.underlying22 infoU8 rfl (by decide) (by omega) u10 (sideL (E.take i)) 111 [.int .u8 111] (fun _ => True) (fun _ => False) rfl (by go_simp) ?aP (fun _ hk => hk.elim) ?aF HO.out HX.out ?aS ?aL ?_; (case aP => exact rfl); (case aF => exact fun _ _ => trivial); (case aS => exact below_size HX.out); (case aL => have := HSL.out; omega); intro v1 w4 ho hb hg hat; have n0_ := Aside0.mk ho; have n1_ := Aside0.mk hb; clear ho hb hg hat))
     go_roundg (E.length - (i + 1))
     case measure => omega
     case rel =>
      refine ⟨i + 1, by go_num, by omega, Nat.le_refl _, ⟨?_⟩, n1_⟩
      rw [sideL_take E i hil, HB0.out]
      exact n0_.out
   ·obtain rfl : i = E.length := by omega
    have c0 : decide ((E.length : Int) < (E.length : Int)) = false := decide_eq_false (by omega)
    have ht : E.take E.length = E := List.take_length
    have HO2 := HO.out
    rw [ht] at HO2
    obtain ⟨Ao, co, rfl, hlo, hCo⟩ := Kd.R_reads HO2
    have hcv := Kd.C_string (P := Tryz.prog) (A := Ao) (c := co) Tryz.underlying22 Tryz.underlying5 Tryz.underlying9 hCo
    clear ht hCo hlo HO2
    go_wp2_with fail
    go_ret2
    exact ⟨rfl, below_step HB3.out HX.out⟩
theorem sides_small (k : Nat) (a0 : Int) (A1 : Option Addr) (c1 : Nat) (l1 : List S44) (ps : List (List Int)) (w : World) (hr1 : Kd.C k44 w A1 l1.length l1) (hc1 : l1.length ≤ c1)
  (hps : impl_CrossingPairs.f k a0 l1 = some (ps, false)) :
  Calls Tryz.prog 14 #[.int .i64 a0, .slice A1 l1.length c1] w fun e w' => e = .returned (.tuple #[.string ⟨#[]⟩, .bool false]) ∧ Below w.heap.size w w' := by
 have HS := Aside0.mk (impl_CrossingPairs.calls k a0 A1 c1 l1 ps false w hr1 hc1 hps)
 clear hr1 hc1 hps
 go_enter Tryz.func14, Tryz.ntmps14
 go_wp2_with fail
 refine HS.out.mono ?_
 rintro e w1 ⟨v0, rfl, hS, hb1⟩
 have HB := Aside0.mk hb1
 clear hb1 HS hS
 go_wp2_with fail
 go_ret2
 exact ⟨rfl, HB.out⟩
theorem impl_SidesOfChords.calls (k : Nat) (a0 : Int) (A1 : Option Addr) (c1 : Nat) (l1 : List S44) (r1 : ByteArray) (r2 : Bool) (w : World) (hr1 : Kd.C k44 w A1 l1.length l1) (hc1 : l1.length ≤ c1) (h : impl_SidesOfChords.f k a0 l1 = some (r1, r2)) :
  Calls Tryz.prog 14 #[.int .i64 a0, .slice A1 l1.length c1] w fun e w' => e = .returned (.tuple #[.string r1, .bool r2]) ∧ Below w.heap.size w w' := by
 unfold impl_SidesOfChords.f at h
 obtain ⟨⟨ps, b⟩, hps, h⟩ := Option.bind_eq_some_iff.mp h
 cases b with
 | false =>
  simp only [if_true] at h
  injection h with h
  injection h with e1 e2
  subst e1
  subst e2
  exact sides_small k a0 A1 c1 l1 ps w hr1 hc1 hps
 | true =>
  simp only [Bool.true_eq_false, if_false] at h
  obtain ⟨⟨gs, E⟩, hge, h⟩ := Option.bind_eq_some_iff.mp h
  simp only at h
  by_cases hc : (ps.all (evOk E)) = true ∧ E.length ≤ 1000 ∧ ps.length ≤ 1000000
  ·rw [if_pos hc] at h
   obtain ⟨hc1', hc2, hc3⟩ := hc
   have hw := sides_walk k a0 A1 c1 l1 ps gs E (ps.any (evP E)) w hr1 hc1 hps hge (List.all_eq_true.1 hc1') hc2 hc3 ⟨rfl⟩
   by_cases hz : ps.any (evP E) = true
   ·rw [if_pos hz] at h
    injection h with h
    injection h with e1 e2
    subst e1
    subst e2
    rw [hz] at hw
    simpa using hw
   ·rw [if_neg hz] at h
    injection h with h
    injection h with e1 e2
    subst e1
    subst e2
    rw [Bool.eq_false_iff.2 hz] at hw
    simpa using hw
  ·rw [if_neg hc] at h
   cases h
theorem impl_SidesOfChords.mono (a0 : Int) (l1 : List S44) (k : Nat) : LeO (impl_SidesOfChords.f k a0 l1) (impl_SidesOfChords.f (k + 1) a0 l1) := by
 unfold impl_SidesOfChords.f
 exact LeO.bind (impl_CrossingPairs.mono _ _ k) (fun ps => LeO.ite (LeO.refl _) (LeO.bind (impl_groups.mono _ k) (fun ge => LeO.refl _)))
mutual
def spec_SidesOfChords.l0 : Nat → List Int → List (List Int) → Int → Int → Option (ByteArray × Bool)
 | 0, _, _, _, _ => none
 | k + 1, x7, x23, x24, x25 => if x25 < x24 then (if 0 ≤ x25 then (if x25 < (x23.length : Int) then (if 0 < ((rd_L3 x23 x25).length : Int) then (if 0 ≤ (rd (rd_L3 x23 x25) 0) then (if (rd (rd_L3 x23 x25) 0) < (x7.length : Int) then (if 1 < ((rd_L3 x23 x25).length : Int) then (if 0 ≤ (rd (rd_L3 x23 x25) 1) then (if (rd (rd_L3 x23 x25) 1) < (x7.length : Int) then (if (Int.tmod (rd x7 (rd (rd_L3 x23 x25) 0)) 2) = (Int.tmod (rd x7 (rd (rd_L3 x23 x25) 1)) 2) then (some ((⟨#[]⟩ : ByteArray), false)) else (spec_SidesOfChords.l0 k x7 x23 x24 (wrap64 (x25 + 1)))) else (none)) else (none)) else (none)) else (none)) else (none)) else (none)) else (none)) else (none)) else (spec_SidesOfChords.l1 k (⟨#[]⟩ : ByteArray) x7 (x7.length : Int) 0)
def spec_SidesOfChords.l1 : Nat → ByteArray → List Int → Int → Int → Option (ByteArray × Bool)
 | 0, _, _, _, _ => none
 | k + 1, x10, x45, x46, x47 => if x47 < x46 then (if 0 ≤ x47 then (if x47 < (x45.length : Int) then (if (Int.tmod (rd x45 x47) 2) = 0 then (if x10.size + 1 ≤ 9223372036854775807 then (spec_SidesOfChords.l1 k (x10 ++ (⟨#[105]⟩ : ByteArray)) x45 x46 (wrap64 (x47 + 1))) else (none)) else (if x10.size + 1 ≤ 9223372036854775807 then (spec_SidesOfChords.l1 k (x10 ++ (⟨#[111]⟩ : ByteArray)) x45 x46 (wrap64 (x47 + 1))) else (none))) else (none)) else (none)) else (some (x10, true))
end
def spec_SidesOfChords.f (k : Nat) (a0 : Int) (l1 : List (S44)) : Option (ByteArray × Bool) := (spec_cdGood.f k a0 l1).bind fun t349 => (if t349 = true then ((spec_cdGroups.f k l1).bind fun bt350 => ((spec_cdPairs.f k l1).bind fun t356 => (spec_SidesOfChords.l0 k bt350.2 t356 (t356.length : Int) 0))) else (some ((⟨#[]⟩ : ByteArray), false)))
theorem spec_SidesOfChords.mono_l : ∀ k, (∀ y0 y1 y2 y3, LeO (spec_SidesOfChords.l0 k y0 y1 y2 y3) (spec_SidesOfChords.l0 (k + 1) y0 y1 y2 y3)) ∧ (∀ y0 y1 y2 y3, LeO (spec_SidesOfChords.l1 k y0 y1 y2 y3) (spec_SidesOfChords.l1 (k + 1) y0 y1 y2 y3))
 | 0 => ⟨fun _ _ _ _ r h => by simp [spec_SidesOfChords.l0] at h, fun _ _ _ _ r h => by simp [spec_SidesOfChords.l1] at h⟩
 | k + 1 => by
  obtain ⟨ih0, ih1⟩ := spec_SidesOfChords.mono_l k
  refine ⟨?_, ?_⟩
  ·intro y0 y1 y2 y3
   unfold spec_SidesOfChords.l0
   have m0_ := @spec_cdGood.mono
   have m1_ := @spec_cdGroups.mono
   have m2_ := @spec_cdPairs.mono
   exact lo_
  ·intro y0 y1 y2 y3
   unfold spec_SidesOfChords.l1
   have m0_ := @spec_cdGood.mono
   have m1_ := @spec_cdGroups.mono
   have m2_ := @spec_cdPairs.mono
   exact lo_
theorem spec_SidesOfChords.mono : ∀ a0 a1 k, LeO (spec_SidesOfChords.f k a0 a1) (spec_SidesOfChords.f (k + 1) a0 a1) := by
 intro a0 a1 k
 obtain ⟨ih0, ih1⟩ := spec_SidesOfChords.mono_l k
 unfold spec_SidesOfChords.f
 have m0_ := @spec_cdGood.mono
 have m1_ := @spec_cdGroups.mono
 have m2_ := @spec_cdPairs.mono
 exact lo_
theorem spec_SidesOfChords.calls (k : Nat) (a0 : Int) (A1 : Option Addr) (c1 : Nat) (l1 : List (S44)) (r1 : ByteArray) (r2 : Bool) (w : World) (hr1 : Kd.C k44 w A1 l1.length l1) (hc1 : l1.length ≤ c1) (h : spec_SidesOfChords.f k a0 l1 = some (r1, r2)) :
  Calls Tryz.prog 15 #[.int .i64 a0, .slice A1 l1.length c1] w fun e w' => e = .returned (.tuple #[.string r1, .bool r2]) ∧ Below w.heap.size w w' := by
 have HR1 := Aside0.mk hr1
 have HC1 := Aside0.mk hc1
 clear hr1 hc1
 have HB := Aside0.mk (Below.refl w.heap.size w)
 have H : ((spec_cdGood.f k a0 l1).bind fun t349 => (if t349 = true then ((spec_cdGroups.f k l1).bind fun bt350 => ((spec_cdPairs.f k l1).bind fun t356 => (spec_SidesOfChords.l0 k bt350.2 t356 (t356.length : Int) 0))) else (some ((⟨#[]⟩ : ByteArray), false)))) = some (r1, r2) := h
 clear h
 replace H := Option.bind_eq_some_iff.mp H
 obtain ⟨t349, A30, H⟩ := H
 try dsimp only at H
 have A3 := Aside0.mk A30
 clear A30
 by_cases c4 : t349 = true
 ·subst c4
  have H1 : ((spec_cdGroups.f k l1).bind fun bt350 => ((spec_cdPairs.f k l1).bind fun t356 => (spec_SidesOfChords.l0 k bt350.2 t356 (t356.length : Int) 0))) = some (r1, r2) := by rw [if_pos rfl] at H; exact H
  clear H
  have H := H1
  clear H1
  replace H := Option.bind_eq_some_iff.mp H
  obtain ⟨⟨t350, t351⟩, A50, H⟩ := H
  try dsimp only at H
  have A5 := Aside0.mk A50
  clear A50
  replace H := Option.bind_eq_some_iff.mp H
  obtain ⟨t356, A60, H⟩ := H
  try dsimp only at H
  have A6 := Aside0.mk A60
  clear A60
  have H' := Aside0.mk H
  clear H
  go_enter Tryz.func15, Tryz.ntmps15
  go_wp2_with (first | (go_at_call 36; (with_reducible refine (spec_cdGood.calls k a0 _ _ l1 true _ ?side1 ?side2 A3.out).mono ?_); (case side1 => exact kc_ <| HR1.out); (case side2 => exact HC1.out); rintro e w7 ⟨rfl, hb⟩; have n0_ := Aside0.mk (below_step bl_ hb); clear HB; have HB := n0_; clear n0_; (try clear hb); (try clear hb2); (try clear hk); (try clear hi)) | (go_at_call 40; (with_reducible refine (spec_cdGroups.calls k _ _ l1 t350 t351 _ ?side1 ?side2 A5.out).mono ?_); (case side1 => exact kc_ <| (Kd.C_below HR1.out HB.out)); (case side2 => exact HC1.out); rintro e w8 ⟨v352, v354, rfl, ho0, ho1, hb⟩; have n0_ := Aside0.mk (Kd.R_lower ho0 (below_size bl_)); have n1_ := Aside0.mk (Kd.R_lower ho1 (below_size bl_)); have n2_ := Aside0.mk (below_step bl_ hb); clear HB; have HO353 := n0_; have HO355 := n1_; have HB := n2_; clear n0_ n1_ n2_; (try clear hb); (try clear hb2); (try clear hk); (try clear hi); (try clear ho0); (try clear ho1)) | (go_at_call 37; (with_reducible refine (spec_cdPairs.calls k _ _ l1 t356 _ ?side1 ?side2 A6.out).mono ?_); (case side1 => exact kc_ <| (Kd.C_below HR1.out HB.out)); (case side2 => exact HC1.out); rintro e w9 ⟨v357, rfl, ho0, hb⟩; have n0_ := Aside0.mk (Kd.R_below (kr_ <| HO353.out) hb); have n1_ := Aside0.mk (Kd.R_below (kr_ <| HO355.out) hb); have n2_ := Aside0.mk (Kd.S_lower (Kd.S_new' (Kd.S_new' ho0 (Kd.R_lt (kr_ <| HO353.out))) (Kd.R_lt (kr_ <| HO355.out))) (below_size bl_)); have n3_ := Aside0.mk (below_step bl_ hb); clear HO353; clear HO355; clear HB; have HO353 := n0_; have HO355 := n1_; have HO358 := n2_; have HB := n3_; clear n0_ n1_ n2_ n3_; (try clear hb); (try clear hb2); (try clear hk); (try clear hi); (try clear ho0); obtain ⟨Ao10, co10, eo10⟩ := Kd.S_slice HO358.out; subst eo10))
  repeat (go_quiet (first | (go_at_call 36; (with_reducible refine (spec_cdGood.calls k a0 _ _ l1 true _ ?side1 ?side2 A3.out).mono ?_); (case side1 => exact kc_ <| HR1.out); (case side2 => exact HC1.out); rintro e w7 ⟨rfl, hb⟩; have n0_ := Aside0.mk (below_step bl_ hb); clear HB; have HB := n0_; clear n0_; (try clear hb); (try clear hb2); (try clear hk); (try clear hi)) | (go_at_call 40; (with_reducible refine (spec_cdGroups.calls k _ _ l1 t350 t351 _ ?side1 ?side2 A5.out).mono ?_); (case side1 => exact kc_ <| (Kd.C_below HR1.out HB.out)); (case side2 => exact HC1.out); rintro e w8 ⟨v352, v354, rfl, ho0, ho1, hb⟩; have n0_ := Aside0.mk (Kd.R_lower ho0 (below_size bl_)); have n1_ := Aside0.mk (Kd.R_lower ho1 (below_size bl_)); have n2_ := Aside0.mk (below_step bl_ hb); clear HB; have HO353 := n0_; have HO355 := n1_; have HB := n2_; clear n0_ n1_ n2_; (try clear hb); (try clear hb2); (try clear hk); (try clear hi); (try clear ho0); (try clear ho1)) | (go_at_call 37; (with_reducible refine (spec_cdPairs.calls k _ _ l1 t356 _ ?side1 ?side2 A6.out).mono ?_); (case side1 => exact kc_ <| (Kd.C_below HR1.out HB.out)); (case side2 => exact HC1.out); rintro e w9 ⟨v357, rfl, ho0, hb⟩; have n0_ := Aside0.mk (Kd.R_below (kr_ <| HO353.out) hb); have n1_ := Aside0.mk (Kd.R_below (kr_ <| HO355.out) hb); have n2_ := Aside0.mk (Kd.S_lower (Kd.S_new' (Kd.S_new' ho0 (Kd.R_lt (kr_ <| HO353.out))) (Kd.R_lt (kr_ <| HO355.out))) (below_size bl_)); have n3_ := Aside0.mk (below_step bl_ hb); clear HO353; clear HO355; clear HB; have HO353 := n0_; have HO355 := n1_; have HO358 := n2_; have HB := n3_; clear n0_ n1_ n2_ n3_; (try clear hb); (try clear hb2); (try clear hk); (try clear hi); (try clear ho0); obtain ⟨Ao10, co10, eo10⟩ := Kd.S_slice HO358.out; subst eo10)); try go_wp2_with (first | (go_at_call 36; (with_reducible refine (spec_cdGood.calls k a0 _ _ l1 true _ ?side1 ?side2 A3.out).mono ?_); (case side1 => exact kc_ <| HR1.out); (case side2 => exact HC1.out); rintro e w7 ⟨rfl, hb⟩; have n0_ := Aside0.mk (below_step bl_ hb); clear HB; have HB := n0_; clear n0_; (try clear hb); (try clear hb2); (try clear hk); (try clear hi)) | (go_at_call 40; (with_reducible refine (spec_cdGroups.calls k _ _ l1 t350 t351 _ ?side1 ?side2 A5.out).mono ?_); (case side1 => exact kc_ <| (Kd.C_below HR1.out HB.out)); (case side2 => exact HC1.out); rintro e w8 ⟨v352, v354, rfl, ho0, ho1, hb⟩; have n0_ := Aside0.mk (Kd.R_lower ho0 (below_size bl_)); have n1_ := Aside0.mk (Kd.R_lower ho1 (below_size bl_)); have n2_ := Aside0.mk (below_step bl_ hb); clear HB; have HO353 := n0_; have HO355 := n1_; have HB := n2_; clear n0_ n1_ n2_; (try clear hb); (try clear hb2); (try clear hk); (try clear hi); (try clear ho0); (try clear ho1)) | (go_at_call 37; (with_reducible refine (spec_cdPairs.calls k _ _ l1 t356 _ ?side1 ?side2 A6.out).mono ?_); (case side1 => exact kc_ <| (Kd.C_below HR1.out HB.out)); (case side2 => exact HC1.out); rintro e w9 ⟨v357, rfl, ho0, hb⟩; have n0_ := Aside0.mk (Kd.R_below (kr_ <| HO353.out) hb); have n1_ := Aside0.mk (Kd.R_below (kr_ <| HO355.out) hb); have n2_ := Aside0.mk (Kd.S_lower (Kd.S_new' (Kd.S_new' ho0 (Kd.R_lt (kr_ <| HO353.out))) (Kd.R_lt (kr_ <| HO355.out))) (below_size bl_)); have n3_ := Aside0.mk (below_step bl_ hb); clear HO353; clear HO355; clear HB; have HO353 := n0_; have HO355 := n1_; have HO358 := n2_; have HB := n3_; clear n0_ n1_ n2_ n3_; (try clear hb); (try clear hb2); (try clear hk); (try clear hi); (try clear ho0); obtain ⟨Ao10, co10, eo10⟩ := Kd.S_slice HO358.out; subst eo10)))
  go_loopg [25] k (fun kq v25 w' => ∃ (x25_1 : Int), v25 = .int .i64 x25_1 ∧ Aside0 (spec_SidesOfChords.l0 kq t351 t356 (t356.length : Int) x25_1 = some (r1, r2)) ∧ Aside0 (kq ≤ k) ∧ Aside0 (Kd.R (Kd.int .i64) 3 w' w.heap.size (fun _ => True) v354 t351) ∧ Aside0 (Kd.S (Kd.slice 3 (Kd.int .i64)) 36 w' w.heap.size (fun k_ => some k_ ≠ (v354 : Value).ownBlock) (.slice Ao10 t356.length co10) t356) ∧ Aside0 (Below w.heap.size w w'))
  case atStart => exact ⟨(0), (es_), H', ⟨Nat.le_refl _⟩, ⟨by exact kr_ <| Kd.R_mono HO355.out (fun _ hk => trivial)⟩, ⟨by (with_reducible repeat (first | apply Kd.S_alloc | apply Kd.S_drewN | apply Kd.S_drew)); exact Kd.S_mono HO358.out (fun _ hk => hk.2)⟩, ⟨bl_⟩⟩
  case round =>
   clear H'
   try clear c1
   try clear p2
   try clear c4
   obtain ⟨x25_1, rfl, HA, HK1, HO_7, HO_23, HB⟩ := hrel
   cases gk with
   | zero => exact absurd HA.out (by simp [spec_SidesOfChords.l0])
   | succ k1 =>
    have H := HA.out
    clear HA
    simp only [spec_SidesOfChords.l0] at H
    by_cases c11 : x25_1 < (t356.length : Int)
    ·rw [if_pos c11] at H
     have c11b0 : decide (x25_1 < (t356.length : Int)) = true := decide_eq_true c11
     clear c11
     by_cases c12 : 0 ≤ x25_1
     rotate_left
     ·rw [if_neg c12] at H
      exact absurd H (by simp)
     rw [if_pos c12] at H
     have c12b0 : decide (0 ≤ x25_1) = true := decide_eq_true c12
     clear c12
     by_cases c13 : x25_1 < (t356.length : Int)
     rotate_left
     ·rw [if_neg c13] at H
      exact absurd H (by simp)
     rw [if_pos c13] at H
     have c13b0 : decide (x25_1 < (t356.length : Int)) = true := decide_eq_true c13
     clear c13
     by_cases c14 : 0 < ((rd_L3 t356 x25_1).length : Int)
     rotate_left
     ·rw [if_neg c14] at H
      exact absurd H (by simp)
     rw [if_pos c14] at H
     have c14b0 : decide (0 < ((rd_L3 t356 x25_1).length : Int)) = true := decide_eq_true c14
     have c14b1 : decide (0 < (rd_L3 t356 x25_1).length) = true := decide_eq_true (by omega)
     clear c14
     by_cases c15 : 0 ≤ (rd (rd_L3 t356 x25_1) 0)
     rotate_left
     ·rw [if_neg c15] at H
      exact absurd H (by simp)
     rw [if_pos c15] at H
     have c15b0 : decide (0 ≤ (rd (rd_L3 t356 x25_1) 0)) = true := decide_eq_true c15
     clear c15
     by_cases c16 : (rd (rd_L3 t356 x25_1) 0) < (t351.length : Int)
     rotate_left
     ·rw [if_neg c16] at H
      exact absurd H (by simp)
     rw [if_pos c16] at H
     have c16b0 : decide ((rd (rd_L3 t356 x25_1) 0) < (t351.length : Int)) = true := decide_eq_true c16
     clear c16
     by_cases c17 : 1 < ((rd_L3 t356 x25_1).length : Int)
     rotate_left
     ·rw [if_neg c17] at H
      exact absurd H (by simp)
     rw [if_pos c17] at H
     have c17b0 : decide (1 < ((rd_L3 t356 x25_1).length : Int)) = true := decide_eq_true c17
     have c17b1 : decide (1 < (rd_L3 t356 x25_1).length) = true := decide_eq_true (by omega)
     clear c17
     by_cases c18 : 0 ≤ (rd (rd_L3 t356 x25_1) 1)
     rotate_left
     ·rw [if_neg c18] at H
      exact absurd H (by simp)
     rw [if_pos c18] at H
     have c18b0 : decide (0 ≤ (rd (rd_L3 t356 x25_1) 1)) = true := decide_eq_true c18
     clear c18
     by_cases c19 : (rd (rd_L3 t356 x25_1) 1) < (t351.length : Int)
     rotate_left
     ·rw [if_neg c19] at H
      exact absurd H (by simp)
     rw [if_pos c19] at H
     have c19b0 : decide ((rd (rd_L3 t356 x25_1) 1) < (t351.length : Int)) = true := decide_eq_true c19
     clear c19
     by_cases c20 : (Int.tmod (rd t351 (rd (rd_L3 t356 x25_1) 0)) 2) = (Int.tmod (rd t351 (rd (rd_L3 t356 x25_1) 1)) 2)
     ·rw [if_pos c20] at H
      have c20b0 : ((Int.tmod (rd t351 (rd (rd_L3 t356 x25_1) 0)) 2) == (Int.tmod (rd t351 (rd (rd_L3 t356 x25_1) 1)) 2)) = true := beq_iff_eq.mpr c20
      have c20b1 : ((Int.tmod (rd t351 (rd (rd_L3 t356 x25_1) 0)) 2) != (Int.tmod (rd t351 (rd (rd_L3 t356 x25_1) 1)) 2)) = false := bne_eq_false_iff_eq.mpr c20
      clear c20
      simp only [Option.some.injEq, Prod.mk.injEq] at H
      obtain ⟨rfl, rfl⟩ := H
      have p359 : 0 ≤ (x25_1 : Int) := od_
      have q359 : x25_1 < (t356.length : Int) := od_
      obtain ⟨ad359, A359_0, c359_0, e359, hx359_0, hl359_0, hi359_0⟩ := at_L3 (Kd.S_reads' HO_23.out).2.2 x25_1 p359 q359
      cases e359
      obtain ⟨ce359, hce359, hMe359, hcc359⟩ := Kd.S_get HO_23.out [] x25_1 p359 (by first | exact q359 | exact od_ | (have e_ := (Kd.S_reads' HO_23.out).1; omega))
      obtain ⟨ve359_0, rfl, ge359_0⟩ := hMe359
      have hv359_0 := hcc359 0 _ rfl
      rw [Nat.add_zero, show ((Kd.slice 3 (Kd.int .i64))).sz = 1 from rfl, Nat.mul_one] at hv359_0
      replace hv359_0 := Option.some.inj (hv359_0.symm.trans hx359_0)
      rw [hv359_0] at ge359_0
      have HL359_0 := Aside0.mk (show Kd.R (Kd.int .i64) 3 _ _ _ _ (rd_L3 t356 x25_1) from ge359_0)
      clear hv359_0 ge359_0
      clear hcc359 hce359
      have HR359_0 := Aside0.mk hi359_0
      have HC359_0 := Aside0.mk hl359_0
      clear hi359_0 hl359_0
      replace p359 := eq_true p359
      replace q359 := eq_true q359
      have p360 : 0 ≤ (0 : Int) := (by omega)
      have q360 : 0 < ((rd_L3 t356 x25_1).length : Int) := od_
      obtain ⟨ad360, e360, hx360_0⟩ := Kd.at_int (by repeat (first | (with_reducible exact HR359_0.out) | (with_reducible refine Kd.C_alloc ?_ _) | (with_reducible refine Kd.C_drewN ?_ _) | (with_reducible refine Kd.C_drew ?_) | exact HR359_0.out)) 0 p360 q360
      cases e360
      have qi360 : (0 < (rd_L3 t356 x25_1).length) = True := eq_true (by omega)
      (try rw [show ((0 : Int)).toNat = 0 from rfl] at hx360_0)
      (try rw [Addr.add_zero'] at hx360_0)
      replace p360 := eq_true p360
      replace q360 := eq_true q360
      obtain ⟨Ao21, co21, eo21⟩ := Kd.R_slice HO_7.out
      subst eo21
      have p361 : 0 ≤ ((rd (rd_L3 t356 x25_1) 0) : Int) := od_
      have q361 : (rd (rd_L3 t356 x25_1) 0) < (t351.length : Int) := od_
      obtain ⟨ad361, e361, hx361_0⟩ := Kd.at_int (Kd.R_reads' HO_7.out).2.2 (rd (rd_L3 t356 x25_1) 0) p361 q361
      cases e361
      replace p361 := eq_true p361
      replace q361 := eq_true q361
      have p362 : 0 ≤ (1 : Int) := (by omega)
      have q362 : 1 < ((rd_L3 t356 x25_1).length : Int) := od_
      obtain ⟨ad362, e362, hx362_0⟩ := Kd.at_int (by repeat (first | (with_reducible exact HR359_0.out) | (with_reducible refine Kd.C_alloc ?_ _) | (with_reducible refine Kd.C_drewN ?_ _) | (with_reducible refine Kd.C_drew ?_) | exact HR359_0.out)) 1 p362 q362
      obtain rfl : ad360 = ad362 := (by injection e362)
      (try simp only [show (1 : Int).toNat = 1 from rfl, Nat.reduceMul, Nat.reduceEqDiff, Go.Addr.add, ↓reduceIte] at hx362_0)
      have qi362 : (1 < (rd_L3 t356 x25_1).length) = True := eq_true (by omega)
      (try rw [show ((1 : Int)).toNat = 1 from rfl] at hx362_0)
      replace p362 := eq_true p362
      replace q362 := eq_true q362
      have p363 : 0 ≤ ((rd (rd_L3 t356 x25_1) 1) : Int) := od_
      have q363 : (rd (rd_L3 t356 x25_1) 1) < (t351.length : Int) := od_
      obtain ⟨ad363, e363, hx363_0⟩ := Kd.at_int (Kd.R_reads' HO_7.out).2.2 (rd (rd_L3 t356 x25_1) 1) p363 q363
      obtain rfl : ad361 = ad363 := (by injection e363)
      replace p363 := eq_true p363
      replace q363 := eq_true q363
      go_wp2
      repeat (go_quiet (fail); try go_wp2)
      go_ret2
      exact ⟨ew_, bl_⟩
     ·rw [if_neg c20] at H
      have c20b0 : ((Int.tmod (rd t351 (rd (rd_L3 t356 x25_1) 0)) 2) == (Int.tmod (rd t351 (rd (rd_L3 t356 x25_1) 1)) 2)) = false := beq_eq_false_iff_ne.mpr c20
      have c20b1 : ((Int.tmod (rd t351 (rd (rd_L3 t356 x25_1) 0)) 2) != (Int.tmod (rd t351 (rd (rd_L3 t356 x25_1) 1)) 2)) = true := bne_iff_ne.mpr c20
      have H' := Aside0.mk H
      clear H
      have p359 : 0 ≤ (x25_1 : Int) := od_
      have q359 : x25_1 < (t356.length : Int) := od_
      obtain ⟨ad359, A359_0, c359_0, e359, hx359_0, hl359_0, hi359_0⟩ := at_L3 (Kd.S_reads' HO_23.out).2.2 x25_1 p359 q359
      cases e359
      obtain ⟨ce359, hce359, hMe359, hcc359⟩ := Kd.S_get HO_23.out [] x25_1 p359 (by first | exact q359 | exact od_ | (have e_ := (Kd.S_reads' HO_23.out).1; omega))
      obtain ⟨ve359_0, rfl, ge359_0⟩ := hMe359
      have hv359_0 := hcc359 0 _ rfl
      rw [Nat.add_zero, show ((Kd.slice 3 (Kd.int .i64))).sz = 1 from rfl, Nat.mul_one] at hv359_0
      replace hv359_0 := Option.some.inj (hv359_0.symm.trans hx359_0)
      rw [hv359_0] at ge359_0
      have HL359_0 := Aside0.mk (show Kd.R (Kd.int .i64) 3 _ _ _ _ (rd_L3 t356 x25_1) from ge359_0)
      clear hv359_0 ge359_0
      clear hcc359 hce359
      have HR359_0 := Aside0.mk hi359_0
      have HC359_0 := Aside0.mk hl359_0
      clear hi359_0 hl359_0
      replace p359 := eq_true p359
      replace q359 := eq_true q359
      have p360 : 0 ≤ (0 : Int) := (by omega)
      have q360 : 0 < ((rd_L3 t356 x25_1).length : Int) := od_
      obtain ⟨ad360, e360, hx360_0⟩ := Kd.at_int (by repeat (first | (with_reducible exact HR359_0.out) | (with_reducible refine Kd.C_alloc ?_ _) | (with_reducible refine Kd.C_drewN ?_ _) | (with_reducible refine Kd.C_drew ?_) | exact HR359_0.out)) 0 p360 q360
      cases e360
      have qi360 : (0 < (rd_L3 t356 x25_1).length) = True := eq_true (by omega)
      (try rw [show ((0 : Int)).toNat = 0 from rfl] at hx360_0)
      (try rw [Addr.add_zero'] at hx360_0)
      replace p360 := eq_true p360
      replace q360 := eq_true q360
      obtain ⟨Ao22, co22, eo22⟩ := Kd.R_slice HO_7.out
      subst eo22
      have p361 : 0 ≤ ((rd (rd_L3 t356 x25_1) 0) : Int) := od_
      have q361 : (rd (rd_L3 t356 x25_1) 0) < (t351.length : Int) := od_
      obtain ⟨ad361, e361, hx361_0⟩ := Kd.at_int (Kd.R_reads' HO_7.out).2.2 (rd (rd_L3 t356 x25_1) 0) p361 q361
      cases e361
      replace p361 := eq_true p361
      replace q361 := eq_true q361
      have p362 : 0 ≤ (1 : Int) := (by omega)
      have q362 : 1 < ((rd_L3 t356 x25_1).length : Int) := od_
      obtain ⟨ad362, e362, hx362_0⟩ := Kd.at_int (by repeat (first | (with_reducible exact HR359_0.out) | (with_reducible refine Kd.C_alloc ?_ _) | (with_reducible refine Kd.C_drewN ?_ _) | (with_reducible refine Kd.C_drew ?_) | exact HR359_0.out)) 1 p362 q362
      obtain rfl : ad360 = ad362 := (by injection e362)
      (try simp only [show (1 : Int).toNat = 1 from rfl, Nat.reduceMul, Nat.reduceEqDiff, Go.Addr.add, ↓reduceIte] at hx362_0)
      have qi362 : (1 < (rd_L3 t356 x25_1).length) = True := eq_true (by omega)
      (try rw [show ((1 : Int)).toNat = 1 from rfl] at hx362_0)
      replace p362 := eq_true p362
      replace q362 := eq_true q362
      have p363 : 0 ≤ ((rd (rd_L3 t356 x25_1) 1) : Int) := od_
      have q363 : (rd (rd_L3 t356 x25_1) 1) < (t351.length : Int) := od_
      obtain ⟨ad363, e363, hx363_0⟩ := Kd.at_int (Kd.R_reads' HO_7.out).2.2 (rd (rd_L3 t356 x25_1) 1) p363 q363
      obtain rfl : ad361 = ad363 := (by injection e363)
      replace p363 := eq_true p363
      replace q363 := eq_true q363
      go_wp2
      repeat (go_quiet (fail); try go_wp2)
      go_roundg k1
      case measure => have := HK1.out; omega
      case rel => exact ⟨(wrap64 (x25_1 + 1)), (es_), H', ⟨by have := HK1.out; omega⟩, ⟨by exact kr_ <| HO_7.out⟩, ⟨by (with_reducible repeat (first | apply Kd.S_alloc | apply Kd.S_drewN | apply Kd.S_drew)); exact HO_23.out⟩, ⟨bl_⟩⟩
    ·rw [if_neg c11] at H
     have c11b0 : decide (x25_1 < (t356.length : Int)) = false := decide_eq_false c11
     clear c11
     have H' := Aside0.mk H
     clear H
     obtain ⟨Ao23, co23, eo23⟩ := Kd.R_slice HO_7.out
     subst eo23
     go_wp2
     repeat (go_quiet (fail); try go_wp2)
     go_loopg [10, 47] k1 (fun kq v10 v47 w' => ∃ (x10_2 : ByteArray) (x47_2 : Int), v10 = .string x10_2 ∧ v47 = .int .i64 x47_2 ∧ Aside0 (spec_SidesOfChords.l1 kq x10_2 t351 (t351.length : Int) x47_2 = some (r1, r2)) ∧ Aside0 (kq ≤ k1) ∧ Aside0 (Kd.R (Kd.int .i64) 3 w' w.heap.size (fun _ => True) (.slice Ao23 t351.length co23) t351) ∧ Aside0 (Below w.heap.size w w'))
     case atStart => exact ⟨((⟨#[]⟩ : ByteArray)), (0), (es_), (es_), H', ⟨Nat.le_refl _⟩, ⟨by exact kr_ <| HO_7.out⟩, ⟨bl_⟩⟩
     case round =>
      clear H'
      try clear c1
      try clear c2
      try clear p2
      try clear c3
      try clear p3
      try clear q3
      try clear hx3
      try clear qi3
      try clear c4
      try clear p6
      try clear c11
      try clear c11b0
      try clear c12
      try clear c12b0
      try clear c13
      try clear c13b0
      try clear c14
      try clear c14b0
      try clear c14b1
      try clear c15
      try clear c15b0
      try clear c16
      try clear c16b0
      try clear c17
      try clear c17b0
      try clear c17b1
      try clear c18
      try clear c18b0
      try clear c19
      try clear c19b0
      try clear c20
      try clear c20b0
      try clear c20b1
      try clear hx359_0
      try clear hx360_0
      try clear hx361_0
      try clear hx362_0
      try clear hx363_0
      try clear p2
      try clear p359
      try clear p360
      try clear p361
      try clear p362
      try clear p363
      try clear q359
      try clear q360
      try clear q361
      try clear q362
      try clear q363
      obtain ⟨x10_2, x47_2, rfl, rfl, HA, HK2, HO_45, HB⟩ := hrel
      cases gk with
      | zero => exact absurd HA.out (by simp [spec_SidesOfChords.l1])
      | succ k2 =>
       have H := HA.out
       clear HA
       simp only [spec_SidesOfChords.l1] at H
       by_cases c24 : x47_2 < (t351.length : Int)
       ·rw [if_pos c24] at H
        have c24b0 : decide (x47_2 < (t351.length : Int)) = true := decide_eq_true c24
        clear c24
        by_cases c25 : 0 ≤ x47_2
        rotate_left
        ·rw [if_neg c25] at H
         exact absurd H (by simp)
        rw [if_pos c25] at H
        have c25b0 : decide (0 ≤ x47_2) = true := decide_eq_true c25
        clear c25
        by_cases c26 : x47_2 < (t351.length : Int)
        rotate_left
        ·rw [if_neg c26] at H
         exact absurd H (by simp)
        rw [if_pos c26] at H
        have c26b0 : decide (x47_2 < (t351.length : Int)) = true := decide_eq_true c26
        clear c26
        by_cases c27 : (Int.tmod (rd t351 x47_2) 2) = 0
        ·rw [if_pos c27] at H
         have c27b0 : ((Int.tmod (rd t351 x47_2) 2) == 0) = true := beq_iff_eq.mpr c27
         have c27b1 : ((Int.tmod (rd t351 x47_2) 2) != 0) = false := bne_eq_false_iff_eq.mpr c27
         clear c27
         by_cases c28 : x10_2.size + 1 ≤ 9223372036854775807
         rotate_left
         ·rw [if_neg c28] at H
          exact absurd H (by simp)
         rw [if_pos c28] at H
         have c28b0 := eq_true c28
         have c28b1 : decide (x10_2.size + 1 ≤ 9223372036854775807) = true := decide_eq_true c28
         try have c28b2 : (9223372036854775807 < x10_2.size + 1) = False := eq_false (Nat.not_lt.2 c28)
         have H' := Aside0.mk H
         clear H
         have p364 : 0 ≤ (x47_2 : Int) := od_
         have q364 : x47_2 < (t351.length : Int) := od_
         obtain ⟨ad364, e364, hx364_0⟩ := Kd.at_int (Kd.R_reads' HO_45.out).2.2 x47_2 p364 q364
         cases e364
         replace p364 := eq_true p364
         replace q364 := eq_true q364
         go_wp2
         repeat (go_quiet (fail); try go_wp2)
         go_roundg k2
         case measure => have := HK1.out; have := HK2.out; omega
         case rel => exact ⟨(x10_2 ++ (⟨#[105]⟩ : ByteArray)), (wrap64 (x47_2 + 1)), (es_), (es_), H', ⟨by have := HK1.out; have := HK2.out; omega⟩, ⟨by exact kr_ <| HO_45.out⟩, ⟨bl_⟩⟩
        ·rw [if_neg c27] at H
         have c27b0 : ((Int.tmod (rd t351 x47_2) 2) == 0) = false := beq_eq_false_iff_ne.mpr c27
         have c27b1 : ((Int.tmod (rd t351 x47_2) 2) != 0) = true := bne_iff_ne.mpr c27
         by_cases c29 : x10_2.size + 1 ≤ 9223372036854775807
         rotate_left
         ·rw [if_neg c29] at H
          exact absurd H (by simp)
         rw [if_pos c29] at H
         have c29b0 := eq_true c29
         have c29b1 : decide (x10_2.size + 1 ≤ 9223372036854775807) = true := decide_eq_true c29
         try have c29b2 : (9223372036854775807 < x10_2.size + 1) = False := eq_false (Nat.not_lt.2 c29)
         have H' := Aside0.mk H
         clear H
         have p364 : 0 ≤ (x47_2 : Int) := od_
         have q364 : x47_2 < (t351.length : Int) := od_
         obtain ⟨ad364, e364, hx364_0⟩ := Kd.at_int (Kd.R_reads' HO_45.out).2.2 x47_2 p364 q364
         cases e364
         replace p364 := eq_true p364
         replace q364 := eq_true q364
         go_wp2
         repeat (go_quiet (fail); try go_wp2)
         go_roundg k2
         case measure => have := HK1.out; have := HK2.out; omega
         case rel => exact ⟨(x10_2 ++ (⟨#[111]⟩ : ByteArray)), (wrap64 (x47_2 + 1)), (es_), (es_), H', ⟨by have := HK1.out; have := HK2.out; omega⟩, ⟨by exact kr_ <| HO_45.out⟩, ⟨bl_⟩⟩
       ·rw [if_neg c24] at H
        have c24b0 : decide (x47_2 < (t351.length : Int)) = false := decide_eq_false c24
        clear c24
        simp only [Option.some.injEq, Prod.mk.injEq] at H
        obtain ⟨rfl, rfl⟩ := H
        go_wp2
        repeat (go_quiet (fail); try go_wp2)
        go_ret2
        exact ⟨ew_, bl_⟩
 ·replace c4 := Bool.eq_false_iff.mpr c4
  subst c4
  have H1 : (some ((⟨#[]⟩ : ByteArray), false)) = some (r1, r2) := by rw [if_neg (show ¬ (false = true) by decide)] at H; exact H
  clear H
  have H := H1
  clear H1
  simp only [Option.some.injEq, Prod.mk.injEq] at H
  obtain ⟨rfl, rfl⟩ := H
  go_enter Tryz.func15, Tryz.ntmps15
  go_wp2_with (first | (go_at_call 36; (with_reducible refine (spec_cdGood.calls k a0 _ _ l1 false _ ?side1 ?side2 A3.out).mono ?_); (case side1 => exact kc_ <| HR1.out); (case side2 => exact HC1.out); rintro e w30 ⟨rfl, hb⟩; have n0_ := Aside0.mk (below_step bl_ hb); clear HB; have HB := n0_; clear n0_; (try clear hb); (try clear hb2); (try clear hk); (try clear hi)))
  repeat (go_quiet (first | (go_at_call 36; (with_reducible refine (spec_cdGood.calls k a0 _ _ l1 false _ ?side1 ?side2 A3.out).mono ?_); (case side1 => exact kc_ <| HR1.out); (case side2 => exact HC1.out); rintro e w30 ⟨rfl, hb⟩; have n0_ := Aside0.mk (below_step bl_ hb); clear HB; have HB := n0_; clear n0_; (try clear hb); (try clear hb2); (try clear hk); (try clear hi))); try go_wp2_with (first | (go_at_call 36; (with_reducible refine (spec_cdGood.calls k a0 _ _ l1 false _ ?side1 ?side2 A3.out).mono ?_); (case side1 => exact kc_ <| HR1.out); (case side2 => exact HC1.out); rintro e w30 ⟨rfl, hb⟩; have n0_ := Aside0.mk (below_step bl_ hb); clear HB; have HB := n0_; clear n0_; (try clear hb); (try clear hb2); (try clear hk); (try clear hi))))
  go_ret2
  exact ⟨ew_, bl_⟩
def slices_Compare_int_int.l0 : Nat → List Int → List Int → List Int → Int → Int → Option (Int)
 | 0, _, _, _, _, _ => none
 | k + 1, x0, x1, x9, x10, x11 => if x11 < x10 then (if 0 ≤ x11 then (if x11 < (x9.length : Int) then (if x11 ≥ (x1.length : Int) then (some 1) else (if x11 < (x1.length : Int) then ((cmp_Compare_int.f (rd x9 x11) (rd x1 x11)).bind fun t367 => (if t367 = 0 then (slices_Compare_int_int.l0 k x0 x1 x9 x10 (wrap64 (x11 + 1))) else (some t367))) else (none))) else (none)) else (none)) else (if (x0.length : Int) < (x1.length : Int) then (some (-1)) else (some 0))
def slices_Compare_int_int.f (k : Nat) (l0 : List Int) (l1 : List Int) : Option (Int) := slices_Compare_int_int.l0 k l0 l1 l0 (l0.length : Int) 0
theorem slices_Compare_int_int.mono_l : ∀ k, (∀ y0 y1 y2 y3 y4, LeO (slices_Compare_int_int.l0 k y0 y1 y2 y3 y4) (slices_Compare_int_int.l0 (k + 1) y0 y1 y2 y3 y4))
 | 0 => fun _ _ _ _ _ r h => by simp [slices_Compare_int_int.l0] at h
 | k + 1 => by
  have ih0 := slices_Compare_int_int.mono_l k
  ·intro y0 y1 y2 y3 y4
   unfold slices_Compare_int_int.l0
   exact lo_
theorem slices_Compare_int_int.mono : ∀ a0 a1 k, LeO (slices_Compare_int_int.f k a0 a1) (slices_Compare_int_int.f (k + 1) a0 a1) := by
 intro a0 a1 k
 have ih0 := slices_Compare_int_int.mono_l k
 unfold slices_Compare_int_int.f
 exact lo_
theorem slices_Compare_int_int.calls (k : Nat) (A0 : Option Addr) (c0 : Nat) (l0 : List Int) (A1 : Option Addr) (c1 : Nat) (l1 : List Int) (r : Int) (w : World) (hr0 : Kd.C (Kd.int .i64) w A0 l0.length l0) (hc0 : l0.length ≤ c0) (hr1 : Kd.C (Kd.int .i64) w A1 l1.length l1) (hc1 : l1.length ≤ c1) (h : slices_Compare_int_int.f k l0 l1 = some r) :
  Calls Tryz.prog 43 #[.slice A0 l0.length c0, .slice A1 l1.length c1] w fun e w' => e = .returned (.int .i64 r) ∧ Drawn0 w w' := by
 have HR0 := Aside0.mk hr0
 have HC0 := Aside0.mk hc0
 clear hr0 hc0
 have HR1 := Aside0.mk hr1
 have HC1 := Aside0.mk hc1
 clear hr1 hc1
 have H : (slices_Compare_int_int.l0 k l0 l1 l0 (l0.length : Int) 0) = some r := h
 clear h
 have H' := Aside0.mk H
 clear H
 go_enter Tryz.func43, Tryz.ntmps43
 go_wp2
 go_loopg [11] k (fun kq v11 w' => ∃ (x11_1 : Int), v11 = .int .i64 x11_1 ∧ Aside0 (slices_Compare_int_int.l0 kq l0 l1 l0 (l0.length : Int) x11_1 = some r) ∧ Aside0 (kq ≤ k) ∧ Drawn0 w w')
 case atStart => exact ⟨(0), (es_), H', ⟨Nat.le_refl _⟩, dr_⟩
 case round =>
  clear H'
  try clear c1
  try clear p2
  obtain ⟨x11_1, rfl, HA, HK1, ⟨m1, rfl⟩⟩ := hrel
  cases gk with
  | zero => exact absurd HA.out (by simp [slices_Compare_int_int.l0])
  | succ k1 =>
   have H := HA.out
   clear HA
   simp only [slices_Compare_int_int.l0] at H
   by_cases c3 : x11_1 < (l0.length : Int)
   ·rw [if_pos c3] at H
    have c3b0 : decide (x11_1 < (l0.length : Int)) = true := decide_eq_true c3
    clear c3
    by_cases c4 : 0 ≤ x11_1
    rotate_left
    ·rw [if_neg c4] at H
     exact absurd H (by simp)
    rw [if_pos c4] at H
    have c4b0 : decide (0 ≤ x11_1) = true := decide_eq_true c4
    clear c4
    by_cases c5 : x11_1 < (l0.length : Int)
    rotate_left
    ·rw [if_neg c5] at H
     exact absurd H (by simp)
    rw [if_pos c5] at H
    have c5b0 : decide (x11_1 < (l0.length : Int)) = true := decide_eq_true c5
    clear c5
    by_cases c6 : x11_1 ≥ (l1.length : Int)
    ·rw [if_pos c6] at H
     have c6b0 : decide ((l1.length : Int) ≤ x11_1) = true := decide_eq_true c6
     clear c6
     obtain rfl := Option.some.inj H
     have p365 : 0 ≤ (x11_1 : Int) := od_
     have q365 : x11_1 < (l0.length : Int) := od_
     obtain ⟨ad365, e365, hx365_0⟩ := Kd.at_int HR0.out x11_1 p365 q365
     cases e365
     replace p365 := eq_true p365
     replace q365 := eq_true q365
     go_wp2
     go_ret
     exact ⟨es_, dr_⟩
    ·rw [if_neg c6] at H
     have c6b0 : decide ((l1.length : Int) ≤ x11_1) = false := decide_eq_false c6
     clear c6
     by_cases c7 : x11_1 < (l1.length : Int)
     rotate_left
     ·rw [if_neg c7] at H
      exact absurd H (by simp)
     rw [if_pos c7] at H
     have c7b0 : decide (x11_1 < (l1.length : Int)) = true := decide_eq_true c7
     clear c7
     replace H := Option.bind_eq_some_iff.mp H
     obtain ⟨t367, A80, H⟩ := H
     try dsimp only at H
     have A8 := Aside0.mk A80
     clear A80
     by_cases c9 : t367 = 0
     ·rw [if_pos c9] at H
      have c9b0 : (t367 == 0) = true := beq_iff_eq.mpr c9
      have c9b1 : (t367 != 0) = false := bne_eq_false_iff_eq.mpr c9
      clear c9
      have H' := Aside0.mk H
      clear H
      have p365 : 0 ≤ (x11_1 : Int) := od_
      have q365 : x11_1 < (l0.length : Int) := od_
      obtain ⟨ad365, e365, hx365_0⟩ := Kd.at_int HR0.out x11_1 p365 q365
      cases e365
      replace p365 := eq_true p365
      replace q365 := eq_true q365
      have p366 : 0 ≤ (x11_1 : Int) := od_
      have q366 : x11_1 < (l1.length : Int) := od_
      obtain ⟨ad366, e366, hx366_0⟩ := Kd.at_int HR1.out x11_1 p366 q366
      cases e366
      replace p366 := eq_true p366
      replace q366 := eq_true q366
      go_wp2_with (first | ((with_reducible refine gate_callee (f := 67) rfl ?_); refine goesL_ (some 26) rfl rfl Tryz.func67 (by kernel_rfl) rfl #[.int .i64 (rd l0 x11_1), .int .i64 (rd l1 x11_1)] rfl ma_ ?_; (with_reducible refine (cmp_Compare_int.calls (rd l0 x11_1) (rd l1 x11_1) t367 _ A8.out).mono ?_); rintro e w' ⟨rfl, ⟨nd, rfl⟩⟩; refine ⟨_, rfl, ?_⟩))
      go_roundg k1
      case measure => have := HK1.out; omega
      case rel => exact ⟨(wrap64 (x11_1 + 1)), (es_), H', ⟨by have := HK1.out; omega⟩, dr_⟩
     ·rw [if_neg c9] at H
      have c9b0 : (t367 == 0) = false := beq_eq_false_iff_ne.mpr c9
      have c9b1 : (t367 != 0) = true := bne_iff_ne.mpr c9
      obtain rfl := Option.some.inj H
      have p365 : 0 ≤ (x11_1 : Int) := od_
      have q365 : x11_1 < (l0.length : Int) := od_
      obtain ⟨ad365, e365, hx365_0⟩ := Kd.at_int HR0.out x11_1 p365 q365
      cases e365
      replace p365 := eq_true p365
      replace q365 := eq_true q365
      have p366 : 0 ≤ (x11_1 : Int) := od_
      have q366 : x11_1 < (l1.length : Int) := od_
      obtain ⟨ad366, e366, hx366_0⟩ := Kd.at_int HR1.out x11_1 p366 q366
      cases e366
      replace p366 := eq_true p366
      replace q366 := eq_true q366
      go_wp2_with (first | ((with_reducible refine gate_callee (f := 67) rfl ?_); refine goesL_ (some 26) rfl rfl Tryz.func67 (by kernel_rfl) rfl #[.int .i64 (rd l0 x11_1), .int .i64 (rd l1 x11_1)] rfl ma_ ?_; (with_reducible refine (cmp_Compare_int.calls (rd l0 x11_1) (rd l1 x11_1) t367 _ A8.out).mono ?_); rintro e w' ⟨rfl, ⟨nd, rfl⟩⟩; refine ⟨_, rfl, ?_⟩))
      go_ret
      exact ⟨es_, dr_⟩
   ·rw [if_neg c3] at H
    have c3b0 : decide (x11_1 < (l0.length : Int)) = false := decide_eq_false c3
    clear c3
    by_cases c10 : (l0.length : Int) < (l1.length : Int)
    ·rw [if_pos c10] at H
     have c10b0 : decide ((l0.length : Int) < (l1.length : Int)) = true := decide_eq_true c10
     have c10b1 : decide (l0.length < l1.length) = true := decide_eq_true (Int.ofNat_lt.mp c10)
     clear c10
     obtain rfl := Option.some.inj H
     go_wp2
     go_ret
     exact ⟨es_, dr_⟩
    ·rw [if_neg c10] at H
     have c10b0 : decide ((l0.length : Int) < (l1.length : Int)) = false := decide_eq_false c10
     have c10b1 : decide (l0.length < l1.length) = false := decide_eq_false (fun h => c10 (Int.ofNat_lt.mpr h))
     clear c10
     obtain rfl := Option.some.inj H
     go_wp2
     go_ret
     exact ⟨es_, dr_⟩
def fdD (t i : Nat) : List Int := ((List.range i).filter fun j => t.testBit j).map fun (j : Nat) => (j : Int)
def fdK (t : Nat) (l : List S44) (i : Nat) : List S44 := ((List.range i).filter fun j => !t.testBit j).map fun (j : Nat) => rd_T44 l (j : Int)
theorem fdD_len (t i : Nat) : (fdD t i).length ≤ i := by
  unfold fdD
  rw [List.length_map]
  exact Nat.le_trans (List.length_filter_le _ _) (by simp)
theorem fdK_len (t : Nat) (l : List S44) (i : Nat) : (fdK t l i).length ≤ i := by
  unfold fdK
  rw [List.length_map]
  exact Nat.le_trans (List.length_filter_le _ _) (by simp)
theorem fdD_yes (t i : Nat) (h : t.testBit i = true) : fdD t (i + 1) = fdD t i ++ [(i : Int)] := by
  unfold fdD
  rw [List.range_succ, List.filter_append, List.filter_cons, if_pos h, List.map_append]
  rfl
theorem fdD_no (t i : Nat) (h : t.testBit i = false) : fdD t (i + 1) = fdD t i := by
  unfold fdD
  rw [List.range_succ, List.filter_append, List.filter_cons, if_neg (by rw [h]; simp)]
  simp
theorem fdK_yes (t : Nat) (l : List S44) (i : Nat) (h : t.testBit i = true) : fdK t l (i + 1) = fdK t l i := by
  unfold fdK
  rw [List.range_succ, List.filter_append, List.filter_cons, if_neg (by rw [h]; simp)]
  simp
theorem fdK_no (t : Nat) (l : List S44) (i : Nat) (h : t.testBit i = false) : fdK t l (i + 1) = fdK t l i ++ [rd_T44 l (i : Int)] := by
  unfold fdK
  rw [List.range_succ, List.filter_append, List.filter_cons, if_pos (by rw [h]; rfl), List.map_append]
  rfl
def fdTake (k : Nat) (l : List S44) (t : Nat) (best : Option (List Int)) : Option (Option (List Int)) := (impl_crossings.f k (fdK t l l.length)).map fun c => if c = 0 then some (fdD t l.length) else best
def fdOne (k : Nat) (l : List S44) (t : Nat) : Option (List Int) → Option (Option (List Int))
  | none => fdTake k l t none
  | some b => if (fdD t l.length).length > b.length then some (some b) else if (fdD t l.length).length = b.length then (slices_Compare_int_int.f k (fdD t l.length) b).bind fun q => if q > 0 then some (some b) else fdTake k l t (some b) else fdTake k l t (some b)
def fdAll (k : Nat) (l : List S44) : Nat → Option (Option (List Int))
  | 0 => some none
  | t + 1 => (fdAll k l t).bind fun best => fdOne k l t best
theorem fdAll_some (k : Nat) (l : List S44) (n : Nat) : ∀ (t : Nat), t ≤ n → (∃ b, fdAll k l n = some b) → ∃ b, fdAll k l t = some b := by
  induction n with
  | zero => intro t ht h; obtain rfl : t = 0 := by omega
            exact h
  | succ n ih =>
    intro t ht h
    by_cases e : t = n + 1
    · rw [e]; exact h
    · refine ih t (by omega) ?_
      obtain ⟨b, h⟩ := h
      obtain ⟨x, hx, _⟩ := Option.bind_eq_some_iff.mp h
      exact ⟨x, hx⟩
def FdBest (base : Nat) (w : World) (v : Value) : Option (List Int) → Prop
  | none => v = .slice none 0 0
  | some b => (∃ ad c, v = .slice (some ad) b.length c) ∧ Kd.R (Kd.int .i64) 3 w base (fun _ => True) v b
theorem R_off {α β : Type} {d : Kd α} {d' : Kd β} {e e' base base' : Nat} {ok ok' : Nat → Prop} {v v' : Value} {xs : List α} {ys : List β} {w : World} (h : d.R e w base ok v xs) (h' : d'.R e' w base' ok' v' ys) (hne : ∀ q, q ∈ e :: d.E → q ≠ e') : d.R e w base (fun k => ok k ∧ some k ≠ v'.ownBlock) v xs :=
  Kd.R_mono (Kd.R_bound h) (fun k hk => ⟨hk.1, fun he => by
    obtain ⟨_, _, _, q, hq, cells, hc⟩ := hk
    obtain ⟨inner, ho⟩ := Kd.R_own h'
    obtain ⟨cells', hc'⟩ := own_typed ho k he.symm
    rw [hc] at hc'
    injection hc' with hc'
    injection hc' with _ hq'
    exact hne q hq hq'⟩)
theorem R_some {α : Type} {d : Kd α} {e base : Nat} {ok : Nat → Prop} {v : Value} {xs : List α} {w : World} (h : d.R e w base ok v xs) (hl : 0 < xs.length) : ∃ ad c, v = .slice (some ad) xs.length c := by
  obtain ⟨A, c, rfl, _, hC⟩ := Kd.R_reads h
  obtain ⟨ad, h1, _⟩ := hC.2.2 hl
  exact ⟨ad, c, by rw [h1]⟩
theorem FdBest.below {base : Nat} {w w1 : World} {v : Value} {o : Option (List Int)} (h : FdBest base w v o) (hb : Below w.heap.size w w1) : FdBest base w1 v o := by
  cases o with
  | none => exact h
  | some b => exact ⟨h.1, Kd.R_below h.2 hb⟩
def impl_FewestDrops.f (k : Nat) (a0 : Int) (l1 : List S44) : Option (List Int × Bool) :=
  (impl_isSet.f k a0 l1).bind fun ok => if ok = true ∧ l1.length ≤ 12 then (fdAll k l1 (2 ^ l1.length)).map fun b => (b.getD [], true) else some ([], false)
theorem fd_bit (t i : Nat) (ht : t ≤ 4096) : (bits BinOp.and IntKind.i64 ((t : Int) / 2 ^ i) 1 == 1) = t.testBit i := by
  have hw : ∀ n : Int, 0 ≤ n → n < 2 ^ 31 → IntKind.i64.wrap n = n := fun n h0 h1 => by rw [IntKind.wrap_i64]; omega
  have e : (t : Int) / 2 ^ i = ((t / 2 ^ i : Nat) : Int) := by simp
  clear hw
  have hw : ∀ n : Int, 0 ≤ n → n < 2 ^ 31 → IntKind.i64.wrap n = n := fun n h0 h1 => by rw [IntKind.wrap_i64]; omega
  have hle : t / 2 ^ i ≤ t := Nat.div_le_self _ _
  rw [e, Nat.testBit_eq_decide_div_mod_eq]
  generalize t / 2 ^ i = q at *
  have h : bits BinOp.and IntKind.i64 (q : Int) 1 = (q : Int) % 2 := bits_mask .i64 31 (by decide) hw 1 (by decide) _ (by omega) (by omega)
  rw [h]
  by_cases h2 : q % 2 = 1
  · rw [decide_eq_true h2, beq_iff_eq]; omega
  · rw [decide_eq_false h2, beq_eq_false_iff_ne]; omega
theorem fd_walk (k : Nat) (a0 : Int) (A1 : Option Addr) (c1 : Nat) (l1 : List S44) (P : Nat) (fin : Option (List Int)) (w : World) (hr1 : Kd.C k44 w A1 l1.length l1) (hc1 : l1.length ≤ c1)
    (hset : impl_isSet.f k a0 l1 = some true) (hlen : l1.length ≤ 12) (hP : Aside0 (2 ^ l1.length = P)) (hP2 : P ≤ 4096) (hfin : Aside0 (fdAll k l1 P = some fin)) :
    Calls Tryz.prog 16 #[.int .i64 a0, .slice A1 l1.length c1] w fun e w' => ∃ v0_ : Value, e = .returned (.tuple #[v0_, .bool true]) ∧ Kd.R (Kd.int .i64) 3 w' w.heap.size (fun _ => True) v0_ (fin.getD []) ∧ Below w.heap.size w w' := by
  have HS := Aside0.mk (impl_isSet.calls k a0 A1 c1 l1 true w hr1 hc1 hset)
  have HC := Aside0.mk hr1
  have HC1 := Aside0.mk hc1
  clear hr1 hc1 hset
  have hPw : Aside0 (wrap64 (2 ^ l1.length) = (P : Int)) := ⟨by rw [show (2 : Int) ^ l1.length = (P : Int) by rw [← hP.out]; simp]; unfold wrap64; omega⟩
  go_enter Tryz.func16, Tryz.ntmps16
  go_wp2_with fail
  refine HS.out.mono ?_
  rintro e w1 ⟨rfl, hb1⟩
  have HB := Aside0.mk hb1
  clear hb1 HS
  have hgt : decide ((l1.length : Int) > 12) = false := decide_eq_false (by omega)
  go_wp2_with fail
  go_loopg [6, 24] P (fun gg v6 v24 wr => ∃ (t : Nat) (best : Option (List Int)), v24 = .int .i64 (t : Int) ∧ t ≤ P ∧ P - t ≤ gg ∧ Aside0 (fdAll k l1 t = some best) ∧ Aside0 (FdBest w.heap.size wr v6 best) ∧ Aside0 (Below w.heap.size w wr))
  case atStart => exact ⟨0, none, rfl, Nat.zero_le _, by omega, ⟨rfl⟩, ⟨rfl⟩, HB⟩
  case round =>
    clear HB
    obtain ⟨t, best, rfl, ht, hm, HA, HBEST, HB⟩ := hrel
    by_cases hlt : t < P
    · have hltz : decide ((t : Int) < wrap64 (2 ^ l1.length)) = true := decide_eq_true (by rw [hPw.out]; omega)
      obtain ⟨W0, hW0⟩ : ∃ W0, W0 = wr := ⟨_, rfl⟩
      have HW0 := Aside0.mk hW0
      clear hW0
      have HB0 : Aside0 (Below w.heap.size w W0) := ⟨by rw [HW0.out]; exact HB.out⟩
      go_wp2_with fail
      go_loopg [8, 9, 31] l1.length (fun gg v8 v9 v31 wx => ∃ (i : Nat), v31 = .int .i64 (i : Int) ∧ i ≤ l1.length ∧ l1.length - i ≤ gg ∧ Aside0 (∃ ad c, v8 = .slice (some ad) (fdD t i).length c) ∧ Aside0 (Kd.R (Kd.int .i64) 3 wx W0.heap.size (fun _ => True) v8 (fdD t i)) ∧ Aside0 (Kd.R k44 44 wx W0.heap.size (fun _ => True) v9 (fdK t l1 i)) ∧ Aside0 (Below W0.heap.size W0 wx))
      case atStart =>
        obtain rfl := HW0.out
        exact ⟨0, rfl, Nat.zero_le _, by omega, ⟨⟨_, _, rfl⟩⟩, ⟨Kd.R_alloc (show Kd.R (Kd.int .i64) 3 (W0.alloc (.cells #[] 3)) W0.heap.size (fun _ => True) (.slice (some ⟨W0.heap.size, 0, none⟩) 0 0) [] from ⟨fun _ _ => trivial, OwnRow.lit W0 W0.heap.size (Reps.none _ _) (Nat.le_refl _) (by simp)⟩) _⟩, ⟨show Kd.R k44 44 ((W0.alloc (.cells #[] 3)).alloc (.cells #[] 44)) W0.heap.size (fun _ => True) (.slice (some ⟨W0.heap.size + 1, 0, none⟩) 0 0) [] from ⟨fun _ _ => trivial, by have h := OwnRow.lit (W0.alloc (.cells #[] 3)) W0.heap.size (R := k44.M ((W0.alloc (.cells #[] 3)).alloc (.cells #[] 44)) W0.heap.size (fun k => True ∧ some k ≠ (Value.slice (some ⟨W0.heap.size + 1, 0, none⟩) 0 0).ownBlock)) (size := k44.sz) (e := 44) (Reps.none _ _) (by simp) (by simp); simpa using h⟩⟩, ⟨below_alloc (below_alloc (Below.refl _ _) _) _⟩⟩
      case round =>
        obtain ⟨i, rfl, hi, hmi, HV, HD, HK, HX⟩ := hrel
        by_cases hil : i < l1.length
        · have c0 : decide ((i : Int) < (l1.length : Int)) = true := decide_eq_true (by omega)
          obtain ⟨ad, hA, m0, m1⟩ := at_T44 (Kd.C_below HC.out (below_step HB0.out HX.out)) (i : Int) (by omega) (by omega)
          cases hA
          rw [Int.toNat_natCast] at m0 m1
          have HBX := Aside0.mk (below_step HB0.out HX.out)
          have hbit := fd_bit t i (by omega)
          obtain ⟨adv, cv, rfl⟩ := HV.out
          have HVal : ∀ v1 : Value, Kd.R (Kd.int .i64) 3 wr W0.heap.size (fun _ => True) v1 (fdD t i) → True := fun _ _ => trivial
          clear HVal
          have HDb := Aside0.mk (Kd.R_alloc HD.out (.cells #[.int .i64 (rd_T44 l1 (i : Int)).f0, .int .i64 (rd_T44 l1 (i : Int)).f1] 44))
          have HKb := Aside0.mk (Kd.R_alloc HK.out (.cells #[.int .i64 (rd_T44 l1 (i : Int)).f0, .int .i64 (rd_T44 l1 (i : Int)).f1] 44))
          have HXb := Aside0.mk (below_alloc HX.out (.cells #[.int .i64 (rd_T44 l1 (i : Int)).f0, .int .i64 (rd_T44 l1 (i : Int)).f1] 44))
          have HKo := Aside0.mk (R_off HKb.out HDb.out (by decide))
          have HDo := Aside0.mk (R_off HDb.out HKb.out (by decide))
          have hlD := fdD_len t i
          have hlK := fdK_len t l1 i
          have HLL := Aside0.mk (show (fdD t i).length ≤ 12 ∧ (fdK t l1 i).length ≤ 12 by omega)
          clear hlD hlK
          cases htb : t.testBit i with
          | true =>
            rw [htb] at hbit
            have HTB := Aside0.mk htb
            clear htb
            go_wp2_with (first | ((with_reducible refine gate_builtin (b := .append) (xs := #[.tmp 41, .tmp 43]) rfl ?_); at_builtin; refine Kd.R_append (Kd.int .i64) (w0 := W0) W0.heap.size rfl (.tmp 41) (.tmp 43) 36 3 (.int .i64 0) 8 rfl Tryz.underlying36 info3 rfl (by decide) (by omega) (.slice (some adv) (fdD t i).length cv) (fdD t i) (i : Int) [.int .i64 (i : Int)] (fun _ => True) (fun _ => False) rfl (by go_simp) ?aP (fun _ hk => hk.elim) ?aF HDb.out HXb.out ?aS ?aL ?_; (case aP => exact rfl); (case aF => exact fun _ _ => trivial); (case aS => exact below_size HXb.out); (case aL => have := HLL.out; omega); intro v1 w1 ho hb hg hat; rw [← fdD_yes t i HTB.out] at ho; have n0_ := Aside0.mk ho; have n1_ := Aside0.mk hb; have n2_ := Aside0.mk (Kd.R_mono (ok' := fun _ => True) (Kd.R_grown HKo.out hg (fun k hk => hk.2)) (fun _ _ => trivial)); clear ho hb hg hat))
            go_roundg (l1.length - (i + 1))
            case measure => omega
            case rel =>
              refine ⟨i + 1, by go_num, by omega, Nat.le_refl _, ⟨R_some n0_.out (by rw [fdD_yes t i HTB.out]; simp)⟩, n0_, ⟨?_⟩, n1_⟩
              rw [fdK_yes t l1 i HTB.out]
              exact n2_.out
          | false =>
            rw [htb] at hbit
            have HTB := Aside0.mk htb
            clear htb
            go_wp2_with (first | ((with_reducible refine gate_builtin (b := .append) (xs := #[.tmp 45, .tmp 47]) rfl ?_); at_builtin; refine Kd.R_append k44 (w0 := W0) W0.heap.size rfl (.tmp 45) (.tmp 47) 24 44 (.agg #[(.int .i64 0), (.int .i64 0)]) 16 rfl Tryz.underlying24 info44 rfl (by decide) (by omega) u9 (fdK t l1 i) (rd_T44 l1 (i : Int)) [.int .i64 (rd_T44 l1 (i : Int)).f0, .int .i64 (rd_T44 l1 (i : Int)).f1] (fun _ => True) (fun _ => False) rfl (by go_simp) ?aP (fun _ hk => hk.elim) ?aF HKb.out HXb.out ?aS ?aL ?_; (case aP => exact k44_mkM _ _ _ (rd_T44 l1 (i : Int))); (case aF => exact fun _ _ => trivial); (case aS => exact below_size HXb.out); (case aL => have := HLL.out; omega); intro v1 w1 ho hb hg hat; rw [← fdK_no t l1 i HTB.out] at ho; have n0_ := Aside0.mk ho; have n1_ := Aside0.mk hb; have n2_ := Aside0.mk (Kd.R_mono (ok' := fun _ => True) (Kd.R_grown HDo.out hg (fun k hk => hk.2)) (fun _ _ => trivial)); clear ho hb hg hat))
            go_roundg (l1.length - (i + 1))
            case measure => omega
            case rel =>
              refine ⟨i + 1, by go_num, by omega, Nat.le_refl _, ⟨?_⟩, ⟨?_⟩, n0_, n1_⟩
              · rw [fdD_no t i HTB.out]
                exact ⟨_, _, rfl⟩
              · rw [fdD_no t i HTB.out]
                exact n2_.out
        · obtain rfl : i = l1.length := by omega
          have c0 : decide ((l1.length : Int) < (l1.length : Int)) = false := decide_eq_false (by omega)
          have HBX := Aside0.mk (below_step HB0.out HX.out)
          have HSZ := Aside0.mk (show w.heap.size ≤ W0.heap.size from HB0.out.size)
          have HBEST2 := Aside0.mk (show FdBest w.heap.size wr u6 best from FdBest.below (by rw [HW0.out]; exact HBEST.out) HX.out)
          obtain ⟨best', hbest'⟩ := fdAll_some k l1 P (t + 1) (by omega) ⟨fin, hfin.out⟩
          have HT1 := Aside0.mk hbest'
          have hone : fdOne k l1 t best = some best' := by
            have h := hbest'
            simp only [fdAll, HA.out, Option.bind_some] at h
            exact h
          clear hbest'
          obtain ⟨A9, c9, rfl, hl9, _⟩ := Kd.R_reads HK.out
          cases best with
          | none =>
            have HONE := Aside0.mk hone
            clear hone
            have hb0 := HBEST2.out
            simp only [FdBest] at hb0
            subst hb0
            have qN : ∀ (w : World), (binOp .neq 36 (.slice none 0 0) (.slice none 0 0)).run Tryz.prog w = .ok (.bool false) w := fun w => rfl
            obtain ⟨c, hcf, hcb⟩ := Option.map_eq_some_iff.1 HONE.out
            have HCR := Aside0.mk (impl_crossings.calls k A9 c9 (fdK t l1 l1.length) c wr (Kd.R_reads' HK.out).2.2 hl9 hcf)
            by_cases hc0 : c = 0
            · rw [if_pos hc0] at hcb
              subst hcb
              have hc0b : (c == 0) = true := beq_iff_eq.2 hc0
              go_wp2_with fail
              refine HCR.out.mono ?_
              rintro e w2 ⟨rfl, hb2⟩
              have HB2 := Aside0.mk (below_step HBX.out hb2)
              have HD2 := Aside0.mk (Kd.R_lower (Kd.R_below HD.out hb2) HSZ.out)
              clear hb2
              go_wp2_with fail
              go_roundg (P - (t + 1))
              case measure => omega
              case rel => exact ⟨t + 1, _, by go_num, by omega, Nat.le_refl _, HT1, ⟨⟨HV.out, HD2.out⟩⟩, HB2⟩
            · rw [if_neg hc0] at hcb
              subst hcb
              have hc0b : (c == 0) = false := beq_eq_false_iff_ne.2 hc0
              go_wp2_with fail
              refine HCR.out.mono ?_
              rintro e w2 ⟨rfl, hb2⟩
              have HB2 := Aside0.mk (below_step HBX.out hb2)
              have HE2 := Aside0.mk (FdBest.below HBEST2.out hb2)
              clear hb2
              go_wp2_with fail
              go_roundg (P - (t + 1))
              case measure => omega
              case rel => exact ⟨t + 1, _, by go_num, by omega, Nat.le_refl _, HT1, HE2, HB2⟩
          | some b =>
            obtain ⟨⟨adb, cb, rfl⟩, HRb⟩ := HBEST2.out
            obtain ⟨adv, cv, rfl⟩ := HV.out
            have HRB := Aside0.mk HRb
            clear HRb
            have qT : ∀ (w : World), (binOp .neq 36 (.slice (some adb) b.length cb) (.slice none 0 0)).run Tryz.prog w = .ok (.bool true) w := fun w => rfl
            simp only [fdOne] at hone
            by_cases h1 : (fdD t l1.length).length > b.length
            · rw [if_pos h1] at hone
              obtain rfl := Option.some.inj hone
              have h1b : decide (((fdD t l1.length).length : Int) > (b.length : Int)) = true := decide_eq_true (by omega)
              go_wp2_with fail
              go_roundg (P - (t + 1))
              case measure => omega
              case rel => exact ⟨t + 1, _, by go_num, by omega, Nat.le_refl _, HT1, HBEST2, HBX⟩
            · rw [if_neg h1] at hone
              have h1b : decide (((fdD t l1.length).length : Int) > (b.length : Int)) = false := decide_eq_false (by omega)
              by_cases h2 : (fdD t l1.length).length = b.length
              · rw [if_pos h2] at hone
                have h2b : (((fdD t l1.length).length : Int) == (b.length : Int)) = true := beq_iff_eq.2 (by omega)
                obtain ⟨q, hq, hone⟩ := Option.bind_eq_some_iff.mp hone
                have hlv := (Kd.R_reads' HD.out).2.1
                have hlb := (Kd.R_reads' HRB.out).2.1
                have HCMP := Aside0.mk (slices_Compare_int_int.calls k (some adv) cv (fdD t l1.length) (some adb) cb b q wr (Kd.R_reads' HD.out).2.2 hlv (Kd.R_reads' HRB.out).2.2 hlb hq)
                clear hlv hlb
                clear h2
                by_cases h3 : q > 0
                · rw [if_pos h3] at hone
                  obtain rfl := Option.some.inj hone
                  have h3b : decide (q > 0) = true := decide_eq_true h3
                  go_wp2_with fail
                  refine HCMP.out.mono ?_
                  rintro e w1' ⟨rfl, hd⟩
                  have HBX' := Aside0.mk (below_step HBX.out hd.below)
                  have HBEST' := Aside0.mk (FdBest.below HBEST2.out hd.below)
                  clear hd
                  go_wp2_with fail
                  go_roundg (P - (t + 1))
                  case measure => omega
                  case rel => exact ⟨t + 1, _, by go_num, by omega, Nat.le_refl _, HT1, HBEST', HBX'⟩
                · rw [if_neg h3] at hone
                  have HONE := Aside0.mk hone
                  clear hone
                  have h3b : decide (q > 0) = false := decide_eq_false h3
                  go_wp2_with fail
                  refine HCMP.out.mono ?_
                  rintro e w1' ⟨rfl, hd⟩
                  have HBX' := Aside0.mk (below_step HBX.out hd.below)
                  have HBEST' := Aside0.mk (FdBest.below HBEST2.out hd.below)
                  have HK' := Aside0.mk (Kd.R_below HK.out hd.below)
                  have HD' := Aside0.mk (Kd.R_below HD.out hd.below)
                  clear hd
                  obtain ⟨c, hcf, hcb⟩ := Option.map_eq_some_iff.1 HONE.out
                  have HCR := Aside0.mk (impl_crossings.calls k A9 c9 (fdK t l1 l1.length) c w1' (Kd.R_reads' HK'.out).2.2 hl9 hcf)
                  by_cases hc0 : c = 0
                  · rw [if_pos hc0] at hcb
                    subst hcb
                    have hc0b : (c == 0) = true := beq_iff_eq.2 hc0
                    go_wp2_with fail
                    refine HCR.out.mono ?_
                    rintro e w2 ⟨rfl, hb2⟩
                    have HB2 := Aside0.mk (below_step HBX'.out hb2)
                    have HD2 := Aside0.mk (Kd.R_lower (Kd.R_below HD'.out hb2) HSZ.out)
                    clear hb2
                    go_wp2_with fail
                    go_roundg (P - (t + 1))
                    case measure => omega
                    case rel => exact ⟨t + 1, _, by go_num, by omega, Nat.le_refl _, HT1, ⟨⟨⟨_, _, rfl⟩, HD2.out⟩⟩, HB2⟩
                  · rw [if_neg hc0] at hcb
                    subst hcb
                    have hc0b : (c == 0) = false := beq_eq_false_iff_ne.2 hc0
                    go_wp2_with fail
                    refine HCR.out.mono ?_
                    rintro e w2 ⟨rfl, hb2⟩
                    have HB2 := Aside0.mk (below_step HBX'.out hb2)
                    have HE2 := Aside0.mk (FdBest.below HBEST'.out hb2)
                    clear hb2
                    go_wp2_with fail
                    go_roundg (P - (t + 1))
                    case measure => omega
                    case rel => exact ⟨t + 1, _, by go_num, by omega, Nat.le_refl _, HT1, HE2, HB2⟩
              · rw [if_neg h2] at hone
                have HONE := Aside0.mk hone
                clear hone
                have h2b : (((fdD t l1.length).length : Int) == (b.length : Int)) = false := beq_eq_false_iff_ne.2 (by omega)
                obtain ⟨c, hcf, hcb⟩ := Option.map_eq_some_iff.1 HONE.out
                have HCR := Aside0.mk (impl_crossings.calls k A9 c9 (fdK t l1 l1.length) c wr (Kd.R_reads' HK.out).2.2 hl9 hcf)
                by_cases hc0 : c = 0
                · rw [if_pos hc0] at hcb
                  subst hcb
                  have hc0b : (c == 0) = true := beq_iff_eq.2 hc0
                  go_wp2_with fail
                  refine HCR.out.mono ?_
                  rintro e w2 ⟨rfl, hb2⟩
                  have HB2 := Aside0.mk (below_step HBX.out hb2)
                  have HD2 := Aside0.mk (Kd.R_lower (Kd.R_below HD.out hb2) HSZ.out)
                  clear hb2
                  go_wp2_with fail
                  go_roundg (P - (t + 1))
                  case measure => omega
                  case rel => exact ⟨t + 1, _, by go_num, by omega, Nat.le_refl _, HT1, ⟨⟨HV.out, HD2.out⟩⟩, HB2⟩
                · rw [if_neg hc0] at hcb
                  subst hcb
                  have hc0b : (c == 0) = false := beq_eq_false_iff_ne.2 hc0
                  go_wp2_with fail
                  refine HCR.out.mono ?_
                  rintro e w2 ⟨rfl, hb2⟩
                  have HB2 := Aside0.mk (below_step HBX.out hb2)
                  have HE2 := Aside0.mk (FdBest.below HBEST2.out hb2)
                  clear hb2
                  go_wp2_with fail
                  go_roundg (P - (t + 1))
                  case measure => omega
                  case rel => exact ⟨t + 1, _, by go_num, by omega, Nat.le_refl _, HT1, HE2, HB2⟩
    · obtain rfl : t = P := by omega
      have hltz : decide ((t : Int) < wrap64 (2 ^ l1.length)) = false := decide_eq_false (by rw [hPw.out]; omega)
      have he : best = fin := Option.some.inj (HA.out.symm.trans hfin.out)
      subst he
      go_wp2_with fail
      go_ret2
      cases best with
      | none =>
        have hb0 := HBEST.out
        simp only [FdBest] at hb0
        subst hb0
        exact ⟨_, rfl, Kd.R_nil _ _ _ _ _, HB.out⟩
      | some b => exact ⟨_, rfl, HBEST.out.2, HB.out⟩
theorem fd_small (k : Nat) (a0 : Int) (A1 : Option Addr) (c1 : Nat) (l1 : List S44) (ok : Bool) (w : World) (hr1 : Kd.C k44 w A1 l1.length l1) (hc1 : l1.length ≤ c1)
    (hset : impl_isSet.f k a0 l1 = some ok) (hno : ¬ (ok = true ∧ l1.length ≤ 12)) :
    Calls Tryz.prog 16 #[.int .i64 a0, .slice A1 l1.length c1] w fun e w' => ∃ v0_ : Value, e = .returned (.tuple #[v0_, .bool false]) ∧ Kd.R (Kd.int .i64) 3 w' w.heap.size (fun _ => True) v0_ [] ∧ Below w.heap.size w w' := by
  have HS := Aside0.mk (impl_isSet.calls k a0 A1 c1 l1 ok w hr1 hc1 hset)
  clear hr1 hc1 hset
  cases ok with
  | false =>
    go_enter Tryz.func16, Tryz.ntmps16
    go_wp2_with fail
    refine HS.out.mono ?_
    rintro e w1 ⟨rfl, hb1⟩
    have HB := Aside0.mk hb1
    clear hb1 HS
    go_wp2_with fail
    go_ret2
    exact ⟨_, rfl, Kd.R_nil _ _ _ _ _, HB.out⟩
  | true =>
    have hgt : decide ((l1.length : Int) > 12) = true := decide_eq_true (by have : ¬ l1.length ≤ 12 := fun h => hno ⟨rfl, h⟩; omega)
    clear hno
    go_enter Tryz.func16, Tryz.ntmps16
    go_wp2_with fail
    refine HS.out.mono ?_
    rintro e w1 ⟨rfl, hb1⟩
    have HB := Aside0.mk hb1
    clear hb1 HS
    go_wp2_with fail
    go_ret2
    exact ⟨_, rfl, Kd.R_nil _ _ _ _ _, HB.out⟩
theorem impl_FewestDrops.calls (k : Nat) (a0 : Int) (A1 : Option Addr) (c1 : Nat) (l1 : List S44) (r1 : List Int) (r2 : Bool) (w : World) (hr1 : Kd.C k44 w A1 l1.length l1) (hc1 : l1.length ≤ c1) (h : impl_FewestDrops.f k a0 l1 = some (r1, r2)) :
    Calls Tryz.prog 16 #[.int .i64 a0, .slice A1 l1.length c1] w fun e w' => ∃ v0_ : Value, e = .returned (.tuple #[v0_, .bool r2]) ∧ Kd.R (Kd.int .i64) 3 w' w.heap.size (fun _ => True) v0_ r1 ∧ Below w.heap.size w w' := by
  unfold impl_FewestDrops.f at h
  obtain ⟨ok, hset, h⟩ := Option.bind_eq_some_iff.mp h
  by_cases hc : ok = true ∧ l1.length ≤ 12
  · rw [if_pos hc] at h
    obtain ⟨fin, hfin, he⟩ := Option.map_eq_some_iff.1 h
    injection he with e1 e2
    subst e1
    subst e2
    obtain ⟨rfl, hlen⟩ := hc
    exact fd_walk k a0 A1 c1 l1 (2 ^ l1.length) fin w hr1 hc1 hset hlen ⟨rfl⟩ (Nat.pow_le_pow_right (by omega) hlen) ⟨hfin⟩
  · rw [if_neg hc] at h
    injection h with h
    injection h with e1 e2
    subst e1
    subst e2
    exact fd_small k a0 A1 c1 l1 ok w hr1 hc1 hset hc
theorem fdAll_mono (k : Nat) (l : List S44) : ∀ t, LeO (fdAll k l t) (fdAll (k + 1) l t)
  | 0 => LeO.refl _
  | t + 1 => by
    have htake : ∀ best, LeO (fdTake k l t best) (fdTake (k + 1) l t best) := by
      intro best r h
      unfold fdTake at h ⊢
      obtain ⟨c, h1, h2⟩ := Option.map_eq_some_iff.1 h
      exact Option.map_eq_some_iff.2 ⟨c, impl_crossings.mono _ k _ h1, h2⟩
    refine LeO.bind (fdAll_mono k l t) (fun best => ?_)
    cases best with
    | none => exact htake none
    | some b =>
      simp only [fdOne]
      refine LeO.ite (LeO.refl _) (LeO.ite (LeO.bind (slices_Compare_int_int.mono _ _ k) (fun q => LeO.ite (LeO.refl _) (htake _))) (htake _))
theorem impl_FewestDrops.mono (a0 : Int) (l1 : List S44) (k : Nat) : LeO (impl_FewestDrops.f k a0 l1) (impl_FewestDrops.f (k + 1) a0 l1) := by
  unfold impl_FewestDrops.f
  refine LeO.bind (impl_isSet.mono _ _ k) (fun ok => LeO.ite ?_ (LeO.refl _))
  intro r h
  obtain ⟨c, h1, h2⟩ := Option.map_eq_some_iff.1 h
  exact Option.map_eq_some_iff.2 ⟨c, fdAll_mono k l1 _ _ h1, h2⟩
def spec_l1Has.l0 : Nat → Int → List Int → Int → Int → Option (Bool)
 | 0, _, _, _, _ => none
 | k + 1, x1, x7, x8, x9 => if x9 < x8 then (if 0 ≤ x9 then (if x9 < (x7.length : Int) then (if (rd x7 x9) = x1 then (some true) else (spec_l1Has.l0 k x1 x7 x8 (wrap64 (x9 + 1)))) else (none)) else (none)) else (some false)
def spec_l1Has.f (k : Nat) (l0 : List Int) (a1 : Int) : Option (Bool) := spec_l1Has.l0 k a1 l0 (l0.length : Int) 0
theorem spec_l1Has.mono_l : ∀ k, (∀ y0 y1 y2 y3, LeO (spec_l1Has.l0 k y0 y1 y2 y3) (spec_l1Has.l0 (k + 1) y0 y1 y2 y3))
 | 0 => fun _ _ _ _ r h => by simp [spec_l1Has.l0] at h
 | k + 1 => by
  have ih0 := spec_l1Has.mono_l k
  ·intro y0 y1 y2 y3
   unfold spec_l1Has.l0
   exact lo_
theorem spec_l1Has.mono : ∀ a0 a1 k, LeO (spec_l1Has.f k a0 a1) (spec_l1Has.f (k + 1) a0 a1) := by
 intro a0 a1 k
 have ih0 := spec_l1Has.mono_l k
 unfold spec_l1Has.f
 exact lo_
theorem spec_l1Has.calls (k : Nat) (A0 : Option Addr) (c0 : Nat) (l0 : List Int) (a1 : Int) (r : Bool) (w : World) (hr0 : Kd.C (Kd.int .i64) w A0 l0.length l0) (hc0 : l0.length ≤ c0) (h : spec_l1Has.f k l0 a1 = some r) :
  Calls Tryz.prog 68 #[.slice A0 l0.length c0, .int .i64 a1] w fun e w' => e = .returned (.bool r) ∧ Drawn0 w w' := by
 have HR0 := Aside0.mk hr0
 have HC0 := Aside0.mk hc0
 clear hr0 hc0
 have H : (spec_l1Has.l0 k a1 l0 (l0.length : Int) 0) = some r := h
 clear h
 have H' := Aside0.mk H
 clear H
 go_enter Tryz.func68, Tryz.ntmps68
 go_wp2
 go_loopg [9] k (fun kq v9 w' => ∃ (x9_1 : Int), v9 = .int .i64 x9_1 ∧ Aside0 (spec_l1Has.l0 kq a1 l0 (l0.length : Int) x9_1 = some r) ∧ Aside0 (kq ≤ k) ∧ Drawn0 w w')
 case atStart => exact ⟨(0), (es_), H', ⟨Nat.le_refl _⟩, dr_⟩
 case round =>
  clear H'
  try clear p2
  obtain ⟨x9_1, rfl, HA, HK1, ⟨m1, rfl⟩⟩ := hrel
  cases gk with
  | zero => exact absurd HA.out (by simp [spec_l1Has.l0])
  | succ k1 =>
   have H := HA.out
   clear HA
   simp only [spec_l1Has.l0] at H
   by_cases c3 : x9_1 < (l0.length : Int)
   ·rw [if_pos c3] at H
    have c3b0 : decide (x9_1 < (l0.length : Int)) = true := decide_eq_true c3
    clear c3
    by_cases c4 : 0 ≤ x9_1
    rotate_left
    ·rw [if_neg c4] at H
     exact absurd H (by simp)
    rw [if_pos c4] at H
    have c4b0 : decide (0 ≤ x9_1) = true := decide_eq_true c4
    clear c4
    by_cases c5 : x9_1 < (l0.length : Int)
    rotate_left
    ·rw [if_neg c5] at H
     exact absurd H (by simp)
    rw [if_pos c5] at H
    have c5b0 : decide (x9_1 < (l0.length : Int)) = true := decide_eq_true c5
    clear c5
    by_cases c6 : (rd l0 x9_1) = a1
    ·rw [if_pos c6] at H
     have c6b0 : ((rd l0 x9_1) == a1) = true := beq_iff_eq.mpr c6
     have c6b1 : ((rd l0 x9_1) != a1) = false := bne_eq_false_iff_eq.mpr c6
     clear c6
     obtain rfl := Option.some.inj H
     have p368 : 0 ≤ (x9_1 : Int) := od_
     have q368 : x9_1 < (l0.length : Int) := od_
     obtain ⟨ad368, e368, hx368_0⟩ := Kd.at_int HR0.out x9_1 p368 q368
     cases e368
     replace p368 := eq_true p368
     replace q368 := eq_true q368
     go_wp2
     go_ret
     exact ⟨es_, dr_⟩
    ·rw [if_neg c6] at H
     have c6b0 : ((rd l0 x9_1) == a1) = false := beq_eq_false_iff_ne.mpr c6
     have c6b1 : ((rd l0 x9_1) != a1) = true := bne_iff_ne.mpr c6
     have H' := Aside0.mk H
     clear H
     have p368 : 0 ≤ (x9_1 : Int) := od_
     have q368 : x9_1 < (l0.length : Int) := od_
     obtain ⟨ad368, e368, hx368_0⟩ := Kd.at_int HR0.out x9_1 p368 q368
     cases e368
     replace p368 := eq_true p368
     replace q368 := eq_true q368
     go_wp2
     go_roundg k1
     case measure => have := HK1.out; omega
     case rel => exact ⟨(wrap64 (x9_1 + 1)), (es_), H', ⟨by have := HK1.out; omega⟩, dr_⟩
   ·rw [if_neg c3] at H
    have c3b0 : decide (x9_1 < (l0.length : Int)) = false := decide_eq_false c3
    clear c3
    obtain rfl := Option.some.inj H
    go_wp2
    go_ret
    exact ⟨es_, dr_⟩
def spec_l1Own.f (l0 : List Int) : Option (List Int) := (some (([] : List Int) : List Int)).bind fun y369 => (if y369.length + l0.length < 17592186044416 then (some (y369 ++ l0)) else (none))
theorem spec_l1Own.calls (A0 : Option Addr) (c0 : Nat) (l0 : List Int) (r : List Int) (w : World) (hr0 : Kd.C (Kd.int .i64) w A0 l0.length l0) (hc0 : l0.length ≤ c0) (h : spec_l1Own.f l0 = some r) :
  Calls Tryz.prog 69 #[.slice A0 l0.length c0] w fun e w' => ∃ v0_ : Value, e = .returned (v0_) ∧ Kd.R (Kd.int .i64) 3 w' w.heap.size (fun _ => True) v0_ r ∧ Below w.heap.size w w' := by
 have HR0 := Aside0.mk hr0
 have HC0 := Aside0.mk hc0
 clear hr0 hc0
 have HB := Aside0.mk (Below.refl w.heap.size w)
 have H : ((some (([] : List Int) : List Int)).bind fun y369 => (if y369.length + l0.length < 17592186044416 then (some (y369 ++ l0)) else (none))) = some r := h
 clear h
 obtain ⟨y369, hy369⟩ : ∃ y_ : List Int, y_ = (([] : List Int)) := ⟨_, rfl⟩
 replace H : (if y369.length + l0.length < 17592186044416 then (some (y369 ++ l0)) else (none)) = some r := by first | (rw [hy369]; with_reducible exact H) | (have H2_ := (Option.bind_some _ _).symm.trans H; rw [hy369]; with_reducible exact H2_) | (have H2_ := (Option.bind_some _ _).symm.trans H; with_reducible exact H2_) | with_reducible exact H | (rw [hy369]; exact H) | exact H
 have Ny369 := Aside0.mk hy369
 clear hy369
 by_cases c2 : y369.length + l0.length < 17592186044416
 rotate_left
 ·rw [if_neg c2] at H
  exact absurd H (by simp)
 rw [if_pos c2] at H
 have LMc2 := Aside0.mk c2
 clear c2
 obtain ⟨y372, hy372⟩ : ∃ y_ : List Int, y_ = (y369 ++ l0) := ⟨_, rfl⟩
 replace H : (some y372) = some r := by first | (rw [hy372]; with_reducible exact H) | (have H2_ := (Option.bind_some _ _).symm.trans H; rw [hy372]; with_reducible exact H2_) | (have H2_ := (Option.bind_some _ _).symm.trans H; with_reducible exact H2_) | with_reducible exact H | (rw [hy372]; exact H) | exact H
 have Ny372 := Aside0.mk hy372
 clear hy372
 obtain rfl := Option.some.inj H
 go_enter Tryz.func69, Tryz.ntmps69
 go_wp2_with (first | ((with_reducible refine gate_dst (N := 3) rfl ?_); refine Kd.R_lit (Kd.int .i64) _ 3 ?hg (N := 3) ?hd (xs := ([] : List Int)) (inner := []) (ok := fun _ => True) (okp := fun _ => True) ?hr ?hp (fun _ hk => hk) trivial (Below.refl _ _) (Nat.le_refl _) (by simp) ?_; (case hd => rfl); (case hg => rfl); (case hr => first | (go_simp; done) | (go_simp; rfl)); (case hp => exact (Reps.none _ _)); intro v370 w3 ho4 hb hg_ hnew_; clear hg_ hnew_; (first | rw [← Ny369.out] at ho4 | (simp only [Int.reduceToNat] at ho4; rw [← Ny369.out] at ho4)); have n0_ := Aside0.mk (Kd.R_lower ho4 (below_size bl_)); have n1_ := Aside0.mk (below_step bl_ hb); clear HB; have HO371 := n0_; have HB := n1_; clear n0_ n1_; clear hb ho4) | ((with_reducible refine gate_builtin (b := .append) (xs := #[.tmp 3, .tmp 4]) rfl ?_); at_builtin; refine Kd.R_append_rows (Kd.int .i64) (w0 := w) w.heap.size rfl (.tmp 3) (.tmp 4) 36 3 (.int .i64 0) 8 rfl Tryz.underlying36 info3 rfl (by decide) (by omega) v370 y369 l0 _ _ _ (fun _ => True) (fun _ => False) rfl rfl ?aO ?aR (fun _ _ h => h) (fun _ h => h.elim) ?aF ?aB ?aS ?aL ?_; (case aR => exact kc_ <| (Kd.C_below HR0.out HB.out)); (case aB => exact bl_); (case aF => exact (fun _ _ => trivial)); (case aO => exact (kr_ <| HO371.out)); (case aS => exact (below_size bl_)); (case aL => have := LMc2.out; omega); intro v373 w5 ho hb hg hat; rw [← Ny372.out] at ho; have n0_ := Aside0.mk (hb); have n1_ := Aside0.mk (ho); clear HB; clear HO371; have HB := n0_; have HO374 := n1_; clear n0_ n1_; clear ho hb hg hat))
 go_ret
 exact ⟨_, ew_, by exact kr_ <| HO374.out, bl_⟩
end Go.Proofs.YtfdocedppachkaaGreat.X
end
