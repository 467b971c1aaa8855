/- What the statement FnChordsCross needs, part 5 of 7: words, contracts and lemmas, cut to what is named. Written by a program of this work (wip/tools/gpack.py) out of its texts and the print's. -/
import Derived.Test.YtfdocedppachkaaGreatZFnChordsCross3
import Derived.Lib.Slices
import Derived.Shelf.SlSortCmp.NoneTotal
import Derived.Lib.OwnBridge
import Derived.Lib.SliceRun
import Derived.Lib.SlicesCompact
import Derived.StillTailTactics
set_option linter.unusedVariables false
set_option linter.unusedSimpArgs false
set_option maxHeartbeats 80000000
set_option maxRecDepth 100000
section
namespace Go.Proofs.YtfdocedppachkaaGreat.X
open Go.RowKit Go.Proofs.YtfdocedppachkaaGreatW.PrintWords Go.Proofs.YtfdocedppachkaaGreatW.PrintLast Go.Proofs.YtfdocedppachkaaGreatW.PrintMore
attribute [local go_sem] max2_int min2_int max_two min_two max_three min_three max_four min_four
set_option linter.unusedVariables false
set_option linter.unusedSimpArgs false
mutual
def spec_cdDrops.l0 : Nat → List Int → List (List Int) → Int → Int → Option (List Int × Bool)
 | 0, _, _, _, _ => none
 | k + 1, x1, x18, x19, x20 => if x20 < x19 then (if 0 ≤ x20 then (if x20 < (x18.length : Int) then (if 0 < ((rd_L3 x18 x20).length : Int) then ((spec_l1Has.f k x1 (rd (rd_L3 x18 x20) 0)).bind fun t380 => (if t380 = true then (spec_cdDrops.l0 k x1 x18 x19 (wrap64 (x20 + 1))) else (if 1 < ((rd_L3 x18 x20).length : Int) then ((spec_l1Has.f k x1 (rd (rd_L3 x18 x20) 1)).bind fun t382 => (if t382 = true then (spec_cdDrops.l0 k x1 x18 x19 (wrap64 (x20 + 1))) else (some (([] : List Int), false)))) else (none)))) else (none)) else (none)) else (none)) else (some (x1, true))
def spec_cdDrops.l1 : Nat → List (S44) → List Int → Int → Int → Option (List Int × Bool)
 | 0, _, _, _, _ => none
 | k + 1, x0, x1, x3, x12 => if x12 < (x0.length : Int) then ((spec_l1Own.f x1).bind fun t383 => (if t383.length < 17592186044416 then ((spec_cdDrops.f k x0 (t383 ++ [x12]) (wrap64 (x12 + 1)) (wrap64 (x3 - 1))).bind fun bt389 => (if bt389.2 = true then (some (bt389.1, true)) else (spec_cdDrops.l1 k x0 x1 x3 (wrap64 (x12 + 1))))) else (none))) else (some (([] : List Int), false))
def spec_cdDrops.f : Nat → List (S44) → List Int → Int → Int → Option (List Int × Bool)
 | 0, _, _, _, _ => none
 | k + 1, l0, l1, a2, a3 => if a3 = 0 then ((spec_cdPairs.f k l0).bind fun t375 => (spec_cdDrops.l0 k l1 t375 (t375.length : Int) 0)) else (spec_cdDrops.l1 k l0 l1 a3 a2)
end
theorem spec_cdDrops.mono_l : ∀ k, (∀ y0 y1 y2 y3, LeO (spec_cdDrops.f k y0 y1 y2 y3) (spec_cdDrops.f (k + 1) y0 y1 y2 y3)) ∧ (∀ y0 y1 y2 y3, LeO (spec_cdDrops.l0 k y0 y1 y2 y3) (spec_cdDrops.l0 (k + 1) y0 y1 y2 y3)) ∧ (∀ y0 y1 y2 y3, LeO (spec_cdDrops.l1 k y0 y1 y2 y3) (spec_cdDrops.l1 (k + 1) y0 y1 y2 y3))
 | 0 => ⟨fun _ _ _ _ r h => by simp [spec_cdDrops.f] at h, fun _ _ _ _ r h => by simp [spec_cdDrops.l0] at h, fun _ _ _ _ r h => by simp [spec_cdDrops.l1] at h⟩
 | k + 1 => by
  obtain ⟨ih0, ih1, ih2⟩ := spec_cdDrops.mono_l k
  refine ⟨?_, ?_, ?_⟩
  ·intro y0 y1 y2 y3
   unfold spec_cdDrops.f
   have m0_ := @spec_cdPairs.mono
   have m1_ := @spec_l1Has.mono
   exact lo_
  ·intro y0 y1 y2 y3
   unfold spec_cdDrops.l0
   have m0_ := @spec_cdPairs.mono
   have m1_ := @spec_l1Has.mono
   exact lo_
  ·intro y0 y1 y2 y3
   unfold spec_cdDrops.l1
   have m0_ := @spec_cdPairs.mono
   have m1_ := @spec_l1Has.mono
   exact lo_
theorem spec_cdDrops.mono : ∀ a0 a1 a2 a3 k, LeO (spec_cdDrops.f k a0 a1 a2 a3) (spec_cdDrops.f (k + 1) a0 a1 a2 a3) := by
 intro a0 a1 a2 a3 k
 obtain ⟨ih0, ih1, ih2⟩ := spec_cdDrops.mono_l k
 exact ih0 a0 a1 a2 a3
theorem spec_cdDrops.calls (k : Nat) : ∀ (A0 : Option Addr) (c0 : Nat) (l0 : List (S44)) (P1_ : Nat → Prop) (u9000_ : Value) (l1 : List Int) (a2 : Int) (a3 : Int) (r1 : List Int) (r2 : Bool) (w0 w : World) (hB : Below w0.heap.size w0 w) (hr0 : ∀ W_, Kept w W_ (fun k_ => P1_ k_) → Kd.C k44 W_ A0 l0.length l0) (hc0 : l0.length ≤ c0) (ho1 : Kd.R (Kd.int .i64) 3 w w0.heap.size P1_ u9000_ l1) (h : spec_cdDrops.f k l0 l1 a2 a3 = some (r1, r2)),
  Calls Tryz.prog 44 #[.slice A0 l0.length c0, u9000_, .int .i64 a2, .int .i64 a3] w fun e w' => ∃ v0_ : Value, e = .returned (.tuple #[v0_, .bool r2]) ∧ Kd.R (Kd.int .i64) 3 w' w0.heap.size (fun k_ => (P1_ k_ ∨ w.heap.size ≤ k_)) v0_ r1 ∧ Below w0.heap.size w0 w' ∧ Kept w w' (fun k_ => P1_ k_) := by
 induction k using Nat.strongRecOn with
 | _ k ih =>
 intro A0 c0 l0 P1_ u9000_ l1 a2 a3 r1 r2 w0 w hB hr0 hc0 ho1 h
 cases k with
 | zero => exact absurd h (by simp [spec_cdDrops.f])
 | succ k =>
 simp only [spec_cdDrops.f] at h
 have HR0 := Aside0.mk hr0
 have HC0 := Aside0.mk hc0
 clear hr0 hc0
 have HO1 := Aside0.mk (show Kd.R (Kd.int .i64) 3 w w0.heap.size (fun k_ => (P1_ k_ ∨ w.heap.size ≤ k_)) u9000_ l1 from Kd.R_mono ho1 (fun k_ hk => (.inl hk)))
 have HK := Aside0.mk (Kept.refl w (fun k_ => P1_ k_))
 have HW0 := Aside0.mk hB.size
 have HB := Aside0.mk hB
 clear hB
 have H : (if a3 = 0 then ((spec_cdPairs.f k l0).bind fun t375 => (spec_cdDrops.l0 k l1 t375 (t375.length : Int) 0)) else (spec_cdDrops.l1 k l0 l1 a3 a2)) = some (r1, r2) := h
 clear h
 by_cases c5 : a3 = 0
 ·rw [if_pos c5] at H
  have c5b0 : (a3 == 0) = true := beq_iff_eq.mpr c5
  have c5b1 : (a3 != 0) = false := bne_eq_false_iff_eq.mpr c5
  clear c5
  replace H := Option.bind_eq_some_iff.mp H
  obtain ⟨t375, A60, H⟩ := H
  try dsimp only at H
  have A6 := Aside0.mk A60
  clear A60
  have H' := Aside0.mk H
  clear H
  go_enter Tryz.func44, Tryz.ntmps44
  go_wp2_with (first | ((with_reducible refine gate_callee (f := 37) rfl ?_); refine goesL_ (some 18) rfl rfl Tryz.func37 (by kernel_rfl) rfl #[.slice A0 l0.length c0] rfl ma_ ?_; (with_reducible refine (spec_cdPairs.calls k _ _ l0 t375 _ ?side1 ?side2 A6.out).mono ?_); (case side1 => exact Kd.C_kept_now HR0.out (by repeat (first | (with_reducible first | exact HK.out | apply Kept.alloc | apply Kept.drewN | apply Kept.drew) | exact HK.out))); (case side2 => exact HC0.out); rintro e w7 ⟨v376, rfl, ho0, hb⟩; refine ⟨_, rfl, ?_⟩; have n0_ := Aside0.mk (Kd.R_below (kr_ <| HO1.out) hb); have n1_ := Aside0.mk (Kd.S_lower (Kd.S_new' (Kd.S_newM (M := fun k_ => (P1_ k_ ∨ w.heap.size ≤ k_)) ho0 (by first | exact HK.out.1 | exact (show Kept w _ (fun k_ => P1_ k_) from by repeat (first | (with_reducible first | exact HK.out | apply Kept.alloc | apply Kept.drewN | apply Kept.drew) | exact HK.out)).1) (fun k_ h_ => .inr h_)) (Kd.R_lt (kr_ <| HO1.out))) (below_size bl_)); have n2_ := Aside0.mk (Kept.below (S := (fun k_ => P1_ k_)) (by repeat (first | (with_reducible first | exact HK.out | apply Kept.alloc | apply Kept.drewN | apply Kept.drew) | exact HK.out)) hb); have n3_ := Aside0.mk (below_step bl_ hb); clear HO1; clear HK; clear HB; have HO1 := n0_; have HO377 := n1_; have HK := n2_; have HB := n3_; clear n0_ n1_ n2_ n3_; (try clear hb); (try clear hb2); (try clear hk); (try clear hi); (try clear ho0); obtain ⟨Ao8, co8, eo8⟩ := Kd.S_slice HO377.out; subst eo8))
  go_loopg [20] k (fun kq v20 w' => ∃ (x20_1 : Int), v20 = .int .i64 x20_1 ∧ Aside0 (spec_cdDrops.l0 kq l1 t375 (t375.length : Int) x20_1 = some (r1, r2)) ∧ Aside0 (kq ≤ k) ∧ Aside0 (Kd.R (Kd.int .i64) 3 w' w0.heap.size (fun k_ => (P1_ k_ ∨ w.heap.size ≤ k_)) u9000_ l1) ∧ Aside0 (Kd.S (Kd.slice 3 (Kd.int .i64)) 36 w' w0.heap.size (fun k_ => (P1_ k_ ∨ w.heap.size ≤ k_) ∧ some k_ ≠ (u9000_ : Value).ownBlock) (.slice Ao8 t375.length co8) t375) ∧ Aside0 (Kept w w' (fun k_ => P1_ k_)) ∧ Aside0 (Below w0.heap.size w0 w'))
  case atStart => exact ⟨(0), (es_), H', ⟨Nat.le_refl _⟩, ⟨by exact kr_ <| HO1.out⟩, ⟨by (with_reducible repeat (first | apply Kd.S_alloc | apply Kd.S_drewN | apply Kd.S_drew)); exact Kd.S_mono HO377.out (fun _ hk => ⟨hk.1.1, hk.2⟩)⟩, ⟨by repeat (first | (with_reducible first | exact HK.out | apply Kept.alloc | apply Kept.drewN | apply Kept.drew) | exact HK.out)⟩, ⟨bl_⟩⟩
  case round =>
   clear H'
   try clear p2
   try clear c3
   try clear c4
   try clear c5
   try clear c5b0
   try clear c5b1
   obtain ⟨x20_1, rfl, HA, HK1, HO_1, HO_18, HK, HB⟩ := hrel
   cases gk with
   | zero => exact absurd HA.out (by simp [spec_cdDrops.l0])
   | succ k1 =>
    have H := HA.out
    clear HA
    simp only [spec_cdDrops.l0] at H
    by_cases c9 : x20_1 < (t375.length : Int)
    ·rw [if_pos c9] at H
     have c9b0 : decide (x20_1 < (t375.length : Int)) = true := decide_eq_true c9
     clear c9
     by_cases c10 : 0 ≤ x20_1
     rotate_left
     ·rw [if_neg c10] at H
      exact absurd H (by simp)
     rw [if_pos c10] at H
     have c10b0 : decide (0 ≤ x20_1) = true := decide_eq_true c10
     clear c10
     by_cases c11 : x20_1 < (t375.length : Int)
     rotate_left
     ·rw [if_neg c11] at H
      exact absurd H (by simp)
     rw [if_pos c11] at H
     have c11b0 : decide (x20_1 < (t375.length : Int)) = true := decide_eq_true c11
     clear c11
     by_cases c12 : 0 < ((rd_L3 t375 x20_1).length : Int)
     rotate_left
     ·rw [if_neg c12] at H
      exact absurd H (by simp)
     rw [if_pos c12] at H
     have c12b0 : decide (0 < ((rd_L3 t375 x20_1).length : Int)) = true := decide_eq_true c12
     have c12b1 : decide (0 < (rd_L3 t375 x20_1).length) = true := decide_eq_true (by omega)
     clear c12
     replace H := Option.bind_eq_some_iff.mp H
     obtain ⟨t380, A130, H⟩ := H
     try dsimp only at H
     have A13 := Aside0.mk A130
     clear A130
     by_cases c14 : t380 = true
     ·subst c14
      have H1 : (spec_cdDrops.l0 k1 l1 t375 (t375.length : Int) (wrap64 (x20_1 + 1))) = some (r1, r2) := by rw [if_pos rfl] at H; exact H
      clear H
      have H := H1
      clear H1
      have H' := Aside0.mk H
      clear H
      have p378 : 0 ≤ (x20_1 : Int) := od_
      have q378 : x20_1 < (t375.length : Int) := od_
      obtain ⟨ad378, A378_0, c378_0, e378, hx378_0, hl378_0, hi378_0⟩ := at_L3 (Kd.S_reads' HO_18.out).2.2 x20_1 p378 q378
      cases e378
      obtain ⟨ce378, hce378, hMe378, hcc378⟩ := Kd.S_get HO_18.out [] x20_1 p378 (by first | exact q378 | exact od_ | (have e_ := (Kd.S_reads' HO_18.out).1; omega))
      obtain ⟨ve378_0, rfl, ge378_0⟩ := hMe378
      have hv378_0 := hcc378 0 _ rfl
      rw [Nat.add_zero, show ((Kd.slice 3 (Kd.int .i64))).sz = 1 from rfl, Nat.mul_one] at hv378_0
      replace hv378_0 := Option.some.inj (hv378_0.symm.trans hx378_0)
      rw [hv378_0] at ge378_0
      have HL378_0 := Aside0.mk (show Kd.R (Kd.int .i64) 3 _ _ _ _ (rd_L3 t375 x20_1) from ge378_0)
      clear hv378_0 ge378_0
      clear hcc378 hce378
      have HR378_0 := Aside0.mk hi378_0
      have HC378_0 := Aside0.mk hl378_0
      clear hi378_0 hl378_0
      replace p378 := eq_true p378
      replace q378 := eq_true q378
      have p379 : 0 ≤ (0 : Int) := (by omega)
      have q379 : 0 < ((rd_L3 t375 x20_1).length : Int) := od_
      obtain ⟨ad379, e379, hx379_0⟩ := Kd.at_int (by repeat (first | (with_reducible exact HR378_0.out) | (with_reducible refine Kd.C_alloc ?_ _) | (with_reducible refine Kd.C_drewN ?_ _) | (with_reducible refine Kd.C_drew ?_) | exact HR378_0.out)) 0 p379 q379
      cases e379
      have qi379 : (0 < (rd_L3 t375 x20_1).length) = True := eq_true (by omega)
      (try rw [show ((0 : Int)).toNat = 0 from rfl] at hx379_0)
      (try rw [Addr.add_zero'] at hx379_0)
      replace p379 := eq_true p379
      replace q379 := eq_true q379
      obtain ⟨Ao15, co15, eo15⟩ := Kd.R_slice HO_1.out
      subst eo15
      go_wp2_with (first | ((with_reducible refine gate_callee (f := 68) rfl ?_); refine goesL_ (some 28) rfl rfl Tryz.func68 (by kernel_rfl) rfl #[.slice Ao15 l1.length co15, .int .i64 (rd (rd_L3 t375 x20_1) 0)] rfl ma_ ?_; (with_reducible refine (spec_l1Has.calls k1 _ _ l1 (rd (rd_L3 t375 x20_1) 0) true _ ?side1 ?side2 A13.out).mono ?_); (case side1 => exact kc_ <| (Kd.R_reads' HO_1.out).2.2); (case side2 => exact (Kd.R_reads' HO_1.out).2.1); rintro e w' ⟨rfl, ⟨nd, rfl⟩⟩; refine ⟨_, rfl, ?_⟩))
      go_roundg k1
      case measure => have := HK1.out; omega
      case rel => exact ⟨(wrap64 (x20_1 + 1)), (es_), H', ⟨by have := HK1.out; omega⟩, ⟨by exact kr_ <| HO_1.out⟩, ⟨by (with_reducible repeat (first | apply Kd.S_alloc | apply Kd.S_drewN | apply Kd.S_drew)); exact HO_18.out⟩, ⟨by repeat (first | (with_reducible first | exact HK.out | apply Kept.alloc | apply Kept.drewN | apply Kept.drew) | exact HK.out)⟩, ⟨bl_⟩⟩
     ·replace c14 := Bool.eq_false_iff.mpr c14
      subst c14
      have H1 : (if 1 < ((rd_L3 t375 x20_1).length : Int) then ((spec_l1Has.f k1 l1 (rd (rd_L3 t375 x20_1) 1)).bind fun t382 => (if t382 = true then (spec_cdDrops.l0 k1 l1 t375 (t375.length : Int) (wrap64 (x20_1 + 1))) else (some (([] : List Int), false)))) else (none)) = some (r1, r2) := by rw [if_neg (show ¬ (false = true) by decide)] at H; exact H
      clear H
      have H := H1
      clear H1
      by_cases c16 : 1 < ((rd_L3 t375 x20_1).length : Int)
      rotate_left
      ·rw [if_neg c16] at H
       exact absurd H (by simp)
      rw [if_pos c16] at H
      have c16b0 : decide (1 < ((rd_L3 t375 x20_1).length : Int)) = true := decide_eq_true c16
      have c16b1 : decide (1 < (rd_L3 t375 x20_1).length) = true := decide_eq_true (by omega)
      clear c16
      replace H := Option.bind_eq_some_iff.mp H
      obtain ⟨t382, A170, H⟩ := H
      try dsimp only at H
      have A17 := Aside0.mk A170
      clear A170
      by_cases c18 : t382 = true
      ·subst c18
       have H1 : (spec_cdDrops.l0 k1 l1 t375 (t375.length : Int) (wrap64 (x20_1 + 1))) = some (r1, r2) := by rw [if_pos rfl] at H; exact H
       clear H
       have H := H1
       clear H1
       have H' := Aside0.mk H
       clear H
       have p378 : 0 ≤ (x20_1 : Int) := od_
       have q378 : x20_1 < (t375.length : Int) := od_
       obtain ⟨ad378, A378_0, c378_0, e378, hx378_0, hl378_0, hi378_0⟩ := at_L3 (Kd.S_reads' HO_18.out).2.2 x20_1 p378 q378
       cases e378
       obtain ⟨ce378, hce378, hMe378, hcc378⟩ := Kd.S_get HO_18.out [] x20_1 p378 (by first | exact q378 | exact od_ | (have e_ := (Kd.S_reads' HO_18.out).1; omega))
       obtain ⟨ve378_0, rfl, ge378_0⟩ := hMe378
       have hv378_0 := hcc378 0 _ rfl
       rw [Nat.add_zero, show ((Kd.slice 3 (Kd.int .i64))).sz = 1 from rfl, Nat.mul_one] at hv378_0
       replace hv378_0 := Option.some.inj (hv378_0.symm.trans hx378_0)
       rw [hv378_0] at ge378_0
       have HL378_0 := Aside0.mk (show Kd.R (Kd.int .i64) 3 _ _ _ _ (rd_L3 t375 x20_1) from ge378_0)
       clear hv378_0 ge378_0
       clear hcc378 hce378
       have HR378_0 := Aside0.mk hi378_0
       have HC378_0 := Aside0.mk hl378_0
       clear hi378_0 hl378_0
       replace p378 := eq_true p378
       replace q378 := eq_true q378
       have p379 : 0 ≤ (0 : Int) := (by omega)
       have q379 : 0 < ((rd_L3 t375 x20_1).length : Int) := od_
       obtain ⟨ad379, e379, hx379_0⟩ := Kd.at_int (by repeat (first | (with_reducible exact HR378_0.out) | (with_reducible refine Kd.C_alloc ?_ _) | (with_reducible refine Kd.C_drewN ?_ _) | (with_reducible refine Kd.C_drew ?_) | exact HR378_0.out)) 0 p379 q379
       cases e379
       have qi379 : (0 < (rd_L3 t375 x20_1).length) = True := eq_true (by omega)
       (try rw [show ((0 : Int)).toNat = 0 from rfl] at hx379_0)
       (try rw [Addr.add_zero'] at hx379_0)
       replace p379 := eq_true p379
       replace q379 := eq_true q379
       obtain ⟨Ao19, co19, eo19⟩ := Kd.R_slice HO_1.out
       subst eo19
       go_wp2_with (first | ((with_reducible refine gate_callee (f := 68) rfl ?_); refine goesL_ (some 28) rfl rfl Tryz.func68 (by kernel_rfl) rfl #[.slice Ao19 l1.length co19, .int .i64 (rd (rd_L3 t375 x20_1) 0)] rfl ma_ ?_; (with_reducible refine (spec_l1Has.calls k1 _ _ l1 (rd (rd_L3 t375 x20_1) 0) false _ ?side1 ?side2 A13.out).mono ?_); (case side1 => exact kc_ <| (Kd.R_reads' HO_1.out).2.2); (case side2 => exact (Kd.R_reads' HO_1.out).2.1); rintro e w' ⟨rfl, ⟨nd, rfl⟩⟩; refine ⟨_, rfl, ?_⟩; have p381 : 0 ≤ (1 : Int) := (by omega); have q381 : 1 < ((rd_L3 t375 x20_1).length : Int) := od_; obtain ⟨ad381, e381, hx381_0⟩ := Kd.at_int (by repeat (first | (with_reducible exact HR378_0.out) | (with_reducible refine Kd.C_alloc ?_ _) | (with_reducible refine Kd.C_drewN ?_ _) | (with_reducible refine Kd.C_drew ?_) | exact HR378_0.out)) 1 p381 q381; obtain rfl : ad379 = ad381 := (by injection e381); (try simp only [show (1 : Int).toNat = 1 from rfl, Nat.reduceMul, Nat.reduceEqDiff, Go.Addr.add, ↓reduceIte] at hx381_0); have qi381 : (1 < (rd_L3 t375 x20_1).length) = True := eq_true (by omega); (try rw [show ((1 : Int)).toNat = 1 from rfl] at hx381_0); replace p381 := eq_true p381; replace q381 := eq_true q381) | (go_at_call 68; (with_reducible refine (spec_l1Has.calls k1 _ _ l1 (rd (rd_L3 t375 x20_1) 1) true _ ?side1 ?side2 A17.out).mono ?_); (case side1 => exact kc_ <| (Kd.R_reads' HO_1.out).2.2); (case side2 => exact (Kd.R_reads' HO_1.out).2.1); rintro e w' ⟨rfl, ⟨nd, rfl⟩⟩))
       go_roundg k1
       case measure => have := HK1.out; omega
       case rel => exact ⟨(wrap64 (x20_1 + 1)), (es_), H', ⟨by have := HK1.out; omega⟩, ⟨by exact kr_ <| HO_1.out⟩, ⟨by (with_reducible repeat (first | apply Kd.S_alloc | apply Kd.S_drewN | apply Kd.S_drew)); exact HO_18.out⟩, ⟨by repeat (first | (with_reducible first | exact HK.out | apply Kept.alloc | apply Kept.drewN | apply Kept.drew) | exact HK.out)⟩, ⟨bl_⟩⟩
      ·replace c18 := Bool.eq_false_iff.mpr c18
       subst c18
       have H1 : (some (([] : List Int), false)) = some (r1, r2) := by rw [if_neg (show ¬ (false = true) by decide)] at H; exact H
       clear H
       have H := H1
       clear H1
       simp only [Option.some.injEq, Prod.mk.injEq] at H
       obtain ⟨rfl, rfl⟩ := H
       have p378 : 0 ≤ (x20_1 : Int) := od_
       have q378 : x20_1 < (t375.length : Int) := od_
       obtain ⟨ad378, A378_0, c378_0, e378, hx378_0, hl378_0, hi378_0⟩ := at_L3 (Kd.S_reads' HO_18.out).2.2 x20_1 p378 q378
       cases e378
       obtain ⟨ce378, hce378, hMe378, hcc378⟩ := Kd.S_get HO_18.out [] x20_1 p378 (by first | exact q378 | exact od_ | (have e_ := (Kd.S_reads' HO_18.out).1; omega))
       obtain ⟨ve378_0, rfl, ge378_0⟩ := hMe378
       have hv378_0 := hcc378 0 _ rfl
       rw [Nat.add_zero, show ((Kd.slice 3 (Kd.int .i64))).sz = 1 from rfl, Nat.mul_one] at hv378_0
       replace hv378_0 := Option.some.inj (hv378_0.symm.trans hx378_0)
       rw [hv378_0] at ge378_0
       have HL378_0 := Aside0.mk (show Kd.R (Kd.int .i64) 3 _ _ _ _ (rd_L3 t375 x20_1) from ge378_0)
       clear hv378_0 ge378_0
       clear hcc378 hce378
       have HR378_0 := Aside0.mk hi378_0
       have HC378_0 := Aside0.mk hl378_0
       clear hi378_0 hl378_0
       replace p378 := eq_true p378
       replace q378 := eq_true q378
       have p379 : 0 ≤ (0 : Int) := (by omega)
       have q379 : 0 < ((rd_L3 t375 x20_1).length : Int) := od_
       obtain ⟨ad379, e379, hx379_0⟩ := Kd.at_int (by repeat (first | (with_reducible exact HR378_0.out) | (with_reducible refine Kd.C_alloc ?_ _) | (with_reducible refine Kd.C_drewN ?_ _) | (with_reducible refine Kd.C_drew ?_) | exact HR378_0.out)) 0 p379 q379
       cases e379
       have qi379 : (0 < (rd_L3 t375 x20_1).length) = True := eq_true (by omega)
       (try rw [show ((0 : Int)).toNat = 0 from rfl] at hx379_0)
       (try rw [Addr.add_zero'] at hx379_0)
       replace p379 := eq_true p379
       replace q379 := eq_true q379
       obtain ⟨Ao20, co20, eo20⟩ := Kd.R_slice HO_1.out
       subst eo20
       go_wp2_with (first | ((with_reducible refine gate_callee (f := 68) rfl ?_); refine goesL_ (some 28) rfl rfl Tryz.func68 (by kernel_rfl) rfl #[.slice Ao20 l1.length co20, .int .i64 (rd (rd_L3 t375 x20_1) 0)] rfl ma_ ?_; (with_reducible refine (spec_l1Has.calls k1 _ _ l1 (rd (rd_L3 t375 x20_1) 0) false _ ?side1 ?side2 A13.out).mono ?_); (case side1 => exact kc_ <| (Kd.R_reads' HO_1.out).2.2); (case side2 => exact (Kd.R_reads' HO_1.out).2.1); rintro e w' ⟨rfl, ⟨nd, rfl⟩⟩; refine ⟨_, rfl, ?_⟩; have p381 : 0 ≤ (1 : Int) := (by omega); have q381 : 1 < ((rd_L3 t375 x20_1).length : Int) := od_; obtain ⟨ad381, e381, hx381_0⟩ := Kd.at_int (by repeat (first | (with_reducible exact HR378_0.out) | (with_reducible refine Kd.C_alloc ?_ _) | (with_reducible refine Kd.C_drewN ?_ _) | (with_reducible refine Kd.C_drew ?_) | exact HR378_0.out)) 1 p381 q381; obtain rfl : ad379 = ad381 := (by injection e381); (try simp only [show (1 : Int).toNat = 1 from rfl, Nat.reduceMul, Nat.reduceEqDiff, Go.Addr.add, ↓reduceIte] at hx381_0); have qi381 : (1 < (rd_L3 t375 x20_1).length) = True := eq_true (by omega); (try rw [show ((1 : Int)).toNat = 1 from rfl] at hx381_0); replace p381 := eq_true p381; replace q381 := eq_true q381) | (go_at_call 68; (with_reducible refine (spec_l1Has.calls k1 _ _ l1 (rd (rd_L3 t375 x20_1) 1) false _ ?side1 ?side2 A17.out).mono ?_); (case side1 => exact kc_ <| (Kd.R_reads' HO_1.out).2.2); (case side2 => exact (Kd.R_reads' HO_1.out).2.1); rintro e w' ⟨rfl, ⟨nd, rfl⟩⟩))
       go_ret2
       exact ⟨_, ew_, by first | exact Kd.R_nil _ _ _ _ _ | exact Kd.N_nil _ _ _ _ _ | exact Kd.V_nil _ _ _ _ _ | exact Kd.Q_nil _ _ _ _ _ | exact Kd.S_nil _ _ _ _ _, bl_, by repeat (first | (with_reducible first | exact HK.out | apply Kept.alloc | apply Kept.drewN | apply Kept.drew) | exact HK.out)⟩
    ·rw [if_neg c9] at H
     have c9b0 : decide (x20_1 < (t375.length : Int)) = false := decide_eq_false c9
     clear c9
     simp only [Option.some.injEq, Prod.mk.injEq] at H
     obtain ⟨rfl, rfl⟩ := H
     go_wp2
     go_ret2
     exact ⟨_, ew_, by exact kr_ <| HO_1.out, bl_, by repeat (first | (with_reducible first | exact HK.out | apply Kept.alloc | apply Kept.drewN | apply Kept.drew) | exact HK.out)⟩
 ·rw [if_neg c5] at H
  have c5b0 : (a3 == 0) = false := beq_eq_false_iff_ne.mpr c5
  have c5b1 : (a3 != 0) = true := bne_iff_ne.mpr c5
  have H' := Aside0.mk H
  clear H
  go_enter Tryz.func44, Tryz.ntmps44
  go_wp2
  go_loopg [12] k (fun kq v12 w' => ∃ (x12_1 : Int), v12 = .int .i64 x12_1 ∧ Aside0 (spec_cdDrops.l1 kq l0 l1 a3 x12_1 = some (r1, r2)) ∧ Aside0 (kq ≤ k) ∧ Aside0 (Kd.R (Kd.int .i64) 3 w' w0.heap.size (fun k_ => (P1_ k_ ∨ w.heap.size ≤ k_)) u9000_ l1) ∧ Aside0 (Kept w w' (fun k_ => P1_ k_)) ∧ Aside0 (Below w0.heap.size w0 w'))
  case atStart => exact ⟨(a2), (es_), H', ⟨Nat.le_refl _⟩, ⟨by exact kr_ <| HO1.out⟩, ⟨by repeat (first | (with_reducible first | exact HK.out | apply Kept.alloc | apply Kept.drewN | apply Kept.drew) | exact HK.out)⟩, ⟨bl_⟩⟩
  case round =>
   clear H'
   try clear c1
   try clear p2
   try clear c3
   try clear p3
   try clear q3
   try clear hx3
   try clear qi3
   try clear c4
   try clear c5
   try clear c5b0
   try clear c5b1
   try clear c6
   try clear p6
   try clear c9
   try clear c9b0
   try clear c10
   try clear c10b0
   try clear c11
   try clear c11b0
   try clear c12
   try clear c12b0
   try clear c12b1
   try clear c14
   try clear c16
   try clear c16b0
   try clear c16b1
   try clear c18
   try clear hx378_0
   try clear hx379_0
   try clear hx381_0
   try clear p2
   try clear p378
   try clear p379
   try clear p381
   try clear q378
   try clear q379
   try clear q381
   obtain ⟨x12_1, rfl, HA, HK1, HO_1, HK, HB⟩ := hrel
   cases gk with
   | zero => exact absurd HA.out (by simp [spec_cdDrops.l1])
   | succ k1 =>
    have H := HA.out
    clear HA
    simp only [spec_cdDrops.l1] at H
    by_cases c21 : x12_1 < (l0.length : Int)
    ·rw [if_pos c21] at H
     have c21b0 : decide (x12_1 < (l0.length : Int)) = true := decide_eq_true c21
     clear c21
     replace H := Option.bind_eq_some_iff.mp H
     obtain ⟨t383, A220, H⟩ := H
     try dsimp only at H
     have A22 := Aside0.mk A220
     clear A220
     by_cases c23 : t383.length < 17592186044416
     rotate_left
     ·rw [if_neg c23] at H
      exact absurd H (by simp)
     rw [if_pos c23] at H
     have LMc23 := Aside0.mk c23
     clear c23
     obtain ⟨y386, hy386⟩ : ∃ y_ : List Int, y_ = (t383 ++ [x12_1]) := ⟨_, rfl⟩
     replace H : ((spec_cdDrops.f k1 l0 y386 (wrap64 (x12_1 + 1)) (wrap64 (a3 - 1))).bind fun bt389 => (if bt389.2 = true then (some (bt389.1, true)) else (spec_cdDrops.l1 k1 l0 l1 a3 (wrap64 (x12_1 + 1))))) = some (r1, r2) := by first | (rw [hy386]; with_reducible exact H) | (have H2_ := (Option.bind_some _ _).symm.trans H; rw [hy386]; with_reducible exact H2_) | (have H2_ := (Option.bind_some _ _).symm.trans H; with_reducible exact H2_) | with_reducible exact H | (rw [hy386]; exact H) | exact H
     have Ny386 := Aside0.mk hy386
     clear hy386
     replace H := Option.bind_eq_some_iff.mp H
     obtain ⟨⟨t389, t392⟩, A240, H⟩ := H
     try dsimp only at H
     have A24 := Aside0.mk A240
     clear A240
     by_cases c25 : t392 = true
     ·subst c25
      have H1 : (some (t389, true)) = some (r1, r2) := by rw [if_pos rfl] at H; exact H
      clear H
      have H := H1
      clear H1
      simp only [Option.some.injEq, Prod.mk.injEq] at H
      obtain ⟨rfl, rfl⟩ := H
      obtain ⟨Ao26, co26, eo26⟩ := Kd.R_slice HO_1.out
      subst eo26
      go_wp2_with (first | ((with_reducible refine gate_callee (f := 69) rfl ?_); refine goesL_ (some 50) rfl rfl Tryz.func69 (by kernel_rfl) rfl #[.slice Ao26 l1.length co26] rfl ma_ ?_; (with_reducible refine (spec_l1Own.calls _ _ l1 t383 _ ?side1 ?side2 A22.out).mono ?_); (case side1 => exact kc_ <| (Kd.R_reads' HO_1.out).2.2); (case side2 => exact (Kd.R_reads' HO_1.out).2.1); rintro e w27 ⟨v384, rfl, ho0, hb⟩; refine ⟨_, rfl, ?_⟩; have n0_ := Aside0.mk (Kd.R_elder' (kr_ <| HO_1.out) (Kd.R_base ho0) hb); have n1_ := Aside0.mk (Kd.R_lower (Kd.R_new' (Kd.R_newM (M := fun k_ => (P1_ k_ ∨ w.heap.size ≤ k_)) ho0 (by first | exact HK.out.1 | exact (show Kept w _ (fun k_ => P1_ k_) from by repeat (first | (with_reducible first | exact HK.out | apply Kept.alloc | apply Kept.drewN | apply Kept.drew) | exact HK.out)).1) (fun k_ h_ => .inr h_)) (Kd.R_lt (kr_ <| HO_1.out))) (below_size bl_)); have n2_ := Aside0.mk (Kept.below (S := (fun k_ => P1_ k_)) (by repeat (first | (with_reducible first | exact HK.out | apply Kept.alloc | apply Kept.drewN | apply Kept.drew) | exact HK.out)) hb); have n3_ := Aside0.mk (below_step bl_ hb); clear HO_1; clear HK; clear HB; have HO_1 := n0_; have HO385 := n1_; have HK := n2_; have HB := n3_; clear n0_ n1_ n2_ n3_; (try clear hb); (try clear hb2); (try clear hk); (try clear hi); (try clear ho0)) | ((with_reducible refine gate_builtin (b := .append) (xs := #[.tmp 50, .tmp 52]) rfl ?_); at_builtin; refine Kd.R_append (Kd.int .i64) (w0 := w0) w0.heap.size rfl (.tmp 50) (.tmp 52) 36 3 (.int .i64 0) 8 rfl Tryz.underlying36 info3 rfl (by decide) (by omega) v384 t383 x12_1 [.int .i64 x12_1] (fun k_ => (P1_ k_ ∨ w.heap.size ≤ k_) ∧ some k_ ≠ (.slice Ao26 l1.length co26 : Value).ownBlock) (fun _ => False) rfl rfl ?aP (fun _ hk => hk.elim) ?aF ?aO ?aB ?aS ?aL ?_; (case aP => exact rfl); (case aB => exact bl_); (case aF => exact (fun k_ hk => ⟨(.inr (Nat.le_trans (by first | exact HK.out.1 | exact (show Kept w _ (fun k_ => P1_ k_) from by repeat (first | (with_reducible first | exact HK.out | apply Kept.alloc | apply Kept.drewN | apply Kept.drew) | exact HK.out)).1) hk)), Kd.fresh' (Kd.R_lt (kr_ <| HO_1.out)) k_ hk⟩)); (case aO => exact (kr_ <| Kd.R_mono HO385.out (fun _ hk => ⟨hk.1.1, hk.2⟩))); (case aS => exact (below_size bl_)); (case aL => have := LMc23.out; omega); intro v387 w28 ho hb hg hat; rw [← Ny386.out] at ho; have n0_ := Aside0.mk (Kd.R_after (ok := (fun k_ => (P1_ k_ ∨ w.heap.size ≤ k_))) (kr_ <| HO_1.out) hg hat); have n1_ := Aside0.mk (hb); have n2_ := Aside0.mk (Kept.of_grown (S := (fun k_ => P1_ k_)) hg (by repeat (first | (with_reducible first | exact HK.out | apply Kept.alloc | apply Kept.drewN | apply Kept.drew) | exact HK.out)) (fun k_ e_ => (HO385.out.1 k_ e_).1.1)); have n3_ := Aside0.mk (ho); clear HO_1; clear HB; clear HK; clear HO385; have HO_1 := n0_; have HB := n1_; have HK := n2_; have HO388 := n3_; clear n0_ n1_ n2_ n3_; clear ho hb hg hat; obtain ⟨Ao29, co29, eo29⟩ := Kd.R_slice HO388.out; subst eo29) | ((with_reducible refine gate_callee (f := 44) rfl ?_); refine goesL_ (some 58) rfl rfl Tryz.func44 (by kernel_rfl) rfl #[.slice A0 l0.length c0, .slice Ao29 y386.length co29, .int .i64 (wrap64 (x12_1 + 1)), .int .i64 (wrap64 (a3 - 1))] rfl ma_ ?_; (with_reducible refine (ih k1 (by have := HK1.out; omega) _ _ l0 (fun k_ => some k_ = (.slice Ao29 y386.length co29 : Value).ownBlock) (.slice Ao29 y386.length co29) y386 (wrap64 (x12_1 + 1)) (wrap64 (a3 - 1)) t389 true w0 _ ?side1 ?side2 ?side3 ?side4 A24.out).mono ?_); (case side1 => repeat (first | (with_reducible first | exact HB.out | apply below_alloc | apply pw_below_drewN | apply below_drew1) | exact HB.out)); (case side2 => exact Kd.C_kept_call HR0.out (by repeat (first | (with_reducible first | exact HK.out | apply Kept.alloc | apply Kept.drewN | apply Kept.drew) | exact HK.out)) (fun k_ hs_ => (fun e_ => (HO388.out.1 k_ e_.symm).1) hs_)); (case side3 => exact HC0.out); (case side4 => exact Kd.R_tight rfl HO388.out); rintro e w30 ⟨v390, rfl, ho0, hb, hkp⟩; refine ⟨_, rfl, ?_⟩; have n0_ := Aside0.mk (Kd.R_mono (ok' := fun k_ => (P1_ k_ ∨ w.heap.size ≤ k_) ∧ some k_ ≠ (v390 : Value).ownBlock) (Kd.R_keptB (HO_1.out) hkp (fun k_ hk_ hs_ => (hk_.2) hs_)) (fun k_ hk_ => ⟨hk_.1.1, fun e_ => Or.elim (ho0.1 k_ e_.symm) (fun hs_ => hk_.2.1 hs_) (fun hn_ => Nat.not_le.2 hk_.2.2 hn_)⟩)); have n1_ := Aside0.mk (Kd.R_mono (ok' := fun k_ => (P1_ k_ ∨ w.heap.size ≤ k_) ∧ some k_ ≠ (.slice Ao26 l1.length co26 : Value).ownBlock) ho0 (fun k_ hk_ => ⟨Or.elim hk_ (fun hs_ => (HO388.out.1 k_ (hs_).symm).1) (fun hn_ => (.inr (Nat.le_trans (by first | exact HK.out.1 | exact (show Kept w _ (fun k_ => P1_ k_) from by repeat (first | (with_reducible first | exact HK.out | apply Kept.alloc | apply Kept.drewN | apply Kept.drew) | exact HK.out)).1) hn_))), Or.elim hk_ (fun hs_ => fun e_ => (((HO_1.out).1 k_ e_.symm).2) hs_) (fun hn_ => (Kd.fresh' (Kd.R_lt (kr_ <| HO_1.out)) k_ hn_))⟩)); have n2_ := Aside0.mk (Kept.then_ (S := (fun k_ => P1_ k_)) (by repeat (first | (with_reducible first | exact HK.out | apply Kept.alloc | apply Kept.drewN | apply Kept.drew) | exact HK.out)) hkp (fun k_ hs_ => (fun e_ => (HO388.out.1 k_ e_.symm).1) hs_)); have n3_ := Aside0.mk (hb); clear HO_1; clear HK; clear HB; clear HO388; have HO_1 := n0_; have HO391 := n1_; have HK := n2_; have HB := n3_; clear n0_ n1_ n2_ n3_; (try clear hb); (try clear hkp); (try clear ho0)))
      go_ret2
      exact ⟨_, ew_, by exact kr_ <| Kd.R_mono HO391.out (fun _ hk => hk.1), bl_, by repeat (first | (with_reducible first | exact HK.out | apply Kept.alloc | apply Kept.drewN | apply Kept.drew) | exact HK.out)⟩
     ·replace c25 := Bool.eq_false_iff.mpr c25
      subst c25
      have H1 : (spec_cdDrops.l1 k1 l0 l1 a3 (wrap64 (x12_1 + 1))) = some (r1, r2) := by rw [if_neg (show ¬ (false = true) by decide)] at H; exact H
      clear H
      have H := H1
      clear H1
      have H' := Aside0.mk H
      clear H
      obtain ⟨Ao31, co31, eo31⟩ := Kd.R_slice HO_1.out
      subst eo31
      go_wp2_with (first | ((with_reducible refine gate_callee (f := 69) rfl ?_); refine goesL_ (some 50) rfl rfl Tryz.func69 (by kernel_rfl) rfl #[.slice Ao31 l1.length co31] rfl ma_ ?_; (with_reducible refine (spec_l1Own.calls _ _ l1 t383 _ ?side1 ?side2 A22.out).mono ?_); (case side1 => exact kc_ <| (Kd.R_reads' HO_1.out).2.2); (case side2 => exact (Kd.R_reads' HO_1.out).2.1); rintro e w32 ⟨v384, rfl, ho0, hb⟩; refine ⟨_, rfl, ?_⟩; have n0_ := Aside0.mk (Kd.R_elder' (kr_ <| HO_1.out) (Kd.R_base ho0) hb); have n1_ := Aside0.mk (Kd.R_lower (Kd.R_new' (Kd.R_newM (M := fun k_ => (P1_ k_ ∨ w.heap.size ≤ k_)) ho0 (by first | exact HK.out.1 | exact (show Kept w _ (fun k_ => P1_ k_) from by repeat (first | (with_reducible first | exact HK.out | apply Kept.alloc | apply Kept.drewN | apply Kept.drew) | exact HK.out)).1) (fun k_ h_ => .inr h_)) (Kd.R_lt (kr_ <| HO_1.out))) (below_size bl_)); have n2_ := Aside0.mk (Kept.below (S := (fun k_ => P1_ k_)) (by repeat (first | (with_reducible first | exact HK.out | apply Kept.alloc | apply Kept.drewN | apply Kept.drew) | exact HK.out)) hb); have n3_ := Aside0.mk (below_step bl_ hb); clear HO_1; clear HK; clear HB; have HO_1 := n0_; have HO385 := n1_; have HK := n2_; have HB := n3_; clear n0_ n1_ n2_ n3_; (try clear hb); (try clear hb2); (try clear hk); (try clear hi); (try clear ho0)) | ((with_reducible refine gate_builtin (b := .append) (xs := #[.tmp 50, .tmp 52]) rfl ?_); at_builtin; refine Kd.R_append (Kd.int .i64) (w0 := w0) w0.heap.size rfl (.tmp 50) (.tmp 52) 36 3 (.int .i64 0) 8 rfl Tryz.underlying36 info3 rfl (by decide) (by omega) v384 t383 x12_1 [.int .i64 x12_1] (fun k_ => (P1_ k_ ∨ w.heap.size ≤ k_) ∧ some k_ ≠ (.slice Ao31 l1.length co31 : Value).ownBlock) (fun _ => False) rfl rfl ?aP (fun _ hk => hk.elim) ?aF ?aO ?aB ?aS ?aL ?_; (case aP => exact rfl); (case aB => exact bl_); (case aF => exact (fun k_ hk => ⟨(.inr (Nat.le_trans (by first | exact HK.out.1 | exact (show Kept w _ (fun k_ => P1_ k_) from by repeat (first | (with_reducible first | exact HK.out | apply Kept.alloc | apply Kept.drewN | apply Kept.drew) | exact HK.out)).1) hk)), Kd.fresh' (Kd.R_lt (kr_ <| HO_1.out)) k_ hk⟩)); (case aO => exact (kr_ <| Kd.R_mono HO385.out (fun _ hk => ⟨hk.1.1, hk.2⟩))); (case aS => exact (below_size bl_)); (case aL => have := LMc23.out; omega); intro v387 w33 ho hb hg hat; rw [← Ny386.out] at ho; have n0_ := Aside0.mk (Kd.R_after (ok := (fun k_ => (P1_ k_ ∨ w.heap.size ≤ k_))) (kr_ <| HO_1.out) hg hat); have n1_ := Aside0.mk (hb); have n2_ := Aside0.mk (Kept.of_grown (S := (fun k_ => P1_ k_)) hg (by repeat (first | (with_reducible first | exact HK.out | apply Kept.alloc | apply Kept.drewN | apply Kept.drew) | exact HK.out)) (fun k_ e_ => (HO385.out.1 k_ e_).1.1)); have n3_ := Aside0.mk (ho); clear HO_1; clear HB; clear HK; clear HO385; have HO_1 := n0_; have HB := n1_; have HK := n2_; have HO388 := n3_; clear n0_ n1_ n2_ n3_; clear ho hb hg hat; obtain ⟨Ao34, co34, eo34⟩ := Kd.R_slice HO388.out; subst eo34) | ((with_reducible refine gate_callee (f := 44) rfl ?_); refine goesL_ (some 58) rfl rfl Tryz.func44 (by kernel_rfl) rfl #[.slice A0 l0.length c0, .slice Ao34 y386.length co34, .int .i64 (wrap64 (x12_1 + 1)), .int .i64 (wrap64 (a3 - 1))] rfl ma_ ?_; (with_reducible refine (ih k1 (by have := HK1.out; omega) _ _ l0 (fun k_ => some k_ = (.slice Ao34 y386.length co34 : Value).ownBlock) (.slice Ao34 y386.length co34) y386 (wrap64 (x12_1 + 1)) (wrap64 (a3 - 1)) t389 false w0 _ ?side1 ?side2 ?side3 ?side4 A24.out).mono ?_); (case side1 => repeat (first | (with_reducible first | exact HB.out | apply below_alloc | apply pw_below_drewN | apply below_drew1) | exact HB.out)); (case side2 => exact Kd.C_kept_call HR0.out (by repeat (first | (with_reducible first | exact HK.out | apply Kept.alloc | apply Kept.drewN | apply Kept.drew) | exact HK.out)) (fun k_ hs_ => (fun e_ => (HO388.out.1 k_ e_.symm).1) hs_)); (case side3 => exact HC0.out); (case side4 => exact Kd.R_tight rfl HO388.out); rintro e w35 ⟨v390, rfl, ho0, hb, hkp⟩; refine ⟨_, rfl, ?_⟩; have n0_ := Aside0.mk (Kd.R_mono (ok' := fun k_ => (P1_ k_ ∨ w.heap.size ≤ k_) ∧ some k_ ≠ (v390 : Value).ownBlock) (Kd.R_keptB (HO_1.out) hkp (fun k_ hk_ hs_ => (hk_.2) hs_)) (fun k_ hk_ => ⟨hk_.1.1, fun e_ => Or.elim (ho0.1 k_ e_.symm) (fun hs_ => hk_.2.1 hs_) (fun hn_ => Nat.not_le.2 hk_.2.2 hn_)⟩)); have n1_ := Aside0.mk (Kd.R_mono (ok' := fun k_ => (P1_ k_ ∨ w.heap.size ≤ k_) ∧ some k_ ≠ (.slice Ao31 l1.length co31 : Value).ownBlock) ho0 (fun k_ hk_ => ⟨Or.elim hk_ (fun hs_ => (HO388.out.1 k_ (hs_).symm).1) (fun hn_ => (.inr (Nat.le_trans (by first | exact HK.out.1 | exact (show Kept w _ (fun k_ => P1_ k_) from by repeat (first | (with_reducible first | exact HK.out | apply Kept.alloc | apply Kept.drewN | apply Kept.drew) | exact HK.out)).1) hn_))), Or.elim hk_ (fun hs_ => fun e_ => (((HO_1.out).1 k_ e_.symm).2) hs_) (fun hn_ => (Kd.fresh' (Kd.R_lt (kr_ <| HO_1.out)) k_ hn_))⟩)); have n2_ := Aside0.mk (Kept.then_ (S := (fun k_ => P1_ k_)) (by repeat (first | (with_reducible first | exact HK.out | apply Kept.alloc | apply Kept.drewN | apply Kept.drew) | exact HK.out)) hkp (fun k_ hs_ => (fun e_ => (HO388.out.1 k_ e_.symm).1) hs_)); have n3_ := Aside0.mk (hb); clear HO_1; clear HK; clear HB; clear HO388; have HO_1 := n0_; have HO391 := n1_; have HK := n2_; have HB := n3_; clear n0_ n1_ n2_ n3_; (try clear hb); (try clear hkp); (try clear ho0)))
      go_roundg k1
      case measure => have := HK1.out; omega
      case rel => exact ⟨(wrap64 (x12_1 + 1)), (es_), H', ⟨by have := HK1.out; omega⟩, ⟨by exact kr_ <| Kd.R_mono HO_1.out (fun _ hk => hk.1)⟩, ⟨by repeat (first | (with_reducible first | exact HK.out | apply Kept.alloc | apply Kept.drewN | apply Kept.drew) | exact HK.out)⟩, ⟨bl_⟩⟩
    ·rw [if_neg c21] at H
     have c21b0 : decide (x12_1 < (l0.length : Int)) = false := decide_eq_false c21
     clear c21
     simp only [Option.some.injEq, Prod.mk.injEq] at H
     obtain ⟨rfl, rfl⟩ := H
     go_wp2
     go_ret2
     exact ⟨_, ew_, by first | exact Kd.R_nil _ _ _ _ _ | exact Kd.N_nil _ _ _ _ _ | exact Kd.V_nil _ _ _ _ _ | exact Kd.Q_nil _ _ _ _ _ | exact Kd.S_nil _ _ _ _ _, bl_, by repeat (first | (with_reducible first | exact HK.out | apply Kept.alloc | apply Kept.drewN | apply Kept.drew) | exact HK.out)⟩
mutual
def spec_FewestDrops.j0 : Nat → List (S44) → Bool → Option (List Int × Bool)
 | 0, _, _ => none
 | k + 1, x1, x17 => if x17 = true then (some (([] : List Int), false)) else (spec_FewestDrops.l0 k x1 0)
def spec_FewestDrops.l0 : Nat → List (S44) → Int → Option (List Int × Bool)
 | 0, _, _ => none
 | k + 1, x1, x6 => if x6 < (x1.length : Int) then ((spec_cdDrops.f k x1 ([] : List Int) 0 x6).bind fun bt394 => (if bt394.2 = true then (some (bt394.1, true)) else (spec_FewestDrops.l0 k x1 (wrap64 (x6 + 1))))) else (some (([] : List Int), true))
end
def spec_FewestDrops.f (k : Nat) (a0 : Int) (l1 : List (S44)) : Option (List Int × Bool) := (spec_cdGood.f k a0 l1).bind fun t393 => (if t393 = true then (spec_FewestDrops.j0 k l1 (decide ((l1.length : Int) > 12))) else (spec_FewestDrops.j0 k l1 true))
theorem spec_FewestDrops.mono_l : ∀ k, (∀ y0 y1, LeO (spec_FewestDrops.j0 k y0 y1) (spec_FewestDrops.j0 (k + 1) y0 y1)) ∧ (∀ y0 y1, LeO (spec_FewestDrops.l0 k y0 y1) (spec_FewestDrops.l0 (k + 1) y0 y1))
 | 0 => ⟨fun _ _ r h => by simp [spec_FewestDrops.j0] at h, fun _ _ r h => by simp [spec_FewestDrops.l0] at h⟩
 | k + 1 => by
  obtain ⟨ih0, ih1⟩ := spec_FewestDrops.mono_l k
  refine ⟨?_, ?_⟩
  ·intro y0 y1
   unfold spec_FewestDrops.j0
   have m0_ := @spec_cdDrops.mono
   have m1_ := @spec_cdGood.mono
   exact lo_
  ·intro y0 y1
   unfold spec_FewestDrops.l0
   have m0_ := @spec_cdDrops.mono
   have m1_ := @spec_cdGood.mono
   exact lo_
theorem spec_FewestDrops.mono : ∀ a0 a1 k, LeO (spec_FewestDrops.f k a0 a1) (spec_FewestDrops.f (k + 1) a0 a1) := by
 intro a0 a1 k
 obtain ⟨ih0, ih1⟩ := spec_FewestDrops.mono_l k
 unfold spec_FewestDrops.f
 have m0_ := @spec_cdDrops.mono
 have m1_ := @spec_cdGood.mono
 exact lo_
theorem spec_FewestDrops.calls (k : Nat) (a0 : Int) (A1 : Option Addr) (c1 : Nat) (l1 : List (S44)) (r1 : List Int) (r2 : Bool) (w : World) (hr1 : Kd.C k44 w A1 l1.length l1) (hc1 : l1.length ≤ c1) (h : spec_FewestDrops.f k a0 l1 = some (r1, r2)) :
  Calls Tryz.prog 17 #[.int .i64 a0, .slice A1 l1.length c1] w fun e w' => ∃ v0_ : Value, e = .returned (.tuple #[v0_, .bool r2]) ∧ Kd.R (Kd.int .i64) 3 w' w.heap.size (fun _ => True) v0_ r1 ∧ Below w.heap.size w w' := by
 have HR1 := Aside0.mk hr1
 have HC1 := Aside0.mk hc1
 clear hr1 hc1
 have HB := Aside0.mk (Below.refl w.heap.size w)
 have H : ((spec_cdGood.f k a0 l1).bind fun t393 => (if t393 = true then (spec_FewestDrops.j0 k l1 (decide ((l1.length : Int) > 12))) else (spec_FewestDrops.j0 k l1 true))) = some (r1, r2) := h
 clear h
 have HC3 := Aside0.mk H
 clear H
 go_enter Tryz.func17, Tryz.ntmps17
 go_upto_region 1 with (fail)
 go_cut [17] (fun v17 wc => ∃ (kq : Nat) (x17_2 : Bool), v17 = .bool x17_2 ∧ Aside0 (spec_FewestDrops.j0 kq l1 x17_2 = some (r1, r2)) ∧ Aside0 (kq ≤ k) ∧ Aside0 (Below w.heap.size w wc))
 case first =>
  have H := HC3.out
  clear HC3
  replace H := Option.bind_eq_some_iff.mp H
  obtain ⟨t393, A40, H⟩ := H
  try dsimp only at H
  have A4 := Aside0.mk A40
  clear A40
  by_cases c5 : t393 = true
  ·subst c5
   have H1 : (spec_FewestDrops.j0 k l1 (decide ((l1.length : Int) > 12))) = some (r1, r2) := by rw [if_pos rfl] at H; exact H
   clear H
   have H := H1
   clear H1
   have H' := Aside0.mk H
   clear H
   go_wp2_with (first | ((with_reducible refine gate_callee (f := 36) rfl ?_); refine goesL_ (some 11) rfl rfl Tryz.func36 (by kernel_rfl) rfl #[.int .i64 a0, .slice A1 l1.length c1] rfl ma_ ?_; (with_reducible refine (spec_cdGood.calls k a0 _ _ l1 true _ ?side1 ?side2 A4.out).mono ?_); (case side1 => exact kc_ <| (Kd.C_below HR1.out HB.out)); (case side2 => exact HC1.out); rintro e w6 ⟨rfl, hb⟩; refine ⟨_, rfl, ?_⟩; have n0_ := Aside0.mk (below_step bl_ hb); clear HB; have HB := n0_; clear n0_; (try clear hb); (try clear hb2); (try clear hk); (try clear hi)))
   go_meet
   case rel => exact ⟨_, (decide ((l1.length : Int) > 12)), (es_), H', ⟨by first | omega | exact Nat.le_refl _⟩, ⟨bl_⟩⟩
  ·replace c5 := Bool.eq_false_iff.mpr c5
   subst c5
   have H1 : (spec_FewestDrops.j0 k l1 true) = some (r1, r2) := by rw [if_neg (show ¬ (false = true) by decide)] at H; exact H
   clear H
   have H := H1
   clear H1
   have H' := Aside0.mk H
   clear H
   go_wp2_with (first | ((with_reducible refine gate_callee (f := 36) rfl ?_); refine goesL_ (some 11) rfl rfl Tryz.func36 (by kernel_rfl) rfl #[.int .i64 a0, .slice A1 l1.length c1] rfl ma_ ?_; (with_reducible refine (spec_cdGood.calls k a0 _ _ l1 false _ ?side1 ?side2 A4.out).mono ?_); (case side1 => exact kc_ <| (Kd.C_below HR1.out HB.out)); (case side2 => exact HC1.out); rintro e w7 ⟨rfl, hb⟩; refine ⟨_, rfl, ?_⟩; have n0_ := Aside0.mk (below_step bl_ hb); clear HB; have HB := n0_; clear n0_; (try clear hb); (try clear hb2); (try clear hk); (try clear hi)))
   go_meet
   case rel => exact ⟨_, (true), (es_), H', ⟨by first | omega | exact Nat.le_refl _⟩, ⟨bl_⟩⟩
 case rest =>
  clear HC3
  try clear c1
  try clear p2
  try clear c3
  try clear c5
  obtain ⟨kq, x17_2, rfl, HA, HJ2, HB⟩ := hcut
  cases kq with
  | zero => exact absurd HA.out (by simp [spec_FewestDrops.j0])
  | succ kj2 =>
   have H := HA.out
   clear HA
   simp only [spec_FewestDrops.j0] at H
   by_cases c8 : x17_2 = true
   ·subst c8
    have H1 : (some (([] : List Int), false)) = some (r1, r2) := by rw [if_pos rfl] at H; exact H
    clear H
    have H := H1
    clear H1
    simp only [Option.some.injEq, Prod.mk.injEq] at H
    obtain ⟨rfl, rfl⟩ := H
    go_wp2
    go_ret2
    exact ⟨_, ew_, by first | exact Kd.R_nil _ _ _ _ _ | exact Kd.N_nil _ _ _ _ _ | exact Kd.V_nil _ _ _ _ _ | exact Kd.Q_nil _ _ _ _ _ | exact Kd.S_nil _ _ _ _ _, bl_⟩
   ·replace c8 := Bool.eq_false_iff.mpr c8
    subst c8
    have H1 : (spec_FewestDrops.l0 kj2 l1 0) = some (r1, r2) := by rw [if_neg (show ¬ (false = true) by decide)] at H; exact H
    clear H
    have H := H1
    clear H1
    have H' := Aside0.mk H
    clear H
    go_wp2
    go_loopg [6] kj2 (fun kq v6 w' => ∃ (x6_2 : Int), v6 = .int .i64 x6_2 ∧ Aside0 (spec_FewestDrops.l0 kq l1 x6_2 = some (r1, r2)) ∧ Aside0 (kq ≤ kj2) ∧ Aside0 (Below w.heap.size w w'))
    case atStart => exact ⟨(0), (es_), H', ⟨Nat.le_refl _⟩, ⟨bl_⟩⟩
    case round =>
     clear H'
     try clear c1
     try clear p2
     try clear c3
     try clear c5
     try clear c8
     try clear p2
     obtain ⟨x6_2, rfl, HA, HK2, HB⟩ := hrel
     cases gk with
     | zero => exact absurd HA.out (by simp [spec_FewestDrops.l0])
     | succ k2 =>
      have H := HA.out
      clear HA
      simp only [spec_FewestDrops.l0] at H
      by_cases c9 : x6_2 < (l1.length : Int)
      ·rw [if_pos c9] at H
       have c9b0 : decide (x6_2 < (l1.length : Int)) = true := decide_eq_true c9
       clear c9
       replace H := Option.bind_eq_some_iff.mp H
       obtain ⟨⟨t394, t397⟩, A100, H⟩ := H
       try dsimp only at H
       have A10 := Aside0.mk A100
       clear A100
       by_cases c11 : t397 = true
       ·subst c11
        have H1 : (some (t394, true)) = some (r1, r2) := by rw [if_pos rfl] at H; exact H
        clear H
        have H := H1
        clear H1
        simp only [Option.some.injEq, Prod.mk.injEq] at H
        obtain ⟨rfl, rfl⟩ := H
        go_wp2_with (first | ((with_reducible refine gate_callee (f := 44) rfl ?_); refine goesL_ (some 27) rfl rfl Tryz.func44 (by kernel_rfl) rfl #[.slice A1 l1.length c1, .slice none 0 0, .int .i64 0, .int .i64 x6_2] rfl ma_ ?_; (refine (spec_cdDrops.calls k2 _ _ l1 (fun k_ => some k_ = (.slice none 0 0 : Value).ownBlock) (.slice none 0 0) ([] : List Int) 0 x6_2 t394 true w _ ?side1 ?side2 ?side3 ?side4 A10.out).mono ?_); (case side1 => repeat (first | (with_reducible first | exact HB.out | apply below_alloc | apply pw_below_drewN | apply below_drew1) | exact HB.out)); (case side2 => exact Kd.C_kept_came k44_heap HR1.out bl_ (fun k_ hs_ => (fun e_ => by simp [Value.ownBlock] at e_) hs_)); (case side3 => exact HC1.out); (case side4 => exact Kd.R_nil _ _ _ _ _); rintro e w12 ⟨v395, rfl, ho0, hb, hkp⟩; refine ⟨_, rfl, ?_⟩; have n0_ := Aside0.mk (Kd.R_mono (ok' := fun k_ => True) ho0 (fun k_ hk_ => trivial)); have n1_ := Aside0.mk (hb); clear HB; have HO396 := n0_; have HB := n1_; clear n0_ n1_; (try clear hb); (try clear hkp); (try clear ho0)))
        go_ret2
        exact ⟨_, ew_, by exact kr_ <| HO396.out, bl_⟩
       ·replace c11 := Bool.eq_false_iff.mpr c11
        subst c11
        have H1 : (spec_FewestDrops.l0 k2 l1 (wrap64 (x6_2 + 1))) = some (r1, r2) := by rw [if_neg (show ¬ (false = true) by decide)] at H; exact H
        clear H
        have H := H1
        clear H1
        have H' := Aside0.mk H
        clear H
        go_wp2_with (first | ((with_reducible refine gate_callee (f := 44) rfl ?_); refine goesL_ (some 27) rfl rfl Tryz.func44 (by kernel_rfl) rfl #[.slice A1 l1.length c1, .slice none 0 0, .int .i64 0, .int .i64 x6_2] rfl ma_ ?_; (refine (spec_cdDrops.calls k2 _ _ l1 (fun k_ => some k_ = (.slice none 0 0 : Value).ownBlock) (.slice none 0 0) ([] : List Int) 0 x6_2 t394 false w _ ?side1 ?side2 ?side3 ?side4 A10.out).mono ?_); (case side1 => repeat (first | (with_reducible first | exact HB.out | apply below_alloc | apply pw_below_drewN | apply below_drew1) | exact HB.out)); (case side2 => exact Kd.C_kept_came k44_heap HR1.out bl_ (fun k_ hs_ => (fun e_ => by simp [Value.ownBlock] at e_) hs_)); (case side3 => exact HC1.out); (case side4 => exact Kd.R_nil _ _ _ _ _); rintro e w13 ⟨v395, rfl, ho0, hb, hkp⟩; refine ⟨_, rfl, ?_⟩; have n0_ := Aside0.mk (Kd.R_mono (ok' := fun k_ => True) ho0 (fun k_ hk_ => trivial)); have n1_ := Aside0.mk (hb); clear HB; have HO396 := n0_; have HB := n1_; clear n0_ n1_; (try clear hb); (try clear hkp); (try clear ho0)))
        go_roundg k2
        case measure => have := HJ2.out; have := HK2.out; omega
        case rel => exact ⟨(wrap64 (x6_2 + 1)), (es_), H', ⟨by have := HJ2.out; have := HK2.out; omega⟩, ⟨bl_⟩⟩
      ·rw [if_neg c9] at H
       have c9b0 : decide (x6_2 < (l1.length : Int)) = false := decide_eq_false c9
       clear c9
       simp only [Option.some.injEq, Prod.mk.injEq] at H
       obtain ⟨rfl, rfl⟩ := H
       go_wp2
       go_ret2
       exact ⟨_, ew_, by first | exact Kd.R_nil _ _ _ _ _ | exact Kd.N_nil _ _ _ _ _ | exact Kd.V_nil _ _ _ _ _ | exact Kd.Q_nil _ _ _ _ _ | exact Kd.S_nil _ _ _ _ _, bl_⟩
def slices_Index_int_int.l0 : Nat → List Int → Int → Int → Int → Option (Int)
 | 0, _, _, _, _ => none
 | k + 1, x0, x1, x7, x8 => if x8 < x7 then (if 0 ≤ x8 then (if x8 < (x0.length : Int) then (if x1 = (rd x0 x8) then (some x8) else (slices_Index_int_int.l0 k x0 x1 x7 (wrap64 (x8 + 1)))) else (none)) else (none)) else (some (-1))
def slices_Index_int_int.f (k : Nat) (l0 : List Int) (a1 : Int) : Option (Int) := slices_Index_int_int.l0 k l0 a1 (l0.length : Int) 0
theorem slices_Index_int_int.mono_l : ∀ k, (∀ y0 y1 y2 y3, LeO (slices_Index_int_int.l0 k y0 y1 y2 y3) (slices_Index_int_int.l0 (k + 1) y0 y1 y2 y3))
 | 0 => fun _ _ _ _ r h => by simp [slices_Index_int_int.l0] at h
 | k + 1 => by
  have ih0 := slices_Index_int_int.mono_l k
  ·intro y0 y1 y2 y3
   unfold slices_Index_int_int.l0
   exact lo_
theorem slices_Index_int_int.mono : ∀ a0 a1 k, LeO (slices_Index_int_int.f k a0 a1) (slices_Index_int_int.f (k + 1) a0 a1) := by
 intro a0 a1 k
 have ih0 := slices_Index_int_int.mono_l k
 unfold slices_Index_int_int.f
 exact lo_
theorem slices_Index_int_int.calls (k : Nat) (A0 : Option Addr) (c0 : Nat) (l0 : List Int) (a1 : Int) (r : Int) (w : World) (hr0 : Kd.C (Kd.int .i64) w A0 l0.length l0) (hc0 : l0.length ≤ c0) (h : slices_Index_int_int.f k l0 a1 = some r) :
  Calls Tryz.prog 46 #[.slice A0 l0.length c0, .int .i64 a1] w fun e w' => e = .returned (.int .i64 r) ∧ Drawn0 w w' := by
 have HR0 := Aside0.mk hr0
 have HC0 := Aside0.mk hc0
 clear hr0 hc0
 have H : (slices_Index_int_int.l0 k l0 a1 (l0.length : Int) 0) = some r := h
 clear h
 have H' := Aside0.mk H
 clear H
 go_enter Tryz.func46, Tryz.ntmps46
 go_wp2
 go_loopg [8] k (fun kq v8 w' => ∃ (x8_1 : Int), v8 = .int .i64 x8_1 ∧ Aside0 (slices_Index_int_int.l0 kq l0 a1 (l0.length : Int) x8_1 = some r) ∧ Aside0 (kq ≤ k) ∧ Drawn0 w w')
 case atStart => exact ⟨(0), (es_), H', ⟨Nat.le_refl _⟩, dr_⟩
 case round =>
  clear H'
  try clear p2
  obtain ⟨x8_1, rfl, HA, HK1, ⟨m1, rfl⟩⟩ := hrel
  cases gk with
  | zero => exact absurd HA.out (by simp [slices_Index_int_int.l0])
  | succ k1 =>
   have H := HA.out
   clear HA
   simp only [slices_Index_int_int.l0] at H
   by_cases c3 : x8_1 < (l0.length : Int)
   ·rw [if_pos c3] at H
    have c3b0 : decide (x8_1 < (l0.length : Int)) = true := decide_eq_true c3
    clear c3
    by_cases c4 : 0 ≤ x8_1
    rotate_left
    ·rw [if_neg c4] at H
     exact absurd H (by simp)
    rw [if_pos c4] at H
    have c4b0 : decide (0 ≤ x8_1) = true := decide_eq_true c4
    clear c4
    by_cases c5 : x8_1 < (l0.length : Int)
    rotate_left
    ·rw [if_neg c5] at H
     exact absurd H (by simp)
    rw [if_pos c5] at H
    have c5b0 : decide (x8_1 < (l0.length : Int)) = true := decide_eq_true c5
    clear c5
    by_cases c6 : a1 = (rd l0 x8_1)
    ·rw [if_pos c6] at H
     have c6b0 : (a1 == (rd l0 x8_1)) = true := beq_iff_eq.mpr c6
     have c6b1 : (a1 != (rd l0 x8_1)) = false := bne_eq_false_iff_eq.mpr c6
     clear c6
     obtain rfl := Option.some.inj H
     have p398 : 0 ≤ (x8_1 : Int) := od_
     have q398 : x8_1 < (l0.length : Int) := od_
     obtain ⟨ad398, e398, hx398_0⟩ := Kd.at_int HR0.out x8_1 p398 q398
     cases e398
     replace p398 := eq_true p398
     replace q398 := eq_true q398
     go_wp2
     go_ret
     exact ⟨es_, dr_⟩
    ·rw [if_neg c6] at H
     have c6b0 : (a1 == (rd l0 x8_1)) = false := beq_eq_false_iff_ne.mpr c6
     have c6b1 : (a1 != (rd l0 x8_1)) = true := bne_iff_ne.mpr c6
     have H' := Aside0.mk H
     clear H
     have p398 : 0 ≤ (x8_1 : Int) := od_
     have q398 : x8_1 < (l0.length : Int) := od_
     obtain ⟨ad398, e398, hx398_0⟩ := Kd.at_int HR0.out x8_1 p398 q398
     cases e398
     replace p398 := eq_true p398
     replace q398 := eq_true q398
     go_wp2
     go_roundg k1
     case measure => have := HK1.out; omega
     case rel => exact ⟨(wrap64 (x8_1 + 1)), (es_), H', ⟨by have := HK1.out; omega⟩, dr_⟩
   ·rw [if_neg c3] at H
    have c3b0 : decide (x8_1 < (l0.length : Int)) = false := decide_eq_false c3
    clear c3
    obtain rfl := Option.some.inj H
    go_wp2
    go_ret
    exact ⟨es_, dr_⟩
def slices_Max_int_int.f (l0 : List Int) : Option Int := if 0 < l0.length then some (Lib.maxOf l0) else none
theorem slices_Max_int_int.calls (A0 : Option Addr) (c0 : Nat) (l0 : List Int) (r : Int) (w : World) (hr0 : Kd.C (Kd.int .i64) w A0 l0.length l0) (hc0 : l0.length ≤ c0) (h : slices_Max_int_int.f l0 = some r) :
  Calls Tryz.prog 47 #[.slice A0 l0.length c0] w fun e w' => e = .returned (.int .i64 r) ∧ Drawn0 w w' := by
 unfold slices_Max_int_int.f at h
 by_cases hn : 0 < l0.length
 ·rw [if_pos hn] at h
  obtain rfl := Option.some.inj h
  clear h
  have hbig := hr0.2.1
  obtain ⟨ad, rfl, hc00⟩ := Kd.at_int hr0 0 (by omega) (by omega)
  have h0 : w.cell? ad = some (.int .i64 (rd l0 0)) := by simpa [Addr.add] using hc00
  clear hc00
  have HR := Aside0.mk hr0
  clear hr0
  have hs : ¬ (l0.length : Int) < 1 := by omega
  go_enter Tryz.func47, Tryz.ntmps47
  go_wp2
  go_loopg [3, 4] l0.length (fun gg m i wr => ∃ k : Nat, 0 < k ∧ k ≤ l0.length ∧ l0.length - k ≤ gg ∧ i = .int .i64 k ∧ m = .int .i64 (Lib.maxOf (l0.take k)) ∧ wr = w)
  case atStart => exact ⟨1, Nat.one_pos, hn, by omega, rfl, by rw [Lib.maxOf_one]; simp [rd, List.getD], rfl⟩
  case round =>
   obtain ⟨k, hk0, hk, hg, rfl, rfl, rfl⟩ := hrel
   by_cases hlt : k < l0.length
   ·have hltz : (k : Int) < (l0.length : Int) := by omega
    obtain ⟨ad', e', hcell0⟩ := Kd.at_int HR.out (k : Int) (by omega) hltz
    obtain rfl := Option.some.inj e'
    have hcell : wr.cell? (ad.add k) = some (.int .i64 (rd l0 k)) := hcell0
    clear hcell0 e'
    go_wp2_with fail
    all_goals
     go_roundg (l0.length - (k + 1))
     (case measure => omega)
     (case rel =>
      refine ⟨k + 1, Nat.succ_pos k, by omega, by omega, by go_num, ?_, rfl⟩
      have e9 : l0.getD k 0 = rd l0 (k : Int) := by simp [rd]
      rw [Lib.maxOf_step l0 k hk0 (by omega), e9]
      congr 1
      omega)
   ·have hltz : ¬ (k : Int) < (l0.length : Int) := by omega
    obtain rfl : k = l0.length := by omega
    go_wp2_with fail
    go_ret
    exact ⟨by simp, 0, rfl⟩
 ·rw [if_neg hn] at h
  cases h
mutual
def impl_MostCrossed.j0 : Nat → List (S44) → Bool → Option (Int × Bool)
 | 0, _, _ => none
 | k + 1, x1, x17 => if x17 = true then (some (0, false)) else (impl_MostCrossed.l0 k x1 (([] : List Int)) x1 (x1.length : Int) 0)
def impl_MostCrossed.l0 : Nat → List (S44) → List Int → List (S44) → Int → Int → Option (Int × Bool)
 | 0, _, _, _, _, _ => none
 | k + 1, x1, x6, x19, x20, x21 => if x21 < x20 then (if 0 ≤ x21 then (if x21 < (x19.length : Int) then ((impl_crossed.f k x1 ((rd_T44 x19 x21).f0) ((rd_T44 x19 x21).f1)).bind fun t405 => (if x6.length < 17592186044416 then (impl_MostCrossed.l0 k x1 (x6 ++ [t405]) x19 x20 (wrap64 (x21 + 1))) else (none))) else (none)) else (none)) else ((slices_Max_int_int.f x6).bind fun t409 => ((slices_Index_int_int.f k x6 t409).bind fun t410 => (some (t410, true))))
end
def impl_MostCrossed.f (k : Nat) (a0 : Int) (l1 : List (S44)) : Option (Int × Bool) := (impl_isSet.f k a0 l1).bind fun t399 => (if t399 = true then (impl_MostCrossed.j0 k l1 ((l1.length : Int) == 0)) else (impl_MostCrossed.j0 k l1 true))
theorem impl_MostCrossed.mono_l : ∀ k, (∀ y0 y1, LeO (impl_MostCrossed.j0 k y0 y1) (impl_MostCrossed.j0 (k + 1) y0 y1)) ∧ (∀ y0 y1 y2 y3 y4, LeO (impl_MostCrossed.l0 k y0 y1 y2 y3 y4) (impl_MostCrossed.l0 (k + 1) y0 y1 y2 y3 y4))
 | 0 => ⟨fun _ _ r h => by simp [impl_MostCrossed.j0] at h, fun _ _ _ _ _ r h => by simp [impl_MostCrossed.l0] at h⟩
 | k + 1 => by
  obtain ⟨ih0, ih1⟩ := impl_MostCrossed.mono_l k
  refine ⟨?_, ?_⟩
  ·intro y0 y1
   unfold impl_MostCrossed.j0
   have m0_ := @impl_crossed.mono
   have m1_ := @impl_isSet.mono
   have m2_ := @slices_Index_int_int.mono
   exact lo_
  ·intro y0 y1 y2 y3 y4
   unfold impl_MostCrossed.l0
   have m0_ := @impl_crossed.mono
   have m1_ := @impl_isSet.mono
   have m2_ := @slices_Index_int_int.mono
   exact lo_
theorem impl_MostCrossed.mono : ∀ a0 a1 k, LeO (impl_MostCrossed.f k a0 a1) (impl_MostCrossed.f (k + 1) a0 a1) := by
 intro a0 a1 k
 obtain ⟨ih0, ih1⟩ := impl_MostCrossed.mono_l k
 unfold impl_MostCrossed.f
 have m0_ := @impl_crossed.mono
 have m1_ := @impl_isSet.mono
 have m2_ := @slices_Index_int_int.mono
 exact lo_
theorem impl_MostCrossed.calls (k : Nat) (a0 : Int) (A1 : Option Addr) (c1 : Nat) (l1 : List (S44)) (r1 : Int) (r2 : Bool) (w : World) (hr1 : Kd.C k44 w A1 l1.length l1) (hc1 : l1.length ≤ c1) (h : impl_MostCrossed.f k a0 l1 = some (r1, r2)) :
  Calls Tryz.prog 18 #[.int .i64 a0, .slice A1 l1.length c1] w fun e w' => e = .returned (.tuple #[.int .i64 r1, .bool r2]) ∧ Below w.heap.size w w' := by
 have hu44 := Tryz.underlying44
 have HR1 := Aside0.mk hr1
 have HC1 := Aside0.mk hc1
 clear hr1 hc1
 have HB := Aside0.mk (Below.refl w.heap.size w)
 have H : ((impl_isSet.f k a0 l1).bind fun t399 => (if t399 = true then (impl_MostCrossed.j0 k l1 ((l1.length : Int) == 0)) else (impl_MostCrossed.j0 k l1 true))) = some (r1, r2) := h
 clear h
 have HC3 := Aside0.mk H
 clear H
 go_enter Tryz.func18, Tryz.ntmps18
 go_upto_region 1 with (fail)
 go_cut [17] (fun v17 wc => ∃ (kq : Nat) (x17_2 : Bool), v17 = .bool x17_2 ∧ Aside0 (impl_MostCrossed.j0 kq l1 x17_2 = some (r1, r2)) ∧ Aside0 (kq ≤ k) ∧ Aside0 (Below w.heap.size w wc))
 case first =>
  have H := HC3.out
  clear HC3
  replace H := Option.bind_eq_some_iff.mp H
  obtain ⟨t399, A40, H⟩ := H
  try dsimp only at H
  have A4 := Aside0.mk A40
  clear A40
  by_cases c5 : t399 = true
  ·subst c5
   have H1 : (impl_MostCrossed.j0 k l1 ((l1.length : Int) == 0)) = some (r1, r2) := by rw [if_pos rfl] at H; exact H
   clear H
   have H := H1
   clear H1
   have H' := Aside0.mk H
   clear H
   go_wp2_with (first | ((with_reducible refine gate_callee (f := 34) rfl ?_); refine goesL_ (some 11) rfl rfl Tryz.func34 (by kernel_rfl) rfl #[.int .i64 a0, .slice A1 l1.length c1] rfl ma_ ?_; (with_reducible refine (impl_isSet.calls k a0 _ _ l1 true _ ?side1 ?side2 A4.out).mono ?_); (case side1 => exact kc_ <| (Kd.C_below HR1.out HB.out)); (case side2 => exact HC1.out); rintro e w6 ⟨rfl, hb⟩; refine ⟨_, rfl, ?_⟩; have n0_ := Aside0.mk (below_step bl_ hb); clear HB; have HB := n0_; clear n0_; (try clear hb); (try clear hb2); (try clear hk); (try clear hi)))
   go_meet
   case rel => exact ⟨_, (((l1.length : Int) == 0)), (es_), H', ⟨by first | omega | exact Nat.le_refl _⟩, ⟨bl_⟩⟩
  ·replace c5 := Bool.eq_false_iff.mpr c5
   subst c5
   have H1 : (impl_MostCrossed.j0 k l1 true) = some (r1, r2) := by rw [if_neg (show ¬ (false = true) by decide)] at H; exact H
   clear H
   have H := H1
   clear H1
   have H' := Aside0.mk H
   clear H
   go_wp2_with (first | ((with_reducible refine gate_callee (f := 34) rfl ?_); refine goesL_ (some 11) rfl rfl Tryz.func34 (by kernel_rfl) rfl #[.int .i64 a0, .slice A1 l1.length c1] rfl ma_ ?_; (with_reducible refine (impl_isSet.calls k a0 _ _ l1 false _ ?side1 ?side2 A4.out).mono ?_); (case side1 => exact kc_ <| (Kd.C_below HR1.out HB.out)); (case side2 => exact HC1.out); rintro e w7 ⟨rfl, hb⟩; refine ⟨_, rfl, ?_⟩; have n0_ := Aside0.mk (below_step bl_ hb); clear HB; have HB := n0_; clear n0_; (try clear hb); (try clear hb2); (try clear hk); (try clear hi)))
   go_meet
   case rel => exact ⟨_, (true), (es_), H', ⟨by first | omega | exact Nat.le_refl _⟩, ⟨bl_⟩⟩
 case rest =>
  clear HC3
  try clear c1
  try clear p2
  try clear c3
  try clear c5
  obtain ⟨kq, x17_2, rfl, HA, HJ2, HB⟩ := hcut
  cases kq with
  | zero => exact absurd HA.out (by simp [impl_MostCrossed.j0])
  | succ kj2 =>
   have H := HA.out
   clear HA
   simp only [impl_MostCrossed.j0] at H
   by_cases c8 : x17_2 = true
   ·subst c8
    have H1 : (some (0, false)) = some (r1, r2) := by rw [if_pos rfl] at H; exact H
    clear H
    have H := H1
    clear H1
    simp only [Option.some.injEq, Prod.mk.injEq] at H
    obtain ⟨rfl, rfl⟩ := H
    go_wp2
    go_ret2
    exact ⟨ew_, bl_⟩
   ·replace c8 := Bool.eq_false_iff.mpr c8
    subst c8
    have H1 : (impl_MostCrossed.l0 kj2 l1 (([] : List Int)) l1 (l1.length : Int) 0) = some (r1, r2) := by rw [if_neg (show ¬ (false = true) by decide)] at H; exact H
    clear H
    have H := H1
    clear H1
    obtain ⟨y400, hy400⟩ : ∃ y_ : List Int, y_ = (([] : List Int)) := ⟨_, rfl⟩
    replace H : (impl_MostCrossed.l0 kj2 l1 y400 l1 (l1.length : Int) 0) = some (r1, r2) := by first | (rw [hy400]; with_reducible exact H) | (have H2_ := (Option.bind_some _ _).symm.trans H; rw [hy400]; with_reducible exact H2_) | (have H2_ := (Option.bind_some _ _).symm.trans H; with_reducible exact H2_) | with_reducible exact H | (rw [hy400]; exact H) | exact H
    have Ny400 := Aside0.mk hy400
    clear hy400
    have H' := Aside0.mk H
    clear H
    go_wp2_with (first | ((with_reducible refine gate_dst (N := 18) rfl ?_); (try (refine gate_guard (by rfl) ?_; dsimp only)); refine Kd.R_lit (Kd.int .i64) _ 3 ?hg (N := 18) ?hd (xs := ([] : List Int)) (inner := []) (ok := fun _ => True) (okp := fun _ => True) ?hr ?hp (fun _ hk => hk) trivial (Below.refl _ _) (Nat.le_refl _) (by simp) ?_; (case hd => rfl); (case hg => rfl); (case hr => first | (go_simp; done) | (go_simp; rfl)); (case hp => exact (Reps.none _ _)); intro v401 w9 ho10 hb hg_ hnew_; clear hg_ hnew_; (first | rw [← Ny400.out] at ho10 | (simp only [Int.reduceToNat] at ho10; rw [← Ny400.out] at ho10)); have n0_ := Aside0.mk (Kd.R_lower ho10 (below_size bl_)); have n1_ := Aside0.mk (below_step bl_ hb); clear HB; have HO402 := n0_; have HB := n1_; clear n0_ n1_; clear hb ho10))
    go_loopg [6, 21] kj2 (fun kq v6 v21 w' => ∃ (x6_2 : List Int) (x21_2 : Int), v21 = .int .i64 x21_2 ∧ Aside0 (impl_MostCrossed.l0 kq l1 x6_2 l1 (l1.length : Int) x21_2 = some (r1, r2)) ∧ Aside0 (kq ≤ kj2) ∧ Aside0 (Kd.R (Kd.int .i64) 3 w' w.heap.size (fun _ => True) v6 x6_2) ∧ Aside0 (Below w.heap.size w w'))
    case atStart => exact ⟨(y400), (0), (es_), H', ⟨Nat.le_refl _⟩, ⟨by exact kr_ <| HO402.out⟩, ⟨bl_⟩⟩
    case round =>
     clear H'
     try clear c1
     try clear p2
     try clear c3
     try clear c5
     try clear c8
     try clear p2
     obtain ⟨x6_2, x21_2, rfl, HA, HK2, HO_6, HB⟩ := hrel
     cases gk with
     | zero => exact absurd HA.out (by simp [impl_MostCrossed.l0])
     | succ k2 =>
      have H := HA.out
      clear HA
      simp only [impl_MostCrossed.l0] at H
      by_cases c11 : x21_2 < (l1.length : Int)
      ·rw [if_pos c11] at H
       have c11b0 : decide (x21_2 < (l1.length : Int)) = true := decide_eq_true c11
       clear c11
       by_cases c12 : 0 ≤ x21_2
       rotate_left
       ·rw [if_neg c12] at H
        exact absurd H (by simp)
       rw [if_pos c12] at H
       have c12b0 : decide (0 ≤ x21_2) = true := decide_eq_true c12
       clear c12
       by_cases c13 : x21_2 < (l1.length : Int)
       rotate_left
       ·rw [if_neg c13] at H
        exact absurd H (by simp)
       rw [if_pos c13] at H
       have c13b0 : decide (x21_2 < (l1.length : Int)) = true := decide_eq_true c13
       clear c13
       replace H := Option.bind_eq_some_iff.mp H
       obtain ⟨t405, A140, H⟩ := H
       try dsimp only at H
       have A14 := Aside0.mk A140
       clear A140
       by_cases c15 : x6_2.length < 17592186044416
       rotate_left
       ·rw [if_neg c15] at H
        exact absurd H (by simp)
       rw [if_pos c15] at H
       have LMc15 := Aside0.mk c15
       clear c15
       obtain ⟨y406, hy406⟩ : ∃ y_ : List Int, y_ = (x6_2 ++ [t405]) := ⟨_, rfl⟩
       replace H : (impl_MostCrossed.l0 k2 l1 y406 l1 (l1.length : Int) (wrap64 (x21_2 + 1))) = some (r1, r2) := by first | (rw [hy406]; with_reducible exact H) | (have H2_ := (Option.bind_some _ _).symm.trans H; rw [hy406]; with_reducible exact H2_) | (have H2_ := (Option.bind_some _ _).symm.trans H; with_reducible exact H2_) | with_reducible exact H | (rw [hy406]; exact H) | exact H
       have Ny406 := Aside0.mk hy406
       clear hy406
       have H' := Aside0.mk H
       clear H
       have p403 : 0 ≤ (x21_2 : Int) := od_
       have q403 : x21_2 < (l1.length : Int) := od_
       obtain ⟨ad403, e403, hx403_0, hx403_1⟩ := at_T44 HR1.out x21_2 p403 q403
       cases e403
       replace hx403_0 := (HB.out.cell (World.block_lt_of_cell? w _ hx403_0)).trans hx403_0
       replace hx403_1 := (HB.out.cell (World.block_lt_of_cell? w _ hx403_1)).trans hx403_1
       replace p403 := eq_true p403
       replace q403 := eq_true q403
       go_wp2_with (first | ((with_reducible refine gate_dst (N := 8) rfl ?_); (try (refine gate_guard (by rfl) ?_; dsimp only)); refine box_event ?hg (N := 8) ?hd (cs := #[.int .i64 0, .int .i64 0]) (t := 44) ?hr ?_; (case hd => rfl); (case hg => rfl); (case hr => first | (go_simp; done) | (go_simp; rfl)); intro gb404 hg w16 hbox hb; have n0_ := Aside0.mk (Kd.R_below (kr_ <| HO_6.out) hb); have n1_ := Aside0.mk (below_step bl_ hb); have n2_ := Aside0.mk (hbox); have n3_ := Aside0.mk ((by rw [hg]; exact (below_size bl_) : w.heap.size ≤ gb404)); have n4_ := Aside0.mk ((by rw [hg]; exact (below_size bl_) : w.heap.size ≤ gb404)); clear HO_6; clear HB; have HO_6 := n0_; have HB := n1_; have BK404 := n2_; have GW404 := n3_; have GE404 := n4_; clear n0_ n1_ n2_ n3_ n4_; clear hb hbox hg; have hcz17_0 : w16.cell? ⟨gb404, 0, none⟩ = some (.int .i64 0) := (blk_cell BK404.out 0).trans rfl; have hcz17_1 : w16.cell? ⟨gb404, 1, none⟩ = some (.int .i64 0) := (blk_cell BK404.out 1).trans rfl; have hfz17_0 := blk_frozen BK404.out 0; have hfz17_1 := blk_frozen BK404.out 1) | ((with_reducible refine gate_callee (f := 45) rfl ?_); refine goesL_ (some 28) rfl rfl Tryz.func45 (by kernel_rfl) rfl #[.slice (some ad403) l1.length c1, .agg #[.int .i64 ((rd_T44 l1 x21_2).f0), .int .i64 ((rd_T44 l1 x21_2).f1)]] rfl ma_ ?_; (with_reducible refine (impl_crossed.calls k2 _ _ l1 ((rd_T44 l1 x21_2).f0) ((rd_T44 l1 x21_2).f1) t405 _ ?side1 ?side2 A14.out).mono ?_); (case side1 => exact Kd.C_below HR1.out bg_); (case side2 => exact HC1.out); rintro e w18 ⟨rfl, hb⟩; refine ⟨_, rfl, ?_⟩; have n0_ := Aside0.mk (Kd.R_below (kr_ <| (Kd.R_mono (Kd.R_far (p := ⟨gb404, 1, none⟩) (Kd.R_far (p := ⟨gb404, 0, none⟩) (Kd.R_types HO_6.out BK404.out (by decide)) (fun _ hk => hk.2) (.int .i64 ((rd_T44 l1 x21_2).f0))) (fun _ hk => hk.2) (.int .i64 ((rd_T44 l1 x21_2).f1))) (fun _ h_ => h_.1))) hb); have n1_ := Aside0.mk (blk_below (g := gb404) (o := .cells #[.int .i64 ((rd_T44 l1 x21_2).f0), .int .i64 ((rd_T44 l1 x21_2).f1)] 44 (0, 0)) (by (with_reducible repeat (first | refine blk_drewN ?_ _ | refine blk_drew ?_ | refine blk_alloc ?_ _)); refine blk_put (cs := #[.int .i64 ((rd_T44 l1 x21_2).f0), .int .i64 0]) ?_ 1 _ rfl; (with_reducible repeat (first | refine blk_drewN ?_ _ | refine blk_drew ?_ | refine blk_alloc ?_ _)); refine blk_put (cs := #[.int .i64 0, .int .i64 0]) ?_ 0 _ rfl; exact kk_ <| BK404.out) hb); have n2_ := Aside0.mk (below_step bg_ hb); clear HO_6; clear BK404; clear HB; have HO_6 := n0_; have BK404 := n1_; have HB := n2_; clear n0_ n1_ n2_; (try clear hb); (try clear hb2); (try clear hk); (try clear hi)) | ((with_reducible refine gate_builtin (b := .append) (xs := #[.tmp 25, .tmp 29]) rfl ?_); (try (refine gate_guard (by rfl) ?_; dsimp only)); at_builtin; refine Kd.R_append (Kd.int .i64) (w0 := w) w.heap.size rfl (.tmp 25) (.tmp 29) 36 3 (.int .i64 0) 8 rfl Tryz.underlying36 info3 rfl (by decide) (by omega) u6 x6_2 t405 [.int .i64 t405] (fun _ => True) (fun _ => False) rfl rfl ?aP (fun _ hk => hk.elim) ?aF ?aO ?aB ?aS ?aL ?_; (case aP => exact rfl); (case aB => exact bg_); (case aF => exact (fun _ _ => trivial)); (case aO => exact (kr_ <| HO_6.out)); (case aS => exact (below_size bg_)); (case aL => have := LMc15.out; omega); intro v407 w19 ho hb hg hat; rw [← Ny406.out] at ho; have n0_ := Aside0.mk (blk_grown (g := gb404) (o := .cells #[.int .i64 ((rd_T44 l1 x21_2).f0), .int .i64 ((rd_T44 l1 x21_2).f1)] 44 (0, 0)) kb_ hg (Kd.R_ne HO_6.out BK404.out (by decide))); have n1_ := Aside0.mk (hb); have n2_ := Aside0.mk (ho); clear BK404; clear HB; clear HO_6; have BK404 := n0_; have HB := n1_; have HO408 := n2_; clear n0_ n1_ n2_; clear ho hb hg hat))
       go_roundg k2
       case measure => have := HJ2.out; have := HK2.out; omega
       case rel => exact ⟨(y406), (wrap64 (x21_2 + 1)), (es_), H', ⟨by have := HJ2.out; have := HK2.out; omega⟩, ⟨by exact kr_ <| HO408.out⟩, ⟨bg_⟩⟩
      ·rw [if_neg c11] at H
       have c11b0 : decide (x21_2 < (l1.length : Int)) = false := decide_eq_false c11
       clear c11
       replace H := Option.bind_eq_some_iff.mp H
       obtain ⟨t409, A200, H⟩ := H
       try dsimp only at H
       have A20 := Aside0.mk A200
       clear A200
       replace H := Option.bind_eq_some_iff.mp H
       obtain ⟨t410, A210, H⟩ := H
       try dsimp only at H
       have A21 := Aside0.mk A210
       clear A210
       simp only [Option.some.injEq, Prod.mk.injEq] at H
       obtain ⟨rfl, rfl⟩ := H
       obtain ⟨Ao22, co22, eo22⟩ := Kd.R_slice HO_6.out
       subst eo22
       go_wp2_with (first | ((with_reducible refine gate_callee (f := 47) rfl ?_); refine goesL_ (some 34) rfl rfl Tryz.func47 (by kernel_rfl) rfl #[.slice Ao22 x6_2.length co22] rfl ma_ ?_; (with_reducible refine (slices_Max_int_int.calls _ _ x6_2 t409 _ ?side1 ?side2 A20.out).mono ?_); (case side1 => exact kc_ <| (Kd.R_reads' HO_6.out).2.2); (case side2 => exact (Kd.R_reads' HO_6.out).2.1); rintro e w' ⟨rfl, ⟨nd, rfl⟩⟩; refine ⟨_, rfl, ?_⟩) | ((with_reducible refine gate_callee (f := 46) rfl ?_); refine goesL_ (some 35) rfl rfl Tryz.func46 (by kernel_rfl) rfl #[.slice Ao22 x6_2.length co22, .int .i64 t409] rfl ma_ ?_; (with_reducible refine (slices_Index_int_int.calls k2 _ _ x6_2 t409 t410 _ ?side1 ?side2 A21.out).mono ?_); (case side1 => exact kc_ <| (Kd.R_reads' HO_6.out).2.2); (case side2 => exact (Kd.R_reads' HO_6.out).2.1); rintro e w' ⟨rfl, ⟨nd, rfl⟩⟩; refine ⟨_, rfl, ?_⟩))
       go_ret2
       exact ⟨ew_, bl_⟩
end Go.Proofs.YtfdocedppachkaaGreat.X
end
section
namespace Go.Proofs
open Go.Shelf
def Tryz.sortChord_ren : Go.Shelf.Ren := ⟨fun | 6 => 78 | 15 => 83 | 14 => 85 | 28 => 95 | 29 => 96 | 20 => 97 | 21 => 98 | 22 => 99 | 23 => 100 | 24 => 101 | 25 => 102 | 26 => 103 | 27 => 104 | 46 => 110 | 47 => 106 | 48 => 107 | 49 => 111 | 50 => 112 | 57 => 114 | n => n, fun | 22 => 24 | 24 => 44 | 25 => 69 | 3 => 3 | 39 => 97 | 0 => 0 | 53 => 108 | 55 => 72 | 4 => 4 | 46 => 101 | 45 => 100 | 50 => 30 | 5 => 5 | 9 => 9 | 66 => 115 | 70 => 119 | 76 => 123 | 77 => 124 | n => n, fun | n => n⟩
theorem Tryz.sortChord : Go.Proofs.SlLaysF0.n6 Tryz.prog Tryz.sortChord_ren := {
 mixed := by kernel_rfl
 f6 := ⟨Tryz.f78.name, by decide, Tryz.func78.trans (congrArg some (by kernel_rfl))⟩
 f14 := ⟨Tryz.f85.name, by decide, Tryz.func85.trans (congrArg some (by kernel_rfl))⟩
 f15 := Tryz.func83.trans (congrArg some (by kernel_rfl))
 f20 := ⟨Tryz.f97.name, by decide, Tryz.func97.trans (congrArg some (by kernel_rfl))⟩
 f21 := ⟨Tryz.f98.name, by decide, Tryz.func98.trans (congrArg some (by kernel_rfl))⟩
 f22 := ⟨Tryz.f99.name, by decide, Tryz.func99.trans (congrArg some (by kernel_rfl))⟩
 f23 := ⟨Tryz.f100.name, by decide, Tryz.func100.trans (congrArg some (by kernel_rfl))⟩
 f24 := ⟨Tryz.f101.name, by decide, Tryz.func101.trans (congrArg some (by kernel_rfl))⟩
 f25 := ⟨Tryz.f102.name, by decide, Tryz.func102.trans (congrArg some (by kernel_rfl))⟩
 f26 := ⟨Tryz.f103.name, by decide, Tryz.func103.trans (congrArg some (by kernel_rfl))⟩
 f27 := ⟨Tryz.f104.name, by decide, Tryz.func104.trans (congrArg some (by kernel_rfl))⟩
 f28 := Tryz.func95.trans (congrArg some (by kernel_rfl))
 f29 := Tryz.func96.trans (congrArg some (by kernel_rfl))
 f46 := ⟨Tryz.f110.name, by decide, Tryz.func110.trans (congrArg some (by kernel_rfl))⟩
 f47 := Tryz.func106.trans (congrArg some (by kernel_rfl))
 f48 := Tryz.func107.trans (congrArg some (by kernel_rfl))
 f49 := ⟨Tryz.f111.name, by decide, Tryz.func111.trans (congrArg some (by kernel_rfl))⟩
 f50 := ⟨Tryz.f112.name, by decide, Tryz.func112.trans (congrArg some (by kernel_rfl))⟩
 f57 := ⟨Tryz.f114.name, by decide, Tryz.func114.trans (congrArg some (by kernel_rfl))⟩
 t0 := Tryz.underlying0
 a0 := Tryz.isAgg0
 z0 := Tryz.sizeOf0
 v0 := Tryz.zeroValue0
 t3 := Tryz.underlying3
 a3 := Tryz.isAgg3
 z3 := Tryz.sizeOf3
 v3 := Tryz.zeroValue3
 t4 := Tryz.underlying4
 a4 := Tryz.isAgg4
 z4 := Tryz.sizeOf4
 v4 := Tryz.zeroValue4
 t5 := Tryz.underlying5
 a5 := Tryz.isAgg5
 z5 := Tryz.sizeOf5
 v5 := Tryz.zeroValue5
 t9 := Tryz.underlying9
 a9 := Tryz.isAgg9
 z9 := Tryz.sizeOf9
 v9 := Tryz.zeroValue9
 t22 := Tryz.underlying24
 a22 := Tryz.isAgg24
 z22 := Tryz.sizeOf24
 v22 := Tryz.zeroValue24
 t25 := Tryz.underlying69
 a25 := Tryz.isAgg69
 z25 := Tryz.sizeOf69
 v25 := Tryz.zeroValue69
 t39 := Tryz.underlying97
 a39 := Tryz.isAgg97
 z39 := Tryz.sizeOf97
 v39 := Tryz.zeroValue97
 t45 := Tryz.underlying100
 a45 := Tryz.isAgg100
 z45 := Tryz.sizeOf100
 v45 := Tryz.zeroValue100
 t46 := Tryz.underlying101
 a46 := Tryz.isAgg101
 z46 := Tryz.sizeOf101
 v46 := Tryz.zeroValue101
 t50 := Tryz.underlying30
 a50 := Tryz.isAgg30
 z50 := Tryz.sizeOf30
 v50 := Tryz.zeroValue30
 t53 := Tryz.underlying108
 a53 := Tryz.isAgg108
 z53 := Tryz.sizeOf108
 v53 := Tryz.zeroValue108
 t55 := Tryz.underlying72
 a55 := Tryz.isAgg72
 z55 := Tryz.sizeOf72
 v55 := Tryz.zeroValue72
 t66 := Tryz.underlying115
 a66 := Tryz.isAgg115
 z66 := Tryz.sizeOf115
 v66 := Tryz.zeroValue115
 t70 := Tryz.underlying119
 a70 := Tryz.isAgg119
 z70 := Tryz.sizeOf119
 v70 := Tryz.zeroValue119
 t76 := Tryz.underlying123
 a76 := Tryz.isAgg123
 z76 := Tryz.sizeOf123
 v76 := Tryz.zeroValue123
 t77 := Tryz.underlying124
 a77 := Tryz.isAgg124
 z77 := Tryz.sizeOf124
 v77 := Tryz.zeroValue124 }
end Go.Proofs
end
section
namespace Go.Proofs.YtfdocedppachkaaGreat.X
open Go.RowKit Go.Proofs.YtfdocedppachkaaGreatW.PrintWords Go.Proofs.YtfdocedppachkaaGreatW.PrintLast Go.Proofs.YtfdocedppachkaaGreatW.PrintMore
attribute [local go_sem] max2_int min2_int max_two min_two max_three min_three max_four min_four
set_option linter.unusedVariables false
set_option linter.unusedSimpArgs false
theorem grow3 (W : World) (o1 o2 o3 : Obj) : ((W.alloc o1).alloc o2).drew.alloc o3 = Go.Sort.grow (W.drewN 1) #[o1, o2, o3] := by
 simp only [Go.Sort.grow, World.alloc, World.drew, World.drewN, Array.push_eq_append, Array.append_assoc]
 rfl
theorem cmpCompare_quiet (x y : Int) (W : World) : Calls Tryz.prog 67 #[.int .i64 x, .int .i64 y] W fun e w' => e = .returned (.int .i64 (Lib.compareInt x y)) ∧ w' = W := by
 have hn : ∀ z : Int, ∀ W : World, Calls Tryz.prog 84 #[.int .i64 z] W fun e w' => e = .returned (.bool false) ∧ w' = W := by
  intro z W
  go_enter Tryz.func84, Tryz.ntmps84
  go_wp2
  go_ret
  exact ⟨rfl, rfl⟩
 have HN := Aside0.mk hn
 clear hn
 have hL : Lib.compareInt x y = if x < y then -1 else if y < x then 1 else 0 := by unfold Lib.compareInt; rfl
 rw [hL]
 clear hL
 by_cases h1 : x < y
 ·rw [if_pos h1]
  go_enter Tryz.func67, Tryz.ntmps67
  go_wp2_with (go_at_call 84; refine (HN.out _ _).mono ?_; rintro e w' ⟨rfl, rfl⟩)
  go_ret
  exact ⟨rfl, rfl⟩
 ·rw [if_neg h1]
  by_cases h2 : y < x
  ·rw [if_pos h2]
   go_enter Tryz.func67, Tryz.ntmps67
   go_wp2_with (go_at_call 84; refine (HN.out _ _).mono ?_; rintro e w' ⟨rfl, rfl⟩)
   go_ret
   exact ⟨rfl, rfl⟩
  ·rw [if_neg h2]
   go_enter Tryz.func67, Tryz.ntmps67
   go_wp2_with (go_at_call 84; refine (HN.out _ _).mono ?_; rintro e w' ⟨rfl, rfl⟩)
   go_ret
   exact ⟨rfl, rfl⟩
theorem cmpOr_quiet (x y : Int) (g c : Nat) (W : World) (h0 : W.cell? ⟨g, 0, none⟩ = some (.int .i64 x)) (h1 : W.cell? ⟨g, 1, none⟩ = some (.int .i64 y)) : Calls Tryz.prog 70 #[.slice (some ⟨g, 0, none⟩) 2 c] W fun e w' => e = .returned (.int .i64 (if x = 0 then y else x)) ∧ w' = W := by
 by_cases hx : x = 0
 ·subst hx
  rw [if_pos rfl]
  by_cases hy : y = 0
  ·subst hy
   go_enter Tryz.func70, Tryz.ntmps70
   go_wp2
   refine wp_loop_rounds 3 ?_
   rw [rounds_succ]
   go_wp2
   rw [rounds_succ]
   go_wp2
   rw [rounds_succ]
   go_wp2
   go_ret
   exact ⟨rfl, rfl⟩
  ·have hb : (y != 0) = true := by simp [hy]
   go_enter Tryz.func70, Tryz.ntmps70
   go_wp2
   refine wp_loop_rounds 2 ?_
   rw [rounds_succ]
   go_wp2
   rw [rounds_succ]
   go_wp2
   go_ret
   exact ⟨rfl, rfl⟩
 ·rw [if_neg hx]
  have hb : (x != 0) = true := by simp [hx]
  go_enter Tryz.func70, Tryz.ntmps70
  go_wp2
  refine wp_loop_rounds 1 ?_
  rw [rounds_succ]
  go_wp2
  go_ret
  exact ⟨rfl, rfl⟩
theorem compareChords_exact (a b c d : Int) (W : World) : Calls Tryz.prog 51 #[.agg #[.int .i64 a, .int .i64 b], .agg #[.int .i64 c, .int .i64 d]] W fun e w' =>
  e = .returned (.int .i64 (if Lib.compareInt a c = 0 then Lib.compareInt b d else Lib.compareInt a c)) ∧ ∃ q os', w' = Go.Sort.grow (W.drewN q) os' := by
 have hu := Tryz.underlying44
 obtain ⟨x, hx⟩ : ∃ x, Lib.compareInt a c = x := ⟨_, rfl⟩
 obtain ⟨y, hy⟩ : ∃ y, Lib.compareInt b d = y := ⟨_, rfl⟩
 obtain ⟨z, hz⟩ : ∃ z, (if x = 0 then y else x) = z := ⟨_, rfl⟩
 have hX := cmpCompare_quiet a c
 have hY := cmpCompare_quiet b d
 rw [hx] at hX
 rw [hy] at hY
 rw [hx, hy, hz]
 have HX := Aside0.mk hX
 have HY := Aside0.mk hY
 have HZ := Aside0.mk hz
 clear hx hy hz hX hY
 go_enter Tryz.func51, Tryz.ntmps51
 go_wp2
 refine wp_region_still_tail 10 (by kernel_rfl) (by kernel_rfl) ?_
 obtain ⟨W2, hW2⟩ : ∃ W2, W2 = ((W.alloc (.cells #[.int .i64 a, .int .i64 b] 44)).alloc (.cells #[.int .i64 c, .int .i64 d] 44)).drew := ⟨_, rfl⟩
 have c0 : W2.cell? ⟨W.heap.size, 0, none⟩ = some (.int .i64 a) := by rw [hW2]; simp
 have c1 : W2.cell? ⟨W.heap.size, 1, none⟩ = some (.int .i64 b) := by rw [hW2]; simp
 have c2 : W2.cell? ⟨W.heap.size + 1, 0, none⟩ = some (.int .i64 c) := by rw [hW2]; simp
 have c3 : W2.cell? ⟨W.heap.size + 1, 1, none⟩ = some (.int .i64 d) := by rw [hW2]; simp
 change wpStill _ _ (((W.alloc (.cells #[.int .i64 a, .int .i64 b] 44)).alloc (.cells #[.int .i64 c, .int .i64 d] 44)).drew) _ _ _
 rw [← hW2]
 have HW := Aside0.mk hW2
 clear hW2
 simp only [List.take_succ_cons, List.take_zero, List.drop_succ_cons, List.drop_zero]
 iterate 4 still_step
 still_call (HX.out _)
 iterate 4 still_step
 still_call (HY.out _)
 refine wpStill_nil ?_
 clear c0 c1 c2 c3
 change wpList _ _ _ _ _ (((W.alloc (.cells #[.int .i64 a, .int .i64 b] 44)).alloc (.cells #[.int .i64 c, .int .i64 d] 44)).drew)
 rw [← HW.out]
 have HC := Aside0.mk (cmpOr_quiet x y W2.heap.size 2 (W2.alloc (.cells #[.int .i64 x, .int .i64 y] 3)) (by simp) (by simp))
 rw [HZ.out] at HC
 go_wp2_with fail
 refine HC.out.mono ?_
 rintro e w' ⟨rfl, rfl⟩
 go_wp2_with fail
 go_ret
 exact ⟨rfl, 1, #[.cells #[.int .i64 a, .int .i64 b] 44, .cells #[.int .i64 c, .int .i64 d] 44, .cells #[.int .i64 x, .int .i64 y] 3], by rw [HW.out]; exact grow3 _ _ _ _⟩
section
open Go.Sort Go.Lib
instance : Inhabited S44 := ⟨z44⟩
instance : DecidableEq S44 := fun a b => if h : a.f0 = b.f0 ∧ a.f1 = b.f1 then isTrue (by cases a; cases b; simp at h; simp [h]) else isFalse (fun e => h (by subst e; exact ⟨rfl, rfl⟩))
def encChord (x : S44) : List Value := [.int .i64 x.f0, .int .i64 x.f1]
theorem encChord_len (x : S44) : (encChord x).length = 2 := rfl
theorem encChord_one (x : S44) : ∀ v ∈ encChord x, v.oneCell' = true := by
 intro v hv
 simp [encChord] at hv
 rcases hv with rfl | rfl <;> rfl
theorem chord_cells {w : World} {blk : Nat} {d : Array S44} (h : HoldsK encChord 2 w blk 0 d) {j : Nat} (hj : j < d.size) :
  (w.cell? ⟨blk, j * 2, none⟩ = some (.int .i64 d[j]!.f0) ∧ w.frozen? ⟨blk, j * 2, none⟩ = false) ∧ w.cell? ⟨blk, j * 2 + 1, none⟩ = some (.int .i64 d[j]!.f1) ∧ w.frozen? ⟨blk, j * 2 + 1, none⟩ = false := by
 have h0 := h.cell hj (c := 0) (by omega)
 have h1 := h.cell hj (c := 1) (by omega)
 simp only [Nat.zero_add, Nat.add_zero] at h0 h1
 exact ⟨h0, h1⟩
theorem setMany_one (d : Array S44) (i : Nat) (x : S44) (hi : i < d.size) : setMany (flatK encChord 2 d) (i * 2) (encChord x) = flatK encChord 2 (d.setIfInBounds i x) := by
 refine ext_get! (by simp) fun t ht => ?_
 have ht' : t < d.size * 2 := by simpa using ht
 rw [get_setMany _ _ _ t (by simpa using ht'), get_flatK _ _ _ t ht', get_flatK _ _ _ t (by simpa using ht'), encChord_len]
 by_cases h : i * 2 ≤ t ∧ t < i * 2 + 2
 ·rw [if_pos h]
  have e : t / 2 = i := by omega
  rw [e, getElem!_set_same d i x hi, show t - i * 2 = t % 2 by omega]
 ·rw [if_neg h, getElem!_set_other d i (t / 2) x (by omega)]
theorem store_chord {w wr : World} {n blk : Nat} {dk : Array S44} {i : Nat} (hi : i < dk.size) (hwr : wr = putRowK encChord 2 (Sort.ahead w n) blk 0 dk) (x : S44) :
  ((wr.setCell ⟨blk, i * 2, none⟩ (.int .i64 x.f0)).setCell ⟨blk, i * 2 + 1, none⟩ (.int .i64 x.f1)) = putRowK encChord 2 (Sort.ahead w n) blk 0 (dk.setIfInBounds i x) := by
 subst hwr
 have h := setCells_putRow (Sort.ahead w n) blk 0 (encChord x) (i * 2) (flatK encChord 2 dk) (by rw [encChord_len, size_flatK]; omega)
 rw [setMany_one dk i x hi] at h
 unfold putRowK
 rw [← h]
 simp [World.setCells, encChord]
theorem chordEqn (w : World) (a b c d : Int) : (binOp .eql 44 (.agg #[.int .i64 a, .int .i64 b]) (.agg #[.int .i64 c, .int .i64 d])).run Tryz.prog w = .ok (.bool (a == c && b == d)) w := by
 simp only [binOp]
 simp [Op.equal, Op.maxDepth, eqA44 9998 w a c b d]
theorem chordNeq (w : World) (a b c d : Int) : (binOp .neq 44 (.agg #[.int .i64 a, .int .i64 b]) (.agg #[.int .i64 c, .int .i64 d])).run Tryz.prog w = .ok (.bool (!(a == c && b == d))) w := by
 simp only [binOp]
 simp [Op.equal, Op.maxDepth, eqA44 9998 w a c b d]
theorem zero44 (w : World) : (zeroValue 44).run Tryz.prog w = .ok (.agg #[.int .i64 0, .int .i64 0]) w := by kernel_rfl
theorem run_clear_chord (w : World) (ty : TypeId) (b o n c : Nat) (hn : 0 < n) (hc : ∀ j, j < n * 2 → (w.cell? ⟨b, o + j, none⟩).isSome = true) (hf : ∀ j, j < n * 2 → w.frozen? ⟨b, o + j, none⟩ = false) :
  (Builtin.clear_ #[24] ty #[.slice (some ⟨b, o, none⟩) n c]).run Tryz.prog w = .ok (.tuple #[]) (w.setCells b o (List.replicate (n * 2) (.int .i64 0))) := by
 have hzc : (Builtin.zeroCells #[.int .i64 0, .int .i64 0] n).toList = List.replicate (n * 2) (.int .i64 0) := by
  simp [Builtin.zeroCells]
  apply List.ext_getElem
  ·simp
  ·intro i h1 h2
   simp
   rcases Nat.mod_two_eq_zero_or_one i with h | h <;> simp [h]
 have hst := run_storeCells_cells (P := Tryz.prog) b o (List.replicate (n * 2) (.int .i64 0)) 0 w (by simpa using hc) (by simpa using hf) (by intro v hv'; rw [List.eq_of_mem_replicate hv']; rfl)
 simp only [Nat.add_zero] at hst
 obtain ⟨m, rfl⟩ : ∃ m, n = m + 1 := ⟨n - 1, by omega⟩
 have hcells : (Value.agg #[.int .i64 0, .int .i64 0]).cells = #[.int .i64 0, .int .i64 0] := rfl
 simp [Builtin.clear_, run_underlying Tryz.underlying24, zero44, hcells, hzc, hst]
theorem clear_world {w wr : World} {n blk kk : Nat} {d dk : Array S44} (hI : CompInv d d.size kk dk) (hwr : wr = putRowK encChord 2 (Sort.ahead w n) blk 0 dk) :
  wr.setCells blk (kk * 2) (List.replicate ((d.size - kk) * 2) (.int .i64 0)) = putRowK encChord 2 (Sort.ahead w n) blk 0 (compactUpTo d d.size ++ List.replicate (d.size - (compactUpTo d d.size).length) z44).toArray := by
 subst hwr
 have hs := hI.size
 have hl := hI.len
 have hk := hI.lt
 have h := setCells_putRow (Sort.ahead w n) blk 0 (List.replicate ((d.size - kk) * 2) (.int .i64 0)) (kk * 2) (flatK encChord 2 dk) (by simp; omega)
 rw [Nat.zero_add] at h
 unfold putRowK
 rw [h]
 congr 1
 refine ext_get! (by simp; omega) fun t ht => ?_
 have ht' : t < dk.size * 2 := by simpa using ht
 rw [get_setMany _ _ _ t (by simpa using ht'), get_flatK _ _ _ t ht', get_flatK _ _ _ t (by simp; omega)]
 by_cases hlt : t / 2 < kk
 ·rw [if_neg (by simp; omega)]
  have e := hI.low (t / 2) hlt
  have : (compactUpTo d d.size ++ List.replicate (d.size - (compactUpTo d d.size).length) z44).toArray[t / 2]! = dk[t / 2]! := by
   rw [getElem!_pos _ _ (by simp; omega)]
   simp only [List.getElem_toArray]
   rw [List.getElem_append_left (by omega)]
   rw [List.getElem?_eq_getElem (by omega)] at e
   exact Option.some.inj e
  rw [this]
 ·rw [if_pos (by simp; omega)]
  have : (compactUpTo d d.size ++ List.replicate (d.size - (compactUpTo d d.size).length) z44).toArray[t / 2]! = z44 := by
   rw [getElem!_pos _ _ (by simp; omega)]
   simp only [List.getElem_toArray]
   rw [List.getElem_append_right (by omega)]
   simp
  rw [this]
  rw [getElem!_pos _ _ (by simp; omega)]
  simp only [List.getElem_replicate]
  rcases Nat.mod_two_eq_zero_or_one t with e | e <;> simp [e, encChord, z44]
theorem compact_walk (blk cap : Nat) (d : Array S44) (w : World) (hH : HoldsK encChord 2 w blk 0 d) (hsz : d.size ≤ 4611686018427387904) (hcap : d.size ≤ cap) :
  Calls Tryz.prog 79 #[.slice (some ⟨blk, 0, none⟩) d.size cap] w fun e w' => e = .returned (.slice (some ⟨blk, 0, none⟩) (compactUpTo d d.size).length cap) ∧ ∃ q, w' = putRowK encChord 2 (Sort.ahead w q) blk 0 (compactUpTo d d.size ++ List.replicate (d.size - (compactUpTo d d.size).length) z44).toArray := by
 have same : ∀ q, (∀ j, j < d.size → keeps d j = true) → (compactUpTo d d.size).length = d.size ∧ w.drewN q = putRowK encChord 2 (Sort.ahead w q) blk 0 (compactUpTo d d.size ++ List.replicate (d.size - (compactUpTo d d.size).length) z44).toArray := by
  intro q hall
  have e : compactUpTo d d.size = d.toList := by rw [compactUpTo_all d _ hall, range_map_get]
  rw [e]
  refine ⟨by simp, ?_⟩
  simp only [Array.length_toList, Nat.sub_self, List.replicate_zero, List.append_nil, Array.toArray_toList]
  exact (putRowK_self encChord 2 (Sort.ahead w q) blk 0 d (holdsK_ahead encChord 2 w q blk 0 d hH)).symm
 have HS := Aside0.mk same
 clear same
 by_cases h2 : d.size < 2
 ·have HH := Aside0.mk hH
  clear hH
  go_enter Tryz.func79, Tryz.ntmps79
  go_wp2
  go_ret
  obtain ⟨e1, e2⟩ := HS.out 0 (fun j hj => keeps_lt_one d j (by omega))
  exact ⟨by rw [e1]; rfl, 0, e2⟩
 ·have h2' : decide ((d.size : Int) < 2) = false := decide_eq_false (by omega)
  go_enter Tryz.func79, Tryz.ntmps79
  go_wp2
  go_loopg [3] d.size (fun g s3 wr => ∃ k q : Nat, 1 ≤ k ∧ k ≤ d.size ∧ d.size - k ≤ g ∧ s3 = .int .i64 k ∧ wr = w.drewN q ∧ Aside0 (∀ j, j < k → keeps d j = true))
  case atStart => exact ⟨1, 0, Nat.le_refl _, by omega, by omega, rfl, rfl, ⟨keeps_lt_one d⟩⟩
  case round =>
   obtain ⟨k, q, hk1, hk, hg, rfl, rfl, A⟩ := hrel
   by_cases hlt : k < d.size
   ·obtain ⟨⟨c1, f1⟩, ⟨c2, f2⟩⟩ := chord_cells hH hlt
    obtain ⟨⟨c3, f3⟩, ⟨c4, f4⟩⟩ := chord_cells hH (show k - 1 < d.size by omega)
    have HH := Aside0.mk hH
    clear hH
    generalize hx : d[k]! = x at c1 c2
    generalize hy : d[k - 1]! = y at c3 c4
    have B := Aside0.mk (show d[k]! = x ∧ d[k - 1]! = y from ⟨hx, hy⟩)
    clear hx hy f1 f2 f3 f4
    by_cases hdup : x = y
    ·subst hdup
     have heq := fun W => chordEqn W x.f0 x.f1 x.f0 x.f1
     simp only [beq_self_eq_true, Bool.and_self] at heq
     go_wp2_with fail
     go_quiet (fail)
     go_wp2
     clear c1 c2 c3 c4 heq
     go_loopg [3, 5] d.size (fun g s3 s5 wr => ∃ (kk k2 q2 : Nat) (dk : Array S44), s3 = .int .i64 kk ∧ s5 = .int .i64 k2 ∧ 1 ≤ k2 ∧ k + k2 ≤ d.size ∧ d.size - (k + k2) ≤ g ∧ Aside0 (wr = putRowK encChord 2 (Sort.ahead w q2) blk 0 dk) ∧ Aside0 (CompInv d (k + k2) kk dk))
     case atStart => exact ⟨k, 1, q + nq, d, rfl, rfl, Nat.le_refl _, by omega, by omega, ⟨(putRowK_self encChord 2 (Sort.ahead w (q + nq)) blk 0 d (holdsK_ahead encChord 2 w (q + nq) blk 0 d HH.out)).symm⟩, ⟨CompInv.start A.out (keeps_neg (by omega) (by rw [B.out.1, B.out.2]))⟩⟩
     case round =>
      obtain ⟨kk, k2, q2, dk, rfl, rfl, h1, hle, hg2, HWR, HI⟩ := hrel
      have hkk := HI.out.lt
      have hds := HI.out.size
      have hHk : HoldsK encChord 2 wr blk 0 dk := by rw [HWR.out]; exact holdsK_putRowK encChord 2 _ blk 0 d dk (holdsK_ahead encChord 2 w q2 blk 0 d HH.out) hds
      by_cases hlt2 : k + k2 < d.size
      ·obtain ⟨⟨m1, _⟩, ⟨m2, _⟩⟩ := chord_cells hHk (show k + k2 < dk.size by omega)
       obtain ⟨⟨p1, _⟩, ⟨p2, _⟩⟩ := chord_cells hHk (show k + k2 - 1 < dk.size by omega)
       obtain ⟨⟨o1, fo1⟩, ⟨o2, fo2⟩⟩ := chord_cells hHk (show kk < dk.size by omega)
       rw [HI.out.high (k + k2) (by omega)] at m1 m2
       rw [HI.out.high (k + k2 - 1) (by omega)] at p1 p2
       clear hHk
       rw [show (k + k2) * 2 = k * 2 + k2 * 2 by omega] at m1 m2
       rw [show (k + k2 - 1) * 2 = k * 2 + (k2 - 1) * 2 by omega] at p1 p2
       generalize hu : d[k + k2]! = u at m1 m2
       generalize hv : d[k + k2 - 1]! = v at p1 p2
       generalize dk[kk]! = old at o1 o2
       have C := Aside0.mk (show d[k + k2]! = u ∧ d[k + k2 - 1]! = v from ⟨hu, hv⟩)
       have HDS := Aside0.mk hds
       clear hu hv hds
       by_cases huv : u = v
       ·subst huv
        have heq := fun W => chordNeq W u.f0 u.f1 u.f0 u.f1
        simp only [beq_self_eq_true, Bool.and_self, Bool.not_true] at heq
        go_wp2_with fail
        go_quiet (fail)
        go_wp2
        go_roundg (d.size - (k + (k2 + 1)))
        case measure => omega
        case rel => exact ⟨kk, k2 + 1, _, dk, rfl, by go_num, by omega, by omega, Nat.le_refl _, ⟨drewN_worldK encChord 2 HWR.out _⟩, ⟨HI.out.skip (keeps_neg (by omega) (by rw [C.out.1, C.out.2]))⟩⟩
       ·have hne : (u.f0 == v.f0 && u.f1 == v.f1) = false := by
         rw [Bool.eq_false_iff]
         intro h
         simp only [Bool.and_eq_true, beq_iff_eq] at h
         exact huv (by cases u; cases v; simp at h; simp [h])
        have heq := fun W => chordNeq W u.f0 u.f1 v.f0 v.f1
        simp only [hne, Bool.not_false] at heq
        have HD := Aside0.mk huv
        clear huv hne
        go_wp2_with fail
        go_quiet (fail)
        go_wp2
        go_roundg (d.size - (k + (k2 + 1)))
        case measure => omega
        case rel => exact ⟨kk + 1, k2 + 1, _, dk.setIfInBounds kk u, by go_num, by go_num, by omega, by omega, Nat.le_refl _, ⟨store_chord (by have := HDS.out; omega) (drewN_worldK encChord 2 HWR.out _) u⟩, ⟨by have := HI.out.keep hlt2 (keeps_pos (by rw [C.out.1, C.out.2]; exact HD.out)); rwa [C.out.1] at this⟩⟩
      ·have hend : k + k2 = d.size := by omega
       have hcl : ∀ ty, (Builtin.clear_ #[24] ty #[.slice (some ⟨blk, kk * 2, none⟩) (d.size - kk) (cap - kk)]).run Tryz.prog wr = .ok (.tuple #[]) (wr.setCells blk (kk * 2) (List.replicate ((d.size - kk) * 2) (.int .i64 0))) :=
        fun ty => run_clear_chord wr ty blk (kk * 2) _ _ (by omega) (fun j hj => by
         have h1 := hHk (kk * 2 + j) (by simp; omega)
         rw [Nat.zero_add] at h1
         rw [h1.1]; rfl) (fun j hj => by
         have h1 := hHk (kk * 2 + j) (by simp; omega)
         rw [Nat.zero_add] at h1
         exact h1.2)
       clear hHk
       go_wp2
       go_ret
       have hI := HI.out
       rw [hend] at hI
       exact ⟨by rw [hI.len]; rfl, q2, clear_world hI HWR.out⟩
    ·have hne : (x.f0 == y.f0 && x.f1 == y.f1) = false := by
      rw [Bool.eq_false_iff]
      intro h
      simp only [Bool.and_eq_true, beq_iff_eq] at h
      exact hdup (by cases x; cases y; simp at h; simp [h])
     have heq := fun W => chordEqn W x.f0 x.f1 y.f0 y.f1
     rw [hne] at heq
     have HD := Aside0.mk hdup
     clear hdup hne
     go_wp2_with fail
     go_quiet (fail)
     go_wp2
     go_roundg (d.size - (k + 1))
     case measure => omega
     case rel =>
      refine ⟨k + 1, _, by omega, by omega, Nat.le_refl _, by go_num, rfl, ⟨fun j hj => ?_⟩⟩
      by_cases e : j = k
      ·subst e
       exact keeps_pos (by rw [B.out.1, B.out.2]; exact HD.out)
      ·exact A.out j (by omega)
   ·have : k = d.size := by omega
    subst this
    have HH := Aside0.mk hH
    clear hH
    go_wp2
    go_ret
    obtain ⟨e1, e2⟩ := HS.out q A.out
    exact ⟨by rw [e1]; rfl, q, e2⟩
theorem chord_enter {w : World} {base : Nat} {ok : Nat → Prop} {g n cap : Nat} {l : List S44} (h : Kd.R k44 44 w base ok (.slice (some ⟨g, 0, none⟩) n cap) l) :
  HoldsK encChord 2 w g 0 l.toArray := by
 have hn := (Kd.R_reads' h).1
 intro t ht
 have ht' : t < l.length * 2 := by simpa using ht
 obtain ⟨c, hcl, hM, hcc, hff⟩ := Kd.R_elem h z44 ((t / 2 : Nat) : Int) (by omega) (by omega)
 obtain rfl := k44_openM hM
 have hsz : k44.sz = 2 := rfl
 rw [hsz] at hcc hff
 rw [get_flatK _ _ _ t (by simpa using ht')]
 have e1 : (((t / 2 : Nat) : Int)).toNat = t / 2 := by omega
 rw [e1] at hcc hff
 have e2 : l.toArray[t / 2]! = l.getD (t / 2) z44 := by
  rw [getElem!_pos _ _ (by simp; omega), List.getD_eq_getElem?_getD, List.getElem?_eq_getElem (by omega)]
  simp
 rw [e2, Nat.zero_add]
 rcases Nat.mod_two_eq_zero_or_one t with e | e
 ·have hc := hcc 0 _ rfl
  have hf := hff 0
  rw [show t / 2 * 2 + 0 = t by omega] at hc hf
  rw [e]
  exact ⟨hc, hf⟩
 ·have hc := hcc 1 _ rfl
  have hf := hff 1
  rw [show t / 2 * 2 + 1 = t by omega] at hc hf
  rw [e]
  exact ⟨hc, hf⟩
theorem chord_leave {w : World} {base : Nat} {ok : Nat → Prop} {g m cap : Nat} {cur : Array Value} {l : List S44} (hb : w.heap[g]? = some (.cells cur 44 (0, 0))) (hbase : base ≤ g) (hcur : cur.size = cap * 2) (hmax : cap ≤ maxLen) (hl : l.length = m) (hm : m ≤ cap) (hok : ok g)
  (hH : ∀ t, t < m * 2 → cur[t]? = some (encChord l[t / 2]!)[t % 2]!) :
  Kd.R k44 44 w base ok (.slice (some ⟨g, 0, none⟩) m cap) l := by
 have hinner : (cur.toList.take (m * 2)).length = m * 2 := by
  rw [List.length_take, Array.length_toList]; omega
 refine ⟨fun k hk => ?_, cur.toList.take (m * 2), ?_, ?_⟩
 ·simp [Value.ownBlock] at hk
  exact hk ▸ hok
 ·show w.ownsRow base 44 2 _ l.length _
  rw [hl]
  exact ⟨hinner, .inr ⟨g, cap, cur, rfl, hbase, hb, hm, hmax, hcur, rfl⟩⟩
 ·show Reps _ 2 l _
  refine ⟨by rw [hinner, hl], fun j p hj => ?_⟩
  have hjl : j < l.length := (List.getElem?_eq_some_iff.1 hj).1
  have e : ((cur.toList.take (m * 2)).drop (j * 2)).take 2 = [.int .i64 p.f0, .int .i64 p.f1] := by
   apply List.ext_getElem?
   intro i
   rw [List.getElem?_take, List.getElem?_drop, List.getElem?_take, Array.getElem?_toList]
   by_cases hi : i < 2
   ·rw [if_pos hi, if_pos (by omega), hH _ (by omega)]
    have e3 : l[(j * 2 + i) / 2]! = p := by
     rw [show (j * 2 + i) / 2 = j by omega, getElem!_pos l j hjl]
     rw [List.getElem?_eq_getElem hjl] at hj
     exact Option.some.inj hj
    rw [e3, show (j * 2 + i) % 2 = i by omega]
    rcases (show i = 0 ∨ i = 1 by omega) with rfl | rfl <;> rfl
   ·rw [if_neg hi, List.getElem?_eq_none (by simp; omega)]
  rw [e]
  exact k44_mkM _ _ _ p
theorem putRowK_block {w : World} {g q : Nat} {d : Array S44} {cur : Array Value} (hb : w.heap[g]? = some (.cells cur 44 (0, 0))) (hs : d.size * 2 ≤ cur.size) :
  ∃ cur', (putRowK encChord 2 (Sort.ahead w q) g 0 d).heap[g]? = some (.cells cur' 44 (0, 0)) ∧ cur'.size = cur.size ∧ ∀ t, t < d.size * 2 → cur'[t]? = some (encChord d[t / 2]!)[t % 2]! := by
 refine ⟨putCells id 0 (flatK encChord 2 d) cur, ?_, by simp [putCells], fun t ht => ?_⟩
 ·simp [putRowK, putRow, mapBlock, Sort.ahead, Array.getElem?_modify, hb, onCells]
 ·simp only [putCells, Array.getElem?_mapIdx, Array.getElem?_eq_getElem (show t < cur.size by omega), Option.map_some]
  rw [if_pos (by simp; omega), Nat.sub_zero, get_flatK _ _ _ t ht]
  rfl
theorem putRowK_frame (w : World) (g q : Nat) (d : Array S44) : (putRowK encChord 2 (Sort.ahead w q) g 0 d).heap.size = w.heap.size ∧ ∀ k, k ≠ g → (putRowK encChord 2 (Sort.ahead w q) g 0 d).heap[k]? = w.heap[k]? := by
 refine ⟨by simp [putRowK, putRow, mapBlock, Sort.ahead], fun k hk => ?_⟩
 simp [putRowK, putRow, mapBlock, Sort.ahead, Array.getElem?_modify, Ne.symm hk]
def chordCmp (x y : S44) : Int := if Lib.compareInt x.f0 y.f0 = 0 then Lib.compareInt x.f1 y.f1 else Lib.compareInt x.f0 y.f0
def chordLt (x y : S44) : Bool := decide (x.f0 < y.f0 ∨ (x.f0 = y.f0 ∧ x.f1 < y.f1))
theorem chord_ltOf (x y : S44) : ltOf chordCmp x y = chordLt x y := by
 unfold ltOf chordCmp chordLt Lib.compareInt
 refine decide_eq_decide.2 ?_
 repeat' split
 all_goals omega
theorem chord_swo : SWO (ltOf chordCmp) where
 irrefl x := by rw [chord_ltOf]; simp [chordLt]
 trans x y z h1 h2 := by rw [chord_ltOf] at *; simp [chordLt] at *; omega
 ntrans x y z h1 h2 := by rw [chord_ltOf] at *; simp [chordLt] at *; omega
theorem chord_total (x y : S44) (h1 : ltOf chordCmp x y = false) (h2 : ltOf chordCmp y x = false) : x = y := by
 rw [chord_ltOf] at *
 simp [chordLt] at *
 cases x; cases y
 simp at *
 omega
theorem chord_lays (blk size : Nat) (w : World) : CmpLays Tryz.prog 51 #[] encChord 2 chordCmp blk 0 size w :=
 fun _ _ _ _ x y => compareChords_exact x.f0 x.f1 y.f0 y.f1 _
def ordL (l : List S44) : List S44 := Lib.compact (l.mergeSort fun x y => !chordLt y x)
def impl_ordered.f (l0 : List S44) : Option (List S44) := if l0.length ≤ 1000 then some (ordL l0) else none
theorem compact_empty (A : Option Addr) (c : Nat) (w : World) : Calls Tryz.prog 79 #[.slice A 0 c] w fun e w' => e = .returned (.slice A 0 c) ∧ w' = w := by
 go_enter Tryz.func79, Tryz.ntmps79
 go_wp2
 go_ret
 exact ⟨rfl, rfl⟩
theorem ordered_walk (g cap : Nat) (l : List S44) (w : World) (hH : HoldsK encChord 2 w g 0 l.toArray) (hg : g < w.heap.size) (hl : l.length ≤ 1000) (hcap : l.length ≤ cap) :
  Calls Tryz.prog 59 #[.slice (some ⟨g, 0, none⟩) l.length cap] w fun e w' => e = .returned (.slice (some ⟨g, 0, none⟩) (ordL l).length cap) ∧ ∃ n q os, w' = putRowK encChord 2 (Sort.ahead (sortWorldK encChord 2 w g 0 n (l.mergeSort fun x y => !chordLt y x).toArray os) q) g 0 (ordL l ++ List.replicate (l.length - (ordL l).length) z44).toArray := by
 have eg : ∀ args w, (callFunc 51 args).run Tryz.prog w = .ok (.enter 51 args) w := enters_of Tryz.func51 (by kernel_rfl) rfl
 have hcon := AnyQ.slices_SortFunc_total Tryz.sortChord 2 Tryz.isAgg44 Tryz.sizeOf44 encChord encChord_len encChord_one chordCmp chord_swo 51 #[] g 0 cap l.toArray w eg (chord_lays g _ w) hH hg (by simp; omega) chord_total
 change Calls Tryz.prog 78 _ _ _ at hcon
 have hlt : (fun x y => !(ltOf chordCmp) y x) = fun x y => !chordLt y x := by funext x y; rw [chord_ltOf]
 rw [hlt] at hcon
 simp only [List.size_toArray, List.toList_toArray] at hcon
 obtain ⟨s, hs⟩ : ∃ s, (l.mergeSort fun x y => !chordLt y x) = s := ⟨_, rfl⟩
 have hsl : s.length = l.length := by rw [← hs]; simp
 rw [hs] at hcon ⊢
 have HS := Aside0.mk hs
 have HSL := Aside0.mk hsl
 have HCON := Aside0.mk hcon
 have HH := Aside0.mk hH
 have HCAP := Aside0.mk hcap
 clear hs hsl hcon hH hcap hlt
 go_enter Tryz.func59, Tryz.ntmps59
 go_wp2_with fail
 refine HCON.out.mono ?_
 rintro e w' ⟨rfl, n, os, rfl⟩
 have hHs : HoldsK encChord 2 (sortWorldK encChord 2 w g 0 n s.toArray os) g 0 s.toArray := by
  unfold sortWorldK
  exact holdsK_grow encChord 2 _ os g 0 _ (by rw [size_putRowK]; exact hg) (holdsK_putRowK encChord 2 _ g 0 l.toArray s.toArray HH.out (by simp [HSL.out]))
 have hc := compact_walk g cap s.toArray _ hHs (by simp [HSL.out]; omega) (by simp [HSL.out]; exact HCAP.out)
 simp only [List.size_toArray] at hc
 rw [HSL.out] at hc
 have ho : ordL l = compactUpTo s.toArray l.length := by unfold ordL Lib.compact; rw [HS.out, HSL.out]
 rw [← ho] at hc
 have HC := Aside0.mk hc
 clear hHs hc ho
 obtain ⟨W1, hW1⟩ : ∃ W1, sortWorldK encChord 2 w g 0 n s.toArray os = W1 := ⟨_, rfl⟩
 rw [hW1] at HC ⊢
 have HW1 := Aside0.mk hW1
 clear hW1
 go_wp2_with fail
 refine HC.out.mono ?_
 rintro e w' ⟨rfl, q, rfl⟩
 go_wp2_with fail
 go_ret
 exact ⟨rfl, n, q, os, by rw [HW1.out]⟩
theorem compact_len (d : Array S44) (m : Nat) : (compactUpTo d m).length ≤ m := by
 unfold compactUpTo
 rw [List.length_map]
 exact Nat.le_trans (List.length_filter_le _ _) (by simp)
theorem ordL_len (l : List S44) : (ordL l).length ≤ l.length := by
 unfold ordL Lib.compact
 have := compact_len (l.mergeSort fun x y => !chordLt y x).toArray (l.mergeSort fun x y => !chordLt y x).length
 simp at this
 simpa using this
theorem ordered_empty (A : Option Addr) (c : Nat) (w : World) : Calls Tryz.prog 59 #[.slice A 0 c] w fun e w' => e = .returned (.slice A 0 c) ∧ w' = w := by
 have hcon := fun W => AnyF.slices_SortFunc_none Tryz.sortChord A c (.func (.func 51) #[] #[]) W
 change ∀ W, Calls Tryz.prog 78 _ _ _ at hcon
 have HCON := Aside0.mk hcon
 clear hcon
 go_enter Tryz.func59, Tryz.ntmps59
 go_wp2_with fail
 refine (HCON.out _).mono ?_
 rintro e w' ⟨rfl, rfl⟩
 go_wp2_with fail
 refine (compact_empty _ _ _).mono ?_
 rintro e w' ⟨rfl, rfl⟩
 go_wp2_with fail
 go_ret
 exact ⟨rfl, rfl⟩
theorem impl_ordered.calls (P0_ : Nat → Prop) (u9000_ : Value) (l0 : List S44) (r : List S44) (w0 w : World) (hB : Below w0.heap.size w0 w) (ho0 : Kd.R k44 44 w w0.heap.size P0_ u9000_ l0) (h : impl_ordered.f l0 = some r) :
  Calls Tryz.prog 59 #[u9000_] w fun e w' => ∃ v0_ : Value, e = .returned v0_ ∧ Kd.R k44 44 w' w0.heap.size (fun k_ => (P0_ k_ ∨ w.heap.size ≤ k_)) v0_ r ∧ Below w0.heap.size w0 w' ∧ Kept w w' (fun k_ => P0_ k_) := by
 unfold impl_ordered.f at h
 by_cases hlen : l0.length ≤ 1000
 ·rw [if_pos hlen] at h
  obtain rfl := Option.some.inj h
  clear h
  by_cases h0 : l0.length = 0
  ·obtain rfl : l0 = [] := List.eq_nil_of_length_eq_zero h0
   obtain ⟨A, c, rfl, _, _⟩ := Kd.R_reads ho0
   refine (ordered_empty A c w).mono ?_
   rintro e w' ⟨rfl, rfl⟩
   have e0 : ordL [] = [] := by
    have := ordL_len []
    exact List.eq_nil_of_length_eq_zero (by simpa using this)
   rw [e0]
   exact ⟨_, rfl, Kd.R_mono ho0 (fun k hk => .inl hk), hB, Kept.refl _ _⟩
  ·obtain ⟨g, cap, rfl, hbase, hlt, cells, hcells⟩ := Kd.R_form ho0 (by omega)
   have hcap := (Kd.R_reads' ho0).2.1
   have hP : P0_ g := ho0.1 g rfl
   have hH := chord_enter ho0
   obtain ⟨_, _, hown, _⟩ := ho0
   obtain ⟨cur, hcur, hsize, hmax⟩ : ∃ cur : Array Value, w.heap[g]? = some (.cells cur 44 (0, 0)) ∧ cur.size = cap * 2 ∧ cap ≤ maxLen := by
    rcases hown.2 with ⟨e0, _⟩ | ⟨g', cap', cur, e0, hb, hg, hn, hm, hs, ht⟩
    ·cases e0
    ·injection e0 with e1 _ e3
     injection e1 with e1
     injection e1 with e1
     subst e1; subst e3
     exact ⟨cur, hg, hs, hm⟩
   refine (ordered_walk g cap l0 w hH hlt hlen hcap).mono ?_
   rintro e w' ⟨rfl, n, q, os, rfl⟩
   have hol := ordL_len l0
   have hms : (l0.mergeSort fun x y => !chordLt y x).length = l0.length := by simp
   obtain ⟨f1a, f1b⟩ := putRowK_frame w g n (l0.mergeSort fun x y => !chordLt y x).toArray
   obtain ⟨c1, k1a, k1b, _⟩ := putRowK_block (q := n) (d := (l0.mergeSort fun x y => !chordLt y x).toArray) hcur (by simp; omega)
   have hgrow : ∀ k, k < w.heap.size → (sortWorldK encChord 2 w g 0 n (l0.mergeSort fun x y => !chordLt y x).toArray os).heap[k]? = (putRowK encChord 2 (Sort.ahead w n) g 0 (l0.mergeSort fun x y => !chordLt y x).toArray).heap[k]? := by
    intro k hk
    show ((putRowK encChord 2 (Sort.ahead w n) g 0 _).heap ++ os)[k]? = _
    rw [Array.getElem?_append_left (by omega)]
   have hsz1 : w.heap.size ≤ (sortWorldK encChord 2 w g 0 n (l0.mergeSort fun x y => !chordLt y x).toArray os).heap.size := by
    show w.heap.size ≤ ((putRowK encChord 2 (Sort.ahead w n) g 0 _).heap ++ os).size
    rw [Array.size_append]; omega
   have hosw : (sortWorldK encChord 2 w g 0 n (l0.mergeSort fun x y => !chordLt y x).toArray os).os = w.os ∧ (sortWorldK encChord 2 w g 0 n (l0.mergeSort fun x y => !chordLt y x).toArray os).tape = w.tape ∧ (sortWorldK encChord 2 w g 0 n (l0.mergeSort fun x y => !chordLt y x).toArray os).output = w.output := ⟨rfl, rfl, rfl⟩
   generalize sortWorldK encChord 2 w g 0 n (l0.mergeSort fun x y => !chordLt y x).toArray os = W1 at *
   have hb1 : W1.heap[g]? = some (.cells c1 44 (0, 0)) := by rw [hgrow g hlt]; exact k1a
   obtain ⟨f2a, f2b⟩ := putRowK_frame W1 g q (ordL l0 ++ List.replicate (l0.length - (ordL l0).length) z44).toArray
   obtain ⟨c2, k2a, k2b, k2c⟩ := putRowK_block (q := q) (d := (ordL l0 ++ List.replicate (l0.length - (ordL l0).length) z44).toArray) hb1 (by simp; omega)
   refine ⟨_, rfl, chord_leave k2a hbase (by omega) hmax rfl (by omega) (.inl hP) (fun t ht => ?_), ⟨?_, ?_, ?_, ?_, ?_⟩, ?_, ?_⟩
   ·rw [k2c t (by simp; omega)]
    have e : (ordL l0 ++ List.replicate (l0.length - (ordL l0).length) z44).toArray[t / 2]! = (ordL l0)[t / 2]! := by
     rw [getElem!_pos _ _ (by simp; omega), getElem!_pos (ordL l0) (t / 2) (by omega)]
     simp only [List.getElem_toArray]
     rw [List.getElem_append_left (by omega)]
    rw [e]
   ·exact hosw.1.trans hB.os
   ·exact hosw.2.1.trans hB.tape
   ·exact hosw.2.2.trans hB.output
   ·rw [f2a]; exact Nat.le_trans hB.size hsz1
   ·intro k hk
    have hkw : k < w.heap.size := Nat.lt_of_lt_of_le hk hB.size
    rw [f2b k (by omega), hgrow k hkw, f1b k (by omega)]
    exact hB.block k hk
   ·rw [f2a]; exact hsz1
   ·intro i hi hnP
    have hne : i ≠ g := fun e => hnP (e ▸ hP)
    rw [f2b i hne, hgrow i hi, f1b i hne]
 ·rw [if_neg hlen] at h
  cases h
end
def impl_turned.l0 : Nat → Int → Int → List (S44) → List (S44) → Int → Int → Option ((List (S44)))
 | 0, _, _, _, _, _, _ => none
 | k + 1, x0, x2, x7, x11, x12, x13 => if x13 < x12 then (if 0 ≤ x13 then (if x13 < (x11.length : Int) then (if x0 = 0 then (none) else ((impl_chord.f (Int.tmod (wrap64 (((rd_T44 x11 x13).f0) + x2)) x0) (Int.tmod (wrap64 (((rd_T44 x11 x13).f1) + x2)) x0)).bind fun bt452 => (if x7.length < 8796093022208 then (impl_turned.l0 k x0 x2 (x7 ++ [(⟨bt452.1, bt452.2⟩ : S44)]) x11 x12 (wrap64 (x13 + 1))) else (none)))) else (none)) else (none)) else ((impl_ordered.f x7).bind fun t457 => (some t457))
def impl_turned.f (k : Nat) (a0 : Int) (l1 : List (S44)) (a2 : Int) : Option ((List (S44))) := impl_turned.l0 k a0 a2 (([] : List (S44))) l1 (l1.length : Int) 0
theorem impl_turned.mono_l : ∀ k, (∀ y0 y1 y2 y3 y4 y5, LeO (impl_turned.l0 k y0 y1 y2 y3 y4 y5) (impl_turned.l0 (k + 1) y0 y1 y2 y3 y4 y5))
 | 0 => fun _ _ _ _ _ _ r h => by simp [impl_turned.l0] at h
 | k + 1 => by
  have ih0 := impl_turned.mono_l k
  ·intro y0 y1 y2 y3 y4 y5
   unfold impl_turned.l0
   exact lo_
theorem impl_turned.mono : ∀ a0 a1 a2 k, LeO (impl_turned.f k a0 a1 a2) (impl_turned.f (k + 1) a0 a1 a2) := by
 intro a0 a1 a2 k
 have ih0 := impl_turned.mono_l k
 unfold impl_turned.f
 exact lo_
def impl_turned.T5 : Bool × List (List Nat × List Nat) := (true, [([], []), ([], []), ([1], [1]), ([], []), ([2, 3], [2, 3]), ([], []), ([4, 5], [4, 5]), ([], []), ([7], [7]), ([], []), ([8, 9], [8, 9]), ([], []), ([10, 11], [10, 11]), ([6, 12], [6, 12]), ([13], [13]), ([0, 14, 13], [0, 14]), ([15, 15, 0, 1, 2, 3, 4, 5, 6, 7, 8, 9, 10, 11, 12, 13, 14, 15], [0, 15])])
def impl_turned.B5 : List Nat := [0, 0, 2, 0, 14, 0, 62, 0, 128, 0, 896, 0, 3968, 8190, 16382, 32767, 65535]
theorem impl_turned.tab5 : rtab .any (opsOf Tryz.f55 5) = impl_turned.T5 := by kernel_rfl
theorem impl_turned.bits5 : waitsOk impl_turned.T5.2 impl_turned.B5 = true := by kernel_rfl
theorem impl_turned.calls (k : Nat) (a0 : Int) (A1 : Option Addr) (c1 : Nat) (l1 : List (S44)) (a2 : Int) (r : List (S44)) (w : World) (hr1 : Kd.C k44 w A1 l1.length l1) (hc1 : l1.length ≤ c1) (h : impl_turned.f k a0 l1 a2 = some r) :
  Calls Tryz.prog 55 #[.int .i64 a0, .slice A1 l1.length c1, .int .i64 a2] w fun e w' => ∃ v0_ : Value, e = .returned (v0_) ∧ Kd.R k44 44 w' w.heap.size (fun _ => True) v0_ r ∧ Below w.heap.size w w' := by
 have hu44 := Tryz.underlying44
 have HR1 := Aside0.mk hr1
 have HC1 := Aside0.mk hc1
 clear hr1 hc1
 have HB := Aside0.mk (Below.refl w.heap.size w)
 have H : (impl_turned.l0 k a0 a2 (([] : List (S44))) l1 (l1.length : Int) 0) = some r := h
 clear h
 obtain ⟨y447, hy447⟩ : ∃ y_ : List (S44), y_ = (([] : List (S44))) := ⟨_, rfl⟩
 replace H : (impl_turned.l0 k a0 a2 y447 l1 (l1.length : Int) 0) = some r := by first | (rw [hy447]; with_reducible exact H) | (have H2_ := (Option.bind_some _ _).symm.trans H; rw [hy447]; with_reducible exact H2_) | (have H2_ := (Option.bind_some _ _).symm.trans H; with_reducible exact H2_) | with_reducible exact H | (rw [hy447]; exact H) | exact H
 have Ny447 := Aside0.mk hy447
 clear hy447
 have H' := Aside0.mk H
 clear H
 go_enter Tryz.func55, Tryz.ntmps55
 go_wp2_with (first | ((with_reducible refine gate_dst (N := 10) rfl ?_); refine Kd.R_lit k44 _ 44 ?hg (N := 10) ?hd (xs := ([] : List (S44))) (inner := []) (ok := fun _ => True) (okp := fun _ => True) ?hr ?hp (fun _ hk => hk) trivial (Below.refl _ _) (Nat.le_refl _) (by simp) ?_; (case hd => rfl); (case hg => rfl); (case hr => first | (go_simp; done) | (go_simp; rfl)); (case hp => exact (Reps.none _ _)); intro v448 w4 ho5 hb hg_ hnew_; clear hg_ hnew_; (first | rw [← Ny447.out] at ho5 | (simp only [Int.reduceToNat] at ho5; rw [← Ny447.out] at ho5)); have n0_ := Aside0.mk (Kd.R_lower ho5 (below_size bl_)); have n1_ := Aside0.mk (below_step bl_ hb); clear HB; have HO449 := n0_; have HB := n1_; clear n0_ n1_; clear hb ho5))
 go_loopg [7, 13] k (fun kq v7 v13 w' => ∃ (x7_1 : List (S44)) (x13_1 : Int), v13 = .int .i64 x13_1 ∧ Aside0 (impl_turned.l0 kq a0 a2 x7_1 l1 (l1.length : Int) x13_1 = some r) ∧ Aside0 (kq ≤ k) ∧ Aside0 (Kd.R k44 44 w' w.heap.size (fun _ => True) v7 x7_1) ∧ Aside0 (Below w.heap.size w w'))
 case atStart => exact ⟨(y447), (0), (es_), H', ⟨Nat.le_refl _⟩, ⟨by exact kr_ <| HO449.out⟩, ⟨bl_⟩⟩
 case round =>
  clear H'
  try clear c1
  try clear p2
  try clear c5
  obtain ⟨x7_1, x13_1, rfl, HA, HK1, HO_7, HB⟩ := hrel
  cases gk with
  | zero => exact absurd HA.out (by simp [impl_turned.l0])
  | succ k1 =>
   have H := HA.out
   clear HA
   simp only [impl_turned.l0] at H
   by_cases c6 : x13_1 < (l1.length : Int)
   ·rw [if_pos c6] at H
    have c6b0 : decide (x13_1 < (l1.length : Int)) = true := decide_eq_true c6
    clear c6
    by_cases c7 : 0 ≤ x13_1
    rotate_left
    ·rw [if_neg c7] at H
     exact absurd H (by simp)
    rw [if_pos c7] at H
    have c7b0 : decide (0 ≤ x13_1) = true := decide_eq_true c7
    clear c7
    by_cases c8 : x13_1 < (l1.length : Int)
    rotate_left
    ·rw [if_neg c8] at H
     exact absurd H (by simp)
    rw [if_pos c8] at H
    have c8b0 : decide (x13_1 < (l1.length : Int)) = true := decide_eq_true c8
    clear c8
    by_cases c9 : a0 = 0
    ·rw [if_pos c9] at H
     exact absurd H (by simp)
    ·rw [if_neg c9] at H
     have c9b0 : (a0 == 0) = false := beq_eq_false_iff_ne.mpr c9
     have c9b1 : (a0 != 0) = true := bne_iff_ne.mpr c9
     replace H := Option.bind_eq_some_iff.mp H
     obtain ⟨⟨t452, t453⟩, A100, H⟩ := H
     try dsimp only at H
     have A10 := Aside0.mk A100
     clear A100
     by_cases c11 : x7_1.length < 8796093022208
     rotate_left
     ·rw [if_neg c11] at H
      exact absurd H (by simp)
     rw [if_pos c11] at H
     have LMc11 := Aside0.mk c11
     clear c11
     obtain ⟨y454, hy454⟩ : ∃ y_ : List (S44), y_ = (x7_1 ++ [(⟨t452, t453⟩ : S44)]) := ⟨_, rfl⟩
     replace H : (impl_turned.l0 k1 a0 a2 y454 l1 (l1.length : Int) (wrap64 (x13_1 + 1))) = some r := by first | (rw [hy454]; with_reducible exact H) | (have H2_ := (Option.bind_some _ _).symm.trans H; rw [hy454]; with_reducible exact H2_) | (have H2_ := (Option.bind_some _ _).symm.trans H; with_reducible exact H2_) | with_reducible exact H | (rw [hy454]; exact H) | exact H
     have Ny454 := Aside0.mk hy454
     clear hy454
     have H' := Aside0.mk H
     clear H
     have p450 : 0 ≤ (x13_1 : Int) := od_
     have q450 : x13_1 < (l1.length : Int) := od_
     obtain ⟨ad450, e450, hx450_0, hx450_1⟩ := at_T44 HR1.out x13_1 p450 q450
     cases e450
     replace hx450_0 := (HB.out.cell (World.block_lt_of_cell? w _ hx450_0)).trans hx450_0
     replace hx450_1 := (HB.out.cell (World.block_lt_of_cell? w _ hx450_1)).trans hx450_1
     replace p450 := eq_true p450
     replace q450 := eq_true q450
     try go_wp2_with (first | ((with_reducible refine gate_dst (N := 9) rfl ?_); refine box_event ?hg (N := 9) ?hd (cs := #[.int .i64 0, .int .i64 0]) (t := 44) ?hr ?_; (case hd => rfl); (case hg => rfl); (case hr => first | (go_simp; done) | (go_simp; rfl)); intro gb451 hg w12 hbox hb; have n0_ := Aside0.mk (Kd.R_below (Kd.R_elderB (kr_ <| HO_7.out) gb451 (Nat.le_of_eq hg.symm)) hb); have n1_ := Aside0.mk (below_step bl_ hb); have n2_ := Aside0.mk (hbox); have n3_ := Aside0.mk ((by rw [hg]; exact (below_size bl_) : w.heap.size ≤ gb451)); have n4_ := Aside0.mk ((by rw [hg]; exact (below_size bl_) : w.heap.size ≤ gb451)); clear HO_7; clear HB; have HO_7 := n0_; have HB := n1_; have BK451 := n2_; have GW451 := n3_; have GE451 := n4_; clear n0_ n1_ n2_ n3_ n4_; clear hb hbox hg; have hcz13_0 : w12.cell? ⟨gb451, 0, none⟩ = some (.int .i64 0) := (blk_cell BK451.out 0).trans rfl; have hcz13_1 : w12.cell? ⟨gb451, 1, none⟩ = some (.int .i64 0) := (blk_cell BK451.out 1).trans rfl; have hfz13_0 := blk_frozen BK451.out 0; have hfz13_1 := blk_frozen BK451.out 1))
     have n0_ : Aside0 (Kd.R k44 44 ((w12.setCell ⟨gb451, 0, none⟩ (.int .i64 ((rd_T44 l1 x13_1).f0))).setCell ⟨gb451, 1, none⟩ (.int .i64 ((rd_T44 l1 x13_1).f1))) w.heap.size (fun k_ => k_ ≠ gb451) u7 x7_1) := ⟨by exact kr_ <| Kd.R_mono (Kd.R_far (p := ⟨gb451, 1, none⟩) (Kd.R_far (p := ⟨gb451, 0, none⟩) (Kd.R_mono HO_7.out (fun k_ hk => (⟨hk, hk.2⟩ : _ ∧ k_ ≠ gb451))) (fun _ hk => hk.2) (.int .i64 ((rd_T44 l1 x13_1).f0))) (fun _ hk => hk.2) (.int .i64 ((rd_T44 l1 x13_1).f1))) (fun _ hk => hk.1.2)⟩
     have n1_ : Aside0 (((w12.setCell ⟨gb451, 0, none⟩ (.int .i64 ((rd_T44 l1 x13_1).f0))).setCell ⟨gb451, 1, none⟩ (.int .i64 ((rd_T44 l1 x13_1).f1))).heap[gb451]? = some (.cells #[.int .i64 ((rd_T44 l1 x13_1).f0), .int .i64 ((rd_T44 l1 x13_1).f1)] 44 (0, 0))) := ⟨by (with_reducible repeat (first | refine blk_drewN ?_ _ | refine blk_drew ?_ | refine blk_alloc ?_ _)); refine blk_put (cs := #[.int .i64 ((rd_T44 l1 x13_1).f0), .int .i64 0]) ?_ 1 _ rfl; (with_reducible repeat (first | refine blk_drewN ?_ _ | refine blk_drew ?_ | refine blk_alloc ?_ _)); refine blk_put (cs := #[.int .i64 0, .int .i64 0]) ?_ 0 _ rfl; exact kk_ <| BK451.out⟩
     have n2_ : Aside0 (Below w.heap.size w ((w12.setCell ⟨gb451, 0, none⟩ (.int .i64 ((rd_T44 l1 x13_1).f0))).setCell ⟨gb451, 1, none⟩ (.int .i64 ((rd_T44 l1 x13_1).f1)))) := ⟨bg_⟩
     (try clear HO_7)
     (try clear BK451)
     (try clear HB)
     generalize ((w12.setCell ⟨gb451, 0, none⟩ (.int .i64 ((rd_T44 l1 x13_1).f0))).setCell ⟨gb451, 1, none⟩ (.int .i64 ((rd_T44 l1 x13_1).f1))) = w14 at n0_ n1_ n2_ ⊢
     have HO_7 := n0_
     have BK451 := n1_
     have HB := n2_
     clear n0_ n1_ n2_
     have n0_ := Aside0.mk (Kd.R_drew HO_7.out)
     have n1_ := Aside0.mk (blk_drew BK451.out)
     have n2_ := Aside0.mk (below_drew1 HB.out)
     clear HO_7
     clear BK451
     clear HB
     have HO_7 := n0_
     have BK451 := n1_
     have HB := n2_
     clear n0_ n1_ n2_
     refine start_ (n := 17) (S := fun w' => w'.cell? ⟨gb451, 0, none⟩ = some (.int .i64 ((rd_T44 l1 x13_1).f0)) ∧ w'.cell? ⟨gb451, 1, none⟩ = some (.int .i64 ((rd_T44 l1 x13_1).f1))) (ds := []) #[false, false, false, false, false, false, false, false, false, false, false, false, false, false, false, false, false] (by kernel_rfl) rfl rfl ⟨(blk_cell BK451.out 0).trans rfl, (blk_cell BK451.out 1).trans rfl⟩ (fun hHeld => ?_); refine with_tabW impl_turned.tab5 impl_turned.bits5 (fun HT_ HW_ => ?_)
     generalize w14.drew = w15 at HO_7 BK451 HB hHeld ⊢
     refine pt_ 0 (some 17) HT_ ?_
     refine pt_ 1 (some 18) HT_ ?_
     refine pt_ 3 (some 20) HT_ ?_
     refine pt_ 5 (some 22) HT_ ?_
     refine pt_ 7 (some 24) HT_ ?_
     refine pt_ 9 (some 26) HT_ ?_
     refine pt_ 11 (some 28) HT_ ?_
     refine tb2_ 2 (some 19) HT_ HW_ hHeld ?_
     refine pt_ 4 (some 21) HT_ ?_
     refine pt_ 6 (some 23) HT_ ?_
     refine tb2_ 8 (some 25) HT_ HW_ hHeld ?_
     refine pt_ 10 (some 27) HT_ ?_
     refine pt_ 12 (some 29) HT_ ?_
     refine one_ (i := 13) (N := some 30) #[true, true, true, true, true, true, true, true, true, true, true, true, true, true, false, false, false] rfl rfl (one_of HT_.out (by kernel_rfl)) (by decide) (fun K hK => ?_)
     refine goes_ Tryz.func58 (by kernel_rfl) rfl #[.int .i64 (Int.tmod (wrap64 (((rd_T44 l1 x13_1).f0) + a2)) a0), .int .i64 (Int.tmod (wrap64 (((rd_T44 l1 x13_1).f1) + a2)) a0)] (by rfl) rfl rfl ma_ ?_
     with_reducible refine (impl_chord.calls (Int.tmod (wrap64 (((rd_T44 l1 x13_1).f0) + a2)) a0) (Int.tmod (wrap64 (((rd_T44 l1 x13_1).f1) + a2)) a0) t452 t453 _ A10.out).mono ?_
     rintro e w16 ⟨rfl, hb⟩
     refine ⟨_, rfl, ?_⟩
     have n0_ := Aside0.mk (Kd.R_below (kr_ <| HO_7.out) hb)
     have n1_ := Aside0.mk (blk_below (g := gb451) (o := .cells #[.int .i64 ((rd_T44 l1 x13_1).f0), .int .i64 ((rd_T44 l1 x13_1).f1)] 44 (0, 0)) kb_ hb)
     have n2_ := Aside0.mk (below_step bg_ hb)
     clear HO_7
     clear BK451
     clear HB
     have HO_7 := n0_
     have BK451 := n1_
     have HB := n2_
     clear n0_ n1_ n2_
     (try clear hb)
     (try clear hb2)
     (try clear hk)
     (try clear hi)
     refine hK.out _ _ ⟨(blk_cell BK451.out 0).trans rfl, (blk_cell BK451.out 1).trans rfl⟩ (fun hHeld => ?_)
     clear hK K
     refine nm_ (some 30) ?_
     refine one_ (i := 14) (N := some 31) #[true, true, true, true, true, true, true, true, true, true, true, true, true, true, true, false, false] rfl rfl (one_of HT_.out (by kernel_rfl)) (by decide) (fun K hK => ?_)
     refine value_ (w1 := ?_) (v := ?_) (by rfl) rfl ?_ ?_
     rotate_left 2
     ·go_simp
      constructor
      ·rfl
      ·rfl
     refine hK.out _ _ ⟨(blk_cell (blk_alloc BK451.out _) 0).trans rfl, (blk_cell (blk_alloc BK451.out _) 1).trans rfl⟩ (fun hHeld => ?_)
     clear hK K
     refine nm_ (some 31) ?_
     refine one_ (i := 15) (N := some 32) #[true, true, true, true, true, true, true, true, true, true, true, true, true, true, true, true, false] rfl rfl (one_of HT_.out (by kernel_rfl)) (by decide) (fun K hK => ?_)
     refine Kd.R_append_step k44 (w0 := w) w.heap.size (by rfl) (.tmp 17) (.tmp 31) 24 44 (.agg #[(.int .i64 0), (.int .i64 0)]) 16 rfl Tryz.underlying24 info44 rfl (by decide) (by omega) u7 x7_1 (⟨t452, t453⟩ : S44) [.int .i64 t452, .int .i64 t453] (fun k_ => k_ ≠ gb451) (fun _ => False) rfl rfl ?aP (fun _ hk => hk.elim) ?aF ?aO ?aB ?aS ?aL ?_
     (case aP => exact k44_mkM _ _ _ (⟨t452, t453⟩ : S44))
     (case aB => exact bg_)
     (case aF => exact (fun k_ hk => Kd.freshB (g := gb451) (o := .cells #[.int .i64 ((rd_T44 l1 x13_1).f0), .int .i64 ((rd_T44 l1 x13_1).f1)] 44 (0, 0)) kb_ k_ hk))
     (case aO => exact (kr_ <| HO_7.out))
     (case aS => exact (below_size bg_))
     (case aL => have := LMc11.out; omega)
     intro v455 w17 ho hb hg hat
     rw [← Ny454.out] at ho
     have n0_ := Aside0.mk (blk_grown (g := gb451) (o := .cells #[.int .i64 ((rd_T44 l1 x13_1).f0), .int .i64 ((rd_T44 l1 x13_1).f1)] 44 (0, 0)) kb_ hg (Kd.R_away HO_7.out (fun _ hk => hk)))
     have n1_ := Aside0.mk (hb)
     have n2_ := Aside0.mk (ho)
     clear BK451
     clear HB
     clear HO_7
     have BK451 := n0_
     have HB := n1_
     have HO456 := n2_
     clear n0_ n1_ n2_
     clear ho hb hg hat
     refine hK.out _ _ ⟨(blk_cell BK451.out 0).trans rfl, (blk_cell BK451.out 1).trans rfl⟩ (fun hHeld => ?_)
     clear hK K
     refine nm_ (some 32) ?_
     refine pt_ 16 (some 7) HT_ ?_
     refine done_ (done_of HT_.out (by kernel_rfl)) ?_
     try go_wp2
     go_roundg k1
     case measure => have := HK1.out; omega
     case rel => exact ⟨(y454), (wrap64 (x13_1 + 1)), (es_), H', ⟨by have := HK1.out; omega⟩, ⟨by exact kr_ <| Kd.R_mono HO456.out (fun _ hk => trivial)⟩, ⟨bg_⟩⟩
   ·rw [if_neg c6] at H
    have c6b0 : decide (x13_1 < (l1.length : Int)) = false := decide_eq_false c6
    clear c6
    replace H := Option.bind_eq_some_iff.mp H
    obtain ⟨t457, A180, H⟩ := H
    try dsimp only at H
    have A18 := Aside0.mk A180
    clear A180
    obtain rfl := Option.some.inj H
    obtain ⟨Ao19, co19, eo19⟩ := Kd.R_slice HO_7.out
    subst eo19
    go_wp2_with (first | ((with_reducible refine gate_callee (f := 59) rfl ?_); refine goesL_ (some 35) rfl rfl Tryz.func59 (by kernel_rfl) rfl #[.slice Ao19 x7_1.length co19] rfl ma_ ?_; (with_reducible refine (impl_ordered.calls (fun k_ => some k_ = (.slice Ao19 x7_1.length co19 : Value).ownBlock) (.slice Ao19 x7_1.length co19) x7_1 t457 w _ ?side1 ?side2 A18.out).mono ?_); (case side1 => repeat (first | (with_reducible first | exact HB.out | apply below_alloc | apply pw_below_drewN | apply below_drew1) | exact HB.out)); (case side2 => exact Kd.R_tight rfl HO_7.out); rintro e w20 ⟨v458, rfl, ho0, hb, hkp⟩; refine ⟨_, rfl, ?_⟩; have n0_ := Aside0.mk (Kd.R_mono (ok' := fun k_ => True) ho0 (fun k_ hk_ => trivial)); have n1_ := Aside0.mk (hb); clear HB; clear HO_7; have HO459 := n0_; have HB := n1_; clear n0_ n1_; (try clear hb); (try clear hkp); (try clear ho0)))
    go_ret
    exact ⟨_, ew_, by exact kr_ <| HO459.out, bl_⟩
def impl_TurnChords.f (k : Nat) (a0 : Int) (l1 : List (S44)) (a2 : Int) : Option ((List (S44)) × Bool) := (impl_isSet.f k a0 l1).bind fun t460 => (if t460 = true then ((impl_within.f a2 0 (wrap64 (a0 - 1))).bind fun t461 => (if t461 = true then ((impl_turned.f k a0 l1 a2).bind fun t462 => (some (t462, true))) else (some (([] : List (S44)), false)))) else (some (([] : List (S44)), false)))
theorem impl_TurnChords.mono : ∀ a0 a1 a2 k, LeO (impl_TurnChords.f k a0 a1 a2) (impl_TurnChords.f (k + 1) a0 a1 a2) := by
 intro a0 a1 a2 k
 unfold impl_TurnChords.f
 have m0_ := @impl_isSet.mono
 have m1_ := @impl_turned.mono
 exact lo_
theorem impl_TurnChords.calls (k : Nat) (a0 : Int) (A1 : Option Addr) (c1 : Nat) (l1 : List (S44)) (a2 : Int) (r1 : List (S44)) (r2 : Bool) (w : World) (hr1 : Kd.C k44 w A1 l1.length l1) (hc1 : l1.length ≤ c1) (h : impl_TurnChords.f k a0 l1 a2 = some (r1, r2)) :
  Calls Tryz.prog 28 #[.int .i64 a0, .slice A1 l1.length c1, .int .i64 a2] w fun e w' => ∃ v0_ : Value, e = .returned (.tuple #[v0_, .bool r2]) ∧ Kd.R k44 44 w' w.heap.size (fun _ => True) v0_ r1 ∧ Below w.heap.size w w' := by
 have HR1 := Aside0.mk hr1
 have HC1 := Aside0.mk hc1
 clear hr1 hc1
 have HB := Aside0.mk (Below.refl w.heap.size w)
 have H : ((impl_isSet.f k a0 l1).bind fun t460 => (if t460 = true then ((impl_within.f a2 0 (wrap64 (a0 - 1))).bind fun t461 => (if t461 = true then ((impl_turned.f k a0 l1 a2).bind fun t462 => (some (t462, true))) else (some (([] : List (S44)), false)))) else (some (([] : List (S44)), false)))) = some (r1, r2) := h
 clear h
 replace H := Option.bind_eq_some_iff.mp H
 obtain ⟨t460, A40, H⟩ := H
 try dsimp only at H
 have A4 := Aside0.mk A40
 clear A40
 by_cases c5 : t460 = true
 ·subst c5
  have H1 : ((impl_within.f a2 0 (wrap64 (a0 - 1))).bind fun t461 => (if t461 = true then ((impl_turned.f k a0 l1 a2).bind fun t462 => (some (t462, true))) else (some (([] : List (S44)), false)))) = some (r1, r2) := by rw [if_pos rfl] at H; exact H
  clear H
  have H := H1
  clear H1
  replace H := Option.bind_eq_some_iff.mp H
  obtain ⟨t461, A60, H⟩ := H
  try dsimp only at H
  have A6 := Aside0.mk A60
  clear A60
  by_cases c7 : t461 = true
  ·subst c7
   have H1 : ((impl_turned.f k a0 l1 a2).bind fun t462 => (some (t462, true))) = some (r1, r2) := by rw [if_pos rfl] at H; exact H
   clear H
   have H := H1
   clear H1
   replace H := Option.bind_eq_some_iff.mp H
   obtain ⟨t462, A80, H⟩ := H
   try dsimp only at H
   have A8 := Aside0.mk A80
   clear A80
   simp only [Option.some.injEq, Prod.mk.injEq] at H
   obtain ⟨rfl, rfl⟩ := H
   go_enter Tryz.func28, Tryz.ntmps28
   go_wp2_with (first | ((with_reducible refine gate_callee (f := 34) rfl ?_); refine goesL_ (some 10) rfl rfl Tryz.func34 (by kernel_rfl) rfl #[.int .i64 a0, .slice A1 l1.length c1] rfl ma_ ?_; (with_reducible refine (impl_isSet.calls k a0 _ _ l1 true _ ?side1 ?side2 A4.out).mono ?_); (case side1 => exact kc_ <| HR1.out); (case side2 => exact HC1.out); rintro e w9 ⟨rfl, hb⟩; refine ⟨_, rfl, ?_⟩; have n0_ := Aside0.mk (below_step bl_ hb); clear HB; have HB := n0_; clear n0_; (try clear hb); (try clear hb2); (try clear hk); (try clear hi)) | (go_at_call 49; (with_reducible refine (impl_within.calls a2 0 (wrap64 (a0 - 1)) true _ A6.out).mono ?_); rintro e w' ⟨rfl, ⟨nd, rfl⟩⟩) | ((with_reducible refine gate_callee (f := 55) rfl ?_); refine goesL_ (some 22) rfl rfl Tryz.func55 (by kernel_rfl) rfl #[.int .i64 a0, .slice A1 l1.length c1, .int .i64 a2] rfl ma_ ?_; (with_reducible refine (impl_turned.calls k a0 _ _ l1 a2 t462 _ ?side1 ?side2 A8.out).mono ?_); (case side1 => exact kc_ <| (Kd.C_below HR1.out bl_)); (case side2 => exact HC1.out); rintro e w10 ⟨v463, rfl, ho0, hb⟩; refine ⟨_, rfl, ?_⟩; have n0_ := Aside0.mk (Kd.R_lower ho0 (below_size bl_)); have n1_ := Aside0.mk (below_step bl_ hb); clear HB; have HO464 := n0_; have HB := n1_; clear n0_ n1_; (try clear hb); (try clear hb2); (try clear hk); (try clear hi); (try clear ho0)))
   go_ret2
   exact ⟨_, ew_, by exact kr_ <| HO464.out, bl_⟩
  ·replace c7 := Bool.eq_false_iff.mpr c7
   subst c7
   have H1 : (some (([] : List (S44)), false)) = some (r1, r2) := by rw [if_neg (show ¬ (false = true) by decide)] at H; exact H
   clear H
   have H := H1
   clear H1
   simp only [Option.some.injEq, Prod.mk.injEq] at H
   obtain ⟨rfl, rfl⟩ := H
   go_enter Tryz.func28, Tryz.ntmps28
   go_wp2_with (first | ((with_reducible refine gate_callee (f := 34) rfl ?_); refine goesL_ (some 10) rfl rfl Tryz.func34 (by kernel_rfl) rfl #[.int .i64 a0, .slice A1 l1.length c1] rfl ma_ ?_; (with_reducible refine (impl_isSet.calls k a0 _ _ l1 true _ ?side1 ?side2 A4.out).mono ?_); (case side1 => exact kc_ <| HR1.out); (case side2 => exact HC1.out); rintro e w11 ⟨rfl, hb⟩; refine ⟨_, rfl, ?_⟩; have n0_ := Aside0.mk (below_step bl_ hb); clear HB; have HB := n0_; clear n0_; (try clear hb); (try clear hb2); (try clear hk); (try clear hi)) | (go_at_call 49; (with_reducible refine (impl_within.calls a2 0 (wrap64 (a0 - 1)) false _ A6.out).mono ?_); rintro e w' ⟨rfl, ⟨nd, rfl⟩⟩))
   go_ret2
   exact ⟨_, ew_, by first | exact Kd.R_nil _ _ _ _ _ | exact Kd.N_nil _ _ _ _ _ | exact Kd.V_nil _ _ _ _ _ | exact Kd.Q_nil _ _ _ _ _ | exact Kd.S_nil _ _ _ _ _, bl_⟩
 ·replace c5 := Bool.eq_false_iff.mpr c5
  subst c5
  have H1 : (some (([] : List (S44)), false)) = some (r1, r2) := by rw [if_neg (show ¬ (false = true) by decide)] at H; exact H
  clear H
  have H := H1
  clear H1
  simp only [Option.some.injEq, Prod.mk.injEq] at H
  obtain ⟨rfl, rfl⟩ := H
  go_enter Tryz.func28, Tryz.ntmps28
  go_wp2_with (first | ((with_reducible refine gate_callee (f := 34) rfl ?_); refine goesL_ (some 10) rfl rfl Tryz.func34 (by kernel_rfl) rfl #[.int .i64 a0, .slice A1 l1.length c1] rfl ma_ ?_; (with_reducible refine (impl_isSet.calls k a0 _ _ l1 false _ ?side1 ?side2 A4.out).mono ?_); (case side1 => exact kc_ <| HR1.out); (case side2 => exact HC1.out); rintro e w12 ⟨rfl, hb⟩; refine ⟨_, rfl, ?_⟩; have n0_ := Aside0.mk (below_step bl_ hb); clear HB; have HB := n0_; clear n0_; (try clear hb); (try clear hb2); (try clear hk); (try clear hi)))
  go_ret2
  exact ⟨_, ew_, by first | exact Kd.R_nil _ _ _ _ _ | exact Kd.N_nil _ _ _ _ _ | exact Kd.V_nil _ _ _ _ _ | exact Kd.Q_nil _ _ _ _ _ | exact Kd.S_nil _ _ _ _ _, bl_⟩
def spec_cdTurn.l0 : Nat → Int → Int → List (S44) → List (S44) → Int → Int → Option ((List (S44)))
 | 0, _, _, _, _, _, _ => none
 | k + 1, x0, x2, x7, x10, x11, x12 => if x12 < x11 then (if 0 ≤ x12 then (if x12 < (x10.length : Int) then (if x0 = 0 then (none) else ((spec_srChord.f (Int.tmod (wrap64 (((rd_T44 x10 x12).f0) + x2)) x0) (Int.tmod (wrap64 (((rd_T44 x10 x12).f1) + x2)) x0)).bind fun bt467 => ((spec_srPut.f k x7 bt467.1 bt467.2).bind fun t469 => (spec_cdTurn.l0 k x0 x2 t469 x10 x11 (wrap64 (x12 + 1)))))) else (none)) else (none)) else (some x7)
def spec_cdTurn.f (k : Nat) (a0 : Int) (l1 : List (S44)) (a2 : Int) : Option ((List (S44))) := spec_cdTurn.l0 k a0 a2 ([] : List (S44)) l1 (l1.length : Int) 0
theorem spec_cdTurn.mono_l : ∀ k, (∀ y0 y1 y2 y3 y4 y5, LeO (spec_cdTurn.l0 k y0 y1 y2 y3 y4 y5) (spec_cdTurn.l0 (k + 1) y0 y1 y2 y3 y4 y5))
 | 0 => fun _ _ _ _ _ _ r h => by simp [spec_cdTurn.l0] at h
 | k + 1 => by
  have ih0 := spec_cdTurn.mono_l k
  ·intro y0 y1 y2 y3 y4 y5
   unfold spec_cdTurn.l0
   have m0_ := @spec_srPut.mono
   exact lo_
theorem spec_cdTurn.mono : ∀ a0 a1 a2 k, LeO (spec_cdTurn.f k a0 a1 a2) (spec_cdTurn.f (k + 1) a0 a1 a2) := by
 intro a0 a1 a2 k
 have ih0 := spec_cdTurn.mono_l k
 unfold spec_cdTurn.f
 have m0_ := @spec_srPut.mono
 exact lo_
def spec_cdTurn.T5 : Bool × List (List Nat × List Nat) := (true, [([], []), ([], []), ([1], [1]), ([], []), ([2, 3], [2, 3]), ([], []), ([4, 5], [4, 5]), ([], []), ([7], [7]), ([], []), ([8, 9], [8, 9]), ([], []), ([10, 11], [10, 11]), ([6, 12], [6, 12]), ([0, 13, 13], [0, 13]), ([14, 14, 0, 1, 2, 3, 4, 5, 6, 7, 8, 9, 10, 11, 12, 13, 14], [0, 14])])
def spec_cdTurn.B5 : List Nat := [0, 0, 2, 0, 14, 0, 62, 0, 128, 0, 896, 0, 3968, 8190, 16383, 32767]
theorem spec_cdTurn.tab5 : rtab .any (opsOf Tryz.f57 5) = spec_cdTurn.T5 := by kernel_rfl
theorem spec_cdTurn.bits5 : waitsOk spec_cdTurn.T5.2 spec_cdTurn.B5 = true := by kernel_rfl
theorem spec_cdTurn.calls (k : Nat) (a0 : Int) (A1 : Option Addr) (c1 : Nat) (l1 : List (S44)) (a2 : Int) (r : List (S44)) (w : World) (hr1 : Kd.C k44 w A1 l1.length l1) (hc1 : l1.length ≤ c1) (h : spec_cdTurn.f k a0 l1 a2 = some r) :
  Calls Tryz.prog 57 #[.int .i64 a0, .slice A1 l1.length c1, .int .i64 a2] w fun e w' => ∃ v0_ : Value, e = .returned (v0_) ∧ Kd.R k44 44 w' w.heap.size (fun _ => True) v0_ r ∧ Below w.heap.size w w' := by
 have hu44 := Tryz.underlying44
 have HR1 := Aside0.mk hr1
 have HC1 := Aside0.mk hc1
 clear hr1 hc1
 have HB := Aside0.mk (Below.refl w.heap.size w)
 have H : (spec_cdTurn.l0 k a0 a2 ([] : List (S44)) l1 (l1.length : Int) 0) = some r := h
 clear h
 have H' := Aside0.mk H
 clear H
 go_enter Tryz.func57, Tryz.ntmps57
 go_wp2
 go_loopg [7, 12] k (fun kq v7 v12 w' => ∃ (x7_1 : List (S44)) (x12_1 : Int), v12 = .int .i64 x12_1 ∧ Aside0 (spec_cdTurn.l0 kq a0 a2 x7_1 l1 (l1.length : Int) x12_1 = some r) ∧ Aside0 (kq ≤ k) ∧ Aside0 (Kd.R k44 44 w' w.heap.size (fun _ => True) v7 x7_1) ∧ Aside0 (Below w.heap.size w w'))
 case atStart => exact ⟨(([] : List (S44))), (0), (es_), H', ⟨Nat.le_refl _⟩, ⟨by first | exact Kd.R_nil _ _ _ _ _ | exact Kd.N_nil _ _ _ _ _ | exact Kd.V_nil _ _ _ _ _ | exact Kd.Q_nil _ _ _ _ _ | exact Kd.S_nil _ _ _ _ _⟩, ⟨bl_⟩⟩
 case round =>
  clear H'
  try clear c1
  try clear p2
  obtain ⟨x7_1, x12_1, rfl, HA, HK1, HO_7, HB⟩ := hrel
  cases gk with
  | zero => exact absurd HA.out (by simp [spec_cdTurn.l0])
  | succ k1 =>
   have H := HA.out
   clear HA
   simp only [spec_cdTurn.l0] at H
   by_cases c4 : x12_1 < (l1.length : Int)
   ·rw [if_pos c4] at H
    have c4b0 : decide (x12_1 < (l1.length : Int)) = true := decide_eq_true c4
    clear c4
    by_cases c5 : 0 ≤ x12_1
    rotate_left
    ·rw [if_neg c5] at H
     exact absurd H (by simp)
    rw [if_pos c5] at H
    have c5b0 : decide (0 ≤ x12_1) = true := decide_eq_true c5
    clear c5
    by_cases c6 : x12_1 < (l1.length : Int)
    rotate_left
    ·rw [if_neg c6] at H
     exact absurd H (by simp)
    rw [if_pos c6] at H
    have c6b0 : decide (x12_1 < (l1.length : Int)) = true := decide_eq_true c6
    clear c6
    by_cases c7 : a0 = 0
    ·rw [if_pos c7] at H
     exact absurd H (by simp)
    ·rw [if_neg c7] at H
     have c7b0 : (a0 == 0) = false := beq_eq_false_iff_ne.mpr c7
     have c7b1 : (a0 != 0) = true := bne_iff_ne.mpr c7
     replace H := Option.bind_eq_some_iff.mp H
     obtain ⟨⟨t467, t468⟩, A80, H⟩ := H
     try dsimp only at H
     have A8 := Aside0.mk A80
     clear A80
     replace H := Option.bind_eq_some_iff.mp H
     obtain ⟨t469, A90, H⟩ := H
     try dsimp only at H
     have A9 := Aside0.mk A90
     clear A90
     have H' := Aside0.mk H
     clear H
     have p465 : 0 ≤ (x12_1 : Int) := od_
     have q465 : x12_1 < (l1.length : Int) := od_
     obtain ⟨ad465, e465, hx465_0, hx465_1⟩ := at_T44 HR1.out x12_1 p465 q465
     cases e465
     replace hx465_0 := (HB.out.cell (World.block_lt_of_cell? w _ hx465_0)).trans hx465_0
     replace hx465_1 := (HB.out.cell (World.block_lt_of_cell? w _ hx465_1)).trans hx465_1
     replace p465 := eq_true p465
     replace q465 := eq_true q465
     try go_wp2_with (first | ((with_reducible refine gate_dst (N := 9) rfl ?_); refine box_event ?hg (N := 9) ?hd (cs := #[.int .i64 0, .int .i64 0]) (t := 44) ?hr ?_; (case hd => rfl); (case hg => rfl); (case hr => first | (go_simp; done) | (go_simp; rfl)); intro gb466 hg w10 hbox hb; have n0_ := Aside0.mk (Kd.R_below (Kd.R_elderB (kr_ <| HO_7.out) gb466 (Nat.le_of_eq hg.symm)) hb); have n1_ := Aside0.mk (below_step bl_ hb); have n2_ := Aside0.mk (hbox); have n3_ := Aside0.mk ((by rw [hg]; exact (below_size bl_) : w.heap.size ≤ gb466)); have n4_ := Aside0.mk ((by rw [hg]; exact (below_size bl_) : w.heap.size ≤ gb466)); clear HO_7; clear HB; have HO_7 := n0_; have HB := n1_; have BK466 := n2_; have GW466 := n3_; have GE466 := n4_; clear n0_ n1_ n2_ n3_ n4_; clear hb hbox hg; have hcz11_0 : w10.cell? ⟨gb466, 0, none⟩ = some (.int .i64 0) := (blk_cell BK466.out 0).trans rfl; have hcz11_1 : w10.cell? ⟨gb466, 1, none⟩ = some (.int .i64 0) := (blk_cell BK466.out 1).trans rfl; have hfz11_0 := blk_frozen BK466.out 0; have hfz11_1 := blk_frozen BK466.out 1))
     have n0_ : Aside0 (Kd.R k44 44 ((w10.setCell ⟨gb466, 0, none⟩ (.int .i64 ((rd_T44 l1 x12_1).f0))).setCell ⟨gb466, 1, none⟩ (.int .i64 ((rd_T44 l1 x12_1).f1))) w.heap.size (fun k_ => k_ ≠ gb466) u7 x7_1) := ⟨by exact kr_ <| Kd.R_mono (Kd.R_far (p := ⟨gb466, 1, none⟩) (Kd.R_far (p := ⟨gb466, 0, none⟩) (Kd.R_mono HO_7.out (fun k_ hk => (⟨hk, hk.2⟩ : _ ∧ k_ ≠ gb466))) (fun _ hk => hk.2) (.int .i64 ((rd_T44 l1 x12_1).f0))) (fun _ hk => hk.2) (.int .i64 ((rd_T44 l1 x12_1).f1))) (fun _ hk => hk.1.2)⟩
     have n1_ : Aside0 (((w10.setCell ⟨gb466, 0, none⟩ (.int .i64 ((rd_T44 l1 x12_1).f0))).setCell ⟨gb466, 1, none⟩ (.int .i64 ((rd_T44 l1 x12_1).f1))).heap[gb466]? = some (.cells #[.int .i64 ((rd_T44 l1 x12_1).f0), .int .i64 ((rd_T44 l1 x12_1).f1)] 44 (0, 0))) := ⟨by (with_reducible repeat (first | refine blk_drewN ?_ _ | refine blk_drew ?_ | refine blk_alloc ?_ _)); refine blk_put (cs := #[.int .i64 ((rd_T44 l1 x12_1).f0), .int .i64 0]) ?_ 1 _ rfl; (with_reducible repeat (first | refine blk_drewN ?_ _ | refine blk_drew ?_ | refine blk_alloc ?_ _)); refine blk_put (cs := #[.int .i64 0, .int .i64 0]) ?_ 0 _ rfl; exact kk_ <| BK466.out⟩
     have n2_ : Aside0 (Below w.heap.size w ((w10.setCell ⟨gb466, 0, none⟩ (.int .i64 ((rd_T44 l1 x12_1).f0))).setCell ⟨gb466, 1, none⟩ (.int .i64 ((rd_T44 l1 x12_1).f1)))) := ⟨bg_⟩
     (try clear HO_7)
     (try clear BK466)
     (try clear HB)
     generalize ((w10.setCell ⟨gb466, 0, none⟩ (.int .i64 ((rd_T44 l1 x12_1).f0))).setCell ⟨gb466, 1, none⟩ (.int .i64 ((rd_T44 l1 x12_1).f1))) = w12 at n0_ n1_ n2_ ⊢
     have HO_7 := n0_
     have BK466 := n1_
     have HB := n2_
     clear n0_ n1_ n2_
     have n0_ := Aside0.mk (Kd.R_drew HO_7.out)
     have n1_ := Aside0.mk (blk_drew BK466.out)
     have n2_ := Aside0.mk (below_drew1 HB.out)
     clear HO_7
     clear BK466
     clear HB
     have HO_7 := n0_
     have BK466 := n1_
     have HB := n2_
     clear n0_ n1_ n2_
     refine start_ (n := 16) (S := fun w' => w'.cell? ⟨gb466, 0, none⟩ = some (.int .i64 ((rd_T44 l1 x12_1).f0)) ∧ w'.cell? ⟨gb466, 1, none⟩ = some (.int .i64 ((rd_T44 l1 x12_1).f1))) (ds := []) #[false, false, false, false, false, false, false, false, false, false, false, false, false, false, false, false] (by kernel_rfl) rfl rfl ⟨(blk_cell BK466.out 0).trans rfl, (blk_cell BK466.out 1).trans rfl⟩ (fun hHeld => ?_); refine with_tabW spec_cdTurn.tab5 spec_cdTurn.bits5 (fun HT_ HW_ => ?_)
     generalize w12.drew = w13 at HO_7 BK466 HB hHeld ⊢
     refine pt_ 0 (some 16) HT_ ?_
     refine pt_ 1 (some 17) HT_ ?_
     refine pt_ 3 (some 19) HT_ ?_
     refine pt_ 5 (some 21) HT_ ?_
     refine pt_ 7 (some 23) HT_ ?_
     refine pt_ 9 (some 25) HT_ ?_
     refine pt_ 11 (some 27) HT_ ?_
     refine tb2_ 2 (some 18) HT_ HW_ hHeld ?_
     refine pt_ 4 (some 20) HT_ ?_
     refine pt_ 6 (some 22) HT_ ?_
     refine tb2_ 8 (some 24) HT_ HW_ hHeld ?_
     refine pt_ 10 (some 26) HT_ ?_
     refine pt_ 12 (some 28) HT_ ?_
     refine one_ (i := 13) (N := some 29) #[true, true, true, true, true, true, true, true, true, true, true, true, true, true, false, false] rfl rfl (one_of HT_.out (by kernel_rfl)) (by decide) (fun K hK => ?_)
     refine goes_ Tryz.func61 (by kernel_rfl) rfl #[.int .i64 (Int.tmod (wrap64 (((rd_T44 l1 x12_1).f0) + a2)) a0), .int .i64 (Int.tmod (wrap64 (((rd_T44 l1 x12_1).f1) + a2)) a0)] (by rfl) rfl rfl ma_ ?_
     with_reducible refine (spec_srChord.calls (Int.tmod (wrap64 (((rd_T44 l1 x12_1).f0) + a2)) a0) (Int.tmod (wrap64 (((rd_T44 l1 x12_1).f1) + a2)) a0) t467 t468 _ A8.out).mono ?_
     rintro e w14 ⟨rfl, hb⟩
     refine ⟨_, rfl, ?_⟩
     have n0_ := Aside0.mk (Kd.R_below (kr_ <| HO_7.out) hb)
     have n1_ := Aside0.mk (blk_below (g := gb466) (o := .cells #[.int .i64 ((rd_T44 l1 x12_1).f0), .int .i64 ((rd_T44 l1 x12_1).f1)] 44 (0, 0)) kb_ hb)
     have n2_ := Aside0.mk (below_step bg_ hb)
     clear HO_7
     clear BK466
     clear HB
     have HO_7 := n0_
     have BK466 := n1_
     have HB := n2_
     clear n0_ n1_ n2_
     (try clear hb)
     (try clear hb2)
     (try clear hk)
     (try clear hi)
     obtain ⟨Ao15, co15, eo15⟩ := Kd.R_slice HO_7.out
     (first | subst eo15 | (injection eo15 with f1_ f2_ f3_; have f4_ := f1_.symm; have f5_ := f3_.symm; clear f1_ f2_ f3_; subst f4_; subst f5_))
     refine hK.out _ _ ⟨(blk_cell BK466.out 0).trans rfl, (blk_cell BK466.out 1).trans rfl⟩ (fun hHeld => ?_)
     clear hK K
     refine nm_ (some 29) ?_
     refine one_ (i := 14) (N := some 30) #[true, true, true, true, true, true, true, true, true, true, true, true, true, true, true, false] rfl rfl (one_of HT_.out (by kernel_rfl)) (by decide) (fun K hK => ?_)
     refine goes_ Tryz.func60 (by kernel_rfl) rfl #[.slice Ao15 x7_1.length co15, .agg #[.int .i64 t467, .int .i64 t468]] (by rfl) rfl rfl ma_ ?_
     with_reducible refine (spec_srPut.calls k1 (fun k_ => some k_ = (.slice Ao15 x7_1.length co15 : Value).ownBlock) (.slice Ao15 x7_1.length co15) x7_1 t467 t468 t469 w _ ?side1 ?side2 A9.out).mono ?_
     (case side1 => exact bg_)
     (case side2 => exact Kd.R_tight rfl HO_7.out)
     rintro e w16 ⟨v470, rfl, ho0, hb, hkp⟩
     refine ⟨_, rfl, ?_⟩
     have n0_ := Aside0.mk (blk_kept kb_ hkp (fun hs_ => (fun e_ => (Kd.R_away HO_7.out (fun _ hk => hk)) e_) hs_))
     have n1_ := Aside0.mk (Kd.R_mono (ok' := fun k_ => k_ ≠ gb466) ho0 (fun k_ hk_ => Or.elim hk_ (fun hs_ => fun e_ => (Kd.R_away HO_7.out (fun _ hk => hk)) (by rw [← e_]; exact hs_)) (fun hn_ => (Kd.freshB (g := gb466) (o := .cells #[.int .i64 ((rd_T44 l1 x12_1).f0), .int .i64 ((rd_T44 l1 x12_1).f1)] 44 (0, 0)) kb_ k_ hn_))))
     have n2_ := Aside0.mk (hb)
     clear BK466
     clear HB
     clear HO_7
     have BK466 := n0_
     have HO471 := n1_
     have HB := n2_
     clear n0_ n1_ n2_
     (try clear hb)
     (try clear hkp)
     (try clear ho0)
     refine hK.out _ _ ⟨(blk_cell BK466.out 0).trans rfl, (blk_cell BK466.out 1).trans rfl⟩ (fun hHeld => ?_)
     clear hK K
     refine nm_ (some 30) ?_
     refine pt_ 15 (some 7) HT_ ?_
     refine done_ (done_of HT_.out (by kernel_rfl)) ?_
     try go_wp2
     go_roundg k1
     case measure => have := HK1.out; omega
     case rel => exact ⟨(t469), (wrap64 (x12_1 + 1)), (es_), H', ⟨by have := HK1.out; omega⟩, ⟨by exact kr_ <| Kd.R_mono HO471.out (fun _ hk => trivial)⟩, ⟨bg_⟩⟩
   ·rw [if_neg c4] at H
    have c4b0 : decide (x12_1 < (l1.length : Int)) = false := decide_eq_false c4
    clear c4
    obtain rfl := Option.some.inj H
    go_wp2
    go_ret
    exact ⟨_, ew_, by exact kr_ <| HO_7.out, bl_⟩
def spec_TurnChords.f (k : Nat) (a0 : Int) (l1 : List (S44)) (a2 : Int) : Option ((List (S44)) × Bool) := (spec_cdGood.f k a0 l1).bind fun t472 => (if t472 = true then ((spec_l1In.f a2 0 (wrap64 (a0 - 1))).bind fun t473 => (if t473 = true then ((spec_cdTurn.f k a0 l1 a2).bind fun t474 => (some (t474, true))) else (some (([] : List (S44)), false)))) else (some (([] : List (S44)), false)))
theorem spec_TurnChords.mono : ∀ a0 a1 a2 k, LeO (spec_TurnChords.f k a0 a1 a2) (spec_TurnChords.f (k + 1) a0 a1 a2) := by
 intro a0 a1 a2 k
 unfold spec_TurnChords.f
 have m0_ := @spec_cdGood.mono
 have m1_ := @spec_cdTurn.mono
 exact lo_
theorem spec_TurnChords.calls (k : Nat) (a0 : Int) (A1 : Option Addr) (c1 : Nat) (l1 : List (S44)) (a2 : Int) (r1 : List (S44)) (r2 : Bool) (w : World) (hr1 : Kd.C k44 w A1 l1.length l1) (hc1 : l1.length ≤ c1) (h : spec_TurnChords.f k a0 l1 a2 = some (r1, r2)) :
  Calls Tryz.prog 29 #[.int .i64 a0, .slice A1 l1.length c1, .int .i64 a2] w fun e w' => ∃ v0_ : Value, e = .returned (.tuple #[v0_, .bool r2]) ∧ Kd.R k44 44 w' w.heap.size (fun _ => True) v0_ r1 ∧ Below w.heap.size w w' := by
 have HR1 := Aside0.mk hr1
 have HC1 := Aside0.mk hc1
 clear hr1 hc1
 have HB := Aside0.mk (Below.refl w.heap.size w)
 have H : ((spec_cdGood.f k a0 l1).bind fun t472 => (if t472 = true then ((spec_l1In.f a2 0 (wrap64 (a0 - 1))).bind fun t473 => (if t473 = true then ((spec_cdTurn.f k a0 l1 a2).bind fun t474 => (some (t474, true))) else (some (([] : List (S44)), false)))) else (some (([] : List (S44)), false)))) = some (r1, r2) := h
 clear h
 replace H := Option.bind_eq_some_iff.mp H
 obtain ⟨t472, A40, H⟩ := H
 try dsimp only at H
 have A4 := Aside0.mk A40
 clear A40
 by_cases c5 : t472 = true
 ·subst c5
  have H1 : ((spec_l1In.f a2 0 (wrap64 (a0 - 1))).bind fun t473 => (if t473 = true then ((spec_cdTurn.f k a0 l1 a2).bind fun t474 => (some (t474, true))) else (some (([] : List (S44)), false)))) = some (r1, r2) := by rw [if_pos rfl] at H; exact H
  clear H
  have H := H1
  clear H1
  replace H := Option.bind_eq_some_iff.mp H
  obtain ⟨t473, A60, H⟩ := H
  try dsimp only at H
  have A6 := Aside0.mk A60
  clear A60
  by_cases c7 : t473 = true
  ·subst c7
   have H1 : ((spec_cdTurn.f k a0 l1 a2).bind fun t474 => (some (t474, true))) = some (r1, r2) := by rw [if_pos rfl] at H; exact H
   clear H
   have H := H1
   clear H1
   replace H := Option.bind_eq_some_iff.mp H
   obtain ⟨t474, A80, H⟩ := H
   try dsimp only at H
   have A8 := Aside0.mk A80
   clear A80
   simp only [Option.some.injEq, Prod.mk.injEq] at H
   obtain ⟨rfl, rfl⟩ := H
   go_enter Tryz.func29, Tryz.ntmps29
   go_wp2_with (first | ((with_reducible refine gate_callee (f := 36) rfl ?_); refine goesL_ (some 10) rfl rfl Tryz.func36 (by kernel_rfl) rfl #[.int .i64 a0, .slice A1 l1.length c1] rfl ma_ ?_; (with_reducible refine (spec_cdGood.calls k a0 _ _ l1 true _ ?side1 ?side2 A4.out).mono ?_); (case side1 => exact kc_ <| HR1.out); (case side2 => exact HC1.out); rintro e w9 ⟨rfl, hb⟩; refine ⟨_, rfl, ?_⟩; have n0_ := Aside0.mk (below_step bl_ hb); clear HB; have HB := n0_; clear n0_; (try clear hb); (try clear hb2); (try clear hk); (try clear hi)) | (go_at_call 56; (with_reducible refine (spec_l1In.calls a2 0 (wrap64 (a0 - 1)) true _ A6.out).mono ?_); rintro e w' ⟨rfl, ⟨nd, rfl⟩⟩) | ((with_reducible refine gate_callee (f := 57) rfl ?_); refine goesL_ (some 22) rfl rfl Tryz.func57 (by kernel_rfl) rfl #[.int .i64 a0, .slice A1 l1.length c1, .int .i64 a2] rfl ma_ ?_; (with_reducible refine (spec_cdTurn.calls k a0 _ _ l1 a2 t474 _ ?side1 ?side2 A8.out).mono ?_); (case side1 => exact kc_ <| (Kd.C_below HR1.out bl_)); (case side2 => exact HC1.out); rintro e w10 ⟨v475, rfl, ho0, hb⟩; refine ⟨_, rfl, ?_⟩; have n0_ := Aside0.mk (Kd.R_lower ho0 (below_size bl_)); have n1_ := Aside0.mk (below_step bl_ hb); clear HB; have HO476 := n0_; have HB := n1_; clear n0_ n1_; (try clear hb); (try clear hb2); (try clear hk); (try clear hi); (try clear ho0)))
   go_ret2
   exact ⟨_, ew_, by exact kr_ <| HO476.out, bl_⟩
  ·replace c7 := Bool.eq_false_iff.mpr c7
   subst c7
   have H1 : (some (([] : List (S44)), false)) = some (r1, r2) := by rw [if_neg (show ¬ (false = true) by decide)] at H; exact H
   clear H
   have H := H1
   clear H1
   simp only [Option.some.injEq, Prod.mk.injEq] at H
   obtain ⟨rfl, rfl⟩ := H
   go_enter Tryz.func29, Tryz.ntmps29
   go_wp2_with (first | ((with_reducible refine gate_callee (f := 36) rfl ?_); refine goesL_ (some 10) rfl rfl Tryz.func36 (by kernel_rfl) rfl #[.int .i64 a0, .slice A1 l1.length c1] rfl ma_ ?_; (with_reducible refine (spec_cdGood.calls k a0 _ _ l1 true _ ?side1 ?side2 A4.out).mono ?_); (case side1 => exact kc_ <| HR1.out); (case side2 => exact HC1.out); rintro e w11 ⟨rfl, hb⟩; refine ⟨_, rfl, ?_⟩; have n0_ := Aside0.mk (below_step bl_ hb); clear HB; have HB := n0_; clear n0_; (try clear hb); (try clear hb2); (try clear hk); (try clear hi)) | (go_at_call 56; (with_reducible refine (spec_l1In.calls a2 0 (wrap64 (a0 - 1)) false _ A6.out).mono ?_); rintro e w' ⟨rfl, ⟨nd, rfl⟩⟩))
   go_ret2
   exact ⟨_, ew_, by first | exact Kd.R_nil _ _ _ _ _ | exact Kd.N_nil _ _ _ _ _ | exact Kd.V_nil _ _ _ _ _ | exact Kd.Q_nil _ _ _ _ _ | exact Kd.S_nil _ _ _ _ _, bl_⟩
 ·replace c5 := Bool.eq_false_iff.mpr c5
  subst c5
  have H1 : (some (([] : List (S44)), false)) = some (r1, r2) := by rw [if_neg (show ¬ (false = true) by decide)] at H; exact H
  clear H
  have H := H1
  clear H1
  simp only [Option.some.injEq, Prod.mk.injEq] at H
  obtain ⟨rfl, rfl⟩ := H
  go_enter Tryz.func29, Tryz.ntmps29
  go_wp2_with (first | ((with_reducible refine gate_callee (f := 36) rfl ?_); refine goesL_ (some 10) rfl rfl Tryz.func36 (by kernel_rfl) rfl #[.int .i64 a0, .slice A1 l1.length c1] rfl ma_ ?_; (with_reducible refine (spec_cdGood.calls k a0 _ _ l1 false _ ?side1 ?side2 A4.out).mono ?_); (case side1 => exact kc_ <| HR1.out); (case side2 => exact HC1.out); rintro e w12 ⟨rfl, hb⟩; refine ⟨_, rfl, ?_⟩; have n0_ := Aside0.mk (below_step bl_ hb); clear HB; have HB := n0_; clear n0_; (try clear hb); (try clear hb2); (try clear hk); (try clear hi)))
  go_ret2
  exact ⟨_, ew_, by first | exact Kd.R_nil _ _ _ _ _ | exact Kd.N_nil _ _ _ _ _ | exact Kd.V_nil _ _ _ _ _ | exact Kd.Q_nil _ _ _ _ _ | exact Kd.S_nil _ _ _ _ _, bl_⟩
def impl_MirrorChords.l0 : Nat → Int → List (S44) → List (S44) → Int → Int → Option ((List (S44)) × Bool)
 | 0, _, _, _, _, _ => none
 | k + 1, x0, x6, x14, x15, x16 => if x16 < x15 then (if 0 ≤ x16 then (if x16 < (x14.length : Int) then (if x0 = 0 then (none) else ((impl_chord.f (Int.tmod (wrap64 (x0 - ((rd_T44 x14 x16).f0))) x0) (wrap64 (x0 - ((rd_T44 x14 x16).f1)))).bind fun bt483 => (if x6.length < 8796093022208 then (impl_MirrorChords.l0 k x0 (x6 ++ [(⟨bt483.1, bt483.2⟩ : S44)]) x14 x15 (wrap64 (x16 + 1))) else (none)))) else (none)) else (none)) else ((impl_ordered.f x6).bind fun t488 => (some (t488, true)))
def impl_MirrorChords.f (k : Nat) (a0 : Int) (l1 : List (S44)) : Option ((List (S44)) × Bool) := (impl_isSet.f k a0 l1).bind fun t477 => (if t477 = true then (impl_MirrorChords.l0 k a0 (([] : List (S44))) l1 (l1.length : Int) 0) else (some (([] : List (S44)), false)))
theorem impl_MirrorChords.mono_l : ∀ k, (∀ y0 y1 y2 y3 y4, LeO (impl_MirrorChords.l0 k y0 y1 y2 y3 y4) (impl_MirrorChords.l0 (k + 1) y0 y1 y2 y3 y4))
 | 0 => fun _ _ _ _ _ r h => by simp [impl_MirrorChords.l0] at h
 | k + 1 => by
  have ih0 := impl_MirrorChords.mono_l k
  ·intro y0 y1 y2 y3 y4
   unfold impl_MirrorChords.l0
   have m0_ := @impl_isSet.mono
   exact lo_
theorem impl_MirrorChords.mono : ∀ a0 a1 k, LeO (impl_MirrorChords.f k a0 a1) (impl_MirrorChords.f (k + 1) a0 a1) := by
 intro a0 a1 k
 have ih0 := impl_MirrorChords.mono_l k
 unfold impl_MirrorChords.f
 have m0_ := @impl_isSet.mono
 exact lo_
def impl_MirrorChords.T7 : Bool × List (List Nat × List Nat) := (true, [([], []), ([], []), ([], []), ([2], [2]), ([1, 3], [1, 3]), ([], []), ([4, 5], [4, 5]), ([], []), ([], []), ([8], [8]), ([7, 9], [7, 9]), ([6, 10], [6, 10]), ([11], [11]), ([0, 12, 11], [0, 12]), ([13, 13, 0, 1, 2, 3, 4, 5, 6, 7, 8, 9, 10, 11, 12, 13], [0, 13])])
def impl_MirrorChords.B7 : List Nat := [0, 0, 0, 4, 14, 0, 62, 0, 0, 256, 896, 2046, 4094, 8191, 16383]
theorem impl_MirrorChords.tab7 : rtab .any (opsOf Tryz.f30 7) = impl_MirrorChords.T7 := by kernel_rfl
theorem impl_MirrorChords.bits7 : waitsOk impl_MirrorChords.T7.2 impl_MirrorChords.B7 = true := by kernel_rfl
theorem impl_MirrorChords.calls (k : Nat) (a0 : Int) (A1 : Option Addr) (c1 : Nat) (l1 : List (S44)) (r1 : List (S44)) (r2 : Bool) (w : World) (hr1 : Kd.C k44 w A1 l1.length l1) (hc1 : l1.length ≤ c1) (h : impl_MirrorChords.f k a0 l1 = some (r1, r2)) :
  Calls Tryz.prog 30 #[.int .i64 a0, .slice A1 l1.length c1] w fun e w' => ∃ v0_ : Value, e = .returned (.tuple #[v0_, .bool r2]) ∧ Kd.R k44 44 w' w.heap.size (fun _ => True) v0_ r1 ∧ Below w.heap.size w w' := by
 have hu44 := Tryz.underlying44
 have HR1 := Aside0.mk hr1
 have HC1 := Aside0.mk hc1
 clear hr1 hc1
 have HB := Aside0.mk (Below.refl w.heap.size w)
 have H : ((impl_isSet.f k a0 l1).bind fun t477 => (if t477 = true then (impl_MirrorChords.l0 k a0 (([] : List (S44))) l1 (l1.length : Int) 0) else (some (([] : List (S44)), false)))) = some (r1, r2) := h
 clear h
 replace H := Option.bind_eq_some_iff.mp H
 obtain ⟨t477, A30, H⟩ := H
 try dsimp only at H
 have A3 := Aside0.mk A30
 clear A30
 by_cases c4 : t477 = true
 ·subst c4
  have H1 : (impl_MirrorChords.l0 k a0 (([] : List (S44))) l1 (l1.length : Int) 0) = some (r1, r2) := by rw [if_pos rfl] at H; exact H
  clear H
  have H := H1
  clear H1
  obtain ⟨y478, hy478⟩ : ∃ y_ : List (S44), y_ = (([] : List (S44))) := ⟨_, rfl⟩
  replace H : (impl_MirrorChords.l0 k a0 y478 l1 (l1.length : Int) 0) = some (r1, r2) := by first | (rw [hy478]; with_reducible exact H) | (have H2_ := (Option.bind_some _ _).symm.trans H; rw [hy478]; with_reducible exact H2_) | (have H2_ := (Option.bind_some _ _).symm.trans H; with_reducible exact H2_) | with_reducible exact H | (rw [hy478]; exact H) | exact H
  have Ny478 := Aside0.mk hy478
  clear hy478
  have H' := Aside0.mk H
  clear H
  go_enter Tryz.func30, Tryz.ntmps30
  go_wp2_with (first | ((with_reducible refine gate_callee (f := 34) rfl ?_); refine goesL_ (some 11) rfl rfl Tryz.func34 (by kernel_rfl) rfl #[.int .i64 a0, .slice A1 l1.length c1] rfl ma_ ?_; (with_reducible refine (impl_isSet.calls k a0 _ _ l1 true _ ?side1 ?side2 A3.out).mono ?_); (case side1 => exact kc_ <| HR1.out); (case side2 => exact HC1.out); rintro e w5 ⟨rfl, hb⟩; refine ⟨_, rfl, ?_⟩; have n0_ := Aside0.mk (below_step bl_ hb); clear HB; have HB := n0_; clear n0_; (try clear hb); (try clear hb2); (try clear hk); (try clear hi)) | ((with_reducible refine gate_dst (N := 13) rfl ?_); refine Kd.R_lit k44 _ 44 ?hg (N := 13) ?hd (xs := ([] : List (S44))) (inner := []) (ok := fun _ => True) (okp := fun _ => True) ?hr ?hp (fun _ hk => hk) trivial (Below.refl _ _) (Nat.le_refl _) (by simp) ?_; (case hd => rfl); (case hg => rfl); (case hr => first | (go_simp; done) | (go_simp; rfl)); (case hp => exact (Reps.none _ _)); intro v479 w6 ho7 hb hg_ hnew_; clear hg_ hnew_; (first | rw [← Ny478.out] at ho7 | (simp only [Int.reduceToNat] at ho7; rw [← Ny478.out] at ho7)); have n0_ := Aside0.mk (Kd.R_lower ho7 (below_size bl_)); have n1_ := Aside0.mk (below_step bl_ hb); clear HB; have HO480 := n0_; have HB := n1_; clear n0_ n1_; clear hb ho7))
  go_loopg [6, 16] k (fun kq v6 v16 w' => ∃ (x6_1 : List (S44)) (x16_1 : Int), v16 = .int .i64 x16_1 ∧ Aside0 (impl_MirrorChords.l0 kq a0 x6_1 l1 (l1.length : Int) x16_1 = some (r1, r2)) ∧ Aside0 (kq ≤ k) ∧ Aside0 (Kd.R k44 44 w' w.heap.size (fun _ => True) v6 x6_1) ∧ Aside0 (Below w.heap.size w w'))
  case atStart => exact ⟨(y478), (0), (es_), H', ⟨Nat.le_refl _⟩, ⟨by exact kr_ <| HO480.out⟩, ⟨bl_⟩⟩
  case round =>
   clear H'
   try clear c1
   try clear p2
   try clear c3
   try clear c4
   obtain ⟨x6_1, x16_1, rfl, HA, HK1, HO_6, HB⟩ := hrel
   cases gk with
   | zero => exact absurd HA.out (by simp [impl_MirrorChords.l0])
   | succ k1 =>
    have H := HA.out
    clear HA
    simp only [impl_MirrorChords.l0] at H
    by_cases c8 : x16_1 < (l1.length : Int)
    ·rw [if_pos c8] at H
     have c8b0 : decide (x16_1 < (l1.length : Int)) = true := decide_eq_true c8
     clear c8
     by_cases c9 : 0 ≤ x16_1
     rotate_left
     ·rw [if_neg c9] at H
      exact absurd H (by simp)
     rw [if_pos c9] at H
     have c9b0 : decide (0 ≤ x16_1) = true := decide_eq_true c9
     clear c9
     by_cases c10 : x16_1 < (l1.length : Int)
     rotate_left
     ·rw [if_neg c10] at H
      exact absurd H (by simp)
     rw [if_pos c10] at H
     have c10b0 : decide (x16_1 < (l1.length : Int)) = true := decide_eq_true c10
     clear c10
     by_cases c11 : a0 = 0
     ·rw [if_pos c11] at H
      exact absurd H (by simp)
     ·rw [if_neg c11] at H
      have c11b0 : (a0 == 0) = false := beq_eq_false_iff_ne.mpr c11
      have c11b1 : (a0 != 0) = true := bne_iff_ne.mpr c11
      replace H := Option.bind_eq_some_iff.mp H
      obtain ⟨⟨t483, t484⟩, A120, H⟩ := H
      try dsimp only at H
      have A12 := Aside0.mk A120
      clear A120
      by_cases c13 : x6_1.length < 8796093022208
      rotate_left
      ·rw [if_neg c13] at H
       exact absurd H (by simp)
      rw [if_pos c13] at H
      have LMc13 := Aside0.mk c13
      clear c13
      obtain ⟨y485, hy485⟩ : ∃ y_ : List (S44), y_ = (x6_1 ++ [(⟨t483, t484⟩ : S44)]) := ⟨_, rfl⟩
      replace H : (impl_MirrorChords.l0 k1 a0 y485 l1 (l1.length : Int) (wrap64 (x16_1 + 1))) = some (r1, r2) := by first | (rw [hy485]; with_reducible exact H) | (have H2_ := (Option.bind_some _ _).symm.trans H; rw [hy485]; with_reducible exact H2_) | (have H2_ := (Option.bind_some _ _).symm.trans H; with_reducible exact H2_) | with_reducible exact H | (rw [hy485]; exact H) | exact H
      have Ny485 := Aside0.mk hy485
      clear hy485
      have H' := Aside0.mk H
      clear H
      have p481 : 0 ≤ (x16_1 : Int) := od_
      have q481 : x16_1 < (l1.length : Int) := od_
      obtain ⟨ad481, e481, hx481_0, hx481_1⟩ := at_T44 HR1.out x16_1 p481 q481
      cases e481
      replace hx481_0 := (HB.out.cell (World.block_lt_of_cell? w _ hx481_0)).trans hx481_0
      replace hx481_1 := (HB.out.cell (World.block_lt_of_cell? w _ hx481_1)).trans hx481_1
      replace p481 := eq_true p481
      replace q481 := eq_true q481
      try go_wp2_with (first | ((with_reducible refine gate_dst (N := 8) rfl ?_); refine box_event ?hg (N := 8) ?hd (cs := #[.int .i64 0, .int .i64 0]) (t := 44) ?hr ?_; (case hd => rfl); (case hg => rfl); (case hr => first | (go_simp; done) | (go_simp; rfl)); intro gb482 hg w14 hbox hb; have n0_ := Aside0.mk (Kd.R_below (Kd.R_elderB (kr_ <| HO_6.out) gb482 (Nat.le_of_eq hg.symm)) hb); have n1_ := Aside0.mk (below_step bl_ hb); have n2_ := Aside0.mk (hbox); have n3_ := Aside0.mk ((by rw [hg]; exact (below_size bl_) : w.heap.size ≤ gb482)); have n4_ := Aside0.mk ((by rw [hg]; exact (below_size bl_) : w.heap.size ≤ gb482)); clear HO_6; clear HB; have HO_6 := n0_; have HB := n1_; have BK482 := n2_; have GW482 := n3_; have GE482 := n4_; clear n0_ n1_ n2_ n3_ n4_; clear hb hbox hg; have hcz15_0 : w14.cell? ⟨gb482, 0, none⟩ = some (.int .i64 0) := (blk_cell BK482.out 0).trans rfl; have hcz15_1 : w14.cell? ⟨gb482, 1, none⟩ = some (.int .i64 0) := (blk_cell BK482.out 1).trans rfl; have hfz15_0 := blk_frozen BK482.out 0; have hfz15_1 := blk_frozen BK482.out 1))
      have n0_ : Aside0 (Kd.R k44 44 ((w14.setCell ⟨gb482, 0, none⟩ (.int .i64 ((rd_T44 l1 x16_1).f0))).setCell ⟨gb482, 1, none⟩ (.int .i64 ((rd_T44 l1 x16_1).f1))) w.heap.size (fun k_ => k_ ≠ gb482) u6 x6_1) := ⟨by exact kr_ <| Kd.R_mono (Kd.R_far (p := ⟨gb482, 1, none⟩) (Kd.R_far (p := ⟨gb482, 0, none⟩) (Kd.R_mono HO_6.out (fun k_ hk => (⟨hk, hk.2⟩ : _ ∧ k_ ≠ gb482))) (fun _ hk => hk.2) (.int .i64 ((rd_T44 l1 x16_1).f0))) (fun _ hk => hk.2) (.int .i64 ((rd_T44 l1 x16_1).f1))) (fun _ hk => hk.1.2)⟩
      have n1_ : Aside0 (((w14.setCell ⟨gb482, 0, none⟩ (.int .i64 ((rd_T44 l1 x16_1).f0))).setCell ⟨gb482, 1, none⟩ (.int .i64 ((rd_T44 l1 x16_1).f1))).heap[gb482]? = some (.cells #[.int .i64 ((rd_T44 l1 x16_1).f0), .int .i64 ((rd_T44 l1 x16_1).f1)] 44 (0, 0))) := ⟨by (with_reducible repeat (first | refine blk_drewN ?_ _ | refine blk_drew ?_ | refine blk_alloc ?_ _)); refine blk_put (cs := #[.int .i64 ((rd_T44 l1 x16_1).f0), .int .i64 0]) ?_ 1 _ rfl; (with_reducible repeat (first | refine blk_drewN ?_ _ | refine blk_drew ?_ | refine blk_alloc ?_ _)); refine blk_put (cs := #[.int .i64 0, .int .i64 0]) ?_ 0 _ rfl; exact kk_ <| BK482.out⟩
      have n2_ : Aside0 (Below w.heap.size w ((w14.setCell ⟨gb482, 0, none⟩ (.int .i64 ((rd_T44 l1 x16_1).f0))).setCell ⟨gb482, 1, none⟩ (.int .i64 ((rd_T44 l1 x16_1).f1)))) := ⟨bg_⟩
      (try clear HO_6)
      (try clear BK482)
      (try clear HB)
      generalize ((w14.setCell ⟨gb482, 0, none⟩ (.int .i64 ((rd_T44 l1 x16_1).f0))).setCell ⟨gb482, 1, none⟩ (.int .i64 ((rd_T44 l1 x16_1).f1))) = w16 at n0_ n1_ n2_ ⊢
      have HO_6 := n0_
      have BK482 := n1_
      have HB := n2_
      clear n0_ n1_ n2_
      have n0_ := Aside0.mk (Kd.R_drew HO_6.out)
      have n1_ := Aside0.mk (blk_drew BK482.out)
      have n2_ := Aside0.mk (below_drew1 HB.out)
      clear HO_6
      clear BK482
      clear HB
      have HO_6 := n0_
      have BK482 := n1_
      have HB := n2_
      clear n0_ n1_ n2_
      refine start_ (n := 15) (S := fun w' => w'.cell? ⟨gb482, 0, none⟩ = some (.int .i64 ((rd_T44 l1 x16_1).f0)) ∧ w'.cell? ⟨gb482, 1, none⟩ = some (.int .i64 ((rd_T44 l1 x16_1).f1))) (ds := []) #[false, false, false, false, false, false, false, false, false, false, false, false, false, false, false] (by kernel_rfl) rfl rfl ⟨(blk_cell BK482.out 0).trans rfl, (blk_cell BK482.out 1).trans rfl⟩ (fun hHeld => ?_); refine with_tabW impl_MirrorChords.tab7 impl_MirrorChords.bits7 (fun HT_ HW_ => ?_)
      generalize w16.drew = w17 at HO_6 BK482 HB hHeld ⊢
      refine pt_ 0 (some 20) HT_ ?_
      refine pt_ 1 (some 21) HT_ ?_
      refine pt_ 2 (some 22) HT_ ?_
      refine pt_ 5 (some 25) HT_ ?_
      refine pt_ 7 (some 27) HT_ ?_
      refine pt_ 8 (some 28) HT_ ?_
      refine tb2_ 3 (some 23) HT_ HW_ hHeld ?_
      refine pt_ 4 (some 24) HT_ ?_
      refine pt_ 6 (some 26) HT_ ?_
      refine tb2_ 9 (some 29) HT_ HW_ hHeld ?_
      refine pt_ 10 (some 30) HT_ ?_
      refine one_ (i := 11) (N := some 31) #[true, true, true, true, true, true, true, true, true, true, true, true, false, false, false] rfl rfl (one_of HT_.out (by kernel_rfl)) (by decide) (fun K hK => ?_)
      refine goes_ Tryz.func58 (by kernel_rfl) rfl #[.int .i64 (Int.tmod (wrap64 (a0 - ((rd_T44 l1 x16_1).f0))) a0), .int .i64 (wrap64 (a0 - ((rd_T44 l1 x16_1).f1)))] (by rfl) rfl rfl ma_ ?_
      with_reducible refine (impl_chord.calls (Int.tmod (wrap64 (a0 - ((rd_T44 l1 x16_1).f0))) a0) (wrap64 (a0 - ((rd_T44 l1 x16_1).f1))) t483 t484 _ A12.out).mono ?_
      rintro e w18 ⟨rfl, hb⟩
      refine ⟨_, rfl, ?_⟩
      have n0_ := Aside0.mk (Kd.R_below (kr_ <| HO_6.out) hb)
      have n1_ := Aside0.mk (blk_below (g := gb482) (o := .cells #[.int .i64 ((rd_T44 l1 x16_1).f0), .int .i64 ((rd_T44 l1 x16_1).f1)] 44 (0, 0)) kb_ hb)
      have n2_ := Aside0.mk (below_step bg_ hb)
      clear HO_6
      clear BK482
      clear HB
      have HO_6 := n0_
      have BK482 := n1_
      have HB := n2_
      clear n0_ n1_ n2_
      (try clear hb)
      (try clear hb2)
      (try clear hk)
      (try clear hi)
      refine hK.out _ _ ⟨(blk_cell BK482.out 0).trans rfl, (blk_cell BK482.out 1).trans rfl⟩ (fun hHeld => ?_)
      clear hK K
      refine nm_ (some 31) ?_
      refine one_ (i := 12) (N := some 32) #[true, true, true, true, true, true, true, true, true, true, true, true, true, false, false] rfl rfl (one_of HT_.out (by kernel_rfl)) (by decide) (fun K hK => ?_)
      refine value_ (w1 := ?_) (v := ?_) (by rfl) rfl ?_ ?_
      rotate_left 2
      ·go_simp
       constructor
       ·rfl
       ·rfl
      refine hK.out _ _ ⟨(blk_cell (blk_alloc BK482.out _) 0).trans rfl, (blk_cell (blk_alloc BK482.out _) 1).trans rfl⟩ (fun hHeld => ?_)
      clear hK K
      refine nm_ (some 32) ?_
      refine one_ (i := 13) (N := some 33) #[true, true, true, true, true, true, true, true, true, true, true, true, true, true, false] rfl rfl (one_of HT_.out (by kernel_rfl)) (by decide) (fun K hK => ?_)
      refine Kd.R_append_step k44 (w0 := w) w.heap.size (by rfl) (.tmp 20) (.tmp 32) 24 44 (.agg #[(.int .i64 0), (.int .i64 0)]) 16 rfl Tryz.underlying24 info44 rfl (by decide) (by omega) u6 x6_1 (⟨t483, t484⟩ : S44) [.int .i64 t483, .int .i64 t484] (fun k_ => k_ ≠ gb482) (fun _ => False) rfl rfl ?aP (fun _ hk => hk.elim) ?aF ?aO ?aB ?aS ?aL ?_
      (case aP => exact k44_mkM _ _ _ (⟨t483, t484⟩ : S44))
      (case aB => exact bg_)
      (case aF => exact (fun k_ hk => Kd.freshB (g := gb482) (o := .cells #[.int .i64 ((rd_T44 l1 x16_1).f0), .int .i64 ((rd_T44 l1 x16_1).f1)] 44 (0, 0)) kb_ k_ hk))
      (case aO => exact (kr_ <| HO_6.out))
      (case aS => exact (below_size bg_))
      (case aL => have := LMc13.out; omega)
      intro v486 w19 ho hb hg hat
      rw [← Ny485.out] at ho
      have n0_ := Aside0.mk (blk_grown (g := gb482) (o := .cells #[.int .i64 ((rd_T44 l1 x16_1).f0), .int .i64 ((rd_T44 l1 x16_1).f1)] 44 (0, 0)) kb_ hg (Kd.R_away HO_6.out (fun _ hk => hk)))
      have n1_ := Aside0.mk (hb)
      have n2_ := Aside0.mk (ho)
      clear BK482
      clear HB
      clear HO_6
      have BK482 := n0_
      have HB := n1_
      have HO487 := n2_
      clear n0_ n1_ n2_
      clear ho hb hg hat
      refine hK.out _ _ ⟨(blk_cell BK482.out 0).trans rfl, (blk_cell BK482.out 1).trans rfl⟩ (fun hHeld => ?_)
      clear hK K
      refine nm_ (some 33) ?_
      refine pt_ 14 (some 6) HT_ ?_
      refine done_ (done_of HT_.out (by kernel_rfl)) ?_
      try go_wp2
      go_roundg k1
      case measure => have := HK1.out; omega
      case rel => exact ⟨(y485), (wrap64 (x16_1 + 1)), (es_), H', ⟨by have := HK1.out; omega⟩, ⟨by exact kr_ <| Kd.R_mono HO487.out (fun _ hk => trivial)⟩, ⟨bg_⟩⟩
    ·rw [if_neg c8] at H
     have c8b0 : decide (x16_1 < (l1.length : Int)) = false := decide_eq_false c8
     clear c8
     replace H := Option.bind_eq_some_iff.mp H
     obtain ⟨t488, A200, H⟩ := H
     try dsimp only at H
     have A20 := Aside0.mk A200
     clear A200
     simp only [Option.some.injEq, Prod.mk.injEq] at H
     obtain ⟨rfl, rfl⟩ := H
     obtain ⟨Ao21, co21, eo21⟩ := Kd.R_slice HO_6.out
     subst eo21
     go_wp2_with (first | ((with_reducible refine gate_callee (f := 59) rfl ?_); refine goesL_ (some 36) rfl rfl Tryz.func59 (by kernel_rfl) rfl #[.slice Ao21 x6_1.length co21] rfl ma_ ?_; (with_reducible refine (impl_ordered.calls (fun k_ => some k_ = (.slice Ao21 x6_1.length co21 : Value).ownBlock) (.slice Ao21 x6_1.length co21) x6_1 t488 w _ ?side1 ?side2 A20.out).mono ?_); (case side1 => repeat (first | (with_reducible first | exact HB.out | apply below_alloc | apply pw_below_drewN | apply below_drew1) | exact HB.out)); (case side2 => exact Kd.R_tight rfl HO_6.out); rintro e w22 ⟨v489, rfl, ho0, hb, hkp⟩; refine ⟨_, rfl, ?_⟩; have n0_ := Aside0.mk (Kd.R_mono (ok' := fun k_ => True) ho0 (fun k_ hk_ => trivial)); have n1_ := Aside0.mk (hb); clear HB; clear HO_6; have HO490 := n0_; have HB := n1_; clear n0_ n1_; (try clear hb); (try clear hkp); (try clear ho0)))
     go_ret2
     exact ⟨_, ew_, by exact kr_ <| HO490.out, bl_⟩
 ·replace c4 := Bool.eq_false_iff.mpr c4
  subst c4
  have H1 : (some (([] : List (S44)), false)) = some (r1, r2) := by rw [if_neg (show ¬ (false = true) by decide)] at H; exact H
  clear H
  have H := H1
  clear H1
  simp only [Option.some.injEq, Prod.mk.injEq] at H
  obtain ⟨rfl, rfl⟩ := H
  go_enter Tryz.func30, Tryz.ntmps30
  go_wp2_with (first | ((with_reducible refine gate_callee (f := 34) rfl ?_); refine goesL_ (some 11) rfl rfl Tryz.func34 (by kernel_rfl) rfl #[.int .i64 a0, .slice A1 l1.length c1] rfl ma_ ?_; (with_reducible refine (impl_isSet.calls k a0 _ _ l1 false _ ?side1 ?side2 A3.out).mono ?_); (case side1 => exact kc_ <| HR1.out); (case side2 => exact HC1.out); rintro e w23 ⟨rfl, hb⟩; refine ⟨_, rfl, ?_⟩; have n0_ := Aside0.mk (below_step bl_ hb); clear HB; have HB := n0_; clear n0_; (try clear hb); (try clear hb2); (try clear hk); (try clear hi)))
  go_ret2
  exact ⟨_, ew_, by first | exact Kd.R_nil _ _ _ _ _ | exact Kd.N_nil _ _ _ _ _ | exact Kd.V_nil _ _ _ _ _ | exact Kd.Q_nil _ _ _ _ _ | exact Kd.S_nil _ _ _ _ _, bl_⟩
def spec_MirrorChords.l0 : Nat → Int → List (S44) → List (S44) → Int → Int → Option ((List (S44)) × Bool)
 | 0, _, _, _, _, _ => none
 | k + 1, x0, x6, x13, x14, x15 => if x15 < x14 then (if 0 ≤ x15 then (if x15 < (x13.length : Int) then (if x0 = 0 then (none) else ((spec_srChord.f (Int.tmod (wrap64 (x0 - ((rd_T44 x13 x15).f0))) x0) (Int.tmod (wrap64 (x0 - ((rd_T44 x13 x15).f1))) x0)).bind fun bt494 => ((spec_srPut.f k x6 bt494.1 bt494.2).bind fun t496 => (spec_MirrorChords.l0 k x0 t496 x13 x14 (wrap64 (x15 + 1)))))) else (none)) else (none)) else (some (x6, true))
def spec_MirrorChords.f (k : Nat) (a0 : Int) (l1 : List (S44)) : Option ((List (S44)) × Bool) := (spec_cdGood.f k a0 l1).bind fun t491 => (if t491 = true then (spec_MirrorChords.l0 k a0 ([] : List (S44)) l1 (l1.length : Int) 0) else (some (([] : List (S44)), false)))
theorem spec_MirrorChords.mono_l : ∀ k, (∀ y0 y1 y2 y3 y4, LeO (spec_MirrorChords.l0 k y0 y1 y2 y3 y4) (spec_MirrorChords.l0 (k + 1) y0 y1 y2 y3 y4))
 | 0 => fun _ _ _ _ _ r h => by simp [spec_MirrorChords.l0] at h
 | k + 1 => by
  have ih0 := spec_MirrorChords.mono_l k
  ·intro y0 y1 y2 y3 y4
   unfold spec_MirrorChords.l0
   have m0_ := @spec_cdGood.mono
   have m1_ := @spec_srPut.mono
   exact lo_
theorem spec_MirrorChords.mono : ∀ a0 a1 k, LeO (spec_MirrorChords.f k a0 a1) (spec_MirrorChords.f (k + 1) a0 a1) := by
 intro a0 a1 k
 have ih0 := spec_MirrorChords.mono_l k
 unfold spec_MirrorChords.f
 have m0_ := @spec_cdGood.mono
 have m1_ := @spec_srPut.mono
 exact lo_
def spec_MirrorChords.T7 : Bool × List (List Nat × List Nat) := (true, [([], []), ([], []), ([], []), ([2], [2]), ([1, 3], [1, 3]), ([], []), ([4, 5], [4, 5]), ([], []), ([], []), ([8], [8]), ([7, 9], [7, 9]), ([], []), ([10, 11], [10, 11]), ([6, 12], [6, 12]), ([0, 13, 13], [0, 13]), ([14, 14, 0, 1, 2, 3, 4, 5, 6, 7, 8, 9, 10, 11, 12, 13, 14], [0, 14])])
def spec_MirrorChords.B7 : List Nat := [0, 0, 0, 4, 14, 0, 62, 0, 0, 256, 896, 0, 3968, 8190, 16383, 32767]
theorem spec_MirrorChords.tab7 : rtab .any (opsOf Tryz.f31 7) = spec_MirrorChords.T7 := by kernel_rfl
theorem spec_MirrorChords.bits7 : waitsOk spec_MirrorChords.T7.2 spec_MirrorChords.B7 = true := by kernel_rfl
theorem spec_MirrorChords.calls (k : Nat) (a0 : Int) (A1 : Option Addr) (c1 : Nat) (l1 : List (S44)) (r1 : List (S44)) (r2 : Bool) (w : World) (hr1 : Kd.C k44 w A1 l1.length l1) (hc1 : l1.length ≤ c1) (h : spec_MirrorChords.f k a0 l1 = some (r1, r2)) :
  Calls Tryz.prog 31 #[.int .i64 a0, .slice A1 l1.length c1] w fun e w' => ∃ v0_ : Value, e = .returned (.tuple #[v0_, .bool r2]) ∧ Kd.R k44 44 w' w.heap.size (fun _ => True) v0_ r1 ∧ Below w.heap.size w w' := by
 have hu44 := Tryz.underlying44
 have HR1 := Aside0.mk hr1
 have HC1 := Aside0.mk hc1
 clear hr1 hc1
 have HB := Aside0.mk (Below.refl w.heap.size w)
 have H : ((spec_cdGood.f k a0 l1).bind fun t491 => (if t491 = true then (spec_MirrorChords.l0 k a0 ([] : List (S44)) l1 (l1.length : Int) 0) else (some (([] : List (S44)), false)))) = some (r1, r2) := h
 clear h
 replace H := Option.bind_eq_some_iff.mp H
 obtain ⟨t491, A30, H⟩ := H
 try dsimp only at H
 have A3 := Aside0.mk A30
 clear A30
 by_cases c4 : t491 = true
 ·subst c4
  have H1 : (spec_MirrorChords.l0 k a0 ([] : List (S44)) l1 (l1.length : Int) 0) = some (r1, r2) := by rw [if_pos rfl] at H; exact H
  clear H
  have H := H1
  clear H1
  have H' := Aside0.mk H
  clear H
  go_enter Tryz.func31, Tryz.ntmps31
  go_wp2_with (first | ((with_reducible refine gate_callee (f := 36) rfl ?_); refine goesL_ (some 11) rfl rfl Tryz.func36 (by kernel_rfl) rfl #[.int .i64 a0, .slice A1 l1.length c1] rfl ma_ ?_; (with_reducible refine (spec_cdGood.calls k a0 _ _ l1 true _ ?side1 ?side2 A3.out).mono ?_); (case side1 => exact kc_ <| HR1.out); (case side2 => exact HC1.out); rintro e w5 ⟨rfl, hb⟩; refine ⟨_, rfl, ?_⟩; have n0_ := Aside0.mk (below_step bl_ hb); clear HB; have HB := n0_; clear n0_; (try clear hb); (try clear hb2); (try clear hk); (try clear hi)))
  go_loopg [6, 15] k (fun kq v6 v15 w' => ∃ (x6_1 : List (S44)) (x15_1 : Int), v15 = .int .i64 x15_1 ∧ Aside0 (spec_MirrorChords.l0 kq a0 x6_1 l1 (l1.length : Int) x15_1 = some (r1, r2)) ∧ Aside0 (kq ≤ k) ∧ Aside0 (Kd.R k44 44 w' w.heap.size (fun _ => True) v6 x6_1) ∧ Aside0 (Below w.heap.size w w'))
  case atStart => exact ⟨(([] : List (S44))), (0), (es_), H', ⟨Nat.le_refl _⟩, ⟨by first | exact Kd.R_nil _ _ _ _ _ | exact Kd.N_nil _ _ _ _ _ | exact Kd.V_nil _ _ _ _ _ | exact Kd.Q_nil _ _ _ _ _ | exact Kd.S_nil _ _ _ _ _⟩, ⟨bl_⟩⟩
  case round =>
   clear H'
   try clear c1
   try clear p2
   try clear c3
   try clear c4
   obtain ⟨x6_1, x15_1, rfl, HA, HK1, HO_6, HB⟩ := hrel
   cases gk with
   | zero => exact absurd HA.out (by simp [spec_MirrorChords.l0])
   | succ k1 =>
    have H := HA.out
    clear HA
    simp only [spec_MirrorChords.l0] at H
    by_cases c6 : x15_1 < (l1.length : Int)
    ·rw [if_pos c6] at H
     have c6b0 : decide (x15_1 < (l1.length : Int)) = true := decide_eq_true c6
     clear c6
     by_cases c7 : 0 ≤ x15_1
     rotate_left
     ·rw [if_neg c7] at H
      exact absurd H (by simp)
     rw [if_pos c7] at H
     have c7b0 : decide (0 ≤ x15_1) = true := decide_eq_true c7
     clear c7
     by_cases c8 : x15_1 < (l1.length : Int)
     rotate_left
     ·rw [if_neg c8] at H
      exact absurd H (by simp)
     rw [if_pos c8] at H
     have c8b0 : decide (x15_1 < (l1.length : Int)) = true := decide_eq_true c8
     clear c8
     by_cases c9 : a0 = 0
     ·rw [if_pos c9] at H
      exact absurd H (by simp)
     ·rw [if_neg c9] at H
      have c9b0 : (a0 == 0) = false := beq_eq_false_iff_ne.mpr c9
      have c9b1 : (a0 != 0) = true := bne_iff_ne.mpr c9
      replace H := Option.bind_eq_some_iff.mp H
      obtain ⟨⟨t494, t495⟩, A100, H⟩ := H
      try dsimp only at H
      have A10 := Aside0.mk A100
      clear A100
      replace H := Option.bind_eq_some_iff.mp H
      obtain ⟨t496, A110, H⟩ := H
      try dsimp only at H
      have A11 := Aside0.mk A110
      clear A110
      have H' := Aside0.mk H
      clear H
      have p492 : 0 ≤ (x15_1 : Int) := od_
      have q492 : x15_1 < (l1.length : Int) := od_
      obtain ⟨ad492, e492, hx492_0, hx492_1⟩ := at_T44 HR1.out x15_1 p492 q492
      cases e492
      replace hx492_0 := (HB.out.cell (World.block_lt_of_cell? w _ hx492_0)).trans hx492_0
      replace hx492_1 := (HB.out.cell (World.block_lt_of_cell? w _ hx492_1)).trans hx492_1
      replace p492 := eq_true p492
      replace q492 := eq_true q492
      try go_wp2_with (first | ((with_reducible refine gate_dst (N := 8) rfl ?_); refine box_event ?hg (N := 8) ?hd (cs := #[.int .i64 0, .int .i64 0]) (t := 44) ?hr ?_; (case hd => rfl); (case hg => rfl); (case hr => first | (go_simp; done) | (go_simp; rfl)); intro gb493 hg w12 hbox hb; have n0_ := Aside0.mk (Kd.R_below (Kd.R_elderB (kr_ <| HO_6.out) gb493 (Nat.le_of_eq hg.symm)) hb); have n1_ := Aside0.mk (below_step bl_ hb); have n2_ := Aside0.mk (hbox); have n3_ := Aside0.mk ((by rw [hg]; exact (below_size bl_) : w.heap.size ≤ gb493)); have n4_ := Aside0.mk ((by rw [hg]; exact (below_size bl_) : w.heap.size ≤ gb493)); clear HO_6; clear HB; have HO_6 := n0_; have HB := n1_; have BK493 := n2_; have GW493 := n3_; have GE493 := n4_; clear n0_ n1_ n2_ n3_ n4_; clear hb hbox hg; have hcz13_0 : w12.cell? ⟨gb493, 0, none⟩ = some (.int .i64 0) := (blk_cell BK493.out 0).trans rfl; have hcz13_1 : w12.cell? ⟨gb493, 1, none⟩ = some (.int .i64 0) := (blk_cell BK493.out 1).trans rfl; have hfz13_0 := blk_frozen BK493.out 0; have hfz13_1 := blk_frozen BK493.out 1))
      have n0_ : Aside0 (Kd.R k44 44 ((w12.setCell ⟨gb493, 0, none⟩ (.int .i64 ((rd_T44 l1 x15_1).f0))).setCell ⟨gb493, 1, none⟩ (.int .i64 ((rd_T44 l1 x15_1).f1))) w.heap.size (fun k_ => k_ ≠ gb493) u6 x6_1) := ⟨by exact kr_ <| Kd.R_mono (Kd.R_far (p := ⟨gb493, 1, none⟩) (Kd.R_far (p := ⟨gb493, 0, none⟩) (Kd.R_mono HO_6.out (fun k_ hk => (⟨hk, hk.2⟩ : _ ∧ k_ ≠ gb493))) (fun _ hk => hk.2) (.int .i64 ((rd_T44 l1 x15_1).f0))) (fun _ hk => hk.2) (.int .i64 ((rd_T44 l1 x15_1).f1))) (fun _ hk => hk.1.2)⟩
      have n1_ : Aside0 (((w12.setCell ⟨gb493, 0, none⟩ (.int .i64 ((rd_T44 l1 x15_1).f0))).setCell ⟨gb493, 1, none⟩ (.int .i64 ((rd_T44 l1 x15_1).f1))).heap[gb493]? = some (.cells #[.int .i64 ((rd_T44 l1 x15_1).f0), .int .i64 ((rd_T44 l1 x15_1).f1)] 44 (0, 0))) := ⟨by (with_reducible repeat (first | refine blk_drewN ?_ _ | refine blk_drew ?_ | refine blk_alloc ?_ _)); refine blk_put (cs := #[.int .i64 ((rd_T44 l1 x15_1).f0), .int .i64 0]) ?_ 1 _ rfl; (with_reducible repeat (first | refine blk_drewN ?_ _ | refine blk_drew ?_ | refine blk_alloc ?_ _)); refine blk_put (cs := #[.int .i64 0, .int .i64 0]) ?_ 0 _ rfl; exact kk_ <| BK493.out⟩
      have n2_ : Aside0 (Below w.heap.size w ((w12.setCell ⟨gb493, 0, none⟩ (.int .i64 ((rd_T44 l1 x15_1).f0))).setCell ⟨gb493, 1, none⟩ (.int .i64 ((rd_T44 l1 x15_1).f1)))) := ⟨bg_⟩
      (try clear HO_6)
      (try clear BK493)
      (try clear HB)
      generalize ((w12.setCell ⟨gb493, 0, none⟩ (.int .i64 ((rd_T44 l1 x15_1).f0))).setCell ⟨gb493, 1, none⟩ (.int .i64 ((rd_T44 l1 x15_1).f1))) = w14 at n0_ n1_ n2_ ⊢
      have HO_6 := n0_
      have BK493 := n1_
      have HB := n2_
      clear n0_ n1_ n2_
      have n0_ := Aside0.mk (Kd.R_drew HO_6.out)
      have n1_ := Aside0.mk (blk_drew BK493.out)
      have n2_ := Aside0.mk (below_drew1 HB.out)
      clear HO_6
      clear BK493
      clear HB
      have HO_6 := n0_
      have BK493 := n1_
      have HB := n2_
      clear n0_ n1_ n2_
      refine start_ (n := 16) (S := fun w' => w'.cell? ⟨gb493, 0, none⟩ = some (.int .i64 ((rd_T44 l1 x15_1).f0)) ∧ w'.cell? ⟨gb493, 1, none⟩ = some (.int .i64 ((rd_T44 l1 x15_1).f1))) (ds := []) #[false, false, false, false, false, false, false, false, false, false, false, false, false, false, false, false] (by kernel_rfl) rfl rfl ⟨(blk_cell BK493.out 0).trans rfl, (blk_cell BK493.out 1).trans rfl⟩ (fun hHeld => ?_); refine with_tabW spec_MirrorChords.tab7 spec_MirrorChords.bits7 (fun HT_ HW_ => ?_)
      generalize w14.drew = w15 at HO_6 BK493 HB hHeld ⊢
      refine pt_ 0 (some 19) HT_ ?_
      refine pt_ 1 (some 20) HT_ ?_
      refine pt_ 2 (some 21) HT_ ?_
      refine pt_ 5 (some 24) HT_ ?_
      refine pt_ 7 (some 26) HT_ ?_
      refine pt_ 8 (some 27) HT_ ?_
      refine pt_ 11 (some 30) HT_ ?_
      refine tb2_ 3 (some 22) HT_ HW_ hHeld ?_
      refine pt_ 4 (some 23) HT_ ?_
      refine pt_ 6 (some 25) HT_ ?_
      refine tb2_ 9 (some 28) HT_ HW_ hHeld ?_
      refine pt_ 10 (some 29) HT_ ?_
      refine pt_ 12 (some 31) HT_ ?_
      refine one_ (i := 13) (N := some 32) #[true, true, true, true, true, true, true, true, true, true, true, true, true, true, false, false] rfl rfl (one_of HT_.out (by kernel_rfl)) (by decide) (fun K hK => ?_)
      refine goes_ Tryz.func61 (by kernel_rfl) rfl #[.int .i64 (Int.tmod (wrap64 (a0 - ((rd_T44 l1 x15_1).f0))) a0), .int .i64 (Int.tmod (wrap64 (a0 - ((rd_T44 l1 x15_1).f1))) a0)] (by rfl) rfl rfl ma_ ?_
      with_reducible refine (spec_srChord.calls (Int.tmod (wrap64 (a0 - ((rd_T44 l1 x15_1).f0))) a0) (Int.tmod (wrap64 (a0 - ((rd_T44 l1 x15_1).f1))) a0) t494 t495 _ A10.out).mono ?_
      rintro e w16 ⟨rfl, hb⟩
      refine ⟨_, rfl, ?_⟩
      have n0_ := Aside0.mk (Kd.R_below (kr_ <| HO_6.out) hb)
      have n1_ := Aside0.mk (blk_below (g := gb493) (o := .cells #[.int .i64 ((rd_T44 l1 x15_1).f0), .int .i64 ((rd_T44 l1 x15_1).f1)] 44 (0, 0)) kb_ hb)
      have n2_ := Aside0.mk (below_step bg_ hb)
      clear HO_6
      clear BK493
      clear HB
      have HO_6 := n0_
      have BK493 := n1_
      have HB := n2_
      clear n0_ n1_ n2_
      (try clear hb)
      (try clear hb2)
      (try clear hk)
      (try clear hi)
      obtain ⟨Ao17, co17, eo17⟩ := Kd.R_slice HO_6.out
      (first | subst eo17 | (injection eo17 with f1_ f2_ f3_; have f4_ := f1_.symm; have f5_ := f3_.symm; clear f1_ f2_ f3_; subst f4_; subst f5_))
      refine hK.out _ _ ⟨(blk_cell BK493.out 0).trans rfl, (blk_cell BK493.out 1).trans rfl⟩ (fun hHeld => ?_)
      clear hK K
      refine nm_ (some 32) ?_
      refine one_ (i := 14) (N := some 33) #[true, true, true, true, true, true, true, true, true, true, true, true, true, true, true, false] rfl rfl (one_of HT_.out (by kernel_rfl)) (by decide) (fun K hK => ?_)
      refine goes_ Tryz.func60 (by kernel_rfl) rfl #[.slice Ao17 x6_1.length co17, .agg #[.int .i64 t494, .int .i64 t495]] (by rfl) rfl rfl ma_ ?_
      with_reducible refine (spec_srPut.calls k1 (fun k_ => some k_ = (.slice Ao17 x6_1.length co17 : Value).ownBlock) (.slice Ao17 x6_1.length co17) x6_1 t494 t495 t496 w _ ?side1 ?side2 A11.out).mono ?_
      (case side1 => exact bg_)
      (case side2 => exact Kd.R_tight rfl HO_6.out)
      rintro e w18 ⟨v497, rfl, ho0, hb, hkp⟩
      refine ⟨_, rfl, ?_⟩
      have n0_ := Aside0.mk (blk_kept kb_ hkp (fun hs_ => (fun e_ => (Kd.R_away HO_6.out (fun _ hk => hk)) e_) hs_))
      have n1_ := Aside0.mk (Kd.R_mono (ok' := fun k_ => k_ ≠ gb493) ho0 (fun k_ hk_ => Or.elim hk_ (fun hs_ => fun e_ => (Kd.R_away HO_6.out (fun _ hk => hk)) (by rw [← e_]; exact hs_)) (fun hn_ => (Kd.freshB (g := gb493) (o := .cells #[.int .i64 ((rd_T44 l1 x15_1).f0), .int .i64 ((rd_T44 l1 x15_1).f1)] 44 (0, 0)) kb_ k_ hn_))))
      have n2_ := Aside0.mk (hb)
      clear BK493
      clear HB
      clear HO_6
      have BK493 := n0_
      have HO498 := n1_
      have HB := n2_
      clear n0_ n1_ n2_
      (try clear hb)
      (try clear hkp)
      (try clear ho0)
      refine hK.out _ _ ⟨(blk_cell BK493.out 0).trans rfl, (blk_cell BK493.out 1).trans rfl⟩ (fun hHeld => ?_)
      clear hK K
      refine nm_ (some 33) ?_
      refine pt_ 15 (some 6) HT_ ?_
      refine done_ (done_of HT_.out (by kernel_rfl)) ?_
      try go_wp2
      go_roundg k1
      case measure => have := HK1.out; omega
      case rel => exact ⟨(t496), (wrap64 (x15_1 + 1)), (es_), H', ⟨by have := HK1.out; omega⟩, ⟨by exact kr_ <| Kd.R_mono HO498.out (fun _ hk => trivial)⟩, ⟨bg_⟩⟩
    ·rw [if_neg c6] at H
     have c6b0 : decide (x15_1 < (l1.length : Int)) = false := decide_eq_false c6
     clear c6
     simp only [Option.some.injEq, Prod.mk.injEq] at H
     obtain ⟨rfl, rfl⟩ := H
     go_wp2
     go_ret2
     exact ⟨_, ew_, by exact kr_ <| HO_6.out, bl_⟩
 ·replace c4 := Bool.eq_false_iff.mpr c4
  subst c4
  have H1 : (some (([] : List (S44)), false)) = some (r1, r2) := by rw [if_neg (show ¬ (false = true) by decide)] at H; exact H
  clear H
  have H := H1
  clear H1
  simp only [Option.some.injEq, Prod.mk.injEq] at H
  obtain ⟨rfl, rfl⟩ := H
  go_enter Tryz.func31, Tryz.ntmps31
  go_wp2_with (first | ((with_reducible refine gate_callee (f := 36) rfl ?_); refine goesL_ (some 11) rfl rfl Tryz.func36 (by kernel_rfl) rfl #[.int .i64 a0, .slice A1 l1.length c1] rfl ma_ ?_; (with_reducible refine (spec_cdGood.calls k a0 _ _ l1 false _ ?side1 ?side2 A3.out).mono ?_); (case side1 => exact kc_ <| HR1.out); (case side2 => exact HC1.out); rintro e w19 ⟨rfl, hb⟩; refine ⟨_, rfl, ?_⟩; have n0_ := Aside0.mk (below_step bl_ hb); clear HB; have HB := n0_; clear n0_; (try clear hb); (try clear hb2); (try clear hk); (try clear hi)))
  go_ret2
  exact ⟨_, ew_, by first | exact Kd.R_nil _ _ _ _ _ | exact Kd.N_nil _ _ _ _ _ | exact Kd.V_nil _ _ _ _ _ | exact Kd.Q_nil _ _ _ _ _ | exact Kd.S_nil _ _ _ _ _, bl_⟩
end Go.Proofs.YtfdocedppachkaaGreat.X
end
