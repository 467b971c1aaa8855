/- What the statement FnChordsPaired needs, part 4 of 7: words, contracts and lemmas, cut to what is named. Written by a program of this work (wip/tools/gpack.py) out of its texts and the print's. -/
import Derived.Test.YtnofekfoonmedaaGreatDoorZFnChordsPaired2
import Derived.Lib.SliceRun
import Derived.Deep.RegionLaw
import Derived.Shelf.GgSortFunc.RowK
import Derived.Lib.OwnBridge
import Derived.Lib.SlicesCompact
set_option linter.unusedVariables false
set_option linter.unusedSimpArgs false
set_option maxHeartbeats 80000000
set_option maxRecDepth 100000
section
namespace Go.Proofs.YtnofekfoonmedaaGreatDoor.X
open Go.RowKit Go.Proofs.YtnofekfoonmedaaGreatDoorW.PrintWords Go.Proofs.YtnofekfoonmedaaGreatDoorW.PrintLast Go.Proofs.YtnofekfoonmedaaGreatDoorW.PrintMore
attribute [local go_sem] max2_int min2_int max_two min_two max_three min_three max_four min_four
set_option linter.unusedVariables false
set_option linter.unusedSimpArgs false
mutual
def spec_cdPairs.l0 : Nat → List (S39) → List (List Int) → List (S39) → Int → Int → Option ((List (List Int)))
 | 0, _, _, _, _, _ => none
 | k + 1, x0, x3, x7, x8, x9 => if x9 < x8 then (if 0 ≤ x9 then (if x9 < (x7.length : Int) then (spec_cdPairs.l1 k x0 x3 x9 (wrap64 (x9 + 1)) x7 x8 x9 ((rd_T39 x7 x9).f0) ((rd_T39 x7 x9).f1)) else (none)) else (none)) else (some x3)
def spec_cdPairs.l1 : Nat → List (S39) → List (List Int) → Int → Int → List (S39) → Int → Int → Int → Int → Option ((List (List Int)))
 | 0, _, _, _, _, _, _, _, _, _ => none
 | k + 1, x0, x3, x4, x6, x7, x8, x9, x334000, x334001 => if x6 < (x0.length : Int) then (if 0 ≤ x6 then ((spec_srCross.f x334000 x334001 ((rd_T39 x0 x6).f0) ((rd_T39 x0 x6).f1)).bind fun t335 => (if t335 = true then (if x3.length < 5864062014805 then (spec_cdPairs.l1 k x0 (x3 ++ [(([x4, x6] : List Int))]) x4 (wrap64 (x6 + 1)) x7 x8 x9 x334000 x334001) else (none)) else (spec_cdPairs.l1 k x0 x3 x4 (wrap64 (x6 + 1)) x7 x8 x9 x334000 x334001))) else (none)) else (spec_cdPairs.l0 k x0 x3 x7 x8 (wrap64 (x9 + 1)))
end
def spec_cdPairs.f (k : Nat) (l0 : List (S39)) : Option ((List (List Int))) := spec_cdPairs.l0 k l0 ([] : List (List Int)) l0 (l0.length : Int) 0
theorem spec_cdPairs.calls (k : Nat) (A0 : Option Addr) (c0 : Nat) (l0 : List (S39)) (r : List (List Int)) (w : World) (hr0 : Kd.C k39 w A0 l0.length l0) (hc0 : l0.length ≤ c0) (h : spec_cdPairs.f k l0 = some r) :
  Calls Tryz.prog 56 #[.slice A0 l0.length c0] w fun e w' => ∃ v0_ : Value, e = .returned (v0_) ∧ Kd.S (Kd.slice 3 (Kd.int .i64)) 46 w' w.heap.size (fun _ => True) v0_ r ∧ Below w.heap.size w w' := by
 have hu39 := Tryz.underlying39;have HR0 := mk_ hr0;have HC0 := mk_ hc0;clear hr0 hc0;have HB := mk_ (Below.refl w.heap.size w);have H : (spec_cdPairs.l0 k l0 ([] : List (List Int)) l0 (l0.length : Int) 0) = some r := h;clear h;have H' := mk_ H;clear H;go_enter Tryz.func56, Tryz.ntmps56;go_wp2;go_loopg [3, 9] k (fun kq v3 v9 w' => ∃ (x3_1 : List (List Int)) (x9_1 : Int), v9 = .int .i64 x9_1 ∧ Aside0 (spec_cdPairs.l0 kq l0 x3_1 l0 (l0.length : Int) x9_1 = some r) ∧ Aside0 (kq ≤ k) ∧ Aside0 (Kd.S (Kd.slice 3 (Kd.int .i64)) 46 w' w.heap.size (fun _ => True) v3 x3_1) ∧ Aside0 (Below w.heap.size w w'))
 case atStart => exact ⟨(([] : List (List Int))), (0), (es_), H', ⟨Nat.le_refl _⟩, ⟨by first | exact Kd.S_nil _ _ _ _ _ | exact Kd.N_nil _ _ _ _ _ | exact Kd.V_nil _ _ _ _ _ | exact Kd.Q_nil _ _ _ _ _ | exact Kd.R_nil _ _ _ _ _⟩, ⟨bl_⟩⟩
 case round =>
  clear H';obtain ⟨x3_1, x9_1, rfl, HA, HK1, HO_3, HB⟩ := hrel
  cases gk with
  | zero => exact absurd HA.out (by simp [spec_cdPairs.l0])
  | succ k1 =>
   have H := HA.out;clear HA;simp only [spec_cdPairs.l0] at H;by_cases c2 : x9_1 < (l0.length : Int)
   ·rw [if_pos c2] at H;have c2b0 : decide (x9_1 < (l0.length : Int)) = true := decide_eq_true c2;clear c2;by_cases c3 : 0 ≤ x9_1;rotate_left
    ·rw [if_neg c3] at H;exact absurd H (by simp)
    rw [if_pos c3] at H;have c3b0 : decide (0 ≤ x9_1) = true := decide_eq_true c3;clear c3;by_cases c4 : x9_1 < (l0.length : Int);rotate_left
    ·rw [if_neg c4] at H;exact absurd H (by simp)
    rw [if_pos c4] at H;have c4b0 : decide (x9_1 < (l0.length : Int)) = true := decide_eq_true c4;clear c4;have H' := mk_ H;clear H;have p332 : 0 ≤ (x9_1 : Int) := od_;have q332 : x9_1 < (l0.length : Int) := od_;obtain ⟨ad332, e332, hx332_0, hx332_1⟩ := at_T39 HR0.out x9_1 p332 q332;cases e332;replace hx332_0 := (HB.out.cell (World.block_lt_of_cell? w _ hx332_0)).trans hx332_0;replace hx332_1 := (HB.out.cell (World.block_lt_of_cell? w _ hx332_1)).trans hx332_1;replace p332 := eq_true p332;replace q332 := eq_true q332;go_wp2_with (first | ((with_reducible refine g_ 5 ?_); refine bx_ 5 #[.int .i64 0, .int .i64 0] 39 ?_; intro gb333 hg w5 hbox hb; have n0_ := mk_ (Kd.S_below (by (with_reducible repeat (first | apply Kd.S_alloc | apply Kd.S_drewN | apply Kd.S_drew)); exact HO_3.out) hb); have n1_ := mk_ (below_step bl_ hb); have n2_ := mk_ (hbox); have n3_ := mk_ ((by rw [hg]; exact (below_size bl_) : w.heap.size ≤ gb333)); have n4_ := n3_; clear HO_3 HB; have HO_3 := n0_; have HB := n1_; have BK333 := n2_; have GW333 := n3_; have GE333 := n4_; clear n0_ n1_ n2_ n3_ n4_ hb hbox hg; have hcz6_0 : w5.cell? ⟨gb333, 0, none⟩ = some (.int .i64 0) := (blk_cell BK333.out 0).trans rfl; have hcz6_1 : w5.cell? ⟨gb333, 1, none⟩ = some (.int .i64 0) := (blk_cell BK333.out 1).trans rfl; have hfz6_0 := blk_frozen BK333.out 0; have hfz6_1 := blk_frozen BK333.out 1));go_loopg [3, 6] k1 (fun kq v3 v6 w' => ∃ (x3_2 : List (List Int)) (x6_2 : Int), v6 = .int .i64 x6_2 ∧ Aside0 (spec_cdPairs.l1 kq l0 x3_2 x9_1 x6_2 l0 (l0.length : Int) x9_1 ((rd_T39 l0 x9_1).f0) ((rd_T39 l0 x9_1).f1) = some r) ∧ Aside0 (kq ≤ k1) ∧ Aside0 (Kd.S (Kd.slice 3 (Kd.int .i64)) 46 w' w.heap.size (fun _ => True) v3 x3_2) ∧ Aside0 (w'.heap[gb333]? = some (.cells #[.int .i64 ((rd_T39 l0 x9_1).f0), .int .i64 ((rd_T39 l0 x9_1).f1)] 39 (0, 0))) ∧ Aside0 (Below w.heap.size w w'))
    case atStart => exact ⟨(x3_1), (wrap64 (x9_1 + 1)), (es_), H', ⟨Nat.le_refl _⟩, ⟨by (with_reducible repeat (first | apply Kd.S_alloc | apply Kd.S_drewN | apply Kd.S_drew)); exact Kd.S_mono (Kd.S_far (p := ⟨gb333, 1, none⟩) (Kd.S_far (p := ⟨gb333, 0, none⟩) (Kd.S_types HO_3.out BK333.out (by decide)) (fun _ hk => hk.2) (.int .i64 ((rd_T39 l0 x9_1).f0))) (fun _ hk => hk.2) (.int .i64 ((rd_T39 l0 x9_1).f1))) (fun _ hk => trivial)⟩, ⟨by (with_reducible repeat (first | refine blk_drewN ?_ _ | refine blk_drew ?_ | refine blk_alloc ?_ _)); refine blk_put (cs := #[.int .i64 ((rd_T39 l0 x9_1).f0), .int .i64 0]) ?_ 1 _ rfl; (with_reducible repeat (first | refine blk_drewN ?_ _ | refine blk_drew ?_ | refine blk_alloc ?_ _)); refine blk_put (cs := #[.int .i64 0, .int .i64 0]) ?_ 0 _ rfl; exact kk_ <| BK333.out⟩, ⟨bg_⟩⟩
    case round =>
     clear H';try clear c2
     try clear c2b0
     try clear p2
     try clear c3
     try clear c3b0
     try clear p3
     try clear q3
     try clear hx3
     try clear c4
     try clear c4b0
     try clear c5
     try clear p6
     try clear hcz6_0
     try clear hcz6_1
     try clear hfz6_0
     try clear hfz6_1
     try clear hx332_0
     try clear hx332_1
     try clear p332
     try clear q332
     obtain ⟨x3_2, x6_2, rfl, HA, HK2, HO_3, BK333, HB⟩ := hrel
     cases gk with
     | zero => exact absurd HA.out (by simp [spec_cdPairs.l1])
     | succ k2 =>
      have H := HA.out;clear HA;simp only [spec_cdPairs.l1] at H;by_cases c7 : x6_2 < (l0.length : Int)
      ·rw [if_pos c7] at H;have c7b0 : decide (x6_2 < (l0.length : Int)) = true := decide_eq_true c7;clear c7;by_cases c8 : 0 ≤ x6_2;rotate_left
       ·rw [if_neg c8] at H;exact absurd H (by simp)
       rw [if_pos c8] at H;have c8b0 : decide (0 ≤ x6_2) = true := decide_eq_true c8;clear c8;replace H := Option.bind_eq_some_iff.mp H;obtain ⟨t335, A90, H⟩ := H;try dsimp only at H
       have A9 := mk_ A90;clear A90;by_cases c10 : t335 = true
       ·subst c10;have H1 : (if x3_2.length < 5864062014805 then (spec_cdPairs.l1 k2 l0 (x3_2 ++ [(([x9_1, x6_2] : List Int))]) x9_1 (wrap64 (x6_2 + 1)) l0 (l0.length : Int) x9_1 ((rd_T39 l0 x9_1).f0) ((rd_T39 l0 x9_1).f1)) else (none)) = some r := by rw [if_pos rfl] at H; exact H
        clear H;have H := H1;clear H1;obtain ⟨y336, hy_⟩ : ∃ y_ : List Int, y_ = (([x9_1, x6_2] : List Int)) := ⟨_, rfl⟩;replace H : (if x3_2.length < 5864062014805 then (spec_cdPairs.l1 k2 l0 (x3_2 ++ [y336]) x9_1 (wrap64 (x6_2 + 1)) l0 (l0.length : Int) x9_1 ((rd_T39 l0 x9_1).f0) ((rd_T39 l0 x9_1).f1)) else (none)) = some r := rp_;have Ny336 := mk_ hy_;clear hy_;by_cases c11 : x3_2.length < 5864062014805;rotate_left
        ·rw [if_neg c11] at H;exact absurd H (by simp)
        rw [if_pos c11] at H;have LMc11 := mk_ c11;clear c11;obtain ⟨y339, hy_⟩ : ∃ y_ : List (List Int), y_ = (x3_2 ++ [y336]) := ⟨_, rfl⟩;replace H : (spec_cdPairs.l1 k2 l0 y339 x9_1 (wrap64 (x6_2 + 1)) l0 (l0.length : Int) x9_1 ((rd_T39 l0 x9_1).f0) ((rd_T39 l0 x9_1).f1)) = some r := rp_;have Ny339 := mk_ hy_;clear hy_;have H' := mk_ H;clear H;try go_wp2
        have n0_ := mk_ (Kd.S_drew HO_3.out);have n1_ := mk_ (blk_drew BK333.out);have n2_ := mk_ (below_drew1 HB.out);clear HO_3 BK333 HB;have HO_3 := n0_;have BK333 := n1_;have HB := n2_;clear n0_ n1_ n2_;have p334 : 0 ≤ (x6_2 : Int) := od_;have q334 : x6_2 < (l0.length : Int) := od_;obtain ⟨ad334, e334, hx334_0, hx334_1⟩ := at_T39 HR0.out x6_2 p334 q334;have hw334_1 := hx334_1;have hw334_0 := hx334_0;obtain rfl : ad332 = ad334 := (by injection e334);replace hx334_0 := (HB.out.cell (World.block_lt_of_cell? w _ hx334_0)).trans hx334_0;replace hx334_1 := (HB.out.cell (World.block_lt_of_cell? w _ hx334_1)).trans hx334_1;replace p334 := eq_true p334;replace q334 := eq_true q334;refine start_ (n := 6) (S := fun w' => w'.cell? ⟨gb333, 0, none⟩ = some (.int .i64 ((rd_T39 l0 x9_1).f0)) ∧ w'.cell? ⟨gb333, 1, none⟩ = some (.int .i64 ((rd_T39 l0 x9_1).f1)) ∧ w'.cell? (ad332.add ((x6_2).toNat * 2)) = some (.int .i64 ((rd_T39 l0 x6_2).f0)) ∧ w'.cell? ⟨(ad332.add ((x6_2).toNat * 2)).block, (ad332.add ((x6_2).toNat * 2)).off + 1, none⟩ = some (.int .i64 ((rd_T39 l0 x6_2).f1))) (ds := []) #[false, false, false, false, false, false] (by kernel_rfl) rfl rfl ⟨(blk_cell BK333.out 0).trans rfl, (blk_cell BK333.out 1).trans rfl, ((HB.out.cell (World.block_lt_of_cell? w _ hw334_0)).trans hw334_0), ((HB.out.cell (World.block_lt_of_cell? w _ hw334_1)).trans hw334_1)⟩ (fun hHeld => ?_);generalize wr.drew = w12 at HO_3 BK333 HB hx334_0 hx334_1 hHeld ⊢;refine pu_ 1 (some 23) ?_;refine pu_ 2 (some 24) ?_;refine pu_ 3 (some 25) ?_;refine ta4_ 0 (some 22) hHeld ?_;refine ta4_ 4 (some 26) hHeld ?_;refine one_ (i := 5) (N := some 27) #[true, true, true, true, true, true] rfl rfl (by kernel_rfl) (by decide) (fun K hK => ?_);refine goes_ Tryz.func93 (by kernel_rfl) rfl #[.agg #[.int .i64 ((rd_T39 l0 x9_1).f0), .int .i64 ((rd_T39 l0 x9_1).f1)], .agg #[.int .i64 ((rd_T39 l0 x6_2).f0), .int .i64 ((rd_T39 l0 x6_2).f1)]] (by rfl) rfl rfl ma_ ?_;with_reducible refine (spec_srCross.calls ((rd_T39 l0 x9_1).f0) ((rd_T39 l0 x9_1).f1) ((rd_T39 l0 x6_2).f0) ((rd_T39 l0 x6_2).f1) true _ A9.out).mono ?_
        rintro e w13 ⟨rfl, hb⟩;refine ⟨_, rfl, ?_⟩;have n0_ := mk_ (Kd.S_below (by (with_reducible repeat (first | apply Kd.S_alloc | apply Kd.S_drewN | apply Kd.S_drew)); exact HO_3.out) hb);have n1_ := mk_ (blk_below (g := gb333) (o := .cells #[.int .i64 ((rd_T39 l0 x9_1).f0), .int .i64 ((rd_T39 l0 x9_1).f1)] 39 (0, 0)) kb_ hb);have n2_ := mk_ (below_step bg_ hb);clear HO_3 BK333 HB;have HO_3 := n0_;have BK333 := n1_;have HB := n2_;clear n0_ n1_ n2_;(try clear hb);(try clear hb2);(try clear hk);(try clear hi);refine hK.out _ _ ⟨(blk_cell BK333.out 0).trans rfl, (blk_cell BK333.out 1).trans rfl, ((HB.out.cell (World.block_lt_of_cell? w _ hw334_0)).trans hw334_0), ((HB.out.cell (World.block_lt_of_cell? w _ hw334_1)).trans hw334_1)⟩ (fun hHeld => ?_);clear hK K;refine nm_ (some 27) ?_;refine done_ (by kernel_rfl) ?_;try go_wp2_with (first | ((with_reducible refine g_ 31 ?_); refine Kd.R_lit (Kd.int .i64) _ 3 ?hg (N := 31) ?hd (xs := ([x9_1, x6_2] : List Int)) (inner := [.int .i64 x9_1, .int .i64 x6_2]) (ok := fun _ => True) (okp := fun _ => True) ?hr ?hp (fun _ hk => hk) trivial (Below.refl _ _) (Nat.le_refl _) (by simp) ?_; (case hd => rfl); (case hg => rfl); (case hr => first | (go_simp; done) | (go_simp; rfl)); (case hp => exact (Reps.one (show Kd.M (Kd.int .i64) _ _ _ x9_1 [.int .i64 x9_1] from rfl) (Reps.one (show Kd.M (Kd.int .i64) _ _ _ x6_2 [.int .i64 x6_2] from rfl) (Reps.none _ _)))); intro v337 w14 ho15 hb hg_ hnew_; clear hg_ hnew_; (first | rw [← Ny336.out] at ho15 | (simp only [Int.reduceToNat] at ho15; rw [← Ny336.out] at ho15)); have n0_ := mk_ (Kd.S_elder' (by (with_reducible repeat (first | apply Kd.S_alloc | apply Kd.S_drewN | apply Kd.S_drew)); exact HO_3.out) (Kd.R_base ho15) hb); have n1_ := mk_ (Kd.R_lower ho15 (below_size bg_)); have n2_ := mk_ (blk_below (g := gb333) (o := .cells #[.int .i64 ((rd_T39 l0 x9_1).f0), .int .i64 ((rd_T39 l0 x9_1).f1)] 39 (0, 0)) kb_ hb); have n3_ := mk_ (below_step bg_ hb); clear HO_3 BK333 HB; have HO_3 := n0_; have HO338 := n1_; have BK333 := n2_; have HB := n3_; clear n0_ n1_ n2_ n3_ hb ho15; obtain ⟨Ao17, co17, eo17⟩ := Kd.R_slice HO338.out; subst eo17) | ((with_reducible refine gate_builtin (b := .append) (xs := #[.tmp 28, .tmp 32]) rfl ?_); at_builtin; refine Kd.S_append (Kd.slice 3 (Kd.int .i64)) (w0 := w) w.heap.size rfl (.tmp 28) (.tmp 32) 72 46 (.slice none 0 0) 24 rfl Tryz.underlying72 info46 rfl (by decide) (by omega) u3 x3_2 y336 [.slice Ao17 y336.length co17] (fun _ => True) (fun k_ => some k_ = (.slice Ao17 y336.length co17 : Value).ownBlock) rfl rfl ?aP (fun k_ hk_ => ((Kd.R_mono (ok' := fun k_ => ((fun _ => True)) k_ ∧ some k_ ≠ (u3 : Value).ownBlock) (Kd.R_apart' (HO338.out) (Kd.S_typed HO_3.out) (by decide)) (fun k_ hk => ⟨trivial, hk.2⟩))).1 k_ hk_.symm) ?aF ?aO ?aB ?aS ?aL ?_; (case aP => exact Kd.M_row (Kd.R_mono (Kd.R_tight rfl (Kd.R_mono (ok' := fun k_ => ((fun _ => True)) k_ ∧ some k_ ≠ (u3 : Value).ownBlock) (Kd.R_apart' (HO338.out) (Kd.S_typed HO_3.out) (by decide)) (fun k_ hk => ⟨trivial, hk.2⟩))) (fun _ h_ => h_))); (case aB => exact bg_); (case aF => exact (fun _ _ => trivial)); (case aO => exact (by (with_reducible repeat (first | apply Kd.S_alloc | apply Kd.S_drewN | apply Kd.S_drew)); exact Kd.S_mono HO_3.out (fun k_ hk => ⟨trivial, fun e_ => hk.2 e_⟩))); (case aS => exact (below_size bg_)); (case aL => have := LMc11.out; omega); intro v340 w16 ho hb hg hat; rw [← Ny339.out] at ho; have n0_ := mk_ (blk_grown (g := gb333) (o := .cells #[.int .i64 ((rd_T39 l0 x9_1).f0), .int .i64 ((rd_T39 l0 x9_1).f1)] 39 (0, 0)) kb_ hg (Kd.S_ne HO_3.out BK333.out (by decide))); have n1_ := mk_ (hb); have n2_ := mk_ (ho); clear BK333 HB HO_3 HO338; have BK333 := n0_; have HB := n1_; have HO341 := n2_; clear n0_ n1_ n2_ ho hb hg hat))
        go_roundg k2
        case measure => have := HK1.out; have := HK2.out; omega
        case rel => exact ⟨(y339), (wrap64 (x6_2 + 1)), (es_), H', ⟨by have := HK1.out; have := HK2.out; omega⟩, ⟨by (with_reducible repeat (first | apply Kd.S_alloc | apply Kd.S_drewN | apply Kd.S_drew)); exact HO341.out⟩, ⟨by exact kk_ <| BK333.out⟩, ⟨bg_⟩⟩
       ·replace c10 := Bool.eq_false_iff.mpr c10;subst c10;have H1 : (spec_cdPairs.l1 k2 l0 x3_2 x9_1 (wrap64 (x6_2 + 1)) l0 (l0.length : Int) x9_1 ((rd_T39 l0 x9_1).f0) ((rd_T39 l0 x9_1).f1)) = some r := by rw [if_neg (show ¬ (false = true) by decide)] at H; exact H
        clear H;have H := H1;clear H1;have H' := mk_ H;clear H;try go_wp2
        have n0_ := mk_ (Kd.S_drew HO_3.out);have n1_ := mk_ (blk_drew BK333.out);have n2_ := mk_ (below_drew1 HB.out);clear HO_3 BK333 HB;have HO_3 := n0_;have BK333 := n1_;have HB := n2_;clear n0_ n1_ n2_;have p334 : 0 ≤ (x6_2 : Int) := od_;have q334 : x6_2 < (l0.length : Int) := od_;obtain ⟨ad334, e334, hx334_0, hx334_1⟩ := at_T39 HR0.out x6_2 p334 q334;have hw334_1 := hx334_1;have hw334_0 := hx334_0;obtain rfl : ad332 = ad334 := (by injection e334);replace hx334_0 := (HB.out.cell (World.block_lt_of_cell? w _ hx334_0)).trans hx334_0;replace hx334_1 := (HB.out.cell (World.block_lt_of_cell? w _ hx334_1)).trans hx334_1;replace p334 := eq_true p334;replace q334 := eq_true q334;refine start_ (n := 6) (S := fun w' => w'.cell? ⟨gb333, 0, none⟩ = some (.int .i64 ((rd_T39 l0 x9_1).f0)) ∧ w'.cell? ⟨gb333, 1, none⟩ = some (.int .i64 ((rd_T39 l0 x9_1).f1)) ∧ w'.cell? (ad332.add ((x6_2).toNat * 2)) = some (.int .i64 ((rd_T39 l0 x6_2).f0)) ∧ w'.cell? ⟨(ad332.add ((x6_2).toNat * 2)).block, (ad332.add ((x6_2).toNat * 2)).off + 1, none⟩ = some (.int .i64 ((rd_T39 l0 x6_2).f1))) (ds := []) #[false, false, false, false, false, false] (by kernel_rfl) rfl rfl ⟨(blk_cell BK333.out 0).trans rfl, (blk_cell BK333.out 1).trans rfl, ((HB.out.cell (World.block_lt_of_cell? w _ hw334_0)).trans hw334_0), ((HB.out.cell (World.block_lt_of_cell? w _ hw334_1)).trans hw334_1)⟩ (fun hHeld => ?_);generalize wr.drew = w18 at HO_3 BK333 HB hx334_0 hx334_1 hHeld ⊢;refine pu_ 1 (some 23) ?_;refine pu_ 2 (some 24) ?_;refine pu_ 3 (some 25) ?_;refine ta4_ 0 (some 22) hHeld ?_;refine ta4_ 4 (some 26) hHeld ?_;refine one_ (i := 5) (N := some 27) #[true, true, true, true, true, true] rfl rfl (by kernel_rfl) (by decide) (fun K hK => ?_);refine goes_ Tryz.func93 (by kernel_rfl) rfl #[.agg #[.int .i64 ((rd_T39 l0 x9_1).f0), .int .i64 ((rd_T39 l0 x9_1).f1)], .agg #[.int .i64 ((rd_T39 l0 x6_2).f0), .int .i64 ((rd_T39 l0 x6_2).f1)]] (by rfl) rfl rfl ma_ ?_;with_reducible refine (spec_srCross.calls ((rd_T39 l0 x9_1).f0) ((rd_T39 l0 x9_1).f1) ((rd_T39 l0 x6_2).f0) ((rd_T39 l0 x6_2).f1) false _ A9.out).mono ?_
        rintro e w19 ⟨rfl, hb⟩;refine ⟨_, rfl, ?_⟩;have n0_ := mk_ (Kd.S_below (by (with_reducible repeat (first | apply Kd.S_alloc | apply Kd.S_drewN | apply Kd.S_drew)); exact HO_3.out) hb);have n1_ := mk_ (blk_below (g := gb333) (o := .cells #[.int .i64 ((rd_T39 l0 x9_1).f0), .int .i64 ((rd_T39 l0 x9_1).f1)] 39 (0, 0)) kb_ hb);have n2_ := mk_ (below_step bg_ hb);clear HO_3 BK333 HB;have HO_3 := n0_;have BK333 := n1_;have HB := n2_;clear n0_ n1_ n2_;(try clear hb);(try clear hb2);(try clear hk);(try clear hi);refine hK.out _ _ ⟨(blk_cell BK333.out 0).trans rfl, (blk_cell BK333.out 1).trans rfl, ((HB.out.cell (World.block_lt_of_cell? w _ hw334_0)).trans hw334_0), ((HB.out.cell (World.block_lt_of_cell? w _ hw334_1)).trans hw334_1)⟩ (fun hHeld => ?_);clear hK K;refine nm_ (some 27) ?_;refine done_ (by kernel_rfl) ?_;try go_wp2
        go_roundg k2
        case measure => have := HK1.out; have := HK2.out; omega
        case rel => exact ⟨(x3_2), (wrap64 (x6_2 + 1)), (es_), H', ⟨by have := HK1.out; have := HK2.out; omega⟩, ⟨by (with_reducible repeat (first | apply Kd.S_alloc | apply Kd.S_drewN | apply Kd.S_drew)); exact HO_3.out⟩, ⟨by exact kk_ <| BK333.out⟩, ⟨bg_⟩⟩
      ·rw [if_neg c7] at H;have c7b0 : decide (x6_2 < (l0.length : Int)) = false := decide_eq_false c7;clear c7;have H' := mk_ H;clear H;go_wp2;go_roundg k2
       case measure => have := HK1.out; have := HK2.out; omega
       case rel => exact ⟨(x3_2), (wrap64 (x9_1 + 1)), (es_), H', ⟨by have := HK1.out; have := HK2.out; omega⟩, ⟨by (with_reducible repeat (first | apply Kd.S_alloc | apply Kd.S_drewN | apply Kd.S_drew)); exact HO_3.out⟩, ⟨bg_⟩⟩
   ·rw [if_neg c2] at H;have c2b0 : decide (x9_1 < (l0.length : Int)) = false := decide_eq_false c2;clear c2;obtain rfl := Option.some.inj H;go_wp2;go_ret;exact ⟨_, ew_, by (with_reducible repeat (first | apply Kd.S_alloc | apply Kd.S_drewN | apply Kd.S_drew)); exact HO_3.out, bl_⟩
mutual
def spec_cdRank.l0 : Nat → List (S39) → Int → Int → List Int → Int → Int → Option (Int)
 | 0, _, _, _, _, _, _ => none
 | k + 1, x0, x1, x2, x3, x9, x10 => if x10 < x2 then (if 0 ≤ (wrap64 ((wrap64 (x2 - 1)) - x10)) then (if (wrap64 ((wrap64 (x2 - 1)) - x10)) < (x3.length : Int) then (spec_cdRank.l1 k x0 x1 x2 x3 x9 x10 (rd x3 (wrap64 ((wrap64 (x2 - 1)) - x10))) x0 (x0.length : Int) 0) else (none)) else (none)) else (some x9)
def spec_cdRank.l1 : Nat → List (S39) → Int → Int → List Int → Int → Int → Int → List (S39) → Int → Int → Option (Int)
 | 0, _, _, _, _, _, _, _, _, _, _ => none
 | k + 1, x0, x1, x2, x3, x9, x10, x11, x28, x29, x30 => if x30 < x29 then (if 0 ≤ x30 then (if x30 < (x28.length : Int) then (if ((rd_T39 x28 x30).f0) = x1 then (spec_cdRank.j2 k x0 x1 x2 x3 x9 x10 x11 x28 x29 x30 (((rd_T39 x28 x30).f1) == (wrap64 (x1 + x10)))) else (spec_cdRank.j2 k x0 x1 x2 x3 x9 x10 x11 x28 x29 x30 false)) else (none)) else (none)) else (if 0 ≤ (wrap64 (x10 - 1)) then (if (wrap64 (x10 - 1)) < (x3.length : Int) then (spec_cdRank.l0 k x0 x1 x2 x3 (wrap64 (x9 + (wrap64 ((rd x3 (wrap64 (x10 - 1))) * x11)))) (wrap64 (x10 + 2))) else (none)) else (none))
def spec_cdRank.j2 : Nat → List (S39) → Int → Int → List Int → Int → Int → Int → List (S39) → Int → Int → Bool → Option (Int)
 | 0, _, _, _, _, _, _, _, _, _, _, _ => none
 | k + 1, x0, x1, x2, x3, x9, x10, x11, x28, x29, x30, x45 => if x45 = true then ((spec_cdRank.f k x0 (wrap64 (x1 + 1)) (wrap64 (x10 - 1)) x3).bind fun t346 => ((spec_cdRank.f k x0 (wrap64 ((wrap64 (x1 + x10)) + 1)) (wrap64 ((wrap64 (x2 - 1)) - x10)) x3).bind fun t347 => (some (wrap64 ((wrap64 (x9 + (wrap64 (t346 * x11)))) + t347))))) else (spec_cdRank.l1 k x0 x1 x2 x3 x9 x10 x11 x28 x29 (wrap64 (x30 + 1)))
def spec_cdRank.f : Nat → List (S39) → Int → Int → List Int → Option (Int)
 | 0, _, _, _, _ => none
 | k + 1, l0, a1, a2, l3 => if a2 = 0 then (some 0) else (spec_cdRank.l0 k l0 a1 a2 l3 0 1)
end
theorem spec_cdRank.calls (k : Nat) : ∀ (A0 : Option Addr) (c0 : Nat) (l0 : List (S39)) (a1 : Int) (a2 : Int) (A3 : Option Addr) (c3 : Nat) (l3 : List Int) (r : Int) (w : World) (hr0 : Kd.C k39 w A0 l0.length l0) (hc0 : l0.length ≤ c0) (hr3 : Kd.C (Kd.int .i64) w A3 l3.length l3) (hc3 : l3.length ≤ c3) (h : spec_cdRank.f k l0 a1 a2 l3 = some r),
  Calls Tryz.prog 57 #[.slice A0 l0.length c0, .int .i64 a1, .int .i64 a2, .slice A3 l3.length c3] w fun e w' => e = .returned (.int .i64 r) ∧ Below w.heap.size w w' := by
 induction k using Nat.strongRecOn with
 | _ k ih =>
 intro A0 c0 l0 a1 a2 A3 c3 l3 r w hr0 hc0 hr3 hc3 h
 cases k with
 | zero => exact absurd h (by simp [spec_cdRank.f])
 | succ k =>
 simp only [spec_cdRank.f] at h;have hu39 := Tryz.underlying39;have HR0 := mk_ hr0;have HC0 := mk_ hc0;clear hr0 hc0;have HR3 := mk_ hr3;have HC3 := mk_ hc3;clear hr3 hc3;have HB := mk_ (Below.refl w.heap.size w);have H : (if a2 = 0 then (some 0) else (spec_cdRank.l0 k l0 a1 a2 l3 0 1)) = some r := h;clear h;by_cases c5 : a2 = 0
 ·rw [if_pos c5] at H;have c5b0 : (a2 == 0) = true := beq_iff_eq.mpr c5;have c5b1 : (a2 != 0) = false := bne_eq_false_iff_eq.mpr c5;clear c5;obtain rfl := Option.some.inj H;go_enter Tryz.func57, Tryz.ntmps57;go_wp2;go_ret;exact ⟨ew_, bl_⟩
 ·rw [if_neg c5] at H;have c5b0 : (a2 == 0) = false := beq_eq_false_iff_ne.mpr c5;have c5b1 : (a2 != 0) = true := bne_iff_ne.mpr c5;have H' := mk_ H;clear H;go_enter Tryz.func57, Tryz.ntmps57;go_wp2;go_loopg [9, 10] k (fun kq v9 v10 w' => ∃ (x9_1 : Int) (x10_1 : Int), v9 = .int .i64 x9_1 ∧ v10 = .int .i64 x10_1 ∧ Aside0 (spec_cdRank.l0 kq l0 a1 a2 l3 x9_1 x10_1 = some r) ∧ Aside0 (kq ≤ k) ∧ Aside0 (Below w.heap.size w w'))
  case atStart => exact ⟨(0), (1), (es_), (es_), H', ⟨Nat.le_refl _⟩, ⟨bl_⟩⟩
  case round =>
   clear H';try clear p2
   try clear c3
   try clear c5
   try clear c5b0
   try clear c5b1
   obtain ⟨x9_1, x10_1, rfl, rfl, HA, HK1, HB⟩ := hrel
   cases gk with
   | zero => exact absurd HA.out (by simp [spec_cdRank.l0])
   | succ k1 =>
    have H := HA.out;clear HA;simp only [spec_cdRank.l0] at H;by_cases c6 : x10_1 < a2
    ·rw [if_pos c6] at H;have c6b0 : decide (x10_1 < a2) = true := decide_eq_true c6;clear c6;obtain ⟨ji7, hji7⟩ : ∃ j_ : Int, (wrap64 ((wrap64 (a2 - 1)) - x10_1)) = j_ := ⟨_, rfl⟩;replace H : (if 0 ≤ (ji7) then (if (ji7) < (l3.length : Int) then (spec_cdRank.l1 k1 l0 a1 a2 l3 x9_1 x10_1 (rd l3 (ji7)) l0 (l0.length : Int) 0) else (none)) else (none)) = some r := by first | (rw [hji7] at H; exact H) | (simp only [hji7] at H ⊢; exact H)
     have hji7w : (IntKind.i64.wrap ((wrap64 (a2 - 1)) - x10_1)) = ji7 := (i64_w _).trans hji7;by_cases c8 : 0 ≤ (ji7);rotate_left
     ·rw [if_neg c8] at H;exact absurd H (by simp)
     rw [if_pos c8] at H;have c8b0 : decide (0 ≤ (ji7)) = true := decide_eq_true c8;clear c8;by_cases c9 : (ji7) < (l3.length : Int);rotate_left
     ·rw [if_neg c9] at H;exact absurd H (by simp)
     rw [if_pos c9] at H;have c9b0 : decide ((ji7) < (l3.length : Int)) = true := decide_eq_true c9;clear c9;have H' := mk_ H;clear H;have p342 : 0 ≤ ((ji7) : Int) := od_;have q342 : (ji7) < (l3.length : Int) := od_;obtain ⟨ad342, e342, hx342_0⟩ := Kd.at_int HR3.out (ji7) p342 q342;cases e342;replace hx342_0 := (HB.out.cell (World.block_lt_of_cell? w _ hx342_0)).trans hx342_0;replace p342 := eq_true p342;replace q342 := eq_true q342;go_wp2;go_loopg [30] k1 (fun kq v30 w' => ∃ (x30_2 : Int), v30 = .int .i64 x30_2 ∧ Aside0 (spec_cdRank.l1 kq l0 a1 a2 l3 x9_1 x10_1 (rd l3 (ji7)) l0 (l0.length : Int) x30_2 = some r) ∧ Aside0 (kq ≤ k1) ∧ Aside0 (Below w.heap.size w w'))
     case atStart => exact ⟨(0), (es_), H', ⟨Nat.le_refl _⟩, ⟨bl_⟩⟩
     case round =>
      clear H';try clear p2
      try clear c3
      try clear p3
      try clear q3
      try clear hx3
      try clear c5
      try clear c5b0
      try clear c5b1
      try clear c6
      try clear c6b0
      try clear p6
      try clear c8
      try clear c8b0
      try clear c9
      try clear c9b0
      try clear hx342_0
      try clear p2
      try clear p342
      try clear q342
      obtain ⟨x30_2, rfl, HA, HK2, HB⟩ := hrel
      cases gk with
      | zero => exact absurd HA.out (by simp [spec_cdRank.l1])
      | succ k2 =>
       have H := HA.out;clear HA;simp only [spec_cdRank.l1] at H;by_cases c10 : x30_2 < (l0.length : Int)
       ·rw [if_pos c10] at H;have c10b0 : decide (x30_2 < (l0.length : Int)) = true := decide_eq_true c10;clear c10;by_cases c11 : 0 ≤ x30_2;rotate_left
        ·rw [if_neg c11] at H;exact absurd H (by simp)
        rw [if_pos c11] at H;have c11b0 : decide (0 ≤ x30_2) = true := decide_eq_true c11;clear c11;by_cases c12 : x30_2 < (l0.length : Int);rotate_left
        ·rw [if_neg c12] at H;exact absurd H (by simp)
        rw [if_pos c12] at H;have c12b0 : decide (x30_2 < (l0.length : Int)) = true := decide_eq_true c12;clear c12;have HC13 := mk_ H;clear H;have p344 : 0 ≤ (x30_2 : Int) := od_;have q344 : x30_2 < (l0.length : Int) := od_;obtain ⟨ad344, e344, hx344_0, hx344_1⟩ := at_T39 HR0.out x30_2 p344 q344;cases e344;replace hx344_0 := (HB.out.cell (World.block_lt_of_cell? w _ hx344_0)).trans hx344_0;replace hx344_1 := (HB.out.cell (World.block_lt_of_cell? w _ hx344_1)).trans hx344_1;replace p344 := eq_true p344;replace q344 := eq_true q344;go_upto_region 11 with (first | ((with_reducible refine g_ 13 ?_); refine bx_ 13 #[.int .i64 0, .int .i64 0] 39 ?_; intro gb345 hg w14 hbox hb; have n0_ := mk_ (below_step bl_ hb); have n1_ := mk_ (hbox); have n2_ := mk_ ((by rw [hg]; exact (below_size bl_) : w.heap.size ≤ gb345)); have n3_ := n2_; clear HB; have HB := n0_; have BK345 := n1_; have GW345 := n2_; have GE345 := n3_; clear n0_ n1_ n2_ n3_ hb hbox hg; have hcz15_0 : w14.cell? ⟨gb345, 0, none⟩ = some (.int .i64 0) := (blk_cell BK345.out 0).trans rfl; have hcz15_1 : w14.cell? ⟨gb345, 1, none⟩ = some (.int .i64 0) := (blk_cell BK345.out 1).trans rfl; have hfz15_0 := blk_frozen BK345.out 0; have hfz15_1 := blk_frozen BK345.out 1))
        (try simp only [Act.put, List.setIfInBounds_toArray, List.set_cons_zero, List.set_cons_succ]);go_cut [45] (fun v45 wc => ∃ (kq : Nat) (x45_12 : Bool), v45 = .bool x45_12 ∧ Aside0 (spec_cdRank.j2 kq l0 a1 a2 l3 x9_1 x10_1 (rd l3 (ji7)) l0 (l0.length : Int) x30_2 x45_12 = some r) ∧ Aside0 (kq ≤ k2) ∧ Aside0 (wc.heap[gb345]? = some (.cells #[.int .i64 ((rd_T39 l0 x30_2).f0), .int .i64 ((rd_T39 l0 x30_2).f1)] 39 (0, 0))) ∧ Aside0 (Below w.heap.size w wc))
        case first =>
         have H := HC13.out;clear HC13;by_cases c16 : ((rd_T39 l0 x30_2).f0) = a1
         ·rw [if_pos c16] at H;have c16b0 : (((rd_T39 l0 x30_2).f0) == a1) = true := beq_iff_eq.mpr c16;have c16b1 : (((rd_T39 l0 x30_2).f0) != a1) = false := bne_eq_false_iff_eq.mpr c16;clear c16;(first | rw [c16b0] | (simp only [i64_w, i32_w]; rw [c16b0]) | rw [c16b1] | skip);have H' := mk_ H;clear H;have hcz17_0 : w14.cell? ⟨gb345, 0, none⟩ = some (.int .i64 0) := (blk_cell BK345.out 0).trans rfl;have hcz17_1 : w14.cell? ⟨gb345, 1, none⟩ = some (.int .i64 0) := (blk_cell BK345.out 1).trans rfl;have hfz17_0 := blk_frozen BK345.out 0;have hfz17_1 := blk_frozen BK345.out 1;go_wp2;go_meet
          case rel => exact ⟨_, ((((rd_T39 l0 x30_2).f1) == (wrap64 (a1 + x10_1)))), (es_), H', ⟨by have := HK1.out; have := HK2.out; first | omega | exact Nat.le_refl _⟩, ⟨by (with_reducible repeat (first | refine blk_drewN ?_ _ | refine blk_drew ?_ | refine blk_alloc ?_ _)); refine blk_put (cs := #[.int .i64 ((rd_T39 l0 x30_2).f0), .int .i64 0]) ?_ 1 _ rfl; (with_reducible repeat (first | refine blk_drewN ?_ _ | refine blk_drew ?_ | refine blk_alloc ?_ _)); refine blk_put (cs := #[.int .i64 0, .int .i64 0]) ?_ 0 _ rfl; exact kk_ <| BK345.out⟩, ⟨bg_⟩⟩
         ·rw [if_neg c16] at H;have c16b0 : (((rd_T39 l0 x30_2).f0) == a1) = false := beq_eq_false_iff_ne.mpr c16;have c16b1 : (((rd_T39 l0 x30_2).f0) != a1) = true := bne_iff_ne.mpr c16;(first | rw [c16b0] | (simp only [i64_w, i32_w]; rw [c16b0]) | rw [c16b1] | skip);have H' := mk_ H;clear H;have hcz18_0 : w14.cell? ⟨gb345, 0, none⟩ = some (.int .i64 0) := (blk_cell BK345.out 0).trans rfl;have hcz18_1 : w14.cell? ⟨gb345, 1, none⟩ = some (.int .i64 0) := (blk_cell BK345.out 1).trans rfl;have hfz18_0 := blk_frozen BK345.out 0;have hfz18_1 := blk_frozen BK345.out 1;go_wp2;go_meet
          case rel => exact ⟨_, (false), (es_), H', ⟨by have := HK1.out; have := HK2.out; first | omega | exact Nat.le_refl _⟩, ⟨by (with_reducible repeat (first | refine blk_drewN ?_ _ | refine blk_drew ?_ | refine blk_alloc ?_ _)); refine blk_put (cs := #[.int .i64 ((rd_T39 l0 x30_2).f0), .int .i64 0]) ?_ 1 _ rfl; (with_reducible repeat (first | refine blk_drewN ?_ _ | refine blk_drew ?_ | refine blk_alloc ?_ _)); refine blk_put (cs := #[.int .i64 0, .int .i64 0]) ?_ 0 _ rfl; exact kk_ <| BK345.out⟩, ⟨bg_⟩⟩
        case rest =>
         clear HC13;try clear c1
         try clear p2
         try clear c3
         try clear p3
         try clear q3
         try clear hx3
         try clear c5
         try clear c5b0
         try clear c5b1
         try clear c6
         try clear c6b0
         try clear p6
         try clear c8
         try clear c8b0
         try clear c9
         try clear c9b0
         try clear c10
         try clear c10b0
         try clear c11
         try clear c11b0
         try clear c12
         try clear c12b0
         try clear c16
         try clear c16b0
         try clear c16b1
         try clear hcz15_0
         try clear hcz15_1
         try clear hcz17_0
         try clear hcz17_1
         try clear hcz18_0
         try clear hcz18_1
         try clear hfz15_0
         try clear hfz15_1
         try clear hfz17_0
         try clear hfz17_1
         try clear hfz18_0
         try clear hfz18_1
         try clear hx342_0
         try clear hx344_0
         try clear hx344_1
         try clear p2
         try clear p3
         try clear p342
         try clear p344
         try clear p6
         try clear q3
         try clear q342
         try clear q344
         obtain ⟨kq, x45_12, rfl, HA, HJ12, BK345, HB⟩ := hcut
         cases kq with
         | zero => exact absurd HA.out (by simp [spec_cdRank.j2])
         | succ kj12 =>
          have H := HA.out;clear HA;simp only [spec_cdRank.j2] at H;by_cases c19 : x45_12 = true
          ·subst c19;have H1 : ((spec_cdRank.f kj12 l0 (wrap64 (a1 + 1)) (wrap64 (x10_1 - 1)) l3).bind fun t346 => ((spec_cdRank.f kj12 l0 (wrap64 ((wrap64 (a1 + x10_1)) + 1)) (wrap64 ((wrap64 (a2 - 1)) - x10_1)) l3).bind fun t347 => (some (wrap64 ((wrap64 (x9_1 + (wrap64 (t346 * (rd l3 (ji7)))))) + t347))))) = some r := by rw [if_pos rfl] at H; exact H
           clear H;have H := H1;clear H1;replace H := Option.bind_eq_some_iff.mp H;obtain ⟨t346, A200, H⟩ := H;try dsimp only at H
           have A20 := mk_ A200;clear A200;replace H := Option.bind_eq_some_iff.mp H;obtain ⟨t347, A210, H⟩ := H;try dsimp only at H
           have A21 := mk_ A210;clear A210;obtain rfl := Option.some.inj H;replace A21 := mk_ (show spec_cdRank.f kj12 l0 (wrap64 ((wrap64 (a1 + x10_1)) + 1)) ji7 l3 = some t347 from by have h_ := A21.out; rw [hji7] at h_; exact h_);go_wp2_with (first | (refine gc_ 53 Tryz.func57 #[.slice (some ad344) l0.length c0, .int .i64 (wrap64 (a1 + 1)), .int .i64 (wrap64 (x10_1 - 1)), .slice (some ad342) l3.length c3] ?_; (with_reducible refine (ih kj12 (by have := HK1.out; have := HK2.out; have := HJ12.out; omega) _ _ l0 (wrap64 (a1 + 1)) (wrap64 (x10_1 - 1)) _ _ l3 t346 _ ?side1 ?side2 ?side3 ?side4 A20.out).mono ?_); (case side1 => exact kc_ <| (Kd.C_below HR0.out HB.out)); (case side2 => exact HC0.out); (case side3 => exact kc_ <| (Kd.C_below HR3.out HB.out)); (case side4 => exact HC3.out); rintro e w22 ⟨rfl, hb⟩; refine ⟨_, rfl, ?_⟩; have n0_ := mk_ (blk_below (g := gb345) (o := .cells #[.int .i64 ((rd_T39 l0 x30_2).f0), .int .i64 ((rd_T39 l0 x30_2).f1)] 39 (0, 0)) kb_ hb); have n1_ := mk_ (below_step bg_ hb); clear BK345 HB; have BK345 := n0_; have HB := n1_; clear n0_ n1_; (try clear hb); (try clear hb2); (try clear hk); (try clear hi)) | (refine gc_ 67 Tryz.func57 #[.slice (some ad344) l0.length c0, .int .i64 (wrap64 ((wrap64 (a1 + x10_1)) + 1)), .int .i64 ji7, .slice (some ad342) l3.length c3] ?_; (with_reducible refine (ih kj12 (by have := HK1.out; have := HK2.out; have := HJ12.out; omega) _ _ l0 (wrap64 ((wrap64 (a1 + x10_1)) + 1)) ji7 _ _ l3 t347 _ ?side1 ?side2 ?side3 ?side4 A21.out).mono ?_); (case side1 => exact kc_ <| (Kd.C_below HR0.out HB.out)); (case side2 => exact HC0.out); (case side3 => exact kc_ <| (Kd.C_below HR3.out HB.out)); (case side4 => exact HC3.out); rintro e w23 ⟨rfl, hb⟩; refine ⟨_, rfl, ?_⟩; have n0_ := mk_ (blk_below (g := gb345) (o := .cells #[.int .i64 ((rd_T39 l0 x30_2).f0), .int .i64 ((rd_T39 l0 x30_2).f1)] 39 (0, 0)) kb_ hb); have n1_ := mk_ (below_step bg_ hb); clear BK345 HB; have BK345 := n0_; have HB := n1_; clear n0_ n1_; (try clear hb); (try clear hb2); (try clear hk); (try clear hi)));go_ret;exact ⟨by first | rfl | (simp [errW_none, errW_some] <;> rfl) | (simp only [← hji7]; first | rfl | (simp [errW_none, errW_some] <;> rfl)) | (simp [*, errW_none, errW_some] <;> rfl), bg_⟩
          ·replace c19 := Bool.eq_false_iff.mpr c19;subst c19;have H1 : (spec_cdRank.l1 kj12 l0 a1 a2 l3 x9_1 x10_1 (rd l3 (ji7)) l0 (l0.length : Int) (wrap64 (x30_2 + 1))) = some r := by rw [if_neg (show ¬ (false = true) by decide)] at H; exact H
           clear H;have H := H1;clear H1;have H' := mk_ H;clear H;go_wp2;go_roundg kj12
           case measure => have := HK1.out; have := HK2.out; have := HJ12.out; omega
           case rel => exact ⟨(wrap64 (x30_2 + 1)), (es_), H', ⟨by have := HK1.out; have := HK2.out; have := HJ12.out; omega⟩, ⟨bg_⟩⟩
       ·rw [if_neg c10] at H;have c10b0 : decide (x30_2 < (l0.length : Int)) = false := decide_eq_false c10;clear c10;obtain ⟨ji24, hji24⟩ : ∃ j_ : Int, (wrap64 (x10_1 - 1)) = j_ := ⟨_, rfl⟩;replace H : (if 0 ≤ (ji24) then (if (ji24) < (l3.length : Int) then (spec_cdRank.l0 k2 l0 a1 a2 l3 (wrap64 (x9_1 + (wrap64 ((rd l3 (ji24)) * (rd l3 (ji7)))))) (wrap64 (x10_1 + 2))) else (none)) else (none)) = some r := by first | (rw [hji24] at H; exact H) | (simp only [hji24] at H ⊢; exact H)
        have hji24w : (IntKind.i64.wrap (x10_1 - 1)) = ji24 := (i64_w _).trans hji24;by_cases c25 : 0 ≤ (ji24);rotate_left
        ·rw [if_neg c25] at H;exact absurd H (by simp)
        rw [if_pos c25] at H;have c25b0 : decide (0 ≤ (ji24)) = true := decide_eq_true c25;clear c25;by_cases c26 : (ji24) < (l3.length : Int);rotate_left
        ·rw [if_neg c26] at H;exact absurd H (by simp)
        rw [if_pos c26] at H;have c26b0 : decide ((ji24) < (l3.length : Int)) = true := decide_eq_true c26;clear c26;have H' := mk_ H;clear H;have p343 : 0 ≤ ((ji24) : Int) := od_;have q343 : (ji24) < (l3.length : Int) := od_;obtain ⟨ad343, e343, hx343_0⟩ := Kd.at_int HR3.out (ji24) p343 q343;obtain rfl : ad342 = ad343 := (by injection e343);replace hx343_0 := (HB.out.cell (World.block_lt_of_cell? w _ hx343_0)).trans hx343_0;replace p343 := eq_true p343;replace q343 := eq_true q343;go_wp2;go_roundg k2
        case measure => have := HK1.out; have := HK2.out; omega
        case rel => exact ⟨(wrap64 (x9_1 + (wrap64 ((rd l3 (ji24)) * (rd l3 (ji7)))))), (wrap64 (x10_1 + 2)), (by first | rfl | (simp; done) | (simp only [← hji7, ← hji24] <;> (first | rfl | simp)) | (simp [*]; done)), (es_), H', ⟨by have := HK1.out; have := HK2.out; omega⟩, ⟨bl_⟩⟩
    ·rw [if_neg c6] at H;have c6b0 : decide (x10_1 < a2) = false := decide_eq_false c6;clear c6;obtain rfl := Option.some.inj H;go_wp2;go_ret;exact ⟨ew_, bl_⟩
def spec_RankOfPlanePairing.j0 : Nat → Int → List (S39) → Bool → Option (Int × Bool)
 | 0, _, _, _ => none
 | k + 1, x0, x1, x26 => if x26 = true then (some (0, false)) else ((spec_cdPlane.f k x0).bind fun t354 => ((spec_cdRank.f k x1 0 x0 t354).bind fun t357 => (some (t357, true))))
def spec_RankOfPlanePairing.f (k : Nat) (a0 : Int) (l1 : List (S39)) : Option (Int × Bool) := (spec_cdPlanePoints.f a0).bind fun t348 => (if t348 = true then ((spec_cdGood.f k a0 l1).bind fun t349 => (if t349 = true then ((spec_cdPairing.f k a0 l1).bind fun t350 => (if t350 = true then ((spec_cdPairs.f k l1).bind fun t351 => (spec_RankOfPlanePairing.j0 k a0 l1 (decide ((t351.length : Int) > 0)))) else (spec_RankOfPlanePairing.j0 k a0 l1 true))) else (spec_RankOfPlanePairing.j0 k a0 l1 true))) else (spec_RankOfPlanePairing.j0 k a0 l1 true))
theorem spec_RankOfPlanePairing.calls (k : Nat) (a0 : Int) (A1 : Option Addr) (c1 : Nat) (l1 : List (S39)) (r1 : Int) (r2 : Bool) (w : World) (hr1 : Kd.C k39 w A1 l1.length l1) (hc1 : l1.length ≤ c1) (h : spec_RankOfPlanePairing.f k a0 l1 = some (r1, r2)) :
  Calls Tryz.prog 15 #[.int .i64 a0, .slice A1 l1.length c1] w fun e w' => e = .returned (.tuple #[.int .i64 r1, .bool r2]) ∧ Below w.heap.size w w' := by
 have HR1 := mk_ hr1;have HC1 := mk_ hc1;clear hr1 hc1;have HB := mk_ (Below.refl w.heap.size w);have H : ((spec_cdPlanePoints.f a0).bind fun t348 => (if t348 = true then ((spec_cdGood.f k a0 l1).bind fun t349 => (if t349 = true then ((spec_cdPairing.f k a0 l1).bind fun t350 => (if t350 = true then ((spec_cdPairs.f k l1).bind fun t351 => (spec_RankOfPlanePairing.j0 k a0 l1 (decide ((t351.length : Int) > 0)))) else (spec_RankOfPlanePairing.j0 k a0 l1 true))) else (spec_RankOfPlanePairing.j0 k a0 l1 true))) else (spec_RankOfPlanePairing.j0 k a0 l1 true))) = some (r1, r2) := h;clear h;have HC3 := mk_ H;clear H;go_enter Tryz.func15, Tryz.ntmps15;go_upto_region 1 with (fail)
 go_cut [26] (fun v26 wc => ∃ (kq : Nat) (x26_2 : Bool), v26 = .bool x26_2 ∧ Aside0 (spec_RankOfPlanePairing.j0 kq a0 l1 x26_2 = some (r1, r2)) ∧ Aside0 (kq ≤ k) ∧ Aside0 (Below w.heap.size w wc))
 case first =>
  have H := HC3.out;clear HC3;replace H := Option.bind_eq_some_iff.mp H;obtain ⟨t348, A40, H⟩ := H;try dsimp only at H
  have A4 := mk_ A40;clear A40;by_cases c5 : t348 = true
  ·subst c5;have H1 : ((spec_cdGood.f k a0 l1).bind fun t349 => (if t349 = true then ((spec_cdPairing.f k a0 l1).bind fun t350 => (if t350 = true then ((spec_cdPairs.f k l1).bind fun t351 => (spec_RankOfPlanePairing.j0 k a0 l1 (decide ((t351.length : Int) > 0)))) else (spec_RankOfPlanePairing.j0 k a0 l1 true))) else (spec_RankOfPlanePairing.j0 k a0 l1 true))) = some (r1, r2) := by rw [if_pos rfl] at H; exact H
   clear H;have H := H1;clear H1;replace H := Option.bind_eq_some_iff.mp H;obtain ⟨t349, A60, H⟩ := H;try dsimp only at H
   have A6 := mk_ A60;clear A60;by_cases c7 : t349 = true
   ·subst c7;have H1 : ((spec_cdPairing.f k a0 l1).bind fun t350 => (if t350 = true then ((spec_cdPairs.f k l1).bind fun t351 => (spec_RankOfPlanePairing.j0 k a0 l1 (decide ((t351.length : Int) > 0)))) else (spec_RankOfPlanePairing.j0 k a0 l1 true))) = some (r1, r2) := by rw [if_pos rfl] at H; exact H
    clear H;have H := H1;clear H1;replace H := Option.bind_eq_some_iff.mp H;obtain ⟨t350, A80, H⟩ := H;try dsimp only at H
    have A8 := mk_ A80;clear A80;by_cases c9 : t350 = true
    ·subst c9;have H1 : ((spec_cdPairs.f k l1).bind fun t351 => (spec_RankOfPlanePairing.j0 k a0 l1 (decide ((t351.length : Int) > 0)))) = some (r1, r2) := by rw [if_pos rfl] at H; exact H
     clear H;have H := H1;clear H1;replace H := Option.bind_eq_some_iff.mp H;obtain ⟨t351, A100, H⟩ := H;try dsimp only at H
     have A10 := mk_ A100;clear A100;have H' := mk_ H;clear H;go_wp2_with (first | (refine gd_ 7 Tryz.func39 (spec_cdPlanePoints.calls a0 true _ A4.out) ?_; intro nd) | (go_at_call 54; (with_reducible refine (spec_cdGood.calls k a0 _ _ l1 true _ ?side1 ?side2 A6.out).mono ?_); (case side1 => exact kc_ <| (Kd.C_below HR1.out bl_)); (case side2 => exact HC1.out); rintro e w11 ⟨rfl, hb⟩; have n0_ := mk_ (below_step bl_ hb); clear HB; have HB := n0_; clear n0_; (try clear hb); (try clear hb2); (try clear hk); (try clear hi)) | (go_at_call 55; (with_reducible refine (spec_cdPairing.calls k a0 _ _ l1 true _ ?side1 ?side2 A8.out).mono ?_); (case side1 => exact kc_ <| (Kd.C_below HR1.out HB.out)); (case side2 => exact HC1.out); rintro e w12 ⟨rfl, hb⟩; have n0_ := mk_ (below_step bl_ hb); clear HB; have HB := n0_; clear n0_; (try clear hb); (try clear hb2); (try clear hk); (try clear hi)) | (go_at_call 56; (with_reducible refine (spec_cdPairs.calls k _ _ l1 t351 _ ?side1 ?side2 A10.out).mono ?_); (case side1 => exact kc_ <| (Kd.C_below HR1.out HB.out)); (case side2 => exact HC1.out); rintro e w13 ⟨v352, rfl, ho0, hb⟩; have n0_ := mk_ (Kd.S_lower ho0 (below_size bl_)); have n1_ := mk_ (below_step bl_ hb); clear HB; have HO353 := n0_; have HB := n1_; clear n0_ n1_; (try clear hb); (try clear hb2); (try clear hk); (try clear hi); (try clear ho0); obtain ⟨Ao14, co14, eo14⟩ := Kd.S_slice HO353.out; subst eo14));go_meet
     case rel => exact ⟨_, (decide ((t351.length : Int) > 0)), (es_), H', ⟨by first | omega | exact Nat.le_refl _⟩, ⟨bl_⟩⟩
    ·replace c9 := Bool.eq_false_iff.mpr c9;subst c9;have H1 : (spec_RankOfPlanePairing.j0 k a0 l1 true) = some (r1, r2) := by rw [if_neg (show ¬ (false = true) by decide)] at H; exact H
     clear H;have H := H1;clear H1;have H' := mk_ H;clear H;go_wp2_with (first | (refine gd_ 7 Tryz.func39 (spec_cdPlanePoints.calls a0 true _ A4.out) ?_; intro nd) | (go_at_call 54; (with_reducible refine (spec_cdGood.calls k a0 _ _ l1 true _ ?side1 ?side2 A6.out).mono ?_); (case side1 => exact kc_ <| (Kd.C_below HR1.out bl_)); (case side2 => exact HC1.out); rintro e w15 ⟨rfl, hb⟩; have n0_ := mk_ (below_step bl_ hb); clear HB; have HB := n0_; clear n0_; (try clear hb); (try clear hb2); (try clear hk); (try clear hi)) | (go_at_call 55; (with_reducible refine (spec_cdPairing.calls k a0 _ _ l1 false _ ?side1 ?side2 A8.out).mono ?_); (case side1 => exact kc_ <| (Kd.C_below HR1.out HB.out)); (case side2 => exact HC1.out); rintro e w16 ⟨rfl, hb⟩; have n0_ := mk_ (below_step bl_ hb); clear HB; have HB := n0_; clear n0_; (try clear hb); (try clear hb2); (try clear hk); (try clear hi)));go_meet
     case rel => exact ⟨_, (true), (es_), H', ⟨by first | omega | exact Nat.le_refl _⟩, ⟨bl_⟩⟩
   ·replace c7 := Bool.eq_false_iff.mpr c7;subst c7;have H1 : (spec_RankOfPlanePairing.j0 k a0 l1 true) = some (r1, r2) := by rw [if_neg (show ¬ (false = true) by decide)] at H; exact H
    clear H;have H := H1;clear H1;have H' := mk_ H;clear H;go_wp2_with (first | (refine gd_ 7 Tryz.func39 (spec_cdPlanePoints.calls a0 true _ A4.out) ?_; intro nd) | (go_at_call 54; (with_reducible refine (spec_cdGood.calls k a0 _ _ l1 false _ ?side1 ?side2 A6.out).mono ?_); (case side1 => exact kc_ <| (Kd.C_below HR1.out bl_)); (case side2 => exact HC1.out); rintro e w17 ⟨rfl, hb⟩; have n0_ := mk_ (below_step bl_ hb); clear HB; have HB := n0_; clear n0_; (try clear hb); (try clear hb2); (try clear hk); (try clear hi)));go_meet
    case rel => exact ⟨_, (true), (es_), H', ⟨by first | omega | exact Nat.le_refl _⟩, ⟨bl_⟩⟩
  ·replace c5 := Bool.eq_false_iff.mpr c5;subst c5;have H1 : (spec_RankOfPlanePairing.j0 k a0 l1 true) = some (r1, r2) := by rw [if_neg (show ¬ (false = true) by decide)] at H; exact H
   clear H;have H := H1;clear H1;have H' := mk_ H;clear H;go_wp2_with (first | (refine gd_ 7 Tryz.func39 (spec_cdPlanePoints.calls a0 false _ A4.out) ?_; intro nd));go_meet
   case rel => exact ⟨_, (true), (es_), H', ⟨by first | omega | exact Nat.le_refl _⟩, ⟨bl_⟩⟩
 case rest =>
  clear HC3;try clear c1
  try clear p2
  try clear c3
  try clear c5
  try clear c7
  try clear c9
  try clear c15
  obtain ⟨kq, x26_2, rfl, HA, HJ2, HB⟩ := hcut
  cases kq with
  | zero => exact absurd HA.out (by simp [spec_RankOfPlanePairing.j0])
  | succ kj2 =>
   have H := HA.out;clear HA;simp only [spec_RankOfPlanePairing.j0] at H;by_cases c18 : x26_2 = true
   ·subst c18;have H1 : (some (0, false)) = some (r1, r2) := by rw [if_pos rfl] at H; exact H
    clear H;have H := H1;clear H1;simp only [Option.some.injEq, Prod.mk.injEq] at H;obtain ⟨rfl, rfl⟩ := H;go_wp2;go_ret2;exact ⟨ew_, bl_⟩
   ·replace c18 := Bool.eq_false_iff.mpr c18;subst c18;have H1 : ((spec_cdPlane.f kj2 a0).bind fun t354 => ((spec_cdRank.f kj2 l1 0 a0 t354).bind fun t357 => (some (t357, true)))) = some (r1, r2) := by rw [if_neg (show ¬ (false = true) by decide)] at H; exact H
    clear H;have H := H1;clear H1;replace H := Option.bind_eq_some_iff.mp H;obtain ⟨t354, A190, H⟩ := H;try dsimp only at H
    have A19 := mk_ A190;clear A190;replace H := Option.bind_eq_some_iff.mp H;obtain ⟨t357, A200, H⟩ := H;try dsimp only at H
    have A20 := mk_ A200;clear A200;simp only [Option.some.injEq, Prod.mk.injEq] at H;obtain ⟨rfl, rfl⟩ := H;go_wp2_with (first | (refine gc_ 30 Tryz.func42 #[.int .i64 a0] ?_; (with_reducible refine (spec_cdPlane.calls kj2 a0 t354 _ A19.out).mono ?_); rintro e w21 ⟨v355, rfl, ho0, hb⟩; refine ⟨_, rfl, ?_⟩; have n0_ := mk_ (Kd.R_lower ho0 (below_size bl_)); have n1_ := mk_ (below_step bl_ hb); clear HB; have HO356 := n0_; have HB := n1_; clear n0_ n1_; (try clear hb); (try clear hb2); (try clear hk); (try clear hi); (try clear ho0); obtain ⟨Ao22, co22, eo22⟩ := Kd.R_slice HO356.out; subst eo22) | (refine gc_ 31 Tryz.func57 #[.slice A1 l1.length c1, .int .i64 0, .int .i64 a0, .slice Ao22 t354.length co22] ?_; (with_reducible refine (spec_cdRank.calls kj2 _ _ l1 0 a0 _ _ t354 t357 _ ?side1 ?side2 ?side3 ?side4 A20.out).mono ?_); (case side1 => exact kc_ <| (Kd.C_below HR1.out HB.out)); (case side2 => exact HC1.out); (case side3 => exact kc_ <| (Kd.R_reads' HO356.out).2.2); (case side4 => exact (Kd.R_reads' HO356.out).2.1); rintro e w23 ⟨rfl, hb⟩; refine ⟨_, rfl, ?_⟩; have n0_ := mk_ (Kd.R_below (kr_ <| HO356.out) hb); have n1_ := mk_ (below_step bl_ hb); clear HO356 HB; have HO356 := n0_; have HB := n1_; clear n0_ n1_; (try clear hb); (try clear hb2); (try clear hk); (try clear hi)));go_ret2;exact ⟨ew_, bl_⟩
def spec_IsPairing.f (k : Nat) (a0 : Int) (l1 : List (S39)) : Option (Bool × Bool) := (spec_cdGood.f k a0 l1).bind fun t358 => (if t358 = true then ((spec_cdPairing.f k a0 l1).bind fun t359 => (some (t359, true))) else (some (false, false)))
theorem spec_IsPairing.calls (k : Nat) (a0 : Int) (A1 : Option Addr) (c1 : Nat) (l1 : List (S39)) (r1 : Bool) (r2 : Bool) (w : World) (hr1 : Kd.C k39 w A1 l1.length l1) (hc1 : l1.length ≤ c1) (h : spec_IsPairing.f k a0 l1 = some (r1, r2)) :
  Calls Tryz.prog 17 #[.int .i64 a0, .slice A1 l1.length c1] w fun e w' => e = .returned (.tuple #[.bool r1, .bool r2]) ∧ Below w.heap.size w w' := by
 have HR1 := mk_ hr1;have HC1 := mk_ hc1;clear hr1 hc1;have HB := mk_ (Below.refl w.heap.size w);have H : ((spec_cdGood.f k a0 l1).bind fun t358 => (if t358 = true then ((spec_cdPairing.f k a0 l1).bind fun t359 => (some (t359, true))) else (some (false, false)))) = some (r1, r2) := h;clear h;replace H := Option.bind_eq_some_iff.mp H;obtain ⟨t358, A30, H⟩ := H;try dsimp only at H
 have A3 := mk_ A30;clear A30;by_cases c4 : t358 = true
 ·subst c4;have H1 : ((spec_cdPairing.f k a0 l1).bind fun t359 => (some (t359, true))) = some (r1, r2) := by rw [if_pos rfl] at H; exact H
  clear H;have H := H1;clear H1;replace H := Option.bind_eq_some_iff.mp H;obtain ⟨t359, A50, H⟩ := H;try dsimp only at H
  have A5 := mk_ A50;clear A50;simp only [Option.some.injEq, Prod.mk.injEq] at H;obtain ⟨rfl, rfl⟩ := H;go_enter Tryz.func17, Tryz.ntmps17;go_wp2_with (first | (refine gc_ 8 Tryz.func54 #[.int .i64 a0, .slice A1 l1.length c1] ?_; (with_reducible refine (spec_cdGood.calls k a0 _ _ l1 true _ ?side1 ?side2 A3.out).mono ?_); (case side1 => exact kc_ <| HR1.out); (case side2 => exact HC1.out); rintro e w6 ⟨rfl, hb⟩; refine ⟨_, rfl, ?_⟩; have n0_ := mk_ (below_step bl_ hb); clear HB; have HB := n0_; clear n0_; (try clear hb); (try clear hb2); (try clear hk); (try clear hi)) | (refine gc_ 12 Tryz.func55 #[.int .i64 a0, .slice A1 l1.length c1] ?_; (with_reducible refine (spec_cdPairing.calls k a0 _ _ l1 t359 _ ?side1 ?side2 A5.out).mono ?_); (case side1 => exact kc_ <| (Kd.C_below HR1.out HB.out)); (case side2 => exact HC1.out); rintro e w7 ⟨rfl, hb⟩; refine ⟨_, rfl, ?_⟩; have n0_ := mk_ (below_step bl_ hb); clear HB; have HB := n0_; clear n0_; (try clear hb); (try clear hb2); (try clear hk); (try clear hi)));go_ret2;exact ⟨ew_, bl_⟩
 ·replace c4 := Bool.eq_false_iff.mpr c4;subst c4;have H1 : (some (false, false)) = some (r1, r2) := by rw [if_neg (show ¬ (false = true) by decide)] at H; exact H
  clear H;have H := H1;clear H1;simp only [Option.some.injEq, Prod.mk.injEq] at H;obtain ⟨rfl, rfl⟩ := H;go_enter Tryz.func17, Tryz.ntmps17;go_wp2_with (first | (refine gc_ 8 Tryz.func54 #[.int .i64 a0, .slice A1 l1.length c1] ?_; (with_reducible refine (spec_cdGood.calls k a0 _ _ l1 false _ ?side1 ?side2 A3.out).mono ?_); (case side1 => exact kc_ <| HR1.out); (case side2 => exact HC1.out); rintro e w8 ⟨rfl, hb⟩; refine ⟨_, rfl, ?_⟩; have n0_ := mk_ (below_step bl_ hb); clear HB; have HB := n0_; clear n0_; (try clear hb); (try clear hb2); (try clear hk); (try clear hi)));go_ret2;exact ⟨ew_, bl_⟩
def impl_Chord_70.f (l0 : List S39) : Option (List S39) := if l0.length < 8796093022208 then some l0 else none
theorem impl_Chord_70.calls (A0 : Option Addr) (c0 : Nat) (l0 : List S39) (r : List S39) (w : World) (hr0 : Kd.C k39 w A0 l0.length l0) (hc0 : l0.length ≤ c0) (h : impl_Chord_70.f l0 = some r) :
  Calls Tryz.prog 70 #[.slice A0 l0.length c0] w fun e w' => ∃ v0_ : Value, e = .returned (v0_) ∧ Kd.R k39 39 w' w.heap.size (fun _ => True) v0_ r ∧ Below w.heap.size w w' := by
 unfold impl_Chord_70.f at h;by_cases hl : l0.length < 8796093022208
 ·rw [if_pos hl] at h;obtain rfl := Option.some.inj h;clear h;have qT : ∀ (w : World) (a : Option Addr) (n c : Nat), (binOp .eql 26 (.slice a n c) (.slice none 0 0)).run Tryz.prog w = .ok (.bool a.isNone) w := fun w a n c => Lib.run_eql_slice_nil w 26 39 a n c 0 0 Tryz.underlying26
  cases A0 with
  | none =>
   have e0 : l0 = [] := by
    rcases Nat.eq_zero_or_pos l0.length with h0 | h0
    ·exact List.length_eq_zero_iff.1 h0
    ·obtain ⟨ad, h1, _⟩ := hr0.2.2 h0;cases h1
   subst e0;clear hr0 hc0 hl;go_enter Tryz.func70, Tryz.ntmps70;go_wp2_with fail;go_ret;exact ⟨_, rfl, Kd.R_nil _ _ _ _ _, Below.refl _ _⟩
  | some ad =>
   have HR0 := mk_ hr0;have HC0 := mk_ hc0;have HL := mk_ hl;clear hr0 hc0 hl;have HB := mk_ (Below.refl w.heap.size w);go_enter Tryz.func70, Tryz.ntmps70;go_wp2_with (first | ((with_reducible refine g_ 5 ?_); refine Kd.R_lit k39 _ 39 ?hg (N := 5) ?hd (xs := ([] : List S39)) (inner := []) (ok := fun _ => True) (okp := fun _ => True) ?hr ?hp (fun _ hk => hk) trivial (Below.refl _ _) (Nat.le_refl _) (by simp) ?_; (case hd => rfl); (case hg => rfl); (case hr => first | (go_simp; done) | (go_simp; rfl)); (case hp => exact (Reps.none _ _)); intro v468 w3 ho4 hb hg_ hnew_; clear hg_ hnew_; have n0_ := mk_ (Kd.R_lower ho4 (below_size bl_)); have n1_ := mk_ (below_step bl_ hb); clear HB; have HO469 := n0_; have HB := n1_; clear n0_ n1_ hb ho4) | ((with_reducible refine gate_builtin (b := .append) (xs := #[.tmp 5, .tmp 6]) rfl ?_); at_builtin; refine Kd.R_append_rows k39 (w0 := w) w.heap.size rfl (.tmp 5) (.tmp 6) 26 39 (.agg #[(.int .i64 0), (.int .i64 0)]) 16 rfl Tryz.underlying26 info39 rfl (by decide) (by omega) v468 ([] : List S39) l0 _ _ _ (fun _ => True) (fun _ => False) rfl rfl ?aO ?aR (fun _ _ h => h) (fun _ h => h.elim) ?aF ?aB ?aS ?aL ?_; (case aR => exact kc_ <| (Kd.C_below HR0.out HB.out)); (case aB => exact bl_); (case aF => exact (fun _ _ => trivial)); (case aO => exact (kr_ <| HO469.out)); (case aS => exact (below_size bl_)); (case aL => have := HL.out; simp; omega); intro v471 w5 ho hb hg hat; have n0_ := mk_ (hb); have n1_ := mk_ (ho); clear HB HO469; have HB := n0_; have HO472 := n1_; clear n0_ n1_ ho hb hg hat));go_ret;exact ⟨_, rfl, by exact kr_ <| HO472.out, bl_⟩
 ·rw [if_neg hl] at h;cases h
def impl_chord.f (a0 : Int) (a1 : Int) : Option (Int × Int) := some (mn a0 a1, mx a0 a1)
theorem impl_chord.calls (a0 : Int) (a1 : Int) (r1 : Int) (r2 : Int) (w : World) (h : impl_chord.f a0 a1 = some (r1, r2)) :
  Calls Tryz.prog 98 #[.int .i64 a0, .int .i64 a1] w fun e w' => e = .returned (.agg #[.int .i64 r1, .int .i64 r2]) ∧ Below w.heap.size w w' := by
 have hu39 := Tryz.underlying39;have HB := mk_ (Below.refl w.heap.size w);have H : (some (mn a0 a1, mx a0 a1)) = some (r1, r2) := h;clear h;obtain ⟨ji3, hji3⟩ : ∃ j_ : Int, (mn a0 a1) = j_ := ⟨_, rfl⟩;replace H : (some (ji3, mx a0 a1)) = some (r1, r2) := by first | (rw [hji3] at H; exact H) | (simp only [hji3] at H ⊢; exact H)
 have hji3_ : (if a1 < a0 then a1 else a0) = ji3 := hji3;obtain ⟨ji4, hji4⟩ : ∃ j_ : Int, (mx a0 a1) = j_ := ⟨_, rfl⟩;replace H : (some (ji3, ji4)) = some (r1, r2) := by first | (rw [hji4] at H; exact H) | (simp only [hji4] at H ⊢; exact H)
 have hji4_ : (if a0 < a1 then a1 else a0) = ji4 := hji4;simp only [Option.some.injEq, Prod.mk.injEq] at H;obtain ⟨rfl, rfl⟩ := H;go_enter Tryz.func98, Tryz.ntmps98;go_wp2_with (first | ((with_reducible refine g_ 4 ?_); refine bx_ 4 #[.int .i64 0, .int .i64 0] 39 ?_; intro gb360 hg w5 hbox hb; have n0_ := mk_ (below_step bl_ hb); have n1_ := mk_ (hbox); have n2_ := mk_ ((by rw [hg]; exact (below_size bl_) : w.heap.size ≤ gb360)); have n3_ := n2_; clear HB; have HB := n0_; have BK360 := n1_; have GW360 := n2_; have GE360 := n3_; clear n0_ n1_ n2_ n3_ hb hbox hg; have hcz6_0 : w5.cell? ⟨gb360, 0, none⟩ = some (.int .i64 0) := (blk_cell BK360.out 0).trans rfl; have hcz6_1 : w5.cell? ⟨gb360, 1, none⟩ = some (.int .i64 0) := (blk_cell BK360.out 1).trans rfl; have hfz6_0 := blk_frozen BK360.out 0; have hfz6_1 := blk_frozen BK360.out 1));refine bodyPost_ret (results_cell_row rfl _ _ gb360 39 #[.int .i64 ji3, .int .i64 ji4] (0, 0) _ rfl (by (with_reducible repeat (first | refine blk_drewN ?_ _ | refine blk_drew ?_ | refine blk_alloc ?_ _)); refine blk_put (cs := #[.int .i64 ji3, .int .i64 0]) ?_ 1 _ rfl; (with_reducible repeat (first | refine blk_drewN ?_ _ | refine blk_drew ?_ | refine blk_alloc ?_ _)); refine blk_put (cs := #[.int .i64 0, .int .i64 0]) ?_ 0 _ rfl; exact kk_ <| BK360.out) Tryz.underlying39 rfl (by kernel_rfl)) rfl ?_;exact ⟨by first | rfl | (simp [errW_none, errW_some] <;> rfl) | (simp only [← hji3, ← hji4]; first | rfl | (simp [errW_none, errW_some] <;> rfl)) | (simp [*, errW_none, errW_some] <;> rfl), bg_⟩
def slices_Clone_int_int.f (l0 : List Int) : Option (List Int) := if l0.length < 17592186044416 then some l0 else none
theorem slices_Clone_int_int.calls (A0 : Option Addr) (c0 : Nat) (l0 : List Int) (r : List Int) (w : World) (hr0 : Kd.C (Kd.int .i64) w A0 l0.length l0) (hc0 : l0.length ≤ c0) (h : slices_Clone_int_int.f l0 = some r) :
  Calls Tryz.prog 99 #[.slice A0 l0.length c0] w fun e w' => ∃ v0_ : Value, e = .returned (v0_) ∧ Kd.R (Kd.int .i64) 3 w' w.heap.size (fun _ => True) v0_ r ∧ Below w.heap.size w w' := by
 unfold slices_Clone_int_int.f at h;by_cases hl : l0.length < 17592186044416
 ·rw [if_pos hl] at h;obtain rfl := Option.some.inj h;clear h;have qT : ∀ (w : World) (a : Option Addr) (n c : Nat), (binOp .eql 46 (.slice a n c) (.slice none 0 0)).run Tryz.prog w = .ok (.bool a.isNone) w := fun w a n c => Lib.run_eql_slice_nil w 46 3 a n c 0 0 Tryz.underlying46
  cases A0 with
  | none =>
   have e0 : l0 = [] := by
    rcases Nat.eq_zero_or_pos l0.length with h0 | h0
    ·exact List.length_eq_zero_iff.1 h0
    ·obtain ⟨ad, h1, _⟩ := hr0.2.2 h0;cases h1
   subst e0;clear hr0 hc0 hl;go_enter Tryz.func99, Tryz.ntmps99;go_wp2_with fail;go_ret;exact ⟨_, rfl, Kd.R_nil _ _ _ _ _, Below.refl _ _⟩
  | some ad =>
   have HR0 := mk_ hr0;have HC0 := mk_ hc0;have HL := mk_ hl;clear hr0 hc0 hl;have HB := mk_ (Below.refl w.heap.size w);go_enter Tryz.func99, Tryz.ntmps99;go_wp2_with (first | ((with_reducible refine g_ 5 ?_); refine Kd.R_lit (Kd.int .i64) _ 3 ?hg (N := 5) ?hd (xs := ([] : List Int)) (inner := []) (ok := fun _ => True) (okp := fun _ => True) ?hr ?hp (fun _ hk => hk) trivial (Below.refl _ _) (Nat.le_refl _) (by simp) ?_; (case hd => rfl); (case hg => rfl); (case hr => first | (go_simp; done) | (go_simp; rfl)); (case hp => exact (Reps.none _ _)); intro v468 w3 ho4 hb hg_ hnew_; clear hg_ hnew_; have n0_ := mk_ (Kd.R_lower ho4 (below_size bl_)); have n1_ := mk_ (below_step bl_ hb); clear HB; have HO469 := n0_; have HB := n1_; clear n0_ n1_ hb ho4) | ((with_reducible refine gate_builtin (b := .append) (xs := #[.tmp 5, .tmp 6]) rfl ?_); at_builtin; refine Kd.R_append_rows (Kd.int .i64) (w0 := w) w.heap.size rfl (.tmp 5) (.tmp 6) 46 3 (.int .i64 0) 8 rfl Tryz.underlying46 info3 rfl (by decide) (by omega) v468 ([] : List Int) l0 _ _ _ (fun _ => True) (fun _ => False) rfl rfl ?aO ?aR (fun _ _ h => h) (fun _ h => h.elim) ?aF ?aB ?aS ?aL ?_; (case aR => exact kc_ <| (Kd.C_below HR0.out HB.out)); (case aB => exact bl_); (case aF => exact (fun _ _ => trivial)); (case aO => exact (kr_ <| HO469.out)); (case aS => exact (below_size bl_)); (case aL => have := HL.out; simp; omega); intro v471 w5 ho hb hg hat; have n0_ := mk_ (hb); have n1_ := mk_ (ho); clear HB HO469; have HB := n0_; have HO472 := n1_; clear n0_ n1_ ho hb hg hat));go_ret;exact ⟨_, rfl, by exact kr_ <| HO472.out, bl_⟩
 ·rw [if_neg hl] at h;cases h
mutual
def spec_cdOfRank.l0 : Nat → Int → Int → Int → List Int → Int → Option ((List (S39)))
 | 0, _, _, _, _, _ => none
 | k + 1, x0, x1, x2, x3, x9 => if x9 < x1 then (if 0 ≤ (wrap64 (x9 - 1)) then (if (wrap64 (x9 - 1)) < (x3.length : Int) then (if 0 ≤ (wrap64 ((wrap64 (x1 - 1)) - x9)) then (if (wrap64 ((wrap64 (x1 - 1)) - x9)) < (x3.length : Int) then (if x2 < (wrap64 ((rd x3 (wrap64 (x9 - 1))) * (rd x3 (wrap64 ((wrap64 (x1 - 1)) - x9))))) then ((some (([(⟨x0, wrap64 (x0 + x9)⟩ : S39)] : List (S39)) : List (S39))).bind fun y167 => (if (rd x3 (wrap64 ((wrap64 (x1 - 1)) - x9))) = 0 then (none) else ((spec_cdOfRank.f k (wrap64 (x0 + 1)) (wrap64 (x9 - 1)) (wrap64 (Int.tdiv x2 (rd x3 (wrap64 ((wrap64 (x1 - 1)) - x9))))) x3).bind fun t170 => (if y167.length + t170.length < 8796093022208 then ((some (y167 ++ t170 : List (S39))).bind fun y173 => ((spec_cdOfRank.f k (wrap64 ((wrap64 (x0 + x9)) + 1)) (wrap64 ((wrap64 (x1 - 1)) - x9)) (Int.tmod x2 (rd x3 (wrap64 ((wrap64 (x1 - 1)) - x9)))) x3).bind fun t176 => (if y173.length + t176.length < 8796093022208 then (some (y173 ++ t176)) else (none)))) else (none))))) else (spec_cdOfRank.l0 k x0 x1 (wrap64 (x2 - (wrap64 ((rd x3 (wrap64 (x9 - 1))) * (rd x3 (wrap64 ((wrap64 (x1 - 1)) - x9))))))) x3 (wrap64 (x9 + 2)))) else (none)) else (none)) else (none)) else (none)) else (some ([] : List (S39)))
def spec_cdOfRank.f : Nat → Int → Int → Int → List Int → Option ((List (S39)))
 | 0, _, _, _, _ => none
 | k + 1, a0, a1, a2, l3 => if a1 = 0 then (some ([] : List (S39))) else (spec_cdOfRank.l0 k a0 a1 a2 l3 1)
end
theorem spec_cdOfRank.calls (k : Nat) : ∀ (a0 : Int) (a1 : Int) (a2 : Int) (A3 : Option Addr) (c3 : Nat) (l3 : List Int) (r : List (S39)) (w : World) (hr3 : Kd.C (Kd.int .i64) w A3 l3.length l3) (hc3 : l3.length ≤ c3) (h : spec_cdOfRank.f k a0 a1 a2 l3 = some r),
  Calls Tryz.prog 49 #[.int .i64 a0, .int .i64 a1, .int .i64 a2, .slice A3 l3.length c3] w fun e w' => ∃ v0_ : Value, e = .returned (v0_) ∧ Kd.R k39 39 w' w.heap.size (fun _ => True) v0_ r ∧ Below w.heap.size w w' := by
 induction k using Nat.strongRecOn with
 | _ k ih =>
 intro a0 a1 a2 A3 c3 l3 r w hr3 hc3 h
 cases k with
 | zero => exact absurd h (by simp [spec_cdOfRank.f])
 | succ k =>
 simp only [spec_cdOfRank.f] at h;have hu39 := Tryz.underlying39;have HR3 := mk_ hr3;have HC3 := mk_ hc3;clear hr3 hc3;have HB := mk_ (Below.refl w.heap.size w);have H : (if a1 = 0 then (some ([] : List (S39))) else (spec_cdOfRank.l0 k a0 a1 a2 l3 1)) = some r := h;clear h;by_cases c5 : a1 = 0
 ·rw [if_pos c5] at H;have c5b0 : (a1 == 0) = true := beq_iff_eq.mpr c5;have c5b1 : (a1 != 0) = false := bne_eq_false_iff_eq.mpr c5;clear c5;obtain rfl := Option.some.inj H;go_enter Tryz.func49, Tryz.ntmps49;go_wp2;repeat (go_quiet (fail); try go_wp2)
  go_ret;exact ⟨_, ew_, by first | exact Kd.R_nil _ _ _ _ _ | exact Kd.N_nil _ _ _ _ _ | exact Kd.V_nil _ _ _ _ _ | exact Kd.Q_nil _ _ _ _ _ | exact Kd.S_nil _ _ _ _ _, bl_⟩
 ·rw [if_neg c5] at H;have c5b0 : (a1 == 0) = false := beq_eq_false_iff_ne.mpr c5;have c5b1 : (a1 != 0) = true := bne_iff_ne.mpr c5;have H' := mk_ H;clear H;go_enter Tryz.func49, Tryz.ntmps49;go_wp2;repeat (go_quiet (fail); try go_wp2)
  go_loopg [2, 9] k (fun kq v2 v9 w' => ∃ (x2_1 : Int) (x9_1 : Int), v2 = .int .i64 x2_1 ∧ v9 = .int .i64 x9_1 ∧ Aside0 (spec_cdOfRank.l0 kq a0 a1 x2_1 l3 x9_1 = some r) ∧ Aside0 (kq ≤ k) ∧ Aside0 (Below w.heap.size w w'))
  case atStart => exact ⟨(a2), (1), (es_), (es_), H', ⟨Nat.le_refl _⟩, ⟨bl_⟩⟩
  case round =>
   clear H';try clear p2
   try clear c3
   try clear c4
   try clear c5
   try clear c5b0
   try clear c5b1
   obtain ⟨x2_1, x9_1, rfl, rfl, HA, HK1, HB⟩ := hrel
   cases gk with
   | zero => exact absurd HA.out (by simp [spec_cdOfRank.l0])
   | succ k1 =>
    have H := HA.out;clear HA;simp only [spec_cdOfRank.l0] at H;by_cases c6 : x9_1 < a1
    ·rw [if_pos c6] at H;have c6b0 : decide (x9_1 < a1) = true := decide_eq_true c6;clear c6;obtain ⟨ji7, hji7⟩ : ∃ j_ : Int, (wrap64 (x9_1 - 1)) = j_ := ⟨_, rfl⟩;replace H : (if 0 ≤ (ji7) then (if (ji7) < (l3.length : Int) then (if 0 ≤ (wrap64 ((wrap64 (a1 - 1)) - x9_1)) then (if (wrap64 ((wrap64 (a1 - 1)) - x9_1)) < (l3.length : Int) then (if x2_1 < (wrap64 ((rd l3 (ji7)) * (rd l3 (wrap64 ((wrap64 (a1 - 1)) - x9_1))))) then ((some (([(⟨a0, wrap64 (a0 + x9_1)⟩ : S39)] : List (S39)) : List (S39))).bind fun y167 => (if (rd l3 (wrap64 ((wrap64 (a1 - 1)) - x9_1))) = 0 then (none) else ((spec_cdOfRank.f k1 (wrap64 (a0 + 1)) (ji7) (wrap64 (Int.tdiv x2_1 (rd l3 (wrap64 ((wrap64 (a1 - 1)) - x9_1))))) l3).bind fun t170 => (if y167.length + t170.length < 8796093022208 then ((some (y167 ++ t170 : List (S39))).bind fun y173 => ((spec_cdOfRank.f k1 (wrap64 ((wrap64 (a0 + x9_1)) + 1)) (wrap64 ((wrap64 (a1 - 1)) - x9_1)) (Int.tmod x2_1 (rd l3 (wrap64 ((wrap64 (a1 - 1)) - x9_1)))) l3).bind fun t176 => (if y173.length + t176.length < 8796093022208 then (some (y173 ++ t176)) else (none)))) else (none))))) else (spec_cdOfRank.l0 k1 a0 a1 (wrap64 (x2_1 - (wrap64 ((rd l3 (ji7)) * (rd l3 (wrap64 ((wrap64 (a1 - 1)) - x9_1))))))) l3 (wrap64 (x9_1 + 2)))) else (none)) else (none)) else (none)) else (none)) = some r := by first | (rw [hji7] at H; exact H) | (simp only [hji7] at H ⊢; exact H)
     have hji7w : (IntKind.i64.wrap (x9_1 - 1)) = ji7 := (i64_w _).trans hji7;by_cases c8 : 0 ≤ (ji7);rotate_left
     ·rw [if_neg c8] at H;exact absurd H (by simp)
     rw [if_pos c8] at H;have c8b0 : decide (0 ≤ (ji7)) = true := decide_eq_true c8;clear c8;by_cases c9 : (ji7) < (l3.length : Int);rotate_left
     ·rw [if_neg c9] at H;exact absurd H (by simp)
     rw [if_pos c9] at H;have c9b0 : decide ((ji7) < (l3.length : Int)) = true := decide_eq_true c9;clear c9;obtain ⟨ji10, hji10⟩ : ∃ j_ : Int, (wrap64 ((wrap64 (a1 - 1)) - x9_1)) = j_ := ⟨_, rfl⟩;replace H : (if 0 ≤ (ji10) then (if (ji10) < (l3.length : Int) then (if x2_1 < (wrap64 ((rd l3 (ji7)) * (rd l3 (ji10)))) then ((some (([(⟨a0, wrap64 (a0 + x9_1)⟩ : S39)] : List (S39)) : List (S39))).bind fun y167 => (if (rd l3 (ji10)) = 0 then (none) else ((spec_cdOfRank.f k1 (wrap64 (a0 + 1)) (ji7) (wrap64 (Int.tdiv x2_1 (rd l3 (ji10)))) l3).bind fun t170 => (if y167.length + t170.length < 8796093022208 then ((some (y167 ++ t170 : List (S39))).bind fun y173 => ((spec_cdOfRank.f k1 (wrap64 ((wrap64 (a0 + x9_1)) + 1)) (ji10) (Int.tmod x2_1 (rd l3 (ji10))) l3).bind fun t176 => (if y173.length + t176.length < 8796093022208 then (some (y173 ++ t176)) else (none)))) else (none))))) else (spec_cdOfRank.l0 k1 a0 a1 (wrap64 (x2_1 - (wrap64 ((rd l3 (ji7)) * (rd l3 (ji10)))))) l3 (wrap64 (x9_1 + 2)))) else (none)) else (none)) = some r := by first | (rw [hji10] at H; exact H) | (simp only [hji10] at H ⊢; exact H)
     have hji10w : (IntKind.i64.wrap ((wrap64 (a1 - 1)) - x9_1)) = ji10 := (i64_w _).trans hji10;by_cases c11 : 0 ≤ (ji10);rotate_left
     ·rw [if_neg c11] at H;exact absurd H (by simp)
     rw [if_pos c11] at H;have c11b0 : decide (0 ≤ (ji10)) = true := decide_eq_true c11;clear c11;by_cases c12 : (ji10) < (l3.length : Int);rotate_left
     ·rw [if_neg c12] at H;exact absurd H (by simp)
     rw [if_pos c12] at H;have c12b0 : decide ((ji10) < (l3.length : Int)) = true := decide_eq_true c12;clear c12;by_cases c13 : x2_1 < (wrap64 ((rd l3 (ji7)) * (rd l3 (ji10))))
     ·rw [if_pos c13] at H;have c13b0 : decide (x2_1 < (wrap64 ((rd l3 (ji7)) * (rd l3 (ji10))))) = true := decide_eq_true c13;clear c13;obtain ⟨y167, hy_⟩ : ∃ y_ : List (S39), y_ = (([(⟨a0, wrap64 (a0 + x9_1)⟩ : S39)] : List (S39))) := ⟨_, rfl⟩;replace H : (if (rd l3 (ji10)) = 0 then (none) else ((spec_cdOfRank.f k1 (wrap64 (a0 + 1)) (ji7) (wrap64 (Int.tdiv x2_1 (rd l3 (ji10)))) l3).bind fun t170 => (if y167.length + t170.length < 8796093022208 then ((some (y167 ++ t170 : List (S39))).bind fun y173 => ((spec_cdOfRank.f k1 (wrap64 ((wrap64 (a0 + x9_1)) + 1)) (ji10) (Int.tmod x2_1 (rd l3 (ji10))) l3).bind fun t176 => (if y173.length + t176.length < 8796093022208 then (some (y173 ++ t176)) else (none)))) else (none)))) = some r := rp_;have Ny167 := mk_ hy_;clear hy_;by_cases c14 : (rd l3 (ji10)) = 0
      ·rw [if_pos c14] at H;exact absurd H (by simp)
      ·rw [if_neg c14] at H;have c14b0 : ((rd l3 (ji10)) == 0) = false := beq_eq_false_iff_ne.mpr c14;have c14b1 : ((rd l3 (ji10)) != 0) = true := bne_iff_ne.mpr c14;replace H := Option.bind_eq_some_iff.mp H;obtain ⟨t170, A150, H⟩ := H;try dsimp only at H
       have A15 := mk_ A150;clear A150;by_cases c16 : y167.length + t170.length < 8796093022208;rotate_left
       ·rw [if_neg c16] at H;exact absurd H (by simp)
       rw [if_pos c16] at H;have LMc16 := mk_ c16;clear c16;obtain ⟨y173, hy_⟩ : ∃ y_ : List (S39), y_ = (y167 ++ t170) := ⟨_, rfl⟩;replace H : ((spec_cdOfRank.f k1 (wrap64 ((wrap64 (a0 + x9_1)) + 1)) (ji10) (Int.tmod x2_1 (rd l3 (ji10))) l3).bind fun t176 => (if y173.length + t176.length < 8796093022208 then (some (y173 ++ t176)) else (none))) = some r := rp_;have Ny173 := mk_ hy_;clear hy_;replace H := Option.bind_eq_some_iff.mp H;obtain ⟨t176, A170, H⟩ := H;try dsimp only at H
       have A17 := mk_ A170;clear A170;by_cases c18 : y173.length + t176.length < 8796093022208;rotate_left
       ·rw [if_neg c18] at H;exact absurd H (by simp)
       rw [if_pos c18] at H;have LMc18 := mk_ c18;clear c18;obtain ⟨y179, hy_⟩ : ∃ y_ : List (S39), y_ = (y173 ++ t176) := ⟨_, rfl⟩;replace H : (some y179) = some r := rp_;have Ny179 := mk_ hy_;clear hy_;obtain rfl := Option.some.inj H;have p165 : 0 ≤ ((ji7) : Int) := od_;have q165 : (ji7) < (l3.length : Int) := od_;obtain ⟨ad165, e165, hx165_0⟩ := Kd.at_int HR3.out (ji7) p165 q165;cases e165;replace hx165_0 := (HB.out.cell (World.block_lt_of_cell? w _ hx165_0)).trans hx165_0;replace p165 := eq_true p165;replace q165 := eq_true q165;have p166 : 0 ≤ ((ji10) : Int) := od_;have q166 : (ji10) < (l3.length : Int) := od_;obtain ⟨ad166, e166, hx166_0⟩ := Kd.at_int HR3.out (ji10) p166 q166;obtain rfl : ad165 = ad166 := (by injection e166);replace hx166_0 := (HB.out.cell (World.block_lt_of_cell? w _ hx166_0)).trans hx166_0;replace p166 := eq_true p166;replace q166 := eq_true q166;go_wp2_with (first | ((with_reducible refine g_ 42 ?_); refine Kd.R_lit k39 _ 39 ?hg (N := 42) ?hd (xs := ([(⟨a0, wrap64 (a0 + x9_1)⟩ : S39)] : List (S39))) (inner := [.int .i64 a0, .int .i64 (wrap64 (a0 + x9_1))]) (ok := fun _ => True) (okp := fun _ => True) ?hr ?hp (fun _ hk => hk) trivial (Below.refl _ _) (Nat.le_refl _) (by simp) ?_; (case hd => rfl); (case hg => rfl); (case hr => first | (go_simp; done) | (go_simp; rfl)); (case hp => exact (Reps.c2 (show Kd.M k39 _ _ _ (⟨a0, wrap64 (a0 + x9_1)⟩ : S39) [.int .i64 a0, .int .i64 (wrap64 (a0 + x9_1))] from (k39_mkM _ _ _ (⟨a0, wrap64 (a0 + x9_1)⟩ : S39) )) (Reps.none _ _))); intro v168 w19 ho20 hb hg_ hnew_; clear hg_ hnew_; (first | rw [← Ny167.out] at ho20 | (simp only [Int.reduceToNat] at ho20; rw [← Ny167.out] at ho20)); have n0_ := mk_ (Kd.R_lower ho20 (below_size bl_)); have n1_ := mk_ (below_step bl_ hb); clear HB; have HO169 := n0_; have HB := n1_; clear n0_ n1_ hb ho20) | (go_at_call 49; (with_reducible refine (ih k1 (by have := HK1.out; omega) (wrap64 (a0 + 1)) ji7 (wrap64 (Int.tdiv x2_1 (rd l3 (ji10)))) _ _ l3 t170 _ ?side1 ?side2 A15.out).mono ?_); (case side1 => exact kc_ <| (Kd.C_below HR3.out HB.out)); (case side2 => exact HC3.out); rintro e w21 ⟨v171, rfl, ho0, hb⟩; have n0_ := mk_ (Kd.R_elder' (kr_ <| HO169.out) (Kd.R_base ho0) hb); have n1_ := mk_ (Kd.R_lower (Kd.R_new' ho0 (Kd.R_lt (kr_ <| HO169.out))) (below_size bl_)); have n2_ := mk_ (below_step bl_ hb); clear HO169 HB; have HO169 := n0_; have HO172 := n1_; have HB := n2_; clear n0_ n1_ n2_; (try clear hb); (try clear hb2); (try clear hk); (try clear hi); (try clear ho0); obtain ⟨Ao23, co23, eo23⟩ := Kd.R_slice HO172.out; subst eo23) | ((with_reducible refine gate_builtin (b := .append) (xs := #[.tmp 43, .tmp 52]) rfl ?_); at_builtin; refine Kd.R_append_rows k39 (w0 := w) w.heap.size rfl (.tmp 43) (.tmp 52) 26 39 (.agg #[(.int .i64 0), (.int .i64 0)]) 16 rfl Tryz.underlying26 info39 rfl (by decide) (by omega) v168 y167 t170 _ _ _ (fun k_ => some k_ ≠ (.slice Ao23 t170.length co23 : Value).ownBlock) (fun _ => False) rfl rfl ?aO ?aR (fun _ _ h => h) (fun _ h => h.elim) ?aF ?aB ?aS ?aL ?_; (case aR => exact kc_ <| (Kd.R_reads' HO172.out).2.2); (case aB => exact bl_); (case aF => exact (fun k_ hk => Kd.fresh' (Kd.R_lt (kr_ <| HO172.out)) k_ hk)); (case aO => exact (kr_ <| Kd.R_mono HO169.out (fun _ hk => hk.2))); (case aS => exact (below_size bl_)); (case aL => have := LMc16.out; omega); intro v174 w22 ho hb hg hat; rw [← Ny173.out] at ho; have n0_ := mk_ (Kd.R_after (ok := (fun _ => True)) (kr_ <| HO172.out) hg hat); have n1_ := mk_ (hb); have n2_ := mk_ (ho); clear HO172 HB HO169; have HO172 := n0_; have HB := n1_; have HO175 := n2_; clear n0_ n1_ n2_ ho hb hg hat) | (go_at_call 49; (with_reducible refine (ih k1 (by have := HK1.out; omega) (wrap64 ((wrap64 (a0 + x9_1)) + 1)) ji10 (Int.tmod x2_1 (rd l3 (ji10))) _ _ l3 t176 _ ?side1 ?side2 A17.out).mono ?_); (case side1 => exact kc_ <| (Kd.C_below HR3.out HB.out)); (case side2 => exact HC3.out); rintro e w24 ⟨v177, rfl, ho0, hb⟩; have n0_ := mk_ (Kd.R_elder' (kr_ <| HO172.out) (Kd.R_base ho0) hb); have n1_ := mk_ (Kd.R_elder' (kr_ <| HO175.out) (Kd.R_base ho0) hb); have n2_ := mk_ (Kd.R_lower (Kd.R_new' (Kd.R_new' ho0 (Kd.R_lt (kr_ <| HO172.out))) (Kd.R_lt (kr_ <| HO175.out))) (below_size bl_)); have n3_ := mk_ (below_step bl_ hb); clear HO172 HO175 HB; have HO172 := n0_; have HO175 := n1_; have HO178 := n2_; have HB := n3_; clear n0_ n1_ n2_ n3_; (try clear hb); (try clear hb2); (try clear hk); (try clear hi); (try clear ho0); obtain ⟨Ao26, co26, eo26⟩ := Kd.R_slice HO178.out; subst eo26) | ((with_reducible refine gate_builtin (b := .append) (xs := #[.tmp 54, .tmp 67]) rfl ?_); at_builtin; refine Kd.R_append_rows k39 (w0 := w) w.heap.size rfl (.tmp 54) (.tmp 67) 26 39 (.agg #[(.int .i64 0), (.int .i64 0)]) 16 rfl Tryz.underlying26 info39 rfl (by decide) (by omega) v174 y173 t176 _ _ _ (fun k_ => some k_ ≠ (.slice Ao23 t170.length co23 : Value).ownBlock ∧ some k_ ≠ (.slice Ao26 t176.length co26 : Value).ownBlock) (fun _ => False) rfl rfl ?aO ?aR (fun _ _ h => h) (fun _ h => h.elim) ?aF ?aB ?aS ?aL ?_; (case aR => exact kc_ <| (Kd.R_reads' HO178.out).2.2); (case aB => exact bl_); (case aF => exact (fun k_ hk => ⟨Kd.fresh' (Kd.R_lt (kr_ <| HO172.out)) k_ hk, Kd.fresh' (Kd.R_lt (kr_ <| HO178.out)) k_ hk⟩)); (case aO => exact (kr_ <| HO175.out)); (case aS => exact (below_size bl_)); (case aL => have := LMc18.out; omega); intro v180 w25 ho hb hg hat; rw [← Ny179.out] at ho; have n0_ := mk_ (Kd.R_after (ok := (fun k_ => some k_ ≠ (.slice Ao26 t176.length co26 : Value).ownBlock)) (kr_ <| Kd.R_mono HO172.out (fun _ hk => ⟨hk.2, hk.1.2⟩)) hg hat); have n1_ := mk_ (Kd.R_after (ok := (fun k_ => some k_ ≠ (.slice Ao23 t170.length co23 : Value).ownBlock)) (kr_ <| Kd.R_mono HO178.out (fun _ hk => ⟨hk.1.2, hk.2⟩)) hg hat); have n2_ := mk_ (hb); have n3_ := mk_ (ho); clear HO172 HO178 HB HO175; have HO172 := n0_; have HO178 := n1_; have HB := n2_; have HO181 := n3_; clear n0_ n1_ n2_ n3_ ho hb hg hat));repeat (go_quiet (first | ((with_reducible refine g_ 42 ?_); refine Kd.R_lit k39 _ 39 ?hg (N := 42) ?hd (xs := ([(⟨a0, wrap64 (a0 + x9_1)⟩ : S39)] : List (S39))) (inner := [.int .i64 a0, .int .i64 (wrap64 (a0 + x9_1))]) (ok := fun _ => True) (okp := fun _ => True) ?hr ?hp (fun _ hk => hk) trivial (Below.refl _ _) (Nat.le_refl _) (by simp) ?_; (case hd => rfl); (case hg => rfl); (case hr => first | (go_simp; done) | (go_simp; rfl)); (case hp => exact (Reps.c2 (show Kd.M k39 _ _ _ (⟨a0, wrap64 (a0 + x9_1)⟩ : S39) [.int .i64 a0, .int .i64 (wrap64 (a0 + x9_1))] from (k39_mkM _ _ _ (⟨a0, wrap64 (a0 + x9_1)⟩ : S39) )) (Reps.none _ _))); intro v168 w19 ho20 hb hg_ hnew_; clear hg_ hnew_; (first | rw [← Ny167.out] at ho20 | (simp only [Int.reduceToNat] at ho20; rw [← Ny167.out] at ho20)); have n0_ := mk_ (Kd.R_lower ho20 (below_size bl_)); have n1_ := mk_ (below_step bl_ hb); clear HB; have HO169 := n0_; have HB := n1_; clear n0_ n1_ hb ho20) | (go_at_call 49; (with_reducible refine (ih k1 (by have := HK1.out; omega) (wrap64 (a0 + 1)) ji7 (wrap64 (Int.tdiv x2_1 (rd l3 (ji10)))) _ _ l3 t170 _ ?side1 ?side2 A15.out).mono ?_); (case side1 => exact kc_ <| (Kd.C_below HR3.out HB.out)); (case side2 => exact HC3.out); rintro e w21 ⟨v171, rfl, ho0, hb⟩; have n0_ := mk_ (Kd.R_elder' (kr_ <| HO169.out) (Kd.R_base ho0) hb); have n1_ := mk_ (Kd.R_lower (Kd.R_new' ho0 (Kd.R_lt (kr_ <| HO169.out))) (below_size bl_)); have n2_ := mk_ (below_step bl_ hb); clear HO169 HB; have HO169 := n0_; have HO172 := n1_; have HB := n2_; clear n0_ n1_ n2_; (try clear hb); (try clear hb2); (try clear hk); (try clear hi); (try clear ho0); obtain ⟨Ao23, co23, eo23⟩ := Kd.R_slice HO172.out; subst eo23) | ((with_reducible refine gate_builtin (b := .append) (xs := #[.tmp 43, .tmp 52]) rfl ?_); at_builtin; refine Kd.R_append_rows k39 (w0 := w) w.heap.size rfl (.tmp 43) (.tmp 52) 26 39 (.agg #[(.int .i64 0), (.int .i64 0)]) 16 rfl Tryz.underlying26 info39 rfl (by decide) (by omega) v168 y167 t170 _ _ _ (fun k_ => some k_ ≠ (.slice Ao23 t170.length co23 : Value).ownBlock) (fun _ => False) rfl rfl ?aO ?aR (fun _ _ h => h) (fun _ h => h.elim) ?aF ?aB ?aS ?aL ?_; (case aR => exact kc_ <| (Kd.R_reads' HO172.out).2.2); (case aB => exact bl_); (case aF => exact (fun k_ hk => Kd.fresh' (Kd.R_lt (kr_ <| HO172.out)) k_ hk)); (case aO => exact (kr_ <| Kd.R_mono HO169.out (fun _ hk => hk.2))); (case aS => exact (below_size bl_)); (case aL => have := LMc16.out; omega); intro v174 w22 ho hb hg hat; rw [← Ny173.out] at ho; have n0_ := mk_ (Kd.R_after (ok := (fun _ => True)) (kr_ <| HO172.out) hg hat); have n1_ := mk_ (hb); have n2_ := mk_ (ho); clear HO172 HB HO169; have HO172 := n0_; have HB := n1_; have HO175 := n2_; clear n0_ n1_ n2_ ho hb hg hat) | (go_at_call 49; (with_reducible refine (ih k1 (by have := HK1.out; omega) (wrap64 ((wrap64 (a0 + x9_1)) + 1)) ji10 (Int.tmod x2_1 (rd l3 (ji10))) _ _ l3 t176 _ ?side1 ?side2 A17.out).mono ?_); (case side1 => exact kc_ <| (Kd.C_below HR3.out HB.out)); (case side2 => exact HC3.out); rintro e w24 ⟨v177, rfl, ho0, hb⟩; have n0_ := mk_ (Kd.R_elder' (kr_ <| HO172.out) (Kd.R_base ho0) hb); have n1_ := mk_ (Kd.R_elder' (kr_ <| HO175.out) (Kd.R_base ho0) hb); have n2_ := mk_ (Kd.R_lower (Kd.R_new' (Kd.R_new' ho0 (Kd.R_lt (kr_ <| HO172.out))) (Kd.R_lt (kr_ <| HO175.out))) (below_size bl_)); have n3_ := mk_ (below_step bl_ hb); clear HO172 HO175 HB; have HO172 := n0_; have HO175 := n1_; have HO178 := n2_; have HB := n3_; clear n0_ n1_ n2_ n3_; (try clear hb); (try clear hb2); (try clear hk); (try clear hi); (try clear ho0); obtain ⟨Ao26, co26, eo26⟩ := Kd.R_slice HO178.out; subst eo26) | ((with_reducible refine gate_builtin (b := .append) (xs := #[.tmp 54, .tmp 67]) rfl ?_); at_builtin; refine Kd.R_append_rows k39 (w0 := w) w.heap.size rfl (.tmp 54) (.tmp 67) 26 39 (.agg #[(.int .i64 0), (.int .i64 0)]) 16 rfl Tryz.underlying26 info39 rfl (by decide) (by omega) v174 y173 t176 _ _ _ (fun k_ => some k_ ≠ (.slice Ao23 t170.length co23 : Value).ownBlock ∧ some k_ ≠ (.slice Ao26 t176.length co26 : Value).ownBlock) (fun _ => False) rfl rfl ?aO ?aR (fun _ _ h => h) (fun _ h => h.elim) ?aF ?aB ?aS ?aL ?_; (case aR => exact kc_ <| (Kd.R_reads' HO178.out).2.2); (case aB => exact bl_); (case aF => exact (fun k_ hk => ⟨Kd.fresh' (Kd.R_lt (kr_ <| HO172.out)) k_ hk, Kd.fresh' (Kd.R_lt (kr_ <| HO178.out)) k_ hk⟩)); (case aO => exact (kr_ <| HO175.out)); (case aS => exact (below_size bl_)); (case aL => have := LMc18.out; omega); intro v180 w25 ho hb hg hat; rw [← Ny179.out] at ho; have n0_ := mk_ (Kd.R_after (ok := (fun k_ => some k_ ≠ (.slice Ao26 t176.length co26 : Value).ownBlock)) (kr_ <| Kd.R_mono HO172.out (fun _ hk => ⟨hk.2, hk.1.2⟩)) hg hat); have n1_ := mk_ (Kd.R_after (ok := (fun k_ => some k_ ≠ (.slice Ao23 t170.length co23 : Value).ownBlock)) (kr_ <| Kd.R_mono HO178.out (fun _ hk => ⟨hk.1.2, hk.2⟩)) hg hat); have n2_ := mk_ (hb); have n3_ := mk_ (ho); clear HO172 HO178 HB HO175; have HO172 := n0_; have HO178 := n1_; have HB := n2_; have HO181 := n3_; clear n0_ n1_ n2_ n3_ ho hb hg hat)); try go_wp2_with (first | ((with_reducible refine g_ 42 ?_); refine Kd.R_lit k39 _ 39 ?hg (N := 42) ?hd (xs := ([(⟨a0, wrap64 (a0 + x9_1)⟩ : S39)] : List (S39))) (inner := [.int .i64 a0, .int .i64 (wrap64 (a0 + x9_1))]) (ok := fun _ => True) (okp := fun _ => True) ?hr ?hp (fun _ hk => hk) trivial (Below.refl _ _) (Nat.le_refl _) (by simp) ?_; (case hd => rfl); (case hg => rfl); (case hr => first | (go_simp; done) | (go_simp; rfl)); (case hp => exact (Reps.c2 (show Kd.M k39 _ _ _ (⟨a0, wrap64 (a0 + x9_1)⟩ : S39) [.int .i64 a0, .int .i64 (wrap64 (a0 + x9_1))] from (k39_mkM _ _ _ (⟨a0, wrap64 (a0 + x9_1)⟩ : S39) )) (Reps.none _ _))); intro v168 w19 ho20 hb hg_ hnew_; clear hg_ hnew_; (first | rw [← Ny167.out] at ho20 | (simp only [Int.reduceToNat] at ho20; rw [← Ny167.out] at ho20)); have n0_ := mk_ (Kd.R_lower ho20 (below_size bl_)); have n1_ := mk_ (below_step bl_ hb); clear HB; have HO169 := n0_; have HB := n1_; clear n0_ n1_ hb ho20) | (go_at_call 49; (with_reducible refine (ih k1 (by have := HK1.out; omega) (wrap64 (a0 + 1)) ji7 (wrap64 (Int.tdiv x2_1 (rd l3 (ji10)))) _ _ l3 t170 _ ?side1 ?side2 A15.out).mono ?_); (case side1 => exact kc_ <| (Kd.C_below HR3.out HB.out)); (case side2 => exact HC3.out); rintro e w21 ⟨v171, rfl, ho0, hb⟩; have n0_ := mk_ (Kd.R_elder' (kr_ <| HO169.out) (Kd.R_base ho0) hb); have n1_ := mk_ (Kd.R_lower (Kd.R_new' ho0 (Kd.R_lt (kr_ <| HO169.out))) (below_size bl_)); have n2_ := mk_ (below_step bl_ hb); clear HO169 HB; have HO169 := n0_; have HO172 := n1_; have HB := n2_; clear n0_ n1_ n2_; (try clear hb); (try clear hb2); (try clear hk); (try clear hi); (try clear ho0); obtain ⟨Ao23, co23, eo23⟩ := Kd.R_slice HO172.out; subst eo23) | ((with_reducible refine gate_builtin (b := .append) (xs := #[.tmp 43, .tmp 52]) rfl ?_); at_builtin; refine Kd.R_append_rows k39 (w0 := w) w.heap.size rfl (.tmp 43) (.tmp 52) 26 39 (.agg #[(.int .i64 0), (.int .i64 0)]) 16 rfl Tryz.underlying26 info39 rfl (by decide) (by omega) v168 y167 t170 _ _ _ (fun k_ => some k_ ≠ (.slice Ao23 t170.length co23 : Value).ownBlock) (fun _ => False) rfl rfl ?aO ?aR (fun _ _ h => h) (fun _ h => h.elim) ?aF ?aB ?aS ?aL ?_; (case aR => exact kc_ <| (Kd.R_reads' HO172.out).2.2); (case aB => exact bl_); (case aF => exact (fun k_ hk => Kd.fresh' (Kd.R_lt (kr_ <| HO172.out)) k_ hk)); (case aO => exact (kr_ <| Kd.R_mono HO169.out (fun _ hk => hk.2))); (case aS => exact (below_size bl_)); (case aL => have := LMc16.out; omega); intro v174 w22 ho hb hg hat; rw [← Ny173.out] at ho; have n0_ := mk_ (Kd.R_after (ok := (fun _ => True)) (kr_ <| HO172.out) hg hat); have n1_ := mk_ (hb); have n2_ := mk_ (ho); clear HO172 HB HO169; have HO172 := n0_; have HB := n1_; have HO175 := n2_; clear n0_ n1_ n2_ ho hb hg hat) | (go_at_call 49; (with_reducible refine (ih k1 (by have := HK1.out; omega) (wrap64 ((wrap64 (a0 + x9_1)) + 1)) ji10 (Int.tmod x2_1 (rd l3 (ji10))) _ _ l3 t176 _ ?side1 ?side2 A17.out).mono ?_); (case side1 => exact kc_ <| (Kd.C_below HR3.out HB.out)); (case side2 => exact HC3.out); rintro e w24 ⟨v177, rfl, ho0, hb⟩; have n0_ := mk_ (Kd.R_elder' (kr_ <| HO172.out) (Kd.R_base ho0) hb); have n1_ := mk_ (Kd.R_elder' (kr_ <| HO175.out) (Kd.R_base ho0) hb); have n2_ := mk_ (Kd.R_lower (Kd.R_new' (Kd.R_new' ho0 (Kd.R_lt (kr_ <| HO172.out))) (Kd.R_lt (kr_ <| HO175.out))) (below_size bl_)); have n3_ := mk_ (below_step bl_ hb); clear HO172 HO175 HB; have HO172 := n0_; have HO175 := n1_; have HO178 := n2_; have HB := n3_; clear n0_ n1_ n2_ n3_; (try clear hb); (try clear hb2); (try clear hk); (try clear hi); (try clear ho0); obtain ⟨Ao26, co26, eo26⟩ := Kd.R_slice HO178.out; subst eo26) | ((with_reducible refine gate_builtin (b := .append) (xs := #[.tmp 54, .tmp 67]) rfl ?_); at_builtin; refine Kd.R_append_rows k39 (w0 := w) w.heap.size rfl (.tmp 54) (.tmp 67) 26 39 (.agg #[(.int .i64 0), (.int .i64 0)]) 16 rfl Tryz.underlying26 info39 rfl (by decide) (by omega) v174 y173 t176 _ _ _ (fun k_ => some k_ ≠ (.slice Ao23 t170.length co23 : Value).ownBlock ∧ some k_ ≠ (.slice Ao26 t176.length co26 : Value).ownBlock) (fun _ => False) rfl rfl ?aO ?aR (fun _ _ h => h) (fun _ h => h.elim) ?aF ?aB ?aS ?aL ?_; (case aR => exact kc_ <| (Kd.R_reads' HO178.out).2.2); (case aB => exact bl_); (case aF => exact (fun k_ hk => ⟨Kd.fresh' (Kd.R_lt (kr_ <| HO172.out)) k_ hk, Kd.fresh' (Kd.R_lt (kr_ <| HO178.out)) k_ hk⟩)); (case aO => exact (kr_ <| HO175.out)); (case aS => exact (below_size bl_)); (case aL => have := LMc18.out; omega); intro v180 w25 ho hb hg hat; rw [← Ny179.out] at ho; have n0_ := mk_ (Kd.R_after (ok := (fun k_ => some k_ ≠ (.slice Ao26 t176.length co26 : Value).ownBlock)) (kr_ <| Kd.R_mono HO172.out (fun _ hk => ⟨hk.2, hk.1.2⟩)) hg hat); have n1_ := mk_ (Kd.R_after (ok := (fun k_ => some k_ ≠ (.slice Ao23 t170.length co23 : Value).ownBlock)) (kr_ <| Kd.R_mono HO178.out (fun _ hk => ⟨hk.1.2, hk.2⟩)) hg hat); have n2_ := mk_ (hb); have n3_ := mk_ (ho); clear HO172 HO178 HB HO175; have HO172 := n0_; have HO178 := n1_; have HB := n2_; have HO181 := n3_; clear n0_ n1_ n2_ n3_ ho hb hg hat)))
       go_ret;exact ⟨_, by first | rfl | (simp [errW_none, errW_some] <;> rfl) | (simp only [← hji7, ← hji10]; first | rfl | (simp [errW_none, errW_some] <;> rfl)) | (simp [*, errW_none, errW_some] <;> rfl), by exact kr_ <| Kd.R_mono HO181.out (fun _ hk => trivial), bl_⟩
     ·rw [if_neg c13] at H;have c13b0 : decide (x2_1 < (wrap64 ((rd l3 (ji7)) * (rd l3 (ji10))))) = false := decide_eq_false c13;clear c13;have H' := mk_ H;clear H;have p165 : 0 ≤ ((ji7) : Int) := od_;have q165 : (ji7) < (l3.length : Int) := od_;obtain ⟨ad165, e165, hx165_0⟩ := Kd.at_int HR3.out (ji7) p165 q165;cases e165;replace hx165_0 := (HB.out.cell (World.block_lt_of_cell? w _ hx165_0)).trans hx165_0;replace p165 := eq_true p165;replace q165 := eq_true q165;have p166 : 0 ≤ ((ji10) : Int) := od_;have q166 : (ji10) < (l3.length : Int) := od_;obtain ⟨ad166, e166, hx166_0⟩ := Kd.at_int HR3.out (ji10) p166 q166;obtain rfl : ad165 = ad166 := (by injection e166);replace hx166_0 := (HB.out.cell (World.block_lt_of_cell? w _ hx166_0)).trans hx166_0;replace p166 := eq_true p166;replace q166 := eq_true q166;go_wp2;repeat (go_quiet (fail); try go_wp2)
      go_roundg k1
      case measure => have := HK1.out; omega
      case rel => exact ⟨(wrap64 (x2_1 - (wrap64 ((rd l3 (ji7)) * (rd l3 (ji10)))))), (wrap64 (x9_1 + 2)), (by first | rfl | (simp; done) | (simp only [← hji7, ← hji10] <;> (first | rfl | simp)) | (simp [*]; done)), (es_), H', ⟨by have := HK1.out; omega⟩, ⟨bl_⟩⟩
    ·rw [if_neg c6] at H;have c6b0 : decide (x9_1 < a1) = false := decide_eq_false c6;clear c6;obtain rfl := Option.some.inj H;go_wp2;repeat (go_quiet (fail); try go_wp2)
     go_ret;exact ⟨_, ew_, by first | exact Kd.R_nil _ _ _ _ _ | exact Kd.N_nil _ _ _ _ _ | exact Kd.V_nil _ _ _ _ _ | exact Kd.Q_nil _ _ _ _ _ | exact Kd.S_nil _ _ _ _ _, bl_⟩
def spec_PlanePairingOfRank.f (k : Nat) (a0 : Int) (a1 : Int) : Option ((List (S39)) × Bool) := (spec_cdPlanePoints.f a0).bind fun t182 => (if t182 = true then ((spec_cdPlane.f k a0).bind fun t183 => (if 0 ≤ a0 then (if a0 < (t183.length : Int) then ((spec_l1In.f a1 0 (wrap64 ((rd t183 a0) - 1))).bind fun t187 => (if t187 = true then ((spec_cdOfRank.f k 0 a0 a1 t183).bind fun t188 => (some (t188, true))) else (some (([] : List (S39)), false)))) else (none)) else (none))) else (some (([] : List (S39)), false)))
theorem spec_PlanePairingOfRank.calls (k : Nat) (a0 : Int) (a1 : Int) (r1 : List (S39)) (r2 : Bool) (w : World) (h : spec_PlanePairingOfRank.f k a0 a1 = some (r1, r2)) :
  Calls Tryz.prog 7 #[.int .i64 a0, .int .i64 a1] w fun e w' => ∃ v0_ : Value, e = .returned (.tuple #[v0_, .bool r2]) ∧ Kd.R k39 39 w' w.heap.size (fun _ => True) v0_ r1 ∧ Below w.heap.size w w' := by
 have HB := mk_ (Below.refl w.heap.size w);have H : ((spec_cdPlanePoints.f a0).bind fun t182 => (if t182 = true then ((spec_cdPlane.f k a0).bind fun t183 => (if 0 ≤ a0 then (if a0 < (t183.length : Int) then ((spec_l1In.f a1 0 (wrap64 ((rd t183 a0) - 1))).bind fun t187 => (if t187 = true then ((spec_cdOfRank.f k 0 a0 a1 t183).bind fun t188 => (some (t188, true))) else (some (([] : List (S39)), false)))) else (none)) else (none))) else (some (([] : List (S39)), false)))) = some (r1, r2) := h;clear h;replace H := Option.bind_eq_some_iff.mp H;obtain ⟨t182, A30, H⟩ := H;try dsimp only at H
 have A3 := mk_ A30;clear A30;by_cases c4 : t182 = true
 ·subst c4;have H1 : ((spec_cdPlane.f k a0).bind fun t183 => (if 0 ≤ a0 then (if a0 < (t183.length : Int) then ((spec_l1In.f a1 0 (wrap64 ((rd t183 a0) - 1))).bind fun t187 => (if t187 = true then ((spec_cdOfRank.f k 0 a0 a1 t183).bind fun t188 => (some (t188, true))) else (some (([] : List (S39)), false)))) else (none)) else (none))) = some (r1, r2) := by rw [if_pos rfl] at H; exact H
  clear H;have H := H1;clear H1;replace H := Option.bind_eq_some_iff.mp H;obtain ⟨t183, A50, H⟩ := H;try dsimp only at H
  have A5 := mk_ A50;clear A50;by_cases c6 : 0 ≤ a0;rotate_left
  ·rw [if_neg c6] at H;exact absurd H (by simp)
  rw [if_pos c6] at H;have c6b0 : decide (0 ≤ a0) = true := decide_eq_true c6;clear c6;by_cases c7 : a0 < (t183.length : Int);rotate_left
  ·rw [if_neg c7] at H;exact absurd H (by simp)
  rw [if_pos c7] at H;have c7b0 : decide (a0 < (t183.length : Int)) = true := decide_eq_true c7;clear c7;replace H := Option.bind_eq_some_iff.mp H;obtain ⟨t187, A80, H⟩ := H;try dsimp only at H
  have A8 := mk_ A80;clear A80;by_cases c9 : t187 = true
  ·subst c9;have H1 : ((spec_cdOfRank.f k 0 a0 a1 t183).bind fun t188 => (some (t188, true))) = some (r1, r2) := by rw [if_pos rfl] at H; exact H
   clear H;have H := H1;clear H1;replace H := Option.bind_eq_some_iff.mp H;obtain ⟨t188, A100, H⟩ := H;try dsimp only at H
   have A10 := mk_ A100;clear A100;simp only [Option.some.injEq, Prod.mk.injEq] at H;obtain ⟨rfl, rfl⟩ := H;go_enter Tryz.func7, Tryz.ntmps7;go_wp2_with (first | (refine gd_ 8 Tryz.func39 (spec_cdPlanePoints.calls a0 true _ A3.out) ?_; intro nd) | (refine gc_ 11 Tryz.func42 #[.int .i64 a0] ?_; (with_reducible refine (spec_cdPlane.calls k a0 t183 _ A5.out).mono ?_); rintro e w11 ⟨v184, rfl, ho0, hb⟩; refine ⟨_, rfl, ?_⟩; have n0_ := mk_ (Kd.R_lower ho0 (below_size bl_)); have n1_ := mk_ (below_step bl_ hb); clear HB; have HO185 := n0_; have HB := n1_; clear n0_ n1_; (try clear hb); (try clear hb2); (try clear hk); (try clear hi); (try clear ho0); obtain ⟨Ao12, co12, eo12⟩ := Kd.R_slice HO185.out; subst eo12; have p186 : 0 ≤ (a0 : Int) := od_; have q186 : a0 < (t183.length : Int) := od_; obtain ⟨ad186, e186, hx186_0⟩ := Kd.at_int (Kd.R_reads' HO185.out).2.2 a0 p186 q186; cases e186; replace p186 := eq_true p186; replace q186 := eq_true q186) | (refine gd_ 18 Tryz.func48 (spec_l1In.calls a1 0 (wrap64 ((rd t183 a0) - 1)) true _ A8.out) ?_; intro nd) | (refine gc_ 23 Tryz.func49 #[.int .i64 0, .int .i64 a0, .int .i64 a1, .slice (some ad186) t183.length co12] ?_; (with_reducible refine (spec_cdOfRank.calls k 0 a0 a1 _ _ t183 t188 _ ?side1 ?side2 A10.out).mono ?_); (case side1 => exact kc_ <| (Kd.R_reads' HO185.out).2.2); (case side2 => exact (Kd.R_reads' HO185.out).2.1); rintro e w13 ⟨v189, rfl, ho0, hb⟩; refine ⟨_, rfl, ?_⟩; have n0_ := mk_ (Kd.R_below (kr_ <| HO185.out) hb); have n1_ := mk_ (Kd.R_lower ho0 (below_size bl_)); have n2_ := mk_ (below_step bl_ hb); clear HO185 HB; have HO185 := n0_; have HO190 := n1_; have HB := n2_; clear n0_ n1_ n2_; (try clear hb); (try clear hb2); (try clear hk); (try clear hi); (try clear ho0)));go_ret2;exact ⟨_, ew_, by exact kr_ <| HO190.out, bl_⟩
  ·replace c9 := Bool.eq_false_iff.mpr c9;subst c9;have H1 : (some (([] : List (S39)), false)) = some (r1, r2) := by rw [if_neg (show ¬ (false = true) by decide)] at H; exact H
   clear H;have H := H1;clear H1;simp only [Option.some.injEq, Prod.mk.injEq] at H;obtain ⟨rfl, rfl⟩ := H;go_enter Tryz.func7, Tryz.ntmps7;go_wp2_with (first | (refine gd_ 8 Tryz.func39 (spec_cdPlanePoints.calls a0 true _ A3.out) ?_; intro nd) | (refine gc_ 11 Tryz.func42 #[.int .i64 a0] ?_; (with_reducible refine (spec_cdPlane.calls k a0 t183 _ A5.out).mono ?_); rintro e w14 ⟨v184, rfl, ho0, hb⟩; refine ⟨_, rfl, ?_⟩; have n0_ := mk_ (Kd.R_lower ho0 (below_size bl_)); have n1_ := mk_ (below_step bl_ hb); clear HB; have HO185 := n0_; have HB := n1_; clear n0_ n1_; (try clear hb); (try clear hb2); (try clear hk); (try clear hi); (try clear ho0); obtain ⟨Ao15, co15, eo15⟩ := Kd.R_slice HO185.out; subst eo15; have p186 : 0 ≤ (a0 : Int) := od_; have q186 : a0 < (t183.length : Int) := od_; obtain ⟨ad186, e186, hx186_0⟩ := Kd.at_int (Kd.R_reads' HO185.out).2.2 a0 p186 q186; cases e186; replace p186 := eq_true p186; replace q186 := eq_true q186) | (refine gd_ 18 Tryz.func48 (spec_l1In.calls a1 0 (wrap64 ((rd t183 a0) - 1)) false _ A8.out) ?_; intro nd));go_ret2;exact ⟨_, ew_, by first | exact Kd.R_nil _ _ _ _ _ | exact Kd.N_nil _ _ _ _ _ | exact Kd.V_nil _ _ _ _ _ | exact Kd.Q_nil _ _ _ _ _ | exact Kd.S_nil _ _ _ _ _, bl_⟩
 ·replace c4 := Bool.eq_false_iff.mpr c4;subst c4;have H1 : (some (([] : List (S39)), false)) = some (r1, r2) := by rw [if_neg (show ¬ (false = true) by decide)] at H; exact H
  clear H;have H := H1;clear H1;simp only [Option.some.injEq, Prod.mk.injEq] at H;obtain ⟨rfl, rfl⟩ := H;go_enter Tryz.func7, Tryz.ntmps7;go_wp2_with (first | (refine gd_ 8 Tryz.func39 (spec_cdPlanePoints.calls a0 false _ A3.out) ?_; intro nd));go_ret2;exact ⟨_, ew_, by first | exact Kd.R_nil _ _ _ _ _ | exact Kd.N_nil _ _ _ _ _ | exact Kd.V_nil _ _ _ _ _ | exact Kd.Q_nil _ _ _ _ _ | exact Kd.S_nil _ _ _ _ _, bl_⟩
def impl_CountPlanePairings.f (k : Nat) (a0 : Int) : Option (Int × Bool) := (impl_isEven.f a0 30).bind fun t191 => (if t191 = true then ((impl_countPlane.f k a0).bind fun t192 => (some (t192, true))) else (some (0, false)))
theorem impl_CountPlanePairings.calls (k : Nat) (a0 : Int) (r1 : Int) (r2 : Bool) (w : World) (h : impl_CountPlanePairings.f k a0 = some (r1, r2)) :
  Calls Tryz.prog 8 #[.int .i64 a0] w fun e w' => e = .returned (.tuple #[.int .i64 r1, .bool r2]) ∧ Drawn0 w w' := by
 have H : ((impl_isEven.f a0 30).bind fun t191 => (if t191 = true then ((impl_countPlane.f k a0).bind fun t192 => (some (t192, true))) else (some (0, false)))) = some (r1, r2) := h;clear h;replace H := Option.bind_eq_some_iff.mp H;obtain ⟨t191, A20, H⟩ := H;try dsimp only at H
 have A2 := mk_ A20;clear A20;by_cases c3 : t191 = true
 ·subst c3;have H1 : ((impl_countPlane.f k a0).bind fun t192 => (some (t192, true))) = some (r1, r2) := by rw [if_pos rfl] at H; exact H
  clear H;have H := H1;clear H1;replace H := Option.bind_eq_some_iff.mp H;obtain ⟨t192, A40, H⟩ := H;try dsimp only at H
  have A4 := mk_ A40;clear A40;simp only [Option.some.injEq, Prod.mk.injEq] at H;obtain ⟨rfl, rfl⟩ := H;go_enter Tryz.func8, Tryz.ntmps8;go_wp2_with (first | (refine gd_ 5 Tryz.func43 (impl_isEven.calls a0 30 true _ A2.out) ?_; intro nd) | (refine gd_ 8 Tryz.func45 (impl_countPlane.calls k a0 t192 _ A4.out) ?_; intro nd));go_ret2;exact ⟨es_, dr_⟩
 ·replace c3 := Bool.eq_false_iff.mpr c3;subst c3;have H1 : (some (0, false)) = some (r1, r2) := by rw [if_neg (show ¬ (false = true) by decide)] at H; exact H
  clear H;have H := H1;clear H1;simp only [Option.some.injEq, Prod.mk.injEq] at H;obtain ⟨rfl, rfl⟩ := H;go_enter Tryz.func8, Tryz.ntmps8;go_wp2_with (first | (refine gd_ 5 Tryz.func43 (impl_isEven.calls a0 30 false _ A2.out) ?_; intro nd));go_ret2;exact ⟨es_, dr_⟩
def spec_CountPlanePairings.f (k : Nat) (a0 : Int) : Option (Int × Bool) := (spec_cdPlanePoints.f a0).bind fun t193 => (if t193 = true then ((spec_cdPlane.f k a0).bind fun t194 => (if 0 ≤ a0 then (if a0 < (t194.length : Int) then (some (rd t194 a0, true)) else (none)) else (none))) else (some (0, false)))
theorem spec_CountPlanePairings.calls (k : Nat) (a0 : Int) (r1 : Int) (r2 : Bool) (w : World) (h : spec_CountPlanePairings.f k a0 = some (r1, r2)) :
  Calls Tryz.prog 9 #[.int .i64 a0] w fun e w' => e = .returned (.tuple #[.int .i64 r1, .bool r2]) ∧ Below w.heap.size w w' := by
 have HB := mk_ (Below.refl w.heap.size w);have H : ((spec_cdPlanePoints.f a0).bind fun t193 => (if t193 = true then ((spec_cdPlane.f k a0).bind fun t194 => (if 0 ≤ a0 then (if a0 < (t194.length : Int) then (some (rd t194 a0, true)) else (none)) else (none))) else (some (0, false)))) = some (r1, r2) := h;clear h;replace H := Option.bind_eq_some_iff.mp H;obtain ⟨t193, A20, H⟩ := H;try dsimp only at H
 have A2 := mk_ A20;clear A20;by_cases c3 : t193 = true
 ·subst c3;have H1 : ((spec_cdPlane.f k a0).bind fun t194 => (if 0 ≤ a0 then (if a0 < (t194.length : Int) then (some (rd t194 a0, true)) else (none)) else (none))) = some (r1, r2) := by rw [if_pos rfl] at H; exact H
  clear H;have H := H1;clear H1;replace H := Option.bind_eq_some_iff.mp H;obtain ⟨t194, A40, H⟩ := H;try dsimp only at H
  have A4 := mk_ A40;clear A40;by_cases c5 : 0 ≤ a0;rotate_left
  ·rw [if_neg c5] at H;exact absurd H (by simp)
  rw [if_pos c5] at H;have c5b0 : decide (0 ≤ a0) = true := decide_eq_true c5;clear c5;by_cases c6 : a0 < (t194.length : Int);rotate_left
  ·rw [if_neg c6] at H;exact absurd H (by simp)
  rw [if_pos c6] at H;have c6b0 : decide (a0 < (t194.length : Int)) = true := decide_eq_true c6;clear c6;simp only [Option.some.injEq, Prod.mk.injEq] at H;obtain ⟨rfl, rfl⟩ := H;go_enter Tryz.func9, Tryz.ntmps9;go_wp2_with (first | (refine gd_ 5 Tryz.func39 (spec_cdPlanePoints.calls a0 true _ A2.out) ?_; intro nd) | (refine gc_ 8 Tryz.func42 #[.int .i64 a0] ?_; (with_reducible refine (spec_cdPlane.calls k a0 t194 _ A4.out).mono ?_); rintro e w7 ⟨v195, rfl, ho0, hb⟩; refine ⟨_, rfl, ?_⟩; have n0_ := mk_ (Kd.R_lower ho0 (below_size bl_)); have n1_ := mk_ (below_step bl_ hb); clear HB; have HO196 := n0_; have HB := n1_; clear n0_ n1_; (try clear hb); (try clear hb2); (try clear hk); (try clear hi); (try clear ho0); obtain ⟨Ao8, co8, eo8⟩ := Kd.R_slice HO196.out; subst eo8; have p197 : 0 ≤ (a0 : Int) := od_; have q197 : a0 < (t194.length : Int) := od_; obtain ⟨ad197, e197, hx197_0⟩ := Kd.at_int (Kd.R_reads' HO196.out).2.2 a0 p197 q197; cases e197; replace p197 := eq_true p197; replace q197 := eq_true q197));go_ret2;exact ⟨ew_, bl_⟩
 ·replace c3 := Bool.eq_false_iff.mpr c3;subst c3;have H1 : (some (0, false)) = some (r1, r2) := by rw [if_neg (show ¬ (false = true) by decide)] at H; exact H
  clear H;have H := H1;clear H1;simp only [Option.some.injEq, Prod.mk.injEq] at H;obtain ⟨rfl, rfl⟩ := H;go_enter Tryz.func9, Tryz.ntmps9;go_wp2_with (first | (refine gd_ 5 Tryz.func39 (spec_cdPlanePoints.calls a0 false _ A2.out) ?_; intro nd));go_ret2;exact ⟨ew_, bl_⟩
def hasC (l : List S39) (c0 c1 : Int) : Bool := l.any (fun d => decide (c0 = d.f0) && decide (c1 = d.f1))
def spec_AddChord.f (k : Nat) (a0 : Int) (l1 : List S39) (a2_0 a2_1 : Int) : Option (List S39 × Bool) :=
 (spec_cdGood.f k a0 l1).bind fun g => (spec_srIs.f a0 a2_0 a2_1).bind fun i => if l1.length ≤ 1000000000 then (if g = true then (if i = true then (if l1.length = 40 then some ([], false) else if hasC l1 a2_0 a2_1 = true then some ([], false) else (spec_srPut.f k l1 a2_0 a2_1).bind fun r => some (r, true)) else some ([], false)) else some ([], false)) else none
theorem spec_AddChord_walk (k : Nat) (a0 : Int) (P0_ : Nat → Prop) (A1 : Option Addr) (cap : Nat) (l1 : List S39) (c0 c1 : Int) (r1 : List S39) (r2 g i : Bool) (w0 w : World) (hB : Below w0.heap.size w0 w) (ho : Kd.R k39 39 w w0.heap.size P0_ (.slice A1 l1.length cap) l1) (hlc : l1.length ≤ cap) (hl : l1.length ≤ 1000000000)
  (HG : Aside0 (spec_cdGood.f k a0 l1 = some g)) (HI : Aside0 (spec_srIs.f a0 c0 c1 = some i))
  (HRR : Aside0 ((if g = true then (if i = true then (if l1.length = 40 then some ([], false) else if hasC l1 c0 c1 = true then some ([], false) else (spec_srPut.f k l1 c0 c1).bind fun r => some (r, true)) else some ([], false)) else some ([], false) : Option (List S39 × Bool)) = some (r1, r2))) :
  Calls Tryz.prog 23 #[.int .i64 a0, .slice A1 l1.length cap, .agg #[.int .i64 c0, .int .i64 c1]] w fun e w' => ∃ v0_ : Value, e = .returned (.tuple #[v0_, .bool r2]) ∧ Kd.R k39 39 w' w0.heap.size (fun k_ => (P0_ k_ ∨ w.heap.size ≤ k_)) v0_ r1 ∧ Below w0.heap.size w0 w' ∧ Kept w w' (fun k_ => P0_ k_) := by
 have hC0 : Kd.C k39 w A1 l1.length l1 := (Kd.R_reads' ho).2.2;have HC := mk_ hC0;have HO := mk_ ho;have HCAP := mk_ hlc;have HL := mk_ hl;have HB0 := mk_ hB;clear hC0 ho hlc hl hB;go_enter Tryz.func23, Tryz.ntmps23;have B0 := mk_ (below_alloc (Below.refl w.heap.size w) (.cells #[.int .i64 c0, .int .i64 c1] 39));have X0 := mk_ (show (w.alloc (.cells #[.int .i64 c0, .int .i64 c1] 39)).heap[w.heap.size]? = some (.cells #[.int .i64 c0, .int .i64 c1] 39 (0, 0)) from (MapKept.heap_alloc w _).1);go_wp2_with fail;refine (spec_cdGood.calls k a0 A1 cap l1 g _ (Kd.C_below HC.out B0.out) HCAP.out HG.out).mono ?_;rintro e w2 ⟨rfl, hb⟩;have B2 := mk_ (below_step B0.out hb);have X2 := mk_ (blk_below X0.out hb);clear hb X0 B0;have hLow : Below w.heap.size w w2 → Below w0.heap.size w0 w2 := fun h => below_step HB0.out h
 clear hLow
 cases g with
 | false =>
  have hR := HRR.out;simp only [Bool.false_eq_true, if_false] at hR;injection hR with hR
  injection hR with e1 e2
  subst e1; subst e2;go_wp2_with fail;go_ret2;exact ⟨_, rfl, Kd.R_nil _ _ _ _ _, below_step HB0.out B2.out, Kept.of_below B2.out _⟩
 | true =>
  have hR := HRR.out;simp only [if_true] at hR;have HR1 := mk_ hR;clear hR HRR HG;have b0 : w2.cell? ⟨w.heap.size, 0, none⟩ = some (.int .i64 c0) := (blk_cell X2.out 0).trans rfl;have b1 : w2.cell? ⟨w.heap.size, 1, none⟩ = some (.int .i64 c1) := (blk_cell X2.out 1).trans rfl;go_wp2_with fail;clear b0 b1;refine (spec_srIs.calls a0 c0 c1 i w2 HI.out).mono ?_;rintro e w3 ⟨rfl, hb⟩;have B3 := mk_ (below_step B2.out hb);have X3 := mk_ (blk_below X2.out hb);clear hb X2 B2 HI
  cases i with
  | false =>
   have hR := HR1.out;simp only [Bool.false_eq_true, if_false] at hR;injection hR with hR
   injection hR with e1 e2
   subst e1; subst e2;go_wp2_with fail;go_ret2;exact ⟨_, rfl, Kd.R_nil _ _ _ _ _, below_step HB0.out B3.out, Kept.of_below B3.out _⟩
  | true =>
   have hR := HR1.out;simp only [if_true] at hR;clear HR1;by_cases h40 : l1.length = 40
   ·rw [if_pos h40] at hR;injection hR with hR
    injection hR with e1 e2
    subst e1; subst e2;have hdb : ((l1.length : Int) == 40) = true := by simp [h40]
    clear h40;go_wp2_with fail;go_ret2;exact ⟨_, rfl, Kd.R_nil _ _ _ _ _, below_step HB0.out B3.out, Kept.of_below B3.out _⟩
   ·rw [if_neg h40] at hR;have HR2 := mk_ hR
    have hdb : ((l1.length : Int) == 40) = false := by
     have : ¬ (l1.length : Int) = 40 := by omega
     simpa using this
    have HDB := mk_ hdb;clear h40 hR;go_wp2_with fail;clear hdb;have HH0 := mk_ (show hasC (l1.drop 0) c0 c1 = hasC l1 c0 c1 by rw [List.drop_zero]);go_loopg [27] l1.length (fun gg s27 wr => ∃ (j : Nat), s27 = .int .i64 (j : Int) ∧ j ≤ l1.length ∧ l1.length - j ≤ gg ∧ Aside0 (hasC (l1.drop j) c0 c1 = hasC l1 c0 c1) ∧ Aside0 (Below w.heap.size w wr) ∧ Aside0 (wr.heap[w.heap.size]? = some (.cells #[.int .i64 c0, .int .i64 c1] 39 (0, 0))))
    case atStart => exact ⟨0, rfl, Nat.zero_le _, by omega, HH0, B3, X3⟩
    case round =>
     clear B3 X3 HH0;obtain ⟨j, rfl, hj, hg, HH, HB, HX⟩ := hrel;by_cases hlt : j < l1.length
     ·have q0 : (j : Int) < (l1.length : Int) := by omega
      obtain ⟨ad, hA, m0, m1⟩ := at_T39 (Kd.C_below HC.out HB.out) (j : Int) (by omega) q0;cases hA;rw [Int.toNat_natCast] at m0 m1;have b0 : wr.cell? ⟨w.heap.size, 0, none⟩ = some (.int .i64 c0) := (blk_cell HX.out 0).trans rfl;have b1 : wr.cell? ⟨w.heap.size, 1, none⟩ = some (.int .i64 c1) := (blk_cell HX.out 1).trans rfl;have hwb : w.heap.size < wr.heap.size := blk_lt HX.out;obtain ⟨d0, hd0⟩ : ∃ d0, d0 = (rd_T39 l1 (j : Int)).f0 := ⟨_, rfl⟩;obtain ⟨d1, hd1⟩ : ∃ d1, d1 = (rd_T39 l1 (j : Int)).f1 := ⟨_, rfl⟩;rw [← hd0] at m0;rw [← hd1] at m1;have hH := HH.out;rw [List.drop_eq_getElem_cons hlt] at hH
      have hget : rd_T39 l1 (j : Int) = l1[j] := by
       show l1.getD (j : Int).toNat _ = _;rw [Int.toNat_natCast, List.getD_eq_getElem?_getD, List.getElem?_eq_getElem hlt]; rfl
      rw [hget] at hd0 hd1;have hH2 : (decide (c0 = d0) && decide (c1 = d1) || hasC (l1.drop (j + 1)) c0 c1) = hasC l1 c0 c1 := by rw [hd0, hd1]; exact hH
      have HH2 := mk_ hH2;clear hH hH2 hget hd0 hd1 HH;by_cases e0 : c0 = d0 ∧ c1 = d1
      ·obtain ⟨h0, h1⟩ := e0;subst h0; subst h1;have hh := HH2.out;rw [decide_eq_true rfl, decide_eq_true rfl] at hh;have hr := HR2.out;rw [← hh] at hr;simp only [Bool.and_self, Bool.true_or, if_true] at hr;injection hr with hr
       injection hr with e1 e2
       subst e1; subst e2;clear hh HH2 HR2;go_wp2_with fail;go_ret2;exact ⟨_, rfl, Kd.R_nil _ _ _ _ _, below_step HB0.out (below_alloc HB.out _), Kept.of_below (below_alloc HB.out _) _⟩
      ·by_cases h0 : d0 = c0
       ·subst h0;have h1 : ¬ c1 = d1 := fun h => e0 ⟨rfl, h⟩
        have E0 := mk_ h1;have h2 : (c1 == d1) = false := by simpa using h1
        clear e0;go_wp2_with fail;go_roundg (l1.length - (j + 1))
        (case measure => omega)
        (case rel =>
         refine ⟨j + 1, by rw [show wrap64 ((j : Int) + 1) = ((j + 1 : Nat) : Int) by have := HL.out; unfold wrap64; omega], by omega, Nat.le_refl _, ⟨?_⟩, ⟨below_alloc HB.out _⟩, ⟨blk_alloc HX.out _⟩⟩
         have h := HH2.out
         rw [decide_eq_false E0.out, Bool.and_false, Bool.false_or] at h
         exact h)
       ·have h1 : ¬ c0 = d0 := fun h => h0 h.symm
        have E0 := mk_ h1;have h2 : (c0 == d0) = false := by simpa using h1
        clear e0 h0;go_wp2_with fail;go_roundg (l1.length - (j + 1))
        (case measure => omega)
        (case rel =>
         refine ⟨j + 1, by rw [show wrap64 ((j : Int) + 1) = ((j + 1 : Nat) : Int) by have := HL.out; unfold wrap64; omega], by omega, Nat.le_refl _, ⟨?_⟩, ⟨below_alloc HB.out _⟩, ⟨blk_alloc HX.out _⟩⟩
         have h := HH2.out
         rw [decide_eq_false E0.out, Bool.false_and, Bool.false_or] at h
         exact h)
     ·have q0 : ¬ (j : Int) < (l1.length : Int) := by omega
      have hh := HH.out;rw [List.drop_eq_nil_of_le (by omega)] at hh;have hr := HR2.out;rw [← hh] at hr;simp only [hasC, List.any_nil, Bool.false_eq_true, if_false] at hr;obtain ⟨r, hr1, hr2⟩ := Option.bind_eq_some_iff.mp hr;injection hr2 with hr2
      injection hr2 with e1 e2
      subst e1; subst e2;have HP := mk_ (spec_srPut.calls k P0_ (.slice A1 l1.length cap) l1 c0 c1 r w0 wr (below_step HB0.out HB.out) (Kd.R_below HO.out HB.out) hr1);have b0 : wr.cell? ⟨w.heap.size, 0, none⟩ = some (.int .i64 c0) := (blk_cell HX.out 0).trans rfl;have b1 : wr.cell? ⟨w.heap.size, 1, none⟩ = some (.int .i64 c1) := (blk_cell HX.out 1).trans rfl;have HWS := mk_ (below_size HB.out);clear hh hr hr1 HH HR2;go_wp2_with fail;refine HP.out.mono ?_;rintro e w5 ⟨v, rfl, hR5, hB5, hK5⟩;have R5 := mk_ hR5;have B5 := mk_ hB5;have K5 := mk_ hK5;clear hR5 hB5 hK5;go_wp2_with fail;go_ret2;exact ⟨_, rfl, Kd.R_mono R5.out (fun q hq => hq.imp id (fun h => Nat.le_trans HWS.out h)), B5.out, Kept.then_ (Kept.of_below HB.out _) K5.out (fun q hq => .inl hq)⟩
theorem spec_AddChord.calls (k : Nat) (a0 : Int) (P1_ : Nat → Prop) (u9001_ : Value) (l1 : List S39) (a2_0 a2_1 : Int) (r1 : List S39) (r2 : Bool) (w0 w : World) (hB : Below w0.heap.size w0 w) (ho1 : Kd.R k39 39 w w0.heap.size P1_ u9001_ l1) (h : spec_AddChord.f k a0 l1 a2_0 a2_1 = some (r1, r2)) :
  Calls Tryz.prog 23 #[.int .i64 a0, u9001_, .agg #[.int .i64 a2_0, .int .i64 a2_1]] w fun e w' => ∃ v0_ : Value, e = .returned (.tuple #[v0_, .bool r2]) ∧ Kd.R k39 39 w' w0.heap.size (fun k_ => (P1_ k_ ∨ w.heap.size ≤ k_)) v0_ r1 ∧ Below w0.heap.size w0 w' ∧ Kept w w' (fun k_ => P1_ k_) := by
 unfold spec_AddChord.f at h;obtain ⟨g, hg, h2⟩ := Option.bind_eq_some_iff.mp h;obtain ⟨i, hi, h3⟩ := Option.bind_eq_some_iff.mp h2;obtain ⟨A, c, rfl, hlc, _⟩ := Kd.R_reads ho1;split at h3
 ·rename_i hl;exact spec_AddChord_walk k a0 P1_ A c l1 a2_0 a2_1 r1 r2 g i w0 w hB ho1 hlc hl ⟨hg⟩ ⟨hi⟩ ⟨h3⟩
 ·cases h3
section
open Go.Sort Go.Lib
instance : Inhabited S39 := ⟨z39⟩
def encChord (x : S39) : List Value := [.int .i64 x.f0, .int .i64 x.f1]
theorem encChord_len (x : S39) : (encChord x).length = 2 := rfl
theorem encChord_one (x : S39) : ∀ v ∈ encChord x, v.oneCell' = true := by
 intro v hv;simp [encChord] at hv;rcases hv with rfl | rfl <;> rfl
theorem zero39 (w : World) : (zeroValue 39).run Tryz.prog w = .ok (.agg #[.int .i64 0, .int .i64 0]) w := by kernel_rfl
theorem run_clear_chord (w : World) (ty : TypeId) (b o n c : Nat) (hn : 0 < n) (hc : ∀ j, j < n * 2 → (w.cell? ⟨b, o + j, none⟩).isSome = true) (hf : ∀ j, j < n * 2 → w.frozen? ⟨b, o + j, none⟩ = false) :
  (Builtin.clear_ #[26] ty #[.slice (some ⟨b, o, none⟩) n c]).run Tryz.prog w = .ok (.tuple #[]) (w.setCells b o (List.replicate (n * 2) (.int .i64 0))) := by
 have hzc : (Builtin.zeroCells #[.int .i64 0, .int .i64 0] n).toList = List.replicate (n * 2) (.int .i64 0) := by
  simp [Builtin.zeroCells];apply List.ext_getElem
  ·simp
  ·intro i h1 h2;simp;rcases Nat.mod_two_eq_zero_or_one i with h | h <;> simp [h]
 have hst := run_storeCells_cells (P := Tryz.prog) b o (List.replicate (n * 2) (.int .i64 0)) 0 w (by simpa using hc) (by simpa using hf) (by intro v hv'; rw [List.eq_of_mem_replicate hv']; rfl);simp only [Nat.add_zero] at hst;obtain ⟨m, rfl⟩ : ∃ m, n = m + 1 := ⟨n - 1, by omega⟩;have hcells : (Value.agg #[.int .i64 0, .int .i64 0]).cells = #[.int .i64 0, .int .i64 0] := rfl;simp [Builtin.clear_, run_underlying Tryz.underlying26, zero39, hcells, hzc, hst]
theorem chord_enter {w : World} {base : Nat} {ok : Nat → Prop} {g n cap : Nat} {l : List S39} (h : Kd.R k39 39 w base ok (.slice (some ⟨g, 0, none⟩) n cap) l) :
  HoldsK encChord 2 w g 0 l.toArray := by
 have hn := (Kd.R_reads' h).1;intro t ht;have ht' : t < l.length * 2 := by simpa using ht
 obtain ⟨c, hcl, hM, hcc, hff⟩ := Kd.R_elem h z39 ((t / 2 : Nat) : Int) (by omega) (by omega);obtain rfl := k39_openM hM;have hsz : k39.sz = 2 := rfl;rw [hsz] at hcc hff;rw [get_flatK _ _ _ t (by simpa using ht')];have e1 : (((t / 2 : Nat) : Int)).toNat = t / 2 := by omega
 rw [e1] at hcc hff
 have e2 : l.toArray[t / 2]! = l.getD (t / 2) z39 := by
  rw [getElem!_pos _ _ (by simp; omega), List.getD_eq_getElem?_getD, List.getElem?_eq_getElem (by omega)];simp
 rw [e2, Nat.zero_add];rcases Nat.mod_two_eq_zero_or_one t with e | e
 ·have hc := hcc 0 _ rfl;have hf := hff 0;rw [show t / 2 * 2 + 0 = t by omega] at hc hf;rw [e];exact ⟨hc, hf⟩
 ·have hc := hcc 1 _ rfl;have hf := hff 1;rw [show t / 2 * 2 + 1 = t by omega] at hc hf;rw [e];exact ⟨hc, hf⟩
theorem chord_leave {w : World} {base : Nat} {ok : Nat → Prop} {g m cap : Nat} {cur : Array Value} {l : List S39} (hb : w.heap[g]? = some (.cells cur 39 (0, 0))) (hbase : base ≤ g) (hcur : cur.size = cap * 2) (hmax : cap ≤ maxLen) (hl : l.length = m) (hm : m ≤ cap) (hok : ok g)
  (hH : ∀ t, t < m * 2 → cur[t]? = some (encChord l[t / 2]!)[t % 2]!) :
  Kd.R k39 39 w base ok (.slice (some ⟨g, 0, none⟩) m cap) l := by
 have hinner : (cur.toList.take (m * 2)).length = m * 2 := by
  rw [List.length_take, Array.length_toList]; omega
 refine ⟨fun k hk => ?_, cur.toList.take (m * 2), ?_, ?_⟩
 ·simp [Value.ownBlock] at hk;exact hk ▸ hok
 ·show w.ownsRow base 39 2 _ l.length _;rw [hl];exact ⟨hinner, .inr ⟨g, cap, cur, rfl, hbase, hb, hm, hmax, hcur, rfl⟩⟩
 ·show Reps _ 2 l _;refine ⟨by rw [hinner, hl], fun j p hj => ?_⟩;have hjl : j < l.length := (List.getElem?_eq_some_iff.1 hj).1
  have e : ((cur.toList.take (m * 2)).drop (j * 2)).take 2 = [.int .i64 p.f0, .int .i64 p.f1] := by
   apply List.ext_getElem?;intro i;rw [List.getElem?_take, List.getElem?_drop, List.getElem?_take, Array.getElem?_toList];by_cases hi : i < 2
   ·rw [if_pos hi, if_pos (by omega), hH _ (by omega)]
    have e3 : l[(j * 2 + i) / 2]! = p := by
     rw [show (j * 2 + i) / 2 = j by omega, getElem!_pos l j hjl];rw [List.getElem?_eq_getElem hjl] at hj;exact Option.some.inj hj
    rw [e3, show (j * 2 + i) % 2 = i by omega];rcases (show i = 0 ∨ i = 1 by omega) with rfl | rfl <;> rfl
   ·rw [if_neg hi, List.getElem?_eq_none (by simp; omega)]
  rw [e];exact k39_mkM _ _ _ p
theorem putRowK_block {w : World} {g q : Nat} {d : Array S39} {cur : Array Value} (hb : w.heap[g]? = some (.cells cur 39 (0, 0))) (hs : d.size * 2 ≤ cur.size) :
  ∃ cur', (putRowK encChord 2 (Sort.ahead w q) g 0 d).heap[g]? = some (.cells cur' 39 (0, 0)) ∧ cur'.size = cur.size ∧ ∀ t, t < d.size * 2 → cur'[t]? = some (encChord d[t / 2]!)[t % 2]! := by
 refine ⟨putCells id 0 (flatK encChord 2 d) cur, ?_, by simp [putCells], fun t ht => ?_⟩
 ·simp [putRowK, putRow, mapBlock, Sort.ahead, Array.getElem?_modify, hb, onCells]
 ·simp only [putCells, Array.getElem?_mapIdx, Array.getElem?_eq_getElem (show t < cur.size by omega), Option.map_some];rw [if_pos (by simp; omega), Nat.sub_zero, get_flatK _ _ _ t ht];rfl
theorem putRowK_frame (w : World) (g q : Nat) (d : Array S39) : (putRowK encChord 2 (Sort.ahead w q) g 0 d).heap.size = w.heap.size ∧ ∀ k, k ≠ g → (putRowK encChord 2 (Sort.ahead w q) g 0 d).heap[k]? = w.heap[k]? := by
 refine ⟨by simp [putRowK, putRow, mapBlock, Sort.ahead], fun k hk => ?_⟩;simp [putRowK, putRow, mapBlock, Sort.ahead, Array.getElem?_modify, Ne.symm hk]
def delNews (l : List S39) : List Value := (List.range (l.length * 2)).map fun t => (encChord l[t / 2]!)[t % 2]!
theorem delNews_len (l : List S39) : (delNews l).length = l.length * 2 := by simp [delNews]
theorem delNews_get (l : List S39) (t : Nat) (h : t < l.length * 2) : (delNews l)[t]? = some (encChord l[t / 2]!)[t % 2]! := by simp [delNews, h]
theorem delNews_get' (l : List S39) (t : Nat) (h : t < l.length * 2) : (delNews l)[t]! = (encChord l[t / 2]!)[t % 2]! := by
 rw [getElem!_def, delNews_get l t h]
theorem delNews_one (l : List S39) : ∀ u ∈ delNews l, u.oneCell' = true := by
 intro u hu;unfold delNews at hu;obtain ⟨t, _, rfl⟩ := List.mem_map.1 hu;rcases Nat.mod_two_eq_zero_or_one t with e | e <;> rw [e] <;> rfl
theorem delNews_zero (n : Nat) : List.replicate (n * 2) (Value.int .i64 0) = delNews (List.replicate n z39) := by
 apply List.ext_getElem?;intro t;by_cases h : t < n * 2
 ·have e1 : (List.replicate n z39)[t / 2]! = z39 := by
   have hq : t / 2 < (List.replicate n z39).length := by simp; omega
   rw [getElem!_pos (List.replicate n z39) (t / 2) hq, List.getElem_replicate]
  rw [delNews_get _ t (by simpa using h), List.getElem?_replicate, if_pos h, e1];rcases Nat.mod_two_eq_zero_or_one t with e | e <;> rw [e] <;> rfl
 ·rw [List.getElem?_eq_none (by simpa using h), List.getElem?_eq_none (by rw [delNews_len]; simpa using h)]
theorem set_news (d : List S39) (i : Nat) (m : List S39) (h : i + m.length ≤ d.length) : setMany (flatK encChord 2 d.toArray) (i * 2) (delNews m) = flatK encChord 2 (d.take i ++ m ++ d.drop (i + m.length)).toArray := by
 have hl : (d.take i ++ m ++ d.drop (i + m.length)).length = d.length := by simp; omega
 refine ext_get! (by simp; omega) fun t ht => ?_
 have ht' : t < d.length * 2 := by simpa using ht
 rw [get_setMany _ _ _ t (by simpa using ht'), get_flatK _ _ _ t (by simpa using ht'), get_flatK _ _ _ t (by simp; omega), delNews_len]
 have e1 : ∀ (l : List S39) (q : Nat), l.toArray[q]! = l.getD q z39 := by
  intro l q;rw [getElem!_def, List.getElem?_toArray, List.getD_eq_getElem?_getD];cases l[q]? <;> rfl
 have e2 : ∀ (l : List S39) (q : Nat), l[q]! = l.getD q z39 := by
  intro l q;rw [getElem!_def, List.getD_eq_getElem?_getD];cases l[q]? <;> rfl
 rw [e1, e1];by_cases hr : i * 2 ≤ t ∧ t < i * 2 + m.length * 2
 ·rw [if_pos hr, delNews_get' m _ (by omega), e2, show (t - i * 2) / 2 = t / 2 - i by omega, show (t - i * 2) % 2 = t % 2 by omega];congr 2;rw [List.getD_eq_getElem?_getD, List.getD_eq_getElem?_getD, List.append_assoc, List.getElem?_append_right (by simp; omega), List.getElem?_append_left (by simp; omega)];congr 3;simp; omega
 ·rw [if_neg hr];congr 2;by_cases hlt : t / 2 < i
  ·rw [List.getD_eq_getElem?_getD, List.getD_eq_getElem?_getD, List.append_assoc, List.getElem?_append_left (by simp; omega), List.getElem?_take, if_pos hlt]
  ·rw [List.getD_eq_getElem?_getD, List.getD_eq_getElem?_getD, List.getElem?_append_right (by simp; omega), List.getElem?_drop];congr 2;simp; omega
theorem news_world (w : World) (q g i : Nat) (d m : List S39) (h : i + m.length ≤ d.length) : (putRowK encChord 2 (Sort.ahead w q) g 0 d.toArray).setCells g (i * 2) (delNews m) = putRowK encChord 2 (Sort.ahead w q) g 0 (d.take i ++ m ++ d.drop (i + m.length)).toArray := by
 have hs := setCells_putRow (Sort.ahead w q) g 0 (delNews m) (i * 2) (flatK encChord 2 d.toArray) (by rw [delNews_len]; simp; omega);rw [Nat.zero_add, set_news d i m h] at hs;exact hs
theorem delete_walk (g cap i j : Nat) (l : List S39) (w : World) (hH : HoldsK encChord 2 w g 0 l.toArray) (hcap : l.length ≤ cap) (hm : cap ≤ 9223372036854775807) (hlt : i < j) (hj : j ≤ l.length) :
  Calls Tryz.prog 72 #[.slice (some ⟨g, 0, none⟩) l.length cap, .int .i64 i, .int .i64 j] w fun e w' => e = .returned (.slice (some ⟨g, 0, none⟩) (i + (l.length - j)) cap) ∧ w' = putRowK encChord 2 (Sort.ahead w 1) g 0 (l.take i ++ l.drop j ++ List.replicate (j - i) z39).toArray := by
 have tS := Tryz.underlying26;have mixed : Tryz.prog.follows Departure.mixedOrders = true := by kernel_rfl
 obtain ⟨i0, hi0, hz1⟩ : ∃ i0, Tryz.prog.info? 39 = some i0 ∧ i0.size = 2 := by
  have h : (Tryz.prog.info? 39).map (·.size) = some 2 := by kernel_rfl
  obtain ⟨i0, h1, h2⟩ := Option.map_eq_some_iff.1 h;exact ⟨i0, h1, h2⟩
 obtain ⟨news, hnews⟩ : ∃ news, news = delNews (l.drop j) := ⟨_, rfl⟩;have hlen : news.length = (l.length - j) * 2 := by rw [hnews, delNews_len]; simp
 have hcell : ∀ t, t < l.length * 2 → w.cell? ⟨g, t, none⟩ = some (encChord l[t / 2]!)[t % 2]! ∧ w.frozen? ⟨g, t, none⟩ = false := by
  intro t ht;have h0 := hH t (by simpa using ht);rw [get_flatK _ _ _ t (by simpa using ht), Nat.zero_add] at h0;have e1 : l.toArray[t / 2]! = l[t / 2]! := by rw [getElem!_def, getElem!_def, List.getElem?_toArray]
  rw [e1] at h0;exact h0
 obtain ⟨A, hA, hsrc⟩ : ∃ A : Addr, (if cap = j then some (⟨g, 0, none⟩ : Addr) else some ⟨g, j * 2, none⟩) = some A ∧ Hid (∀ t u, news[t]? = some u → w.drew.cell? (A.add t) = some u) := by
  by_cases h : cap = j
  ·refine ⟨⟨g, 0, none⟩, by simp [h], fun t u hu => ?_⟩;have h0 : news.length = 0 := by rw [hlen]; omega
   rw [List.length_eq_zero_iff.1 h0] at hu;simp at hu
  ·refine ⟨⟨g, j * 2, none⟩, by simp [h], fun t u hu => ?_⟩
   have ht : t < (l.length - j) * 2 := by
    have := (List.getElem?_eq_some_iff.1 hu).1;rwa [hlen] at this
   rw [hnews, delNews_get _ t (by simpa using ht)] at hu;rw [Addr.add_lit];have hc := (hcell (j * 2 + t) (by omega)).1;refine hc.trans ?_;rw [← hu, show (j * 2 + t) / 2 = j + t / 2 by omega, show (j * 2 + t) % 2 = t % 2 by omega];have e1 : (l.drop j)[t / 2]! = l[j + t / 2]! := by rw [getElem!_def, getElem!_def, List.getElem?_drop]
   rw [e1]
 have s1 : Hid (news.length = (l.length - j) * 2) := hlen;have s2 : Hid (∀ u ∈ news, u.oneCell' = true) := by rw [hnews]; exact delNews_one _
 have s3 : Hid (∀ t, t < news.length → (w.drew.cell? ⟨g, 0 + i * 2 + t, none⟩).isSome = true ∧ w.drew.frozen? ⟨g, 0 + i * 2 + t, none⟩ = false) := by
  intro t ht;rw [hlen] at ht;have hc := hcell (0 + i * 2 + t) (by omega);exact ⟨by show (w.cell? _).isSome = true; rw [hc.1]; rfl, hc.2⟩
 obtain ⟨W1, hW1⟩ : ∃ W1, W1 = w.drew.setCells g (0 + i * 2) news := ⟨_, rfl⟩;have hdl : (l.drop j).length = l.length - j := by simp
 have hW1' : W1 = putRowK encChord 2 (Sort.ahead w 1) g 0 (l.take i ++ l.drop j ++ l.drop (i + (l.length - j))).toArray := by
  have h1 := news_world w 1 g i l (l.drop j) (by rw [hdl]; omega);rw [putRowK_self encChord 2 (Sort.ahead w 1) g 0 l.toArray (holdsK_ahead encChord 2 w 1 g 0 l.toArray hH), hdl] at h1;rw [hW1, hnews, Nat.zero_add];exact h1
 have hl1 : (l.take i ++ l.drop j ++ l.drop (i + (l.length - j))).length = l.length := by simp; omega
 have hH1 : HoldsK encChord 2 W1 g 0 (l.take i ++ l.drop j ++ l.drop (i + (l.length - j))).toArray := by
  rw [hW1'];exact holdsK_putRowK encChord 2 _ g 0 l.toArray _ (holdsK_ahead encChord 2 w 1 g 0 l.toArray hH) (by simpa using hl1)
 have hcl : ∀ ty, (Builtin.clear_ #[26] ty #[.slice (some ⟨g, (i + (l.length - j)) * 2, none⟩) (l.length - (i + (l.length - j))) (cap - (i + (l.length - j)))]).run Tryz.prog W1 = .ok (.tuple #[]) (W1.setCells g ((i + (l.length - j)) * 2) (List.replicate ((l.length - (i + (l.length - j))) * 2) (.int .i64 0))) :=
  fun ty => run_clear_chord W1 ty g _ _ _ (by omega) (fun t ht => by rw [show (i + (l.length - j)) * 2 + t = 0 + ((i + (l.length - j)) * 2 + t) by omega, (hH1 _ (by simp; omega)).1]; rfl) (fun t ht => by rw [show (i + (l.length - j)) * 2 + t = 0 + ((i + (l.length - j)) * 2 + t) by omega]; exact (hH1 _ (by simp; omega)).2)
 have X : Aside (W1 = putRowK encChord 2 (Sort.ahead w 1) g 0 (l.take i ++ l.drop j ++ l.drop (i + (l.length - j))).toArray) := hW1';have hW : Hid (W1 = w.drew.setCells g (0 + i * 2) news) := hW1;have hic : i ≤ cap := by omega
 have hjc : j ≤ cap := by omega
 have hnc : ¬ cap = i + (l.length - j) := by omega
 clear hW1 hW1' hH1 hH hnews hlen hcell;go_enter Tryz.func72, Tryz.ntmps72;go_wp2_with fail;go_region_law_o (refine step_append_room rfl (.tmp 22) (.tmp 25) 26 rfl 39 i0 2 tS hi0 hz1 g 0 i cap (by simp [Act.eval, Act.put]) A (l.length - j) (cap - j) news (by simp [Act.eval, Act.put]) s1.out hsrc.out s2.out (by omega) s3.out ?_; rw [← hW.out]);go_wp2;go_ret;refine ⟨rfl, ?_⟩;rw [X.out, delNews_zero, news_world w 1 g (i + (l.length - j)) _ _ (by simp; omega)];congr 2;have e0 : l.length - (i + (l.length - j)) = j - i := by omega
 have e1 : (l.take i ++ l.drop j ++ l.drop (i + (l.length - j))).take (i + (l.length - j)) = l.take i ++ l.drop j := by
  rw [List.take_append_of_le_length (by simp; omega), List.take_of_length_le (by simp; omega)]
 have e2 : (l.take i ++ l.drop j ++ l.drop (i + (l.length - j))).drop (i + (l.length - j) + (List.replicate (j - i) z39).length) = [] := List.drop_eq_nil_of_le (by simp; omega);rw [e0, e1, e2, List.append_nil]
def impl_Chord_72.f (l0 : List S39) (a1 a2 : Int) : Option (List S39) := if 0 ≤ a1 ∧ a1 < a2 ∧ a2 ≤ l0.length ∧ l0.length ≤ 1000000 then some (l0.take a1.toNat ++ l0.drop a2.toNat) else none
theorem impl_Chord_72.calls (P0_ : Nat → Prop) (u9000_ : Value) (l0 : List S39) (a1 a2 : Int) (r : List S39) (w0 w : World) (hB : Below w0.heap.size w0 w) (ho0 : Kd.R k39 39 w w0.heap.size P0_ u9000_ l0) (h : impl_Chord_72.f l0 a1 a2 = some r) :
  Calls Tryz.prog 72 #[u9000_, .int .i64 a1, .int .i64 a2] w fun e w' => ∃ v0_ : Value, e = .returned v0_ ∧ Kd.R k39 39 w' w0.heap.size (fun k_ => (P0_ k_ ∨ w.heap.size ≤ k_)) v0_ r ∧ Below w0.heap.size w0 w' ∧ Kept w w' (fun k_ => P0_ k_) := by
 unfold impl_Chord_72.f at h;by_cases hc : 0 ≤ a1 ∧ a1 < a2 ∧ a2 ≤ l0.length ∧ l0.length ≤ 1000000
 ·rw [if_pos hc] at h;obtain rfl := Option.some.inj h;clear h;obtain ⟨i, rfl⟩ : ∃ i : Nat, a1 = (i : Int) := ⟨a1.toNat, by omega⟩;obtain ⟨j, rfl⟩ : ∃ j : Nat, a2 = (j : Int) := ⟨a2.toNat, by omega⟩;simp only [Int.toNat_natCast];obtain ⟨g, cap, rfl, hbase, hlt, cells, hcells⟩ := Kd.R_form ho0 (by omega);have hcap := (Kd.R_reads' ho0).2.1;have hP : P0_ g := ho0.1 g rfl;have hH := chord_enter ho0;obtain ⟨_, _, hown, _⟩ := ho0
  obtain ⟨cur, hcur, hsize, hmax⟩ : ∃ cur : Array Value, w.heap[g]? = some (.cells cur 39 (0, 0)) ∧ cur.size = cap * 2 ∧ cap ≤ maxLen := by
   rcases hown.2 with ⟨e0, _⟩ | ⟨g', cap', cur, e0, hb, hg, hn, hm, hs, ht⟩
   ·cases e0
   ·injection e0 with e1 _ e3
    injection e1 with e1
    injection e1 with e1
    subst e1; subst e3;exact ⟨cur, hg, hs, hm⟩
  refine (delete_walk g cap i j l0 w hH hcap (by unfold maxLen at hmax; omega) (by omega) (by omega)).mono ?_;rintro e w' ⟨rfl, rfl⟩;have hl2 : (l0.take i ++ l0.drop j ++ List.replicate (j - i) z39).length = l0.length := by simp; omega
  obtain ⟨f1a, f1b⟩ := putRowK_frame w g 1 (l0.take i ++ l0.drop j ++ List.replicate (j - i) z39).toArray;obtain ⟨c1, k1a, k1b, k1c⟩ := putRowK_block (q := 1) (d := (l0.take i ++ l0.drop j ++ List.replicate (j - i) z39).toArray) hcur (by simp; omega);refine ⟨_, rfl, chord_leave k1a hbase (by omega) hmax (by simp; omega) (by omega) (.inl hP) (fun t ht => ?_), ⟨hB.os, hB.tape, hB.output, ?_, ?_⟩, ?_, ?_⟩
  ·rw [k1c t (by simp; omega)]
   have e : (l0.take i ++ l0.drop j ++ List.replicate (j - i) z39).toArray[t / 2]! = (l0.take i ++ l0.drop j)[t / 2]! := by
    rw [getElem!_def, getElem!_def, List.getElem?_toArray, List.getElem?_append_left (by simp; omega)]
   rw [e]
  ·rw [f1a]; exact hB.size
  ·intro k hk;rw [f1b k (by omega)];exact hB.block k hk
  ·rw [f1a]; exact Nat.le_refl _
  ·intro q hq hnP;exact f1b q (fun e => hnP (e ▸ hP))
 ·rw [if_neg hc] at h;cases h
end
theorem grow3 (W : World) (o1 o2 o3 : Obj) : ((W.alloc o1).alloc o2).drew.alloc o3 = Go.Sort.grow (W.drewN 1) #[o1, o2, o3] := by
 simp only [Go.Sort.grow, World.alloc, World.drew, World.drewN, Array.push_eq_append, Array.append_assoc];rfl
theorem cmpCompare_quiet (x y : Int) (W : World) : Calls Tryz.prog 102 #[.int .i64 x, .int .i64 y] W fun e w' => e = .returned (.int .i64 (Lib.compareInt x y)) ∧ w' = W := by
 have hn : ∀ z : Int, ∀ W : World, Calls Tryz.prog 118 #[.int .i64 z] W fun e w' => e = .returned (.bool false) ∧ w' = W := by
  intro z W;go_enter Tryz.func118, Tryz.ntmps118;go_wp2;go_ret;exact ⟨rfl, rfl⟩
 have HN := mk_ hn;clear hn;have hL : Lib.compareInt x y = if x < y then -1 else if y < x then 1 else 0 := by unfold Lib.compareInt; rfl
 rw [hL];clear hL;by_cases h1 : x < y
 ·rw [if_pos h1];go_enter Tryz.func102, Tryz.ntmps102;go_wp2_with (go_at_call 118; refine (HN.out _ _).mono ?_; rintro e w' ⟨rfl, rfl⟩);go_ret;exact ⟨rfl, rfl⟩
 ·rw [if_neg h1];by_cases h2 : y < x
  ·rw [if_pos h2];go_enter Tryz.func102, Tryz.ntmps102;go_wp2_with (go_at_call 118; refine (HN.out _ _).mono ?_; rintro e w' ⟨rfl, rfl⟩);go_ret;exact ⟨rfl, rfl⟩
  ·rw [if_neg h2];go_enter Tryz.func102, Tryz.ntmps102;go_wp2_with (go_at_call 118; refine (HN.out _ _).mono ?_; rintro e w' ⟨rfl, rfl⟩);go_ret;exact ⟨rfl, rfl⟩
theorem cmpOr_quiet (x y : Int) (g c : Nat) (W : World) (h0 : W.cell? ⟨g, 0, none⟩ = some (.int .i64 x)) (h1 : W.cell? ⟨g, 1, none⟩ = some (.int .i64 y)) : Calls Tryz.prog 101 #[.slice (some ⟨g, 0, none⟩) 2 c] W fun e w' => e = .returned (.int .i64 (if x = 0 then y else x)) ∧ w' = W := by
 by_cases hx : x = 0
 ·subst hx;rw [if_pos rfl];by_cases hy : y = 0
  ·subst hy;go_enter Tryz.func101, Tryz.ntmps101;go_wp2;refine wp_loop_rounds 3 ?_;rw [rounds_succ];go_wp2;rw [rounds_succ];go_wp2;rw [rounds_succ];go_wp2;go_ret;exact ⟨rfl, rfl⟩
  ·have hb : (y != 0) = true := by simp [hy]
   go_enter Tryz.func101, Tryz.ntmps101;go_wp2;refine wp_loop_rounds 2 ?_;rw [rounds_succ];go_wp2;rw [rounds_succ];go_wp2;go_ret;exact ⟨rfl, rfl⟩
 ·rw [if_neg hx];have hb : (x != 0) = true := by simp [hx]
  go_enter Tryz.func101, Tryz.ntmps101;go_wp2;refine wp_loop_rounds 1 ?_;rw [rounds_succ];go_wp2;go_ret;exact ⟨rfl, rfl⟩
theorem compareChords_exact (a b c d : Int) (W : World) : Calls Tryz.prog 67 #[.agg #[.int .i64 a, .int .i64 b], .agg #[.int .i64 c, .int .i64 d]] W fun e w' =>
  e = .returned (.int .i64 (if Lib.compareInt a c = 0 then Lib.compareInt b d else Lib.compareInt a c)) ∧ ∃ q os', w' = Go.Sort.grow (W.drewN q) os' := by
 have hu := Tryz.underlying39;obtain ⟨x, hx⟩ : ∃ x, Lib.compareInt a c = x := ⟨_, rfl⟩;obtain ⟨y, hy⟩ : ∃ y, Lib.compareInt b d = y := ⟨_, rfl⟩;obtain ⟨z, hz⟩ : ∃ z, (if x = 0 then y else x) = z := ⟨_, rfl⟩;have hX := cmpCompare_quiet a c;have hY := cmpCompare_quiet b d;rw [hx] at hX;rw [hy] at hY;rw [hx, hy, hz];have HX := mk_ hX;have HY := mk_ hY;have HZ := mk_ hz;clear hx hy hz hX hY;go_enter Tryz.func67, Tryz.ntmps67;go_wp2;refine wp_region_still_tail 10 (by kernel_rfl) (by kernel_rfl) ?_;obtain ⟨W2, hW2⟩ : ∃ W2, W2 = ((W.alloc (.cells #[.int .i64 a, .int .i64 b] 39)).alloc (.cells #[.int .i64 c, .int .i64 d] 39)).drew := ⟨_, rfl⟩;have c0 : W2.cell? ⟨W.heap.size, 0, none⟩ = some (.int .i64 a) := by rw [hW2]; simp
 have c1 : W2.cell? ⟨W.heap.size, 1, none⟩ = some (.int .i64 b) := by rw [hW2]; simp
 have c2 : W2.cell? ⟨W.heap.size + 1, 0, none⟩ = some (.int .i64 c) := by rw [hW2]; simp
 have c3 : W2.cell? ⟨W.heap.size + 1, 1, none⟩ = some (.int .i64 d) := by rw [hW2]; simp
 change wpStill _ _ (((W.alloc (.cells #[.int .i64 a, .int .i64 b] 39)).alloc (.cells #[.int .i64 c, .int .i64 d] 39)).drew) _ _ _;rw [← hW2];have HW := mk_ hW2;clear hW2;simp only [List.take_succ_cons, List.take_zero, List.drop_succ_cons, List.drop_zero];iterate 4 still_step
 still_call (HX.out _);iterate 4 still_step
 still_call (HY.out _);refine wpStill_nil ?_;clear c0 c1 c2 c3;change wpList _ _ _ _ _ (((W.alloc (.cells #[.int .i64 a, .int .i64 b] 39)).alloc (.cells #[.int .i64 c, .int .i64 d] 39)).drew);rw [← HW.out];have HC := mk_ (cmpOr_quiet x y W2.heap.size 2 (W2.alloc (.cells #[.int .i64 x, .int .i64 y] 3)) (by simp) (by simp));rw [HZ.out] at HC;go_wp2_with fail;refine HC.out.mono ?_;rintro e w' ⟨rfl, rfl⟩;go_wp2_with fail;go_ret;exact ⟨rfl, 1, #[.cells #[.int .i64 a, .int .i64 b] 39, .cells #[.int .i64 c, .int .i64 d] 39, .cells #[.int .i64 x, .int .i64 y] 3], by rw [HW.out]; exact grow3 _ _ _ _⟩
section
open Go.Sort Go.Lib
instance : Inhabited S39 := ⟨z39⟩
instance : DecidableEq S39 := fun a b => if h : a.f0 = b.f0 ∧ a.f1 = b.f1 then isTrue (by cases a; cases b; simp at h; simp [h]) else isFalse (fun e => h (by subst e; exact ⟨rfl, rfl⟩))
theorem chord_cells {w : World} {blk : Nat} {d : Array S39} (h : HoldsK encChord 2 w blk 0 d) {j : Nat} (hj : j < d.size) :
  (w.cell? ⟨blk, j * 2, none⟩ = some (.int .i64 d[j]!.f0) ∧ w.frozen? ⟨blk, j * 2, none⟩ = false) ∧ w.cell? ⟨blk, j * 2 + 1, none⟩ = some (.int .i64 d[j]!.f1) ∧ w.frozen? ⟨blk, j * 2 + 1, none⟩ = false := by
 have h0 := h.cell hj (c := 0) (by omega);have h1 := h.cell hj (c := 1) (by omega);simp only [Nat.zero_add, Nat.add_zero] at h0 h1;exact ⟨h0, h1⟩
theorem setMany_one (d : Array S39) (i : Nat) (x : S39) (hi : i < d.size) : setMany (flatK encChord 2 d) (i * 2) (encChord x) = flatK encChord 2 (d.setIfInBounds i x) := by
 refine ext_get! (by simp) fun t ht => ?_
 have ht' : t < d.size * 2 := by simpa using ht
 rw [get_setMany _ _ _ t (by simpa using ht'), get_flatK _ _ _ t ht', get_flatK _ _ _ t (by simpa using ht'), encChord_len];by_cases h : i * 2 ≤ t ∧ t < i * 2 + 2
 ·rw [if_pos h];have e : t / 2 = i := by omega
  rw [e, getElem!_set_same d i x hi, show t - i * 2 = t % 2 by omega]
 ·rw [if_neg h, getElem!_set_other d i (t / 2) x (by omega)]
theorem store_chord {w wr : World} {n blk : Nat} {dk : Array S39} {i : Nat} (hi : i < dk.size) (hwr : wr = putRowK encChord 2 (Sort.ahead w n) blk 0 dk) (x : S39) :
  ((wr.setCell ⟨blk, i * 2, none⟩ (.int .i64 x.f0)).setCell ⟨blk, i * 2 + 1, none⟩ (.int .i64 x.f1)) = putRowK encChord 2 (Sort.ahead w n) blk 0 (dk.setIfInBounds i x) := by
 subst hwr;have h := setCells_putRow (Sort.ahead w n) blk 0 (encChord x) (i * 2) (flatK encChord 2 dk) (by rw [encChord_len, size_flatK]; omega);rw [setMany_one dk i x hi] at h;unfold putRowK;rw [← h];simp [World.setCells, encChord]
theorem chordEqn (w : World) (a b c d : Int) : (binOp .eql 39 (.agg #[.int .i64 a, .int .i64 b]) (.agg #[.int .i64 c, .int .i64 d])).run Tryz.prog w = .ok (.bool (a == c && b == d)) w := by
 simp only [binOp];simp [Op.equal, Op.maxDepth, eqA39 9998 w a c b d]
theorem chordNeq (w : World) (a b c d : Int) : (binOp .neq 39 (.agg #[.int .i64 a, .int .i64 b]) (.agg #[.int .i64 c, .int .i64 d])).run Tryz.prog w = .ok (.bool (!(a == c && b == d))) w := by
 simp only [binOp];simp [Op.equal, Op.maxDepth, eqA39 9998 w a c b d]
theorem clear_world {w wr : World} {n blk kk : Nat} {d dk : Array S39} (hI : CompInv d d.size kk dk) (hwr : wr = putRowK encChord 2 (Sort.ahead w n) blk 0 dk) :
  wr.setCells blk (kk * 2) (List.replicate ((d.size - kk) * 2) (.int .i64 0)) = putRowK encChord 2 (Sort.ahead w n) blk 0 (compactUpTo d d.size ++ List.replicate (d.size - (compactUpTo d d.size).length) z39).toArray := by
 subst hwr;have hs := hI.size;have hl := hI.len;have hk := hI.lt;have h := setCells_putRow (Sort.ahead w n) blk 0 (List.replicate ((d.size - kk) * 2) (.int .i64 0)) (kk * 2) (flatK encChord 2 dk) (by simp; omega);rw [Nat.zero_add] at h;unfold putRowK;rw [h];congr 1;refine ext_get! (by simp; omega) fun t ht => ?_
 have ht' : t < dk.size * 2 := by simpa using ht
 rw [get_setMany _ _ _ t (by simpa using ht'), get_flatK _ _ _ t ht', get_flatK _ _ _ t (by simp; omega)];by_cases hlt : t / 2 < kk
 ·rw [if_neg (by simp; omega)];have e := hI.low (t / 2) hlt
  have : (compactUpTo d d.size ++ List.replicate (d.size - (compactUpTo d d.size).length) z39).toArray[t / 2]! = dk[t / 2]! := by
   rw [getElem!_pos _ _ (by simp; omega)];simp only [List.getElem_toArray];rw [List.getElem_append_left (by omega)];rw [List.getElem?_eq_getElem (by omega)] at e;exact Option.some.inj e
  rw [this]
 ·rw [if_pos (by simp; omega)]
  have : (compactUpTo d d.size ++ List.replicate (d.size - (compactUpTo d d.size).length) z39).toArray[t / 2]! = z39 := by
   rw [getElem!_pos _ _ (by simp; omega)];simp only [List.getElem_toArray];rw [List.getElem_append_right (by omega)];simp
  rw [this];rw [getElem!_pos _ _ (by simp; omega)];simp only [List.getElem_replicate];rcases Nat.mod_two_eq_zero_or_one t with e | e <;> simp [e, encChord, z39]
theorem compact_walk (blk cap : Nat) (d : Array S39) (w : World) (hH : HoldsK encChord 2 w blk 0 d) (hsz : d.size ≤ 4611686018427387904) (hcap : d.size ≤ cap) :
  Calls Tryz.prog 87 #[.slice (some ⟨blk, 0, none⟩) d.size cap] w fun e w' => e = .returned (.slice (some ⟨blk, 0, none⟩) (compactUpTo d d.size).length cap) ∧ ∃ q, w' = putRowK encChord 2 (Sort.ahead w q) blk 0 (compactUpTo d d.size ++ List.replicate (d.size - (compactUpTo d d.size).length) z39).toArray := by
 have same : ∀ q, (∀ j, j < d.size → keeps d j = true) → (compactUpTo d d.size).length = d.size ∧ w.drewN q = putRowK encChord 2 (Sort.ahead w q) blk 0 (compactUpTo d d.size ++ List.replicate (d.size - (compactUpTo d d.size).length) z39).toArray := by
  intro q hall;have e : compactUpTo d d.size = d.toList := by rw [compactUpTo_all d _ hall, range_map_get]
  rw [e];refine ⟨by simp, ?_⟩;simp only [Array.length_toList, Nat.sub_self, List.replicate_zero, List.append_nil, Array.toArray_toList];exact (putRowK_self encChord 2 (Sort.ahead w q) blk 0 d (holdsK_ahead encChord 2 w q blk 0 d hH)).symm
 have HS := mk_ same;clear same;by_cases h2 : d.size < 2
 ·have HH := mk_ hH;clear hH;go_enter Tryz.func87, Tryz.ntmps87;go_wp2;go_ret;obtain ⟨e1, e2⟩ := HS.out 0 (fun j hj => keeps_lt_one d j (by omega));exact ⟨by rw [e1]; rfl, 0, e2⟩
 ·have h2' : decide ((d.size : Int) < 2) = false := decide_eq_false (by omega);go_enter Tryz.func87, Tryz.ntmps87;go_wp2;go_loopg [3] d.size (fun g s3 wr => ∃ k q : Nat, 1 ≤ k ∧ k ≤ d.size ∧ d.size - k ≤ g ∧ s3 = .int .i64 k ∧ wr = w.drewN q ∧ Aside0 (∀ j, j < k → keeps d j = true))
  case atStart => exact ⟨1, 0, Nat.le_refl _, by omega, by omega, rfl, rfl, ⟨keeps_lt_one d⟩⟩
  case round =>
   obtain ⟨k, q, hk1, hk, hg, rfl, rfl, A⟩ := hrel;by_cases hlt : k < d.size
   ·obtain ⟨⟨c1, f1⟩, ⟨c2, f2⟩⟩ := chord_cells hH hlt;obtain ⟨⟨c3, f3⟩, ⟨c4, f4⟩⟩ := chord_cells hH (show k - 1 < d.size by omega);have HH := mk_ hH;clear hH;generalize hx : d[k]! = x at c1 c2;generalize hy : d[k - 1]! = y at c3 c4;have B := mk_ (show d[k]! = x ∧ d[k - 1]! = y from ⟨hx, hy⟩);clear hx hy f1 f2 f3 f4;by_cases hdup : x = y
    ·subst hdup;have heq := fun W => chordEqn W x.f0 x.f1 x.f0 x.f1
     simp only [beq_self_eq_true, Bool.and_self] at heq;go_wp2_with fail;go_quiet (fail);go_wp2;clear c1 c2 c3 c4 heq;go_loopg [3, 5] d.size (fun g s3 s5 wr => ∃ (kk k2 q2 : Nat) (dk : Array S39), s3 = .int .i64 kk ∧ s5 = .int .i64 k2 ∧ 1 ≤ k2 ∧ k + k2 ≤ d.size ∧ d.size - (k + k2) ≤ g ∧ Aside0 (wr = putRowK encChord 2 (Sort.ahead w q2) blk 0 dk) ∧ Aside0 (CompInv d (k + k2) kk dk))
     case atStart => exact ⟨k, 1, q + nq, d, rfl, rfl, Nat.le_refl _, by omega, by omega, ⟨(putRowK_self encChord 2 (Sort.ahead w (q + nq)) blk 0 d (holdsK_ahead encChord 2 w (q + nq) blk 0 d HH.out)).symm⟩, ⟨CompInv.start A.out (keeps_neg (by omega) (by rw [B.out.1, B.out.2]))⟩⟩
     case round =>
      obtain ⟨kk, k2, q2, dk, rfl, rfl, h1, hle, hg2, HWR, HI⟩ := hrel;have hkk := HI.out.lt;have hds := HI.out.size;have hHk : HoldsK encChord 2 wr blk 0 dk := by rw [HWR.out]; exact holdsK_putRowK encChord 2 _ blk 0 d dk (holdsK_ahead encChord 2 w q2 blk 0 d HH.out) hds
      by_cases hlt2 : k + k2 < d.size
      ·obtain ⟨⟨m1, _⟩, ⟨m2, _⟩⟩ := chord_cells hHk (show k + k2 < dk.size by omega);obtain ⟨⟨p1, _⟩, ⟨p2, _⟩⟩ := chord_cells hHk (show k + k2 - 1 < dk.size by omega);obtain ⟨⟨o1, fo1⟩, ⟨o2, fo2⟩⟩ := chord_cells hHk (show kk < dk.size by omega);rw [HI.out.high (k + k2) (by omega)] at m1 m2;rw [HI.out.high (k + k2 - 1) (by omega)] at p1 p2;clear hHk;rw [show (k + k2) * 2 = k * 2 + k2 * 2 by omega] at m1 m2;rw [show (k + k2 - 1) * 2 = k * 2 + (k2 - 1) * 2 by omega] at p1 p2;generalize hu : d[k + k2]! = u at m1 m2;generalize hv : d[k + k2 - 1]! = v at p1 p2;generalize dk[kk]! = old at o1 o2;have C := mk_ (show d[k + k2]! = u ∧ d[k + k2 - 1]! = v from ⟨hu, hv⟩);have HDS := mk_ hds;clear hu hv hds;by_cases huv : u = v
       ·subst huv;have heq := fun W => chordNeq W u.f0 u.f1 u.f0 u.f1
        simp only [beq_self_eq_true, Bool.and_self, Bool.not_true] at heq;go_wp2_with fail;go_quiet (fail);go_wp2;go_roundg (d.size - (k + (k2 + 1)))
        case measure => omega
        case rel => exact ⟨kk, k2 + 1, _, dk, rfl, by go_num, by omega, by omega, Nat.le_refl _, ⟨drewN_worldK encChord 2 HWR.out _⟩, ⟨HI.out.skip (keeps_neg (by omega) (by rw [C.out.1, C.out.2]))⟩⟩
       ·have hne : (u.f0 == v.f0 && u.f1 == v.f1) = false := by
         rw [Bool.eq_false_iff];intro h;simp only [Bool.and_eq_true, beq_iff_eq] at h;exact huv (by cases u; cases v; simp at h; simp [h])
        have heq := fun W => chordNeq W u.f0 u.f1 v.f0 v.f1
        simp only [hne, Bool.not_false] at heq;have HD := mk_ huv;clear huv hne;go_wp2_with fail;go_quiet (fail);go_wp2;go_roundg (d.size - (k + (k2 + 1)))
        case measure => omega
        case rel => exact ⟨kk + 1, k2 + 1, _, dk.setIfInBounds kk u, by go_num, by go_num, by omega, by omega, Nat.le_refl _, ⟨store_chord (by have := HDS.out; omega) (drewN_worldK encChord 2 HWR.out _) u⟩, ⟨by have := HI.out.keep hlt2 (keeps_pos (by rw [C.out.1, C.out.2]; exact HD.out)); rwa [C.out.1] at this⟩⟩
      ·have hend : k + k2 = d.size := by omega
       have hcl : ∀ ty, (Builtin.clear_ #[26] ty #[.slice (some ⟨blk, kk * 2, none⟩) (d.size - kk) (cap - kk)]).run Tryz.prog wr = .ok (.tuple #[]) (wr.setCells blk (kk * 2) (List.replicate ((d.size - kk) * 2) (.int .i64 0))) :=
        fun ty => run_clear_chord wr ty blk (kk * 2) _ _ (by omega) (fun j hj => by
         have h1 := hHk (kk * 2 + j) (by simp; omega)
         rw [Nat.zero_add] at h1
         rw [h1.1]; rfl) (fun j hj => by
         have h1 := hHk (kk * 2 + j) (by simp; omega)
         rw [Nat.zero_add] at h1
         exact h1.2)
       clear hHk;go_wp2;go_ret;have hI := HI.out;rw [hend] at hI;exact ⟨by rw [hI.len]; rfl, q2, clear_world hI HWR.out⟩
    ·have hne : (x.f0 == y.f0 && x.f1 == y.f1) = false := by
      rw [Bool.eq_false_iff];intro h;simp only [Bool.and_eq_true, beq_iff_eq] at h;exact hdup (by cases x; cases y; simp at h; simp [h])
     have heq := fun W => chordEqn W x.f0 x.f1 y.f0 y.f1
     rw [hne] at heq;have HD := mk_ hdup;clear hdup hne;go_wp2_with fail;go_quiet (fail);go_wp2;go_roundg (d.size - (k + 1))
     case measure => omega
     case rel =>
      refine ⟨k + 1, _, by omega, by omega, Nat.le_refl _, by go_num, rfl, ⟨fun j hj => ?_⟩⟩;by_cases e : j = k
      ·subst e;exact keeps_pos (by rw [B.out.1, B.out.2]; exact HD.out)
      ·exact A.out j (by omega)
   ·have : k = d.size := by omega
    subst this;have HH := mk_ hH;clear hH;go_wp2;go_ret;obtain ⟨e1, e2⟩ := HS.out q A.out;exact ⟨by rw [e1]; rfl, q, e2⟩
def chordCmp (x y : S39) : Int := if Lib.compareInt x.f0 y.f0 = 0 then Lib.compareInt x.f1 y.f1 else Lib.compareInt x.f0 y.f0
def chordLt (x y : S39) : Bool := decide (x.f0 < y.f0 ∨ (x.f0 = y.f0 ∧ x.f1 < y.f1))
theorem chord_ltOf (x y : S39) : ltOf chordCmp x y = chordLt x y := by
 unfold ltOf chordCmp chordLt Lib.compareInt;refine decide_eq_decide.2 ?_;repeat' split
 all_goals omega
theorem chord_swo : SWO (ltOf chordCmp) where
 irrefl x := by rw [chord_ltOf]; simp [chordLt]
 trans x y z h1 h2 := by rw [chord_ltOf] at *; simp [chordLt] at *; omega
 ntrans x y z h1 h2 := by rw [chord_ltOf] at *; simp [chordLt] at *; omega
theorem chord_total (x y : S39) (h1 : ltOf chordCmp x y = false) (h2 : ltOf chordCmp y x = false) : x = y := by
 rw [chord_ltOf] at *;simp [chordLt] at *;cases x; cases y;simp at *;omega
theorem chord_lays (blk size : Nat) (w : World) : CmpLays Tryz.prog 67 #[] encChord 2 chordCmp blk 0 size w :=
 fun _ _ _ _ x y => compareChords_exact x.f0 x.f1 y.f0 y.f1 _
def ordL (l : List S39) : List S39 := Lib.compact (l.mergeSort fun x y => !chordLt y x)
def impl_ordered.f (l0 : List S39) : Option (List S39) := if l0.length ≤ 1000 then some (ordL l0) else none
theorem compact_empty (A : Option Addr) (c : Nat) (w : World) : Calls Tryz.prog 87 #[.slice A 0 c] w fun e w' => e = .returned (.slice A 0 c) ∧ w' = w := by
 go_enter Tryz.func87, Tryz.ntmps87;go_wp2;go_ret;exact ⟨rfl, rfl⟩
theorem ordered_walk (g cap : Nat) (l : List S39) (w : World) (hH : HoldsK encChord 2 w g 0 l.toArray) (hg : g < w.heap.size) (hl : l.length ≤ 1000) (hcap : l.length ≤ cap) :
  Calls Tryz.prog 46 #[.slice (some ⟨g, 0, none⟩) l.length cap] w fun e w' => e = .returned (.slice (some ⟨g, 0, none⟩) (ordL l).length cap) ∧ ∃ n q os, w' = putRowK encChord 2 (Sort.ahead (sortWorldK encChord 2 w g 0 n (l.mergeSort fun x y => !chordLt y x).toArray os) q) g 0 (ordL l ++ List.replicate (l.length - (ordL l).length) z39).toArray := by
 have eg : ∀ args w, (callFunc 67 args).run Tryz.prog w = .ok (.enter 67 args) w := enters_of Tryz.func67 (by kernel_rfl) rfl;have hcon := AnyQ.slices_SortFunc_total Tryz.sortChord 2 Tryz.isAgg39 Tryz.sizeOf39 encChord encChord_len encChord_one chordCmp chord_swo 67 #[] g 0 cap l.toArray w eg (chord_lays g _ w) hH hg (by simp; omega) chord_total;change Calls Tryz.prog 86 _ _ _ at hcon;have hlt : (fun x y => !(ltOf chordCmp) y x) = fun x y => !chordLt y x := by funext x y; rw [chord_ltOf]
 rw [hlt] at hcon;simp only [List.size_toArray, List.toList_toArray] at hcon;obtain ⟨s, hs⟩ : ∃ s, (l.mergeSort fun x y => !chordLt y x) = s := ⟨_, rfl⟩;have hsl : s.length = l.length := by rw [← hs]; simp
 rw [hs] at hcon ⊢;have HS := mk_ hs;have HSL := mk_ hsl;have HCON := mk_ hcon;have HH := mk_ hH;have HCAP := mk_ hcap;clear hs hsl hcon hH hcap hlt;go_enter Tryz.func46, Tryz.ntmps46;go_wp2_with fail;refine HCON.out.mono ?_;rintro e w' ⟨rfl, n, os, rfl⟩
 have hHs : HoldsK encChord 2 (sortWorldK encChord 2 w g 0 n s.toArray os) g 0 s.toArray := by
  unfold sortWorldK;exact holdsK_grow encChord 2 _ os g 0 _ (by rw [size_putRowK]; exact hg) (holdsK_putRowK encChord 2 _ g 0 l.toArray s.toArray HH.out (by simp [HSL.out]))
 have hc := compact_walk g cap s.toArray _ hHs (by simp [HSL.out]; omega) (by simp [HSL.out]; exact HCAP.out);simp only [List.size_toArray] at hc;rw [HSL.out] at hc;have ho : ordL l = compactUpTo s.toArray l.length := by unfold ordL Lib.compact; rw [HS.out, HSL.out]
 rw [← ho] at hc;have HC := mk_ hc;clear hHs hc ho;obtain ⟨W1, hW1⟩ : ∃ W1, sortWorldK encChord 2 w g 0 n s.toArray os = W1 := ⟨_, rfl⟩;rw [hW1] at HC ⊢;have HW1 := mk_ hW1;clear hW1;go_wp2_with fail;refine HC.out.mono ?_;rintro e w' ⟨rfl, q, rfl⟩;go_wp2_with fail;go_ret;exact ⟨rfl, n, q, os, by rw [HW1.out]⟩
theorem compact_len (d : Array S39) (m : Nat) : (compactUpTo d m).length ≤ m := by
 unfold compactUpTo;rw [List.length_map];exact Nat.le_trans (List.length_filter_le _ _) (by simp)
theorem ordL_len (l : List S39) : (ordL l).length ≤ l.length := by
 unfold ordL Lib.compact;have := compact_len (l.mergeSort fun x y => !chordLt y x).toArray (l.mergeSort fun x y => !chordLt y x).length;simp at this;simpa using this
theorem ordered_empty (A : Option Addr) (c : Nat) (w : World) : Calls Tryz.prog 46 #[.slice A 0 c] w fun e w' => e = .returned (.slice A 0 c) ∧ w' = w := by
 have hcon := fun W => AnyF.slices_SortFunc_none Tryz.sortChord A c (.func (.func 67) #[] #[]) W
 change ∀ W, Calls Tryz.prog 86 _ _ _ at hcon;have HCON := mk_ hcon;clear hcon;go_enter Tryz.func46, Tryz.ntmps46;go_wp2_with fail;refine (HCON.out _).mono ?_;rintro e w' ⟨rfl, rfl⟩;go_wp2_with fail;refine (compact_empty _ _ _).mono ?_;rintro e w' ⟨rfl, rfl⟩;go_wp2_with fail;go_ret;exact ⟨rfl, rfl⟩
theorem impl_ordered.calls (P0_ : Nat → Prop) (u9000_ : Value) (l0 : List S39) (r : List S39) (w0 w : World) (hB : Below w0.heap.size w0 w) (ho0 : Kd.R k39 39 w w0.heap.size P0_ u9000_ l0) (h : impl_ordered.f l0 = some r) :
  Calls Tryz.prog 46 #[u9000_] w fun e w' => ∃ v0_ : Value, e = .returned v0_ ∧ Kd.R k39 39 w' w0.heap.size (fun k_ => (P0_ k_ ∨ w.heap.size ≤ k_)) v0_ r ∧ Below w0.heap.size w0 w' ∧ Kept w w' (fun k_ => P0_ k_) := by
 unfold impl_ordered.f at h;by_cases hlen : l0.length ≤ 1000
 ·rw [if_pos hlen] at h;obtain rfl := Option.some.inj h;clear h;by_cases h0 : l0.length = 0
  ·obtain rfl : l0 = [] := List.eq_nil_of_length_eq_zero h0;obtain ⟨A, c, rfl, _, _⟩ := Kd.R_reads ho0;refine (ordered_empty A c w).mono ?_;rintro e w' ⟨rfl, rfl⟩
   have e0 : ordL [] = [] := by
    have := ordL_len [];exact List.eq_nil_of_length_eq_zero (by simpa using this)
   rw [e0];exact ⟨_, rfl, Kd.R_mono ho0 (fun k hk => .inl hk), hB, Kept.refl _ _⟩
  ·obtain ⟨g, cap, rfl, hbase, hlt, cells, hcells⟩ := Kd.R_form ho0 (by omega);have hcap := (Kd.R_reads' ho0).2.1;have hP : P0_ g := ho0.1 g rfl;have hH := chord_enter ho0;obtain ⟨_, _, hown, _⟩ := ho0
   obtain ⟨cur, hcur, hsize, hmax⟩ : ∃ cur : Array Value, w.heap[g]? = some (.cells cur 39 (0, 0)) ∧ cur.size = cap * 2 ∧ cap ≤ maxLen := by
    rcases hown.2 with ⟨e0, _⟩ | ⟨g', cap', cur, e0, hb, hg, hn, hm, hs, ht⟩
    ·cases e0
    ·injection e0 with e1 _ e3
     injection e1 with e1
     injection e1 with e1
     subst e1; subst e3;exact ⟨cur, hg, hs, hm⟩
   refine (ordered_walk g cap l0 w hH hlt hlen hcap).mono ?_;rintro e w' ⟨rfl, n, q, os, rfl⟩;have hol := ordL_len l0;have hms : (l0.mergeSort fun x y => !chordLt y x).length = l0.length := by simp
   obtain ⟨f1a, f1b⟩ := putRowK_frame w g n (l0.mergeSort fun x y => !chordLt y x).toArray;obtain ⟨c1, k1a, k1b, _⟩ := putRowK_block (q := n) (d := (l0.mergeSort fun x y => !chordLt y x).toArray) hcur (by simp; omega)
   have hgrow : ∀ k, k < w.heap.size → (sortWorldK encChord 2 w g 0 n (l0.mergeSort fun x y => !chordLt y x).toArray os).heap[k]? = (putRowK encChord 2 (Sort.ahead w n) g 0 (l0.mergeSort fun x y => !chordLt y x).toArray).heap[k]? := by
    intro k hk;show ((putRowK encChord 2 (Sort.ahead w n) g 0 _).heap ++ os)[k]? = _;rw [Array.getElem?_append_left (by omega)]
   have hsz1 : w.heap.size ≤ (sortWorldK encChord 2 w g 0 n (l0.mergeSort fun x y => !chordLt y x).toArray os).heap.size := by
    show w.heap.size ≤ ((putRowK encChord 2 (Sort.ahead w n) g 0 _).heap ++ os).size;rw [Array.size_append]; omega
   have hosw : (sortWorldK encChord 2 w g 0 n (l0.mergeSort fun x y => !chordLt y x).toArray os).os = w.os ∧ (sortWorldK encChord 2 w g 0 n (l0.mergeSort fun x y => !chordLt y x).toArray os).tape = w.tape ∧ (sortWorldK encChord 2 w g 0 n (l0.mergeSort fun x y => !chordLt y x).toArray os).output = w.output := ⟨rfl, rfl, rfl⟩;generalize sortWorldK encChord 2 w g 0 n (l0.mergeSort fun x y => !chordLt y x).toArray os = W1 at *;have hb1 : W1.heap[g]? = some (.cells c1 39 (0, 0)) := by rw [hgrow g hlt]; exact k1a
   obtain ⟨f2a, f2b⟩ := putRowK_frame W1 g q (ordL l0 ++ List.replicate (l0.length - (ordL l0).length) z39).toArray;obtain ⟨c2, k2a, k2b, k2c⟩ := putRowK_block (q := q) (d := (ordL l0 ++ List.replicate (l0.length - (ordL l0).length) z39).toArray) hb1 (by simp; omega);refine ⟨_, rfl, chord_leave k2a hbase (by omega) hmax rfl (by omega) (.inl hP) (fun t ht => ?_), ⟨?_, ?_, ?_, ?_, ?_⟩, ?_, ?_⟩
   ·rw [k2c t (by simp; omega)]
    have e : (ordL l0 ++ List.replicate (l0.length - (ordL l0).length) z39).toArray[t / 2]! = (ordL l0)[t / 2]! := by
     rw [getElem!_pos _ _ (by simp; omega), getElem!_pos (ordL l0) (t / 2) (by omega)];simp only [List.getElem_toArray];rw [List.getElem_append_left (by omega)]
    rw [e]
   ·exact hosw.1.trans hB.os
   ·exact hosw.2.1.trans hB.tape
   ·exact hosw.2.2.trans hB.output
   ·rw [f2a]; exact Nat.le_trans hB.size hsz1
   ·intro k hk;have hkw : k < w.heap.size := Nat.lt_of_lt_of_le hk hB.size;rw [f2b k (by omega), hgrow k hkw, f1b k (by omega)];exact hB.block k hk
   ·rw [f2a]; exact hsz1
   ·intro i hi hnP;have hne : i ≠ g := fun e => hnP (e ▸ hP)
    rw [f2b i hne, hgrow i hi, f1b i hne]
 ·rw [if_neg hlen] at h;cases h
end
def impl_ChordLengths.l0 : Nat → Int → List Int → List (S39) → Int → Int → Option (List Int × Bool)
 | 0, _, _, _, _, _ => none
 | k + 1, x0, x6, x14, x15, x16 => if x16 < x15 then (if 0 ≤ x16 then (if x16 < (x14.length : Int) then (if x6.length < 17592186044416 then (impl_ChordLengths.l0 k x0 (x6 ++ [mn (wrap64 (((rd_T39 x14 x16).f1) - ((rd_T39 x14 x16).f0))) (wrap64 ((wrap64 (x0 - ((rd_T39 x14 x16).f1))) + ((rd_T39 x14 x16).f0)))]) x14 x15 (wrap64 (x16 + 1))) else (none)) else (none)) else (none)) else (some (x6, true))
def impl_ChordLengths.f (k : Nat) (a0 : Int) (l1 : List (S39)) : Option (List Int × Bool) := (impl_isSet.f k a0 l1).bind fun t461 => (if t461 = true then (impl_ChordLengths.l0 k a0 (([] : List Int)) l1 (l1.length : Int) 0) else (some (([] : List Int), false)))
theorem impl_ChordLengths.calls (k : Nat) (a0 : Int) (A1 : Option Addr) (c1 : Nat) (l1 : List (S39)) (r1 : List Int) (r2 : Bool) (w : World) (hr1 : Kd.C k39 w A1 l1.length l1) (hc1 : l1.length ≤ c1) (h : impl_ChordLengths.f k a0 l1 = some (r1, r2)) :
  Calls Tryz.prog 27 #[.int .i64 a0, .slice A1 l1.length c1] w fun e w' => ∃ v0_ : Value, e = .returned (.tuple #[v0_, .bool r2]) ∧ Kd.R (Kd.int .i64) 3 w' w.heap.size (fun _ => True) v0_ r1 ∧ Below w.heap.size w w' := by
 have hu39 := Tryz.underlying39;have HR1 := mk_ hr1;have HC1 := mk_ hc1;clear hr1 hc1;have HB := mk_ (Below.refl w.heap.size w);have H : ((impl_isSet.f k a0 l1).bind fun t461 => (if t461 = true then (impl_ChordLengths.l0 k a0 (([] : List Int)) l1 (l1.length : Int) 0) else (some (([] : List Int), false)))) = some (r1, r2) := h;clear h;replace H := Option.bind_eq_some_iff.mp H;obtain ⟨t461, A30, H⟩ := H;try dsimp only at H
 have A3 := mk_ A30;clear A30;by_cases c4 : t461 = true
 ·subst c4;have H1 : (impl_ChordLengths.l0 k a0 (([] : List Int)) l1 (l1.length : Int) 0) = some (r1, r2) := by rw [if_pos rfl] at H; exact H
  clear H;have H := H1;clear H1;obtain ⟨y462, hy_⟩ : ∃ y_ : List Int, y_ = (([] : List Int)) := ⟨_, rfl⟩;replace H : (impl_ChordLengths.l0 k a0 y462 l1 (l1.length : Int) 0) = some (r1, r2) := rp_;have Ny462 := mk_ hy_;clear hy_;have H' := mk_ H;clear H;go_enter Tryz.func27, Tryz.ntmps27;go_wp2_with (first | (refine gc_ 11 Tryz.func53 #[.int .i64 a0, .slice A1 l1.length c1] ?_; (with_reducible refine (impl_isSet.calls k a0 _ _ l1 true _ ?side1 ?side2 A3.out).mono ?_); (case side1 => exact kc_ <| HR1.out); (case side2 => exact HC1.out); rintro e w5 ⟨rfl, hb⟩; refine ⟨_, rfl, ?_⟩; have n0_ := mk_ (below_step bl_ hb); clear HB; have HB := n0_; clear n0_; (try clear hb); (try clear hb2); (try clear hk); (try clear hi)) | ((with_reducible refine g_ 13 ?_); refine Kd.R_lit (Kd.int .i64) _ 3 ?hg (N := 13) ?hd (xs := ([] : List Int)) (inner := []) (ok := fun _ => True) (okp := fun _ => True) ?hr ?hp (fun _ hk => hk) trivial (Below.refl _ _) (Nat.le_refl _) (by simp) ?_; (case hd => rfl); (case hg => rfl); (case hr => first | (go_simp; done) | (go_simp; rfl)); (case hp => exact (Reps.none _ _)); intro v463 w6 ho7 hb hg_ hnew_; clear hg_ hnew_; (first | rw [← Ny462.out] at ho7 | (simp only [Int.reduceToNat] at ho7; rw [← Ny462.out] at ho7)); have n0_ := mk_ (Kd.R_lower ho7 (below_size bl_)); have n1_ := mk_ (below_step bl_ hb); clear HB; have HO464 := n0_; have HB := n1_; clear n0_ n1_ hb ho7));go_loopg [6, 16] k (fun kq v6 v16 w' => ∃ (x6_1 : List Int) (x16_1 : Int), v16 = .int .i64 x16_1 ∧ Aside0 (impl_ChordLengths.l0 kq a0 x6_1 l1 (l1.length : Int) x16_1 = some (r1, r2)) ∧ Aside0 (kq ≤ k) ∧ Aside0 (Kd.R (Kd.int .i64) 3 w' w.heap.size (fun _ => True) v6 x6_1) ∧ Aside0 (Below w.heap.size w w'))
  case atStart => exact ⟨(y462), (0), (es_), H', ⟨Nat.le_refl _⟩, ⟨by exact kr_ <| HO464.out⟩, ⟨bl_⟩⟩
  case round =>
   clear H';try clear c1
   try clear c2
   try clear p2
   try clear c4
   try clear c5
   obtain ⟨x6_1, x16_1, rfl, HA, HK1, HO_6, HB⟩ := hrel
   cases gk with
   | zero => exact absurd HA.out (by simp [impl_ChordLengths.l0])
   | succ k1 =>
    have H := HA.out;clear HA;simp only [impl_ChordLengths.l0] at H;by_cases c8 : x16_1 < (l1.length : Int)
    ·rw [if_pos c8] at H;have c8b0 : decide (x16_1 < (l1.length : Int)) = true := decide_eq_true c8;clear c8;by_cases c9 : 0 ≤ x16_1;rotate_left
     ·rw [if_neg c9] at H;exact absurd H (by simp)
     rw [if_pos c9] at H;have c9b0 : decide (0 ≤ x16_1) = true := decide_eq_true c9;clear c9;by_cases c10 : x16_1 < (l1.length : Int);rotate_left
     ·rw [if_neg c10] at H;exact absurd H (by simp)
     rw [if_pos c10] at H;have c10b0 : decide (x16_1 < (l1.length : Int)) = true := decide_eq_true c10;clear c10;obtain ⟨ji11, hji11⟩ : ∃ j_ : Int, (mn (wrap64 (((rd_T39 l1 x16_1).f1) - ((rd_T39 l1 x16_1).f0))) (wrap64 ((wrap64 (a0 - ((rd_T39 l1 x16_1).f1))) + ((rd_T39 l1 x16_1).f0)))) = j_ := ⟨_, rfl⟩;replace H : (if x6_1.length < 17592186044416 then (impl_ChordLengths.l0 k1 a0 (x6_1 ++ [ji11]) l1 (l1.length : Int) (wrap64 (x16_1 + 1))) else (none)) = some (r1, r2) := by first | (rw [hji11] at H; exact H) | (simp only [hji11] at H ⊢; exact H)
     have hji11_ : (if (wrap64 ((wrap64 (a0 - ((rd_T39 l1 x16_1).f1))) + ((rd_T39 l1 x16_1).f0))) < (wrap64 (((rd_T39 l1 x16_1).f1) - ((rd_T39 l1 x16_1).f0))) then (wrap64 ((wrap64 (a0 - ((rd_T39 l1 x16_1).f1))) + ((rd_T39 l1 x16_1).f0))) else (wrap64 (((rd_T39 l1 x16_1).f1) - ((rd_T39 l1 x16_1).f0)))) = ji11 := hji11;by_cases c12 : x6_1.length < 17592186044416;rotate_left
     ·rw [if_neg c12] at H;exact absurd H (by simp)
     rw [if_pos c12] at H;have LMc12 := mk_ c12;clear c12;obtain ⟨y467, hy_⟩ : ∃ y_ : List Int, y_ = (x6_1 ++ [ji11]) := ⟨_, rfl⟩;replace H : (impl_ChordLengths.l0 k1 a0 y467 l1 (l1.length : Int) (wrap64 (x16_1 + 1))) = some (r1, r2) := rp_;have Ny467 := mk_ hy_;clear hy_;have H' := mk_ H;clear H;have p465 : 0 ≤ (x16_1 : Int) := od_;have q465 : x16_1 < (l1.length : Int) := od_;obtain ⟨ad465, e465, hx465_0, hx465_1⟩ := at_T39 HR1.out x16_1 p465 q465;cases e465;replace hx465_0 := (HB.out.cell (World.block_lt_of_cell? w _ hx465_0)).trans hx465_0;replace hx465_1 := (HB.out.cell (World.block_lt_of_cell? w _ hx465_1)).trans hx465_1;replace p465 := eq_true p465;replace q465 := eq_true q465;go_wp2_with (first | ((with_reducible refine g_ 8 ?_); refine bx_ 8 #[.int .i64 0, .int .i64 0] 39 ?_; intro gb466 hg w13 hbox hb; have n0_ := mk_ (Kd.R_below (kr_ <| HO_6.out) hb); have n1_ := mk_ (below_step bl_ hb); have n2_ := mk_ (hbox); have n3_ := mk_ ((by rw [hg]; exact (below_size bl_) : w.heap.size ≤ gb466)); have n4_ := n3_; clear HO_6 HB; have HO_6 := n0_; have HB := n1_; have BK466 := n2_; have GW466 := n3_; have GE466 := n4_; clear n0_ n1_ n2_ n3_ n4_ hb hbox hg; have hcz14_0 : w13.cell? ⟨gb466, 0, none⟩ = some (.int .i64 0) := (blk_cell BK466.out 0).trans rfl; have hcz14_1 : w13.cell? ⟨gb466, 1, none⟩ = some (.int .i64 0) := (blk_cell BK466.out 1).trans rfl; have hfz14_0 := blk_frozen BK466.out 0; have hfz14_1 := blk_frozen BK466.out 1) | ((with_reducible refine gate_builtin (b := .append) (xs := #[.tmp 20, .tmp 34]) rfl ?_); at_builtin; refine Kd.R_append (Kd.int .i64) (w0 := w) w.heap.size rfl (.tmp 20) (.tmp 34) 46 3 (.int .i64 0) 8 rfl Tryz.underlying46 info3 rfl (by decide) (by omega) u6 x6_1 ji11 [.int .i64 ji11] (fun _ => True) (fun _ => False) rfl (by first | (go_simp; done) | (go_simp; rfl)) ?aP (fun _ hk => hk.elim) ?aF ?aO ?aB ?aS ?aL ?_; (case aP => exact rfl); (case aB => exact bg_); (case aF => exact (fun _ _ => trivial)); (case aO => exact (kr_ <| Kd.R_mono (Kd.R_far (p := ⟨gb466, 1, none⟩) (Kd.R_far (p := ⟨gb466, 0, none⟩) (Kd.R_types HO_6.out BK466.out (by decide)) (fun _ hk => hk.2) (.int .i64 ((rd_T39 l1 x16_1).f0))) (fun _ hk => hk.2) (.int .i64 ((rd_T39 l1 x16_1).f1))) (fun _ hk => trivial))); (case aS => exact (below_size bg_)); (case aL => have := LMc12.out; omega); intro v468 w15 ho hb hg hat; rw [← Ny467.out] at ho; have n0_ := mk_ (blk_grown (g := gb466) (o := .cells #[.int .i64 ((rd_T39 l1 x16_1).f0), .int .i64 ((rd_T39 l1 x16_1).f1)] 39 (0, 0)) (by (with_reducible repeat (first | refine blk_drewN ?_ _ | refine blk_drew ?_ | refine blk_alloc ?_ _)); refine blk_put (cs := #[.int .i64 ((rd_T39 l1 x16_1).f0), .int .i64 0]) ?_ 1 _ rfl; (with_reducible repeat (first | refine blk_drewN ?_ _ | refine blk_drew ?_ | refine blk_alloc ?_ _)); refine blk_put (cs := #[.int .i64 0, .int .i64 0]) ?_ 0 _ rfl; exact kk_ <| BK466.out) hg (Kd.R_ne HO_6.out BK466.out (by decide))); have n1_ := mk_ (hb); have n2_ := mk_ (ho); clear BK466 HB HO_6; have BK466 := n0_; have HB := n1_; have HO469 := n2_; clear n0_ n1_ n2_ ho hb hg hat));go_roundg k1
     case measure => have := HK1.out; omega
     case rel => exact ⟨(y467), (wrap64 (x16_1 + 1)), (es_), H', ⟨by have := HK1.out; omega⟩, ⟨by exact kr_ <| HO469.out⟩, ⟨bg_⟩⟩
    ·rw [if_neg c8] at H;have c8b0 : decide (x16_1 < (l1.length : Int)) = false := decide_eq_false c8;clear c8;simp only [Option.some.injEq, Prod.mk.injEq] at H;obtain ⟨rfl, rfl⟩ := H;go_wp2;go_ret2;exact ⟨_, ew_, by exact kr_ <| HO_6.out, bl_⟩
 ·replace c4 := Bool.eq_false_iff.mpr c4;subst c4;have H1 : (some (([] : List Int), false)) = some (r1, r2) := by rw [if_neg (show ¬ (false = true) by decide)] at H; exact H
  clear H;have H := H1;clear H1;simp only [Option.some.injEq, Prod.mk.injEq] at H;obtain ⟨rfl, rfl⟩ := H;go_enter Tryz.func27, Tryz.ntmps27;go_wp2_with (first | (refine gc_ 11 Tryz.func53 #[.int .i64 a0, .slice A1 l1.length c1] ?_; (with_reducible refine (impl_isSet.calls k a0 _ _ l1 false _ ?side1 ?side2 A3.out).mono ?_); (case side1 => exact kc_ <| HR1.out); (case side2 => exact HC1.out); rintro e w16 ⟨rfl, hb⟩; refine ⟨_, rfl, ?_⟩; have n0_ := mk_ (below_step bl_ hb); clear HB; have HB := n0_; clear n0_; (try clear hb); (try clear hb2); (try clear hk); (try clear hi)));go_ret2;exact ⟨_, ew_, by first | exact Kd.R_nil _ _ _ _ _ | exact Kd.N_nil _ _ _ _ _ | exact Kd.V_nil _ _ _ _ _ | exact Kd.Q_nil _ _ _ _ _ | exact Kd.S_nil _ _ _ _ _, bl_⟩
def spec_cdLength.f (a0 : Int) (a1_0 : Int) (a1_1 : Int) : Option (Int) := (spec_l1Least.f (wrap64 (a1_1 - a1_0)) (wrap64 ((wrap64 (a0 - a1_1)) + a1_0))).bind fun t471 => (some t471)
theorem spec_cdLength.calls (a0 : Int) (a1_0 : Int) (a1_1 : Int) (r : Int) (w : World) (h : spec_cdLength.f a0 a1_0 a1_1 = some r) :
  Calls Tryz.prog 73 #[.int .i64 a0, .agg #[.int .i64 a1_0, .int .i64 a1_1]] w fun e w' => e = .returned (.int .i64 r) ∧ Below w.heap.size w w' := by
 have hu39 := Tryz.underlying39;have HB := mk_ (Below.refl w.heap.size w);have H : ((spec_l1Least.f (wrap64 (a1_1 - a1_0)) (wrap64 ((wrap64 (a0 - a1_1)) + a1_0))).bind fun t471 => (some t471)) = some r := h;clear h;replace H := Option.bind_eq_some_iff.mp H;obtain ⟨t471, A30, H⟩ := H;try dsimp only at H
 have A3 := mk_ A30;clear A30;obtain rfl := Option.some.inj H;go_enter Tryz.func73, Tryz.ntmps73;go_wp2_with (first | ((with_reducible refine g_ 3 ?_); refine bx_ 3 #[.int .i64 a1_0, .int .i64 a1_1] 39 ?_; intro gb470 hg w4 hbox hb; have n0_ := mk_ (below_step bl_ hb); have n1_ := mk_ (hbox); have n2_ := mk_ ((by rw [hg]; exact (below_size bl_) : w.heap.size ≤ gb470)); have n3_ := n2_; clear HB; have HB := n0_; have BK470 := n1_; have GW470 := n2_; have GE470 := n3_; clear n0_ n1_ n2_ n3_ hb hbox hg; have hcz5_0 : w4.cell? ⟨gb470, 0, none⟩ = some (.int .i64 a1_0) := (blk_cell BK470.out 0).trans rfl; have hcz5_1 : w4.cell? ⟨gb470, 1, none⟩ = some (.int .i64 a1_1) := (blk_cell BK470.out 1).trans rfl; have hfz5_0 := blk_frozen BK470.out 0; have hfz5_1 := blk_frozen BK470.out 1) | (refine gd_ 17 Tryz.func96 (spec_l1Least.calls (wrap64 (a1_1 - a1_0)) (wrap64 ((wrap64 (a0 - a1_1)) + a1_0)) t471 _ A3.out) ?_; intro nd));go_ret;exact ⟨ew_, bg_⟩
def spec_ChordLengths.l0 : Nat → Int → List Int → List (S39) → Int → Int → Option (List Int × Bool)
 | 0, _, _, _, _, _ => none
 | k + 1, x0, x6, x13, x14, x15 => if x15 < x14 then (if 0 ≤ x15 then (if x15 < (x13.length : Int) then ((spec_cdLength.f x0 ((rd_T39 x13 x15).f0) ((rd_T39 x13 x15).f1)).bind fun t475 => (if x6.length < 17592186044416 then (spec_ChordLengths.l0 k x0 (x6 ++ [t475]) x13 x14 (wrap64 (x15 + 1))) else (none))) else (none)) else (none)) else (some (x6, true))
def spec_ChordLengths.f (k : Nat) (a0 : Int) (l1 : List (S39)) : Option (List Int × Bool) := (spec_cdGood.f k a0 l1).bind fun t472 => (if t472 = true then (spec_ChordLengths.l0 k a0 ([] : List Int) l1 (l1.length : Int) 0) else (some (([] : List Int), false)))
theorem spec_ChordLengths.calls (k : Nat) (a0 : Int) (A1 : Option Addr) (c1 : Nat) (l1 : List (S39)) (r1 : List Int) (r2 : Bool) (w : World) (hr1 : Kd.C k39 w A1 l1.length l1) (hc1 : l1.length ≤ c1) (h : spec_ChordLengths.f k a0 l1 = some (r1, r2)) :
  Calls Tryz.prog 28 #[.int .i64 a0, .slice A1 l1.length c1] w fun e w' => ∃ v0_ : Value, e = .returned (.tuple #[v0_, .bool r2]) ∧ Kd.R (Kd.int .i64) 3 w' w.heap.size (fun _ => True) v0_ r1 ∧ Below w.heap.size w w' := by
 have hu39 := Tryz.underlying39;have HR1 := mk_ hr1;have HC1 := mk_ hc1;clear hr1 hc1;have HB := mk_ (Below.refl w.heap.size w);have H : ((spec_cdGood.f k a0 l1).bind fun t472 => (if t472 = true then (spec_ChordLengths.l0 k a0 ([] : List Int) l1 (l1.length : Int) 0) else (some (([] : List Int), false)))) = some (r1, r2) := h;clear h;replace H := Option.bind_eq_some_iff.mp H;obtain ⟨t472, A30, H⟩ := H;try dsimp only at H
 have A3 := mk_ A30;clear A30;by_cases c4 : t472 = true
 ·subst c4;have H1 : (spec_ChordLengths.l0 k a0 ([] : List Int) l1 (l1.length : Int) 0) = some (r1, r2) := by rw [if_pos rfl] at H; exact H
  clear H;have H := H1;clear H1;have H' := mk_ H;clear H;go_enter Tryz.func28, Tryz.ntmps28;go_wp2_with (first | (refine gc_ 11 Tryz.func54 #[.int .i64 a0, .slice A1 l1.length c1] ?_; (with_reducible refine (spec_cdGood.calls k a0 _ _ l1 true _ ?side1 ?side2 A3.out).mono ?_); (case side1 => exact kc_ <| HR1.out); (case side2 => exact HC1.out); rintro e w5 ⟨rfl, hb⟩; refine ⟨_, rfl, ?_⟩; have n0_ := mk_ (below_step bl_ hb); clear HB; have HB := n0_; clear n0_; (try clear hb); (try clear hb2); (try clear hk); (try clear hi)));go_loopg [6, 15] k (fun kq v6 v15 w' => ∃ (x6_1 : List Int) (x15_1 : Int), v15 = .int .i64 x15_1 ∧ Aside0 (spec_ChordLengths.l0 kq a0 x6_1 l1 (l1.length : Int) x15_1 = some (r1, r2)) ∧ Aside0 (kq ≤ k) ∧ Aside0 (Kd.R (Kd.int .i64) 3 w' w.heap.size (fun _ => True) v6 x6_1) ∧ Aside0 (Below w.heap.size w w'))
  case atStart => exact ⟨(([] : List Int)), (0), (es_), H', ⟨Nat.le_refl _⟩, ⟨by first | exact Kd.R_nil _ _ _ _ _ | exact Kd.N_nil _ _ _ _ _ | exact Kd.V_nil _ _ _ _ _ | exact Kd.Q_nil _ _ _ _ _ | exact Kd.S_nil _ _ _ _ _⟩, ⟨bl_⟩⟩
  case round =>
   clear H';try clear c1
   try clear c2
   try clear p2
   try clear c4
   try clear c5
   obtain ⟨x6_1, x15_1, rfl, HA, HK1, HO_6, HB⟩ := hrel
   cases gk with
   | zero => exact absurd HA.out (by simp [spec_ChordLengths.l0])
   | succ k1 =>
    have H := HA.out;clear HA;simp only [spec_ChordLengths.l0] at H;by_cases c6 : x15_1 < (l1.length : Int)
    ·rw [if_pos c6] at H;have c6b0 : decide (x15_1 < (l1.length : Int)) = true := decide_eq_true c6;clear c6;by_cases c7 : 0 ≤ x15_1;rotate_left
     ·rw [if_neg c7] at H;exact absurd H (by simp)
     rw [if_pos c7] at H;have c7b0 : decide (0 ≤ x15_1) = true := decide_eq_true c7;clear c7;by_cases c8 : x15_1 < (l1.length : Int);rotate_left
     ·rw [if_neg c8] at H;exact absurd H (by simp)
     rw [if_pos c8] at H;have c8b0 : decide (x15_1 < (l1.length : Int)) = true := decide_eq_true c8;clear c8;replace H := Option.bind_eq_some_iff.mp H;obtain ⟨t475, A90, H⟩ := H;try dsimp only at H
     have A9 := mk_ A90;clear A90;by_cases c10 : x6_1.length < 17592186044416;rotate_left
     ·rw [if_neg c10] at H;exact absurd H (by simp)
     rw [if_pos c10] at H;have LMc10 := mk_ c10;clear c10;obtain ⟨y476, hy_⟩ : ∃ y_ : List Int, y_ = (x6_1 ++ [t475]) := ⟨_, rfl⟩;replace H : (spec_ChordLengths.l0 k1 a0 y476 l1 (l1.length : Int) (wrap64 (x15_1 + 1))) = some (r1, r2) := rp_;have Ny476 := mk_ hy_;clear hy_;have H' := mk_ H;clear H;have p473 : 0 ≤ (x15_1 : Int) := od_;have q473 : x15_1 < (l1.length : Int) := od_;obtain ⟨ad473, e473, hx473_0, hx473_1⟩ := at_T39 HR1.out x15_1 p473 q473;cases e473;replace hx473_0 := (HB.out.cell (World.block_lt_of_cell? w _ hx473_0)).trans hx473_0;replace hx473_1 := (HB.out.cell (World.block_lt_of_cell? w _ hx473_1)).trans hx473_1;replace p473 := eq_true p473;replace q473 := eq_true q473;go_wp2_with (first | ((with_reducible refine g_ 8 ?_); refine bx_ 8 #[.int .i64 0, .int .i64 0] 39 ?_; intro gb474 hg w11 hbox hb; have n0_ := mk_ (Kd.R_below (kr_ <| HO_6.out) hb); have n1_ := mk_ (below_step bl_ hb); have n2_ := mk_ (hbox); have n3_ := mk_ ((by rw [hg]; exact (below_size bl_) : w.heap.size ≤ gb474)); have n4_ := n3_; clear HO_6 HB; have HO_6 := n0_; have HB := n1_; have BK474 := n2_; have GW474 := n3_; have GE474 := n4_; clear n0_ n1_ n2_ n3_ n4_ hb hbox hg; have hcz12_0 : w11.cell? ⟨gb474, 0, none⟩ = some (.int .i64 0) := (blk_cell BK474.out 0).trans rfl; have hcz12_1 : w11.cell? ⟨gb474, 1, none⟩ = some (.int .i64 0) := (blk_cell BK474.out 1).trans rfl; have hfz12_0 := blk_frozen BK474.out 0; have hfz12_1 := blk_frozen BK474.out 1) | (refine gc_ 22 Tryz.func73 #[.int .i64 a0, .agg #[.int .i64 ((rd_T39 l1 x15_1).f0), .int .i64 ((rd_T39 l1 x15_1).f1)]] ?_; (with_reducible refine (spec_cdLength.calls a0 ((rd_T39 l1 x15_1).f0) ((rd_T39 l1 x15_1).f1) t475 _ A9.out).mono ?_); rintro e w13 ⟨rfl, hb⟩; refine ⟨_, rfl, ?_⟩; have n0_ := mk_ (Kd.R_below (kr_ <| (Kd.R_mono (Kd.R_far (p := ⟨gb474, 1, none⟩) (Kd.R_far (p := ⟨gb474, 0, none⟩) (Kd.R_types HO_6.out BK474.out (by decide)) (fun _ hk => hk.2) (.int .i64 ((rd_T39 l1 x15_1).f0))) (fun _ hk => hk.2) (.int .i64 ((rd_T39 l1 x15_1).f1))) (fun _ h_ => h_.1))) hb); have n1_ := mk_ (blk_below (g := gb474) (o := .cells #[.int .i64 ((rd_T39 l1 x15_1).f0), .int .i64 ((rd_T39 l1 x15_1).f1)] 39 (0, 0)) (by (with_reducible repeat (first | refine blk_drewN ?_ _ | refine blk_drew ?_ | refine blk_alloc ?_ _)); refine blk_put (cs := #[.int .i64 ((rd_T39 l1 x15_1).f0), .int .i64 0]) ?_ 1 _ rfl; (with_reducible repeat (first | refine blk_drewN ?_ _ | refine blk_drew ?_ | refine blk_alloc ?_ _)); refine blk_put (cs := #[.int .i64 0, .int .i64 0]) ?_ 0 _ rfl; exact kk_ <| BK474.out) hb); have n2_ := mk_ (below_step bg_ hb); clear HO_6 BK474 HB; have HO_6 := n0_; have BK474 := n1_; have HB := n2_; clear n0_ n1_ n2_; (try clear hb); (try clear hb2); (try clear hk); (try clear hi)) | ((with_reducible refine gate_builtin (b := .append) (xs := #[.tmp 19, .tmp 23]) rfl ?_); at_builtin; refine Kd.R_append (Kd.int .i64) (w0 := w) w.heap.size rfl (.tmp 19) (.tmp 23) 46 3 (.int .i64 0) 8 rfl Tryz.underlying46 info3 rfl (by decide) (by omega) u6 x6_1 t475 [.int .i64 t475] (fun _ => True) (fun _ => False) rfl rfl ?aP (fun _ hk => hk.elim) ?aF ?aO ?aB ?aS ?aL ?_; (case aP => exact rfl); (case aB => exact bg_); (case aF => exact (fun _ _ => trivial)); (case aO => exact (kr_ <| HO_6.out)); (case aS => exact (below_size bg_)); (case aL => have := LMc10.out; omega); intro v477 w14 ho hb hg hat; rw [← Ny476.out] at ho; have n0_ := mk_ (blk_grown (g := gb474) (o := .cells #[.int .i64 ((rd_T39 l1 x15_1).f0), .int .i64 ((rd_T39 l1 x15_1).f1)] 39 (0, 0)) kb_ hg (Kd.R_ne HO_6.out BK474.out (by decide))); have n1_ := mk_ (hb); have n2_ := mk_ (ho); clear BK474 HB HO_6; have BK474 := n0_; have HB := n1_; have HO478 := n2_; clear n0_ n1_ n2_ ho hb hg hat));go_roundg k1
     case measure => have := HK1.out; omega
     case rel => exact ⟨(y476), (wrap64 (x15_1 + 1)), (es_), H', ⟨by have := HK1.out; omega⟩, ⟨by exact kr_ <| HO478.out⟩, ⟨bg_⟩⟩
    ·rw [if_neg c6] at H;have c6b0 : decide (x15_1 < (l1.length : Int)) = false := decide_eq_false c6;clear c6;simp only [Option.some.injEq, Prod.mk.injEq] at H;obtain ⟨rfl, rfl⟩ := H;go_wp2;go_ret2;exact ⟨_, ew_, by exact kr_ <| HO_6.out, bl_⟩
 ·replace c4 := Bool.eq_false_iff.mpr c4;subst c4;have H1 : (some (([] : List Int), false)) = some (r1, r2) := by rw [if_neg (show ¬ (false = true) by decide)] at H; exact H
  clear H;have H := H1;clear H1;simp only [Option.some.injEq, Prod.mk.injEq] at H;obtain ⟨rfl, rfl⟩ := H;go_enter Tryz.func28, Tryz.ntmps28;go_wp2_with (first | (refine gc_ 11 Tryz.func54 #[.int .i64 a0, .slice A1 l1.length c1] ?_; (with_reducible refine (spec_cdGood.calls k a0 _ _ l1 false _ ?side1 ?side2 A3.out).mono ?_); (case side1 => exact kc_ <| HR1.out); (case side2 => exact HC1.out); rintro e w15 ⟨rfl, hb⟩; refine ⟨_, rfl, ?_⟩; have n0_ := mk_ (below_step bl_ hb); clear HB; have HB := n0_; clear n0_; (try clear hb); (try clear hb2); (try clear hk); (try clear hi)));go_ret2;exact ⟨_, ew_, by first | exact Kd.R_nil _ _ _ _ _ | exact Kd.N_nil _ _ _ _ _ | exact Kd.V_nil _ _ _ _ _ | exact Kd.Q_nil _ _ _ _ _ | exact Kd.S_nil _ _ _ _ _, bl_⟩
def strconv_Itoa.f (a0 : Int) : Option ByteArray := if 0 ≤ a0 ∧ a0 < 100 then some ⟨(Lib.decDigits a0.toNat).toArray⟩ else none
theorem strconv_Itoa.calls (a0 : Int) (r : ByteArray) (w : World) (h : strconv_Itoa.f a0 = some r) :
  Calls Tryz.prog 74 #[.int .i64 a0] w fun e w' => e = .returned (.string r) ∧ Drawn0 w w' := by
 unfold strconv_Itoa.f at h;by_cases hc : 0 ≤ a0 ∧ a0 < 100
 ·rw [if_pos hc] at h;obtain rfl := Option.some.inj h;have := Any.strconv_Itoa_small Tryz.laysItoa a0.toNat (by omega) w;rw [Int.toNat_of_nonneg hc.1] at this;exact this.mono fun e w' ⟨h1, h2⟩ => ⟨h1, h2 ▸ Drawn0.refl _⟩
 ·rw [if_neg hc] at h;cases h
def strings_Join.f (l0 : List ByteArray) (a1 : ByteArray) : Option (ByteArray × List ByteArray) := if l0.length ≤ 1000 ∧ (Lib.join (l0.map (·.data.toList)) a1.data.toList).length ≤ 1000000 then some (⟨(Lib.join (l0.map (·.data.toList)) a1.data.toList).toArray⟩, l0) else none
theorem strings_Join.extra : Go.Proofs.Builder.Extra Tryz.prog Tryz.laysJoin_ren where
 sizeBuilder := by kernel_rfl
 liesBuilder := by kernel_rfl
 t5 := Tryz.underlying5
 a5 := Tryz.isAgg5
 z5 := Tryz.sizeOf5
 v5 := Tryz.zeroValue5
 infoByte := by kernel_rfl
 cellsByte := by kernel_rfl
 sizeByte := by kernel_rfl
 neB5 := by decide
theorem strings_Join.calls (P0_ : Nat → Prop) (u9000_ : Value) (l0 : List ByteArray) (a1 : ByteArray) (r1 : ByteArray) (r2 : List ByteArray) (w0 w : World) (hB : Below w0.heap.size w0 w) (ho0 : Kd.R Kd.string 9 w w0.heap.size P0_ u9000_ l0) (h : strings_Join.f l0 a1 = some (r1, r2)) :
  Calls Tryz.prog 75 #[u9000_, .string a1] w fun e w' => e = .returned (.string r1) ∧ Kd.R Kd.string 9 w' w0.heap.size (fun k_ => (P0_ k_ ∨ w.heap.size ≤ k_)) u9000_ r2 ∧ Below w0.heap.size w0 w' ∧ Kept w w' (fun k_ => P0_ k_) := by
 unfold strings_Join.f at h;by_cases hc : l0.length ≤ 1000 ∧ (Lib.join (l0.map (·.data.toList)) a1.data.toList).length ≤ 1000000
 ·rw [if_pos hc] at h;injection h with h
  injection h with e1 e2
  subst e1; subst e2;have fin : ∀ w', Below w.heap.size w w' → Kd.R Kd.string 9 w' w0.heap.size (fun k_ => (P0_ k_ ∨ w.heap.size ≤ k_)) u9000_ l0 ∧ Below w0.heap.size w0 w' ∧ Kept w w' (fun k_ => P0_ k_) := fun w' hb => ⟨Kd.R_mono (Kd.R_below ho0 hb) (fun _ hk => .inl hk), below_step hB hb, Kept.of_below hb _⟩
  by_cases h0 : l0.length = 0
  ·obtain rfl : l0 = [] := List.eq_nil_of_length_eq_zero h0;obtain ⟨A, c, rfl, _, _⟩ := Kd.R_reads ho0;refine (Go.Proofs.Any.strings_Join_none Tryz.laysJoin strings_Join.extra A c a1 w).mono fun e w' h => ?_
   obtain ⟨he, hw⟩ := h;subst hw;exact ⟨he, fin _ (Below.refl _ _)⟩
  ·obtain ⟨g, cap, rfl, hbase, hlt, cells, hcells⟩ := Kd.R_form ho0 (by omega);have hcap := (Kd.R_reads' ho0).2.1
   have hcl : ∀ (j : Nat) x, l0[j]? = some x → w.cell? ⟨g, 0 + j, none⟩ = some (.string x) := by
    intro j x hj;have hjl := (List.getElem?_eq_some_iff.1 hj).1;obtain ⟨c, hcl, hM, hcc, _⟩ := Kd.R_elem ho0 ByteArray.empty (j : Int) (by omega) (by omega);have hM' : c = [Value.string (l0.getD (j : Int).toNat ByteArray.empty)] := hM;subst hM';have := hcc 0 _ rfl;rw [List.getD_eq_getElem?_getD, Int.toNat_natCast, hj] at this;simpa [show Kd.string.sz = 1 from rfl] using this
   refine (Go.Proofs.Any.strings_Join Tryz.laysJoin strings_Join.extra g 0 cap l0 a1 w hcl hlt (by omega) hcap (by omega)).mono fun e w' h => ?_
   exact ⟨h.1, fin _ h.2⟩
 ·rw [if_neg hc] at h;cases h
def spec_l1Split.l0 : Nat → ByteArray → Int → List ByteArray → Int → Int → Option (List ByteArray)
 | 0, _, _, _, _, _ => none
 | k + 1, x0, x1, x5, x6, x7 => if x7 < (x0.size : Int) then (if 0 ≤ x7 then (if (bt x0 x7) = x1 then (if 0 ≤ x6 then (if x6 ≤ x7 then (if x7 ≤ (x0.size : Int) then (if x5.length < 8796093022208 then (spec_l1Split.l0 k x0 x1 (x5 ++ [x0.extract (x6 : Int).toNat (x7 : Int).toNat]) (wrap64 (x7 + 1)) (wrap64 (x7 + 1))) else (none)) else (none)) else (none)) else (none)) else (spec_l1Split.l0 k x0 x1 x5 x6 (wrap64 (x7 + 1)))) else (none)) else (if 0 ≤ x6 then (if x6 ≤ (x0.size : Int) then (if x5.length < 8796093022208 then (some (x5 ++ [x0.extract (x6 : Int).toNat x0.size])) else (none)) else (none)) else (none))
def spec_l1Split.f (k : Nat) (a0 : ByteArray) (a1 : Int) : Option (List ByteArray) := spec_l1Split.l0 k a0 a1 ([] : List ByteArray) 0 0
theorem spec_l1Split.calls (k : Nat) (a0 : ByteArray) (a1 : Int) (r : List ByteArray) (w : World) (h : spec_l1Split.f k a0 a1 = some r) :
  Calls Tryz.prog 82 #[.string a0, .int .u8 a1] w fun e w' => ∃ v0_ : Value, e = .returned (v0_) ∧ Kd.R Kd.string 9 w' w.heap.size (fun _ => True) v0_ r ∧ Below w.heap.size w w' := by
 have HB := mk_ (Below.refl w.heap.size w);have H : (spec_l1Split.l0 k a0 a1 ([] : List ByteArray) 0 0) = some r := h;clear h;have H' := mk_ H;clear H;go_enter Tryz.func82, Tryz.ntmps82;go_wp2;go_loopg [5, 6, 7] k (fun kq v5 v6 v7 w' => ∃ (x5_1 : List ByteArray) (x6_1 : Int) (x7_1 : Int), v6 = .int .i64 x6_1 ∧ v7 = .int .i64 x7_1 ∧ Aside0 (spec_l1Split.l0 kq a0 a1 x5_1 x6_1 x7_1 = some r) ∧ Aside0 (kq ≤ k) ∧ Aside0 (Kd.R Kd.string 9 w' w.heap.size (fun _ => True) v5 x5_1) ∧ Aside0 (Below w.heap.size w w'))
 case atStart => exact ⟨(([] : List ByteArray)), (0), (0), (es_), (es_), H', ⟨Nat.le_refl _⟩, ⟨by first | exact Kd.R_nil _ _ _ _ _ | exact Kd.N_nil _ _ _ _ _ | exact Kd.V_nil _ _ _ _ _ | exact Kd.Q_nil _ _ _ _ _ | exact Kd.S_nil _ _ _ _ _⟩, ⟨bl_⟩⟩
 case round =>
  clear H';try clear p2
  obtain ⟨x5_1, x6_1, x7_1, rfl, rfl, HA, HK1, HO_5, HB⟩ := hrel
  cases gk with
  | zero => exact absurd HA.out (by simp [spec_l1Split.l0])
  | succ k1 =>
   have H := HA.out;clear HA;simp only [spec_l1Split.l0] at H;by_cases c3 : x7_1 < (a0.size : Int)
   ·rw [if_pos c3] at H;have c3b0 : decide (x7_1 < (a0.size : Int)) = true := decide_eq_true c3;clear c3;by_cases c4 : 0 ≤ x7_1;rotate_left
    ·rw [if_neg c4] at H;exact absurd H (by simp)
    rw [if_pos c4] at H;have c4b0 : decide (0 ≤ x7_1) = true := decide_eq_true c4;clear c4;by_cases c6 : (bt a0 x7_1) = a1
    ·rw [if_pos c6] at H;have c6b0 : ((bt a0 x7_1) == a1) = true := beq_iff_eq.mpr c6;have c6b1 : ((bt a0 x7_1) != a1) = false := bne_eq_false_iff_eq.mpr c6;clear c6;by_cases c7 : 0 ≤ x6_1;rotate_left
     ·rw [if_neg c7] at H;exact absurd H (by simp)
     rw [if_pos c7] at H;have c7b0 := eq_true c7;have c7b1 : decide (0 ≤ x6_1) = true := decide_eq_true c7;clear c7;by_cases c8 : x6_1 ≤ x7_1;rotate_left
     ·rw [if_neg c8] at H;exact absurd H (by simp)
     rw [if_pos c8] at H;have c8b0 := eq_true c8;have c8b1 : decide (x6_1 ≤ x7_1) = true := decide_eq_true c8;clear c8;by_cases c9 : x7_1 ≤ (a0.size : Int);rotate_left
     ·rw [if_neg c9] at H;exact absurd H (by simp)
     rw [if_pos c9] at H;have c9b0 := eq_true c9;have c9b1 : decide (x7_1 ≤ (a0.size : Int)) = true := decide_eq_true c9;clear c9;by_cases c10 : x5_1.length < 8796093022208;rotate_left
     ·rw [if_neg c10] at H;exact absurd H (by simp)
     rw [if_pos c10] at H;have LMc10 := mk_ c10;clear c10;obtain ⟨y548, hy_⟩ : ∃ y_ : List ByteArray, y_ = (x5_1 ++ [a0.extract (x6_1 : Int).toNat (x7_1 : Int).toNat]) := ⟨_, rfl⟩;replace H : (spec_l1Split.l0 k1 a0 a1 y548 (wrap64 (x7_1 + 1)) (wrap64 (x7_1 + 1))) = some r := rp_;have Ny548 := mk_ hy_;clear hy_;have H' := mk_ H;clear H;have p5 : 0 ≤ (x7_1 : Int) := od_;have q5 : x7_1 < (a0.size : Int) := od_;have hx5 := bt_at a0 x7_1;replace p5 := eq_true p5;replace q5 := eq_true q5;go_wp2_with (first | ((with_reducible refine gate_builtin (b := .append) (xs := #[.tmp 19, .tmp 24]) rfl ?_); at_builtin; refine Kd.R_append Kd.string (w0 := w) w.heap.size rfl (.tmp 19) (.tmp 24) 89 9 (.string ⟨#[]⟩) 16 rfl Tryz.underlying89 info9 rfl (by decide) (by omega) u5 x5_1 (a0.extract (x6_1 : Int).toNat (x7_1 : Int).toNat) [.string (a0.extract (x6_1 : Int).toNat (x7_1 : Int).toNat)] (fun _ => True) (fun _ => False) rfl rfl ?aP (fun _ hk => hk.elim) ?aF ?aO ?aB ?aS ?aL ?_; (case aP => exact rfl); (case aB => exact bl_); (case aF => exact (fun _ _ => trivial)); (case aO => exact (kr_ <| HO_5.out)); (case aS => exact (below_size bl_)); (case aL => have := LMc10.out; omega); intro v549 w11 ho hb hg hat; rw [← Ny548.out] at ho; have n0_ := mk_ (hb); have n1_ := mk_ (ho); clear HB HO_5; have HB := n0_; have HO550 := n1_; clear n0_ n1_ ho hb hg hat));go_roundg k1
     case measure => have := HK1.out; omega
     case rel => exact ⟨(y548), (wrap64 (x7_1 + 1)), (wrap64 (x7_1 + 1)), (es_), (es_), H', ⟨by have := HK1.out; omega⟩, ⟨by exact kr_ <| HO550.out⟩, ⟨bl_⟩⟩
    ·rw [if_neg c6] at H;have c6b0 : ((bt a0 x7_1) == a1) = false := beq_eq_false_iff_ne.mpr c6;have c6b1 : ((bt a0 x7_1) != a1) = true := bne_iff_ne.mpr c6;have H' := mk_ H;clear H;have p5 : 0 ≤ (x7_1 : Int) := od_;have q5 : x7_1 < (a0.size : Int) := od_;have hx5 := bt_at a0 x7_1;replace p5 := eq_true p5;replace q5 := eq_true q5;go_wp2;go_roundg k1
     case measure => have := HK1.out; omega
     case rel => exact ⟨(x5_1), (x6_1), (wrap64 (x7_1 + 1)), (es_), (es_), H', ⟨by have := HK1.out; omega⟩, ⟨by exact kr_ <| HO_5.out⟩, ⟨bl_⟩⟩
   ·rw [if_neg c3] at H;have c3b0 : decide (x7_1 < (a0.size : Int)) = false := decide_eq_false c3;clear c3;by_cases c12 : 0 ≤ x6_1;rotate_left
    ·rw [if_neg c12] at H;exact absurd H (by simp)
    rw [if_pos c12] at H;have c12b0 := eq_true c12;have c12b1 : decide (0 ≤ x6_1) = true := decide_eq_true c12;clear c12;by_cases c13 : x6_1 ≤ (a0.size : Int);rotate_left
    ·rw [if_neg c13] at H;exact absurd H (by simp)
    rw [if_pos c13] at H;have c13b0 := eq_true c13;have c13b1 : decide (x6_1 ≤ (a0.size : Int)) = true := decide_eq_true c13;clear c13;by_cases c14 : x5_1.length < 8796093022208;rotate_left
    ·rw [if_neg c14] at H;exact absurd H (by simp)
    rw [if_pos c14] at H;have LMc14 := mk_ c14;clear c14;obtain ⟨y551, hy_⟩ : ∃ y_ : List ByteArray, y_ = (x5_1 ++ [a0.extract (x6_1 : Int).toNat a0.size]) := ⟨_, rfl⟩;replace H : (some y551) = some r := rp_;have Ny551 := mk_ hy_;clear hy_;obtain rfl := Option.some.inj H;go_wp2_with (first | ((with_reducible refine gate_builtin (b := .append) (xs := #[.tmp 28, .tmp 32]) rfl ?_); at_builtin; refine Kd.R_append Kd.string (w0 := w) w.heap.size rfl (.tmp 28) (.tmp 32) 89 9 (.string ⟨#[]⟩) 16 rfl Tryz.underlying89 info9 rfl (by decide) (by omega) u5 x5_1 (a0.extract (x6_1 : Int).toNat a0.size) [.string (a0.extract (x6_1 : Int).toNat a0.size)] (fun _ => True) (fun _ => False) rfl rfl ?aP (fun _ hk => hk.elim) ?aF ?aO ?aB ?aS ?aL ?_; (case aP => exact rfl); (case aB => exact bl_); (case aF => exact (fun _ _ => trivial)); (case aO => exact (kr_ <| HO_5.out)); (case aS => exact (below_size bl_)); (case aL => have := LMc14.out; omega); intro v552 w15 ho hb hg hat; rw [← Ny551.out] at ho; have n0_ := mk_ (hb); have n1_ := mk_ (ho); clear HB HO_5; have HB := n0_; have HO553 := n1_; clear n0_ n1_ ho hb hg hat));go_ret;exact ⟨_, ew_, by exact kr_ <| HO553.out, bl_⟩
mutual
def spec_l1Read.j0 : Nat → ByteArray → Bool → Option (Int)
 | 0, _, _ => none
 | k + 1, x0, x18 => if x18 = true then (some (-1)) else (spec_l1Read.l0 k x0 0 0)
def spec_l1Read.l0 : Nat → ByteArray → Int → Int → Option (Int)
 | 0, _, _, _ => none
 | k + 1, x0, x3, x4 => if x4 < (x0.size : Int) then (if 0 ≤ x4 then (if (bt x0 x4) < 48 then (some (-1)) else (if (bt x0 x4) > 57 then (some (-1)) else (spec_l1Read.l0 k x0 (wrap64 ((wrap64 (10 * x3)) + (((bt x0 x4) - 48) % 256))) (wrap64 (x4 + 1))))) else (none)) else (some x3)
end
def spec_l1Read.f (k : Nat) (a0 : ByteArray) : Option (Int) := (spec_l1In.f (a0.size : Int) 1 6).bind fun t554 => (if t554 = true then (if 0 < (a0.size : Int) then (if (bt a0 0) = 48 then (spec_l1Read.j0 k a0 (decide ((a0.size : Int) > 1))) else (spec_l1Read.j0 k a0 false)) else (none)) else (spec_l1Read.j0 k a0 true))
theorem spec_l1Read.calls (k : Nat) (a0 : ByteArray) (r : Int) (w : World) (h : spec_l1Read.f k a0 = some r) :
  Calls Tryz.prog 83 #[.string a0] w fun e w' => e = .returned (.int .i64 r) ∧ Drawn0 w w' := by
 have H : ((spec_l1In.f (a0.size : Int) 1 6).bind fun t554 => (if t554 = true then (if 0 < (a0.size : Int) then (if (bt a0 0) = 48 then (spec_l1Read.j0 k a0 (decide ((a0.size : Int) > 1))) else (spec_l1Read.j0 k a0 false)) else (none)) else (spec_l1Read.j0 k a0 true))) = some r := h;clear h;have HC2 := mk_ H;clear H;go_enter Tryz.func83, Tryz.ntmps83;go_upto_region 1 with (fail)
 go_cut [18] (fun v18 wc => ∃ (kq : Nat) (x18_1 : Bool), v18 = .bool x18_1 ∧ Aside0 (spec_l1Read.j0 kq a0 x18_1 = some r) ∧ Aside0 (kq ≤ k) ∧ Drawn0 w wc)
 case first =>
  have H := HC2.out;clear HC2;replace H := Option.bind_eq_some_iff.mp H;obtain ⟨t554, A30, H⟩ := H;try dsimp only at H
  have A3 := mk_ A30;clear A30;by_cases c4 : t554 = true
  ·subst c4;have H1 : (if 0 < (a0.size : Int) then (if (bt a0 0) = 48 then (spec_l1Read.j0 k a0 (decide ((a0.size : Int) > 1))) else (spec_l1Read.j0 k a0 false)) else (none)) = some r := by rw [if_pos rfl] at H; exact H
   clear H;have H := H1;clear H1;by_cases c5 : 0 < (a0.size : Int);rotate_left
   ·rw [if_neg c5] at H;exact absurd H (by simp)
   rw [if_pos c5] at H;have c5b0 : decide (0 < (a0.size : Int)) = true := decide_eq_true c5;have c5b1 : decide (0 < a0.size) = true := decide_eq_true (by omega);clear c5;(first | rw [c5b0] | (simp only [i64_w, i32_w]; rw [c5b0]) | rw [c5b1] | skip);by_cases c7 : (bt a0 0) = 48
   ·rw [if_pos c7] at H;have c7b0 : ((bt a0 0) == 48) = true := beq_iff_eq.mpr c7;have c7b1 : ((bt a0 0) != 48) = false := bne_eq_false_iff_eq.mpr c7;clear c7;have H' := mk_ H;clear H;go_wp2_with (first | (refine gd_ 7 Tryz.func48 (spec_l1In.calls (a0.size : Int) 1 6 true _ A3.out) ?_; intro nd; have p6 : 0 ≤ (0 : Int) := (by omega); have q6 : 0 < a0.size := (by have : (0 : Int) < (a0.size : Int) := od_; omega); have hx6 : ∀ h : 0 < a0.size, ((a0[0]'h).toNat : Int) = bt a0 0 := bt_at a0 0; clear p6; have qi6 : (0 < (a0.size : Int)) = True := eq_true (od_); replace q6 := eq_true q6));go_meet
    case rel => exact ⟨_, (decide ((a0.size : Int) > 1)), (es_), H', ⟨by first | omega | exact Nat.le_refl _⟩, dr_⟩
   ·rw [if_neg c7] at H;have c7b0 : ((bt a0 0) == 48) = false := beq_eq_false_iff_ne.mpr c7;have c7b1 : ((bt a0 0) != 48) = true := bne_iff_ne.mpr c7;have H' := mk_ H;clear H;go_wp2_with (first | (refine gd_ 7 Tryz.func48 (spec_l1In.calls (a0.size : Int) 1 6 true _ A3.out) ?_; intro nd; have p6 : 0 ≤ (0 : Int) := (by omega); have q6 : 0 < a0.size := (by have : (0 : Int) < (a0.size : Int) := od_; omega); have hx6 : ∀ h : 0 < a0.size, ((a0[0]'h).toNat : Int) = bt a0 0 := bt_at a0 0; clear p6; have qi6 : (0 < (a0.size : Int)) = True := eq_true (od_); replace q6 := eq_true q6));go_meet
    case rel => exact ⟨_, (false), (es_), H', ⟨by first | omega | exact Nat.le_refl _⟩, dr_⟩
  ·replace c4 := Bool.eq_false_iff.mpr c4;subst c4;have H1 : (spec_l1Read.j0 k a0 true) = some r := by rw [if_neg (show ¬ (false = true) by decide)] at H; exact H
   clear H;have H := H1;clear H1;have H' := mk_ H;clear H;go_wp2_with (first | (refine gd_ 7 Tryz.func48 (spec_l1In.calls (a0.size : Int) 1 6 false _ A3.out) ?_; intro nd));go_meet
   case rel => exact ⟨_, (true), (es_), H', ⟨by first | omega | exact Nat.le_refl _⟩, dr_⟩
 case rest =>
  clear HC2;try clear p2
  try clear c4
  try clear c5
  try clear c5b0
  try clear c5b1
  try clear p6
  try clear q6
  try clear hx6
  try clear qi6
  try clear c7
  try clear c7b0
  try clear c7b1
  try clear p6
  try clear q6
  obtain ⟨kq, x18_1, rfl, HA, HJ1, ⟨mc1, rfl⟩⟩ := hcut
  cases kq with
  | zero => exact absurd HA.out (by simp [spec_l1Read.j0])
  | succ kj1 =>
   have H := HA.out;clear HA;simp only [spec_l1Read.j0] at H;by_cases c8 : x18_1 = true
   ·subst c8;have H1 : (some (-1)) = some r := by rw [if_pos rfl] at H; exact H
    clear H;have H := H1;clear H1;obtain rfl := Option.some.inj H;go_wp2;go_ret;exact ⟨es_, dr_⟩
   ·replace c8 := Bool.eq_false_iff.mpr c8;subst c8;have H1 : (spec_l1Read.l0 kj1 a0 0 0) = some r := by rw [if_neg (show ¬ (false = true) by decide)] at H; exact H
    clear H;have H := H1;clear H1;have H' := mk_ H;clear H;go_wp2;go_loopg [3, 4] kj1 (fun kq v3 v4 w' => ∃ (x3_2 : Int) (x4_2 : Int), v3 = .int .i64 x3_2 ∧ v4 = .int .i64 x4_2 ∧ Aside0 (spec_l1Read.l0 kq a0 x3_2 x4_2 = some r) ∧ Aside0 (kq ≤ kj1) ∧ Drawn0 w w')
    case atStart => exact ⟨(0), (0), (es_), (es_), H', ⟨Nat.le_refl _⟩, dr_⟩
    case round =>
     clear H';try clear c1
     try clear p2
     try clear c4
     try clear c5
     try clear c5b0
     try clear c5b1
     try clear p6
     try clear q6
     try clear hx6
     try clear qi6
     try clear c7
     try clear c7b0
     try clear c7b1
     try clear c8
     try clear p2
     try clear p6
     try clear q6
     obtain ⟨x3_2, x4_2, rfl, rfl, HA, HK2, ⟨m2, rfl⟩⟩ := hrel
     cases gk with
     | zero => exact absurd HA.out (by simp [spec_l1Read.l0])
     | succ k2 =>
      have H := HA.out;clear HA;simp only [spec_l1Read.l0] at H;by_cases c9 : x4_2 < (a0.size : Int)
      ·rw [if_pos c9] at H;have c9b0 : decide (x4_2 < (a0.size : Int)) = true := decide_eq_true c9;clear c9;by_cases c10 : 0 ≤ x4_2;rotate_left
       ·rw [if_neg c10] at H;exact absurd H (by simp)
       rw [if_pos c10] at H;have c10b0 : decide (0 ≤ x4_2) = true := decide_eq_true c10;clear c10;by_cases c12 : (bt a0 x4_2) < 48
       ·rw [if_pos c12] at H;have c12b0 : decide ((bt a0 x4_2) < 48) = true := decide_eq_true c12;clear c12;obtain rfl := Option.some.inj H;have p11 : 0 ≤ (x4_2 : Int) := od_;have q11 : x4_2 < (a0.size : Int) := od_;have hx11 := bt_at a0 x4_2;replace p11 := eq_true p11;replace q11 := eq_true q11;go_wp2;go_ret;exact ⟨es_, dr_⟩
       ·rw [if_neg c12] at H;have c12b0 : decide ((bt a0 x4_2) < 48) = false := decide_eq_false c12;clear c12;by_cases c14 : (bt a0 x4_2) > 57
        ·rw [if_pos c14] at H;have c14b0 : decide (57 < (bt a0 x4_2)) = true := decide_eq_true c14;clear c14;obtain rfl := Option.some.inj H;have p11 : 0 ≤ (x4_2 : Int) := od_;have q11 : x4_2 < (a0.size : Int) := od_;have hx11 := bt_at a0 x4_2;replace p11 := eq_true p11;replace q11 := eq_true q11;have p13 : 0 ≤ (x4_2 : Int) := od_;have q13 : x4_2 < (a0.size : Int) := od_;have hx13 := bt_at a0 x4_2;replace p13 := eq_true p13;replace q13 := eq_true q13;go_wp2;go_ret;exact ⟨es_, dr_⟩
        ·rw [if_neg c14] at H;have c14b0 : decide (57 < (bt a0 x4_2)) = false := decide_eq_false c14;clear c14;have H' := mk_ H;clear H;have p11 : 0 ≤ (x4_2 : Int) := od_;have q11 : x4_2 < (a0.size : Int) := od_;have hx11 := bt_at a0 x4_2;replace p11 := eq_true p11;replace q11 := eq_true q11;have p13 : 0 ≤ (x4_2 : Int) := od_;have q13 : x4_2 < (a0.size : Int) := od_;have hx13 := bt_at a0 x4_2;replace p13 := eq_true p13;replace q13 := eq_true q13;have p15 : 0 ≤ (x4_2 : Int) := od_;have q15 : x4_2 < (a0.size : Int) := od_;have hx15 := bt_at a0 x4_2;replace p15 := eq_true p15;replace q15 := eq_true q15;go_wp2;go_roundg k2
         case measure => have := HJ1.out; have := HK2.out; omega
         case rel => exact ⟨(wrap64 ((wrap64 (10 * x3_2)) + (((bt a0 x4_2) - 48) % 256))), (wrap64 (x4_2 + 1)), (es_), (es_), H', ⟨by have := HJ1.out; have := HK2.out; omega⟩, dr_⟩
      ·rw [if_neg c9] at H;have c9b0 : decide (x4_2 < (a0.size : Int)) = false := decide_eq_false c9;clear c9;obtain rfl := Option.some.inj H;go_wp2;go_ret;exact ⟨es_, dr_⟩
mutual
def impl_countPairings.l0 : Nat → List Int → List (S39) → Int → Int → Int → Option (Int)
 | 0, _, _, _, _, _ => none
 | k + 1, x0, x1, x2, x7, x8 => if x8 < (x0.length : Int) then (if 0 < (x0.length : Int) then (if 0 ≤ x8 then ((impl_chord.f (rd x0 0) (rd x0 x8)).bind fun bt363 => (if 1 ≤ x8 then (if x8 ≤ (x0.length : Int) then ((slices_Clone_int_int.f ((x0.take (x8 : Int).toNat).drop 1)).bind fun t367 => (if 0 ≤ (wrap64 (x8 + 1)) then (if (wrap64 (x8 + 1)) ≤ (x0.length : Int) then (if t367.length + (x0.drop ((wrap64 (x8 + 1)) : Int).toNat).length < 17592186044416 then ((impl_Chord_70.f x1).bind fun t374 => ((some (([(⟨bt363.1, bt363.2⟩ : S39)] : List (S39)) : List (S39))).bind fun y377 => (if t374.length + y377.length < 8796093022208 then ((impl_crossed.f k x1 bt363.1 bt363.2).bind fun t383 => ((impl_countPairings.f k (t367 ++ (x0.drop ((wrap64 (x8 + 1)) : Int).toNat)) (t374 ++ y377) (wrap64 (x2 - t383))).bind fun t384 => (impl_countPairings.l0 k x0 x1 x2 (wrap64 (x7 + t384)) (wrap64 (x8 + 1))))) else (none)))) else (none)) else (none)) else (none))) else (none)) else (none))) else (none)) else (none)) else (some x7)
def impl_countPairings.f : Nat → List Int → List (S39) → Int → Option (Int)
 | 0, _, _, _ => none
 | k + 1, l0, l1, a2 => if a2 < 0 then (some 0) else (if (l0.length : Int) = 0 then (if a2 = 0 then (some 1) else (some 0)) else (impl_countPairings.l0 k l0 l1 a2 0 1))
end
def impl_countPairings.T11 : Bool × List (List Nat × List Nat) := (true, [([], []), ([0], [0]), ([1], [1]), ([], []), ([], []), ([3, 4], [3, 4]), ([5], [5]), ([2, 6], [2, 6]), ([], []), ([8, 7, 7, 0, 1, 2, 3, 4, 5, 6, 7, 8], [7, 8])])
def impl_countPairings.B11 : List Nat := [0, 1, 3, 0, 0, 24, 56, 127, 0, 511]
theorem impl_countPairings.tab11 : rtab .any (opsOf Tryz.f62 11) = impl_countPairings.T11 := by kernel_rfl
theorem impl_countPairings.bits11 : waitsOk impl_countPairings.T11.2 impl_countPairings.B11 = true := by kernel_rfl
def impl_countPairings.T12 : Bool × List (List Nat × List Nat) := (true, [([], []), ([], []), ([0, 1], [0, 1]), ([2], [2]), ([], []), ([], []), ([5], [5]), ([4, 6], [4, 6]), ([3, 7, 3], [3, 7]), ([8, 8, 0, 1, 2, 3, 4, 5, 6, 7, 8], [8])])
def impl_countPairings.B12 : List Nat := [0, 0, 3, 7, 0, 0, 32, 112, 255, 511]
theorem impl_countPairings.tab12 : rtab .any (opsOf Tryz.f62 12) = impl_countPairings.T12 := by kernel_rfl
theorem impl_countPairings.bits12 : waitsOk impl_countPairings.T12.2 impl_countPairings.B12 = true := by kernel_rfl
def impl_countPairings.T13 : Bool × List (List Nat × List Nat) := (true, [([], []), ([], []), ([], []), ([2], [2]), ([], []), ([4], [4]), ([3, 5, 3], [3, 5]), ([], []), ([], []), ([], []), ([8, 9, 6], [8, 9]), ([7, 10], [7, 10]), ([1, 6, 11, 10], [1, 6, 11]), ([0, 12], [0, 12]), ([13, 12, 0, 1, 2, 3, 4, 5, 6, 7, 8, 9, 10, 11, 12, 13], [0, 13])])
def impl_countPairings.B13 : List Nat := [0, 0, 0, 4, 0, 16, 60, 0, 0, 0, 892, 2044, 4094, 8191, 16383]
theorem impl_countPairings.tab13 : rtab .any (opsOf Tryz.f62 13) = impl_countPairings.T13 := by kernel_rfl
theorem impl_countPairings.bits13 : waitsOk impl_countPairings.T13.2 impl_countPairings.B13 = true := by kernel_rfl
theorem impl_countPairings.calls (k : Nat) : ∀ (A0 : Option Addr) (c0 : Nat) (l0 : List Int) (A1 : Option Addr) (c1 : Nat) (l1 : List (S39)) (a2 : Int) (r : Int) (w : World) (hr0 : Kd.C (Kd.int .i64) w A0 l0.length l0) (hc0 : l0.length ≤ c0) (hr1 : Kd.C k39 w A1 l1.length l1) (hc1 : l1.length ≤ c1) (h : impl_countPairings.f k l0 l1 a2 = some r),
  Calls Tryz.prog 62 #[.slice A0 l0.length c0, .slice A1 l1.length c1, .int .i64 a2] w fun e w' => e = .returned (.int .i64 r) ∧ Below w.heap.size w w' := by
 induction k using Nat.strongRecOn with
 | _ k ih =>
 intro A0 c0 l0 A1 c1 l1 a2 r w hr0 hc0 hr1 hc1 h
 cases k with
 | zero => exact absurd h (by simp [impl_countPairings.f])
 | succ k =>
 simp only [impl_countPairings.f] at h;have hu39 := Tryz.underlying39;have HR0 := mk_ hr0;have HC0 := mk_ hc0;clear hr0 hc0;have HR1 := mk_ hr1;have HC1 := mk_ hc1;clear hr1 hc1;have HB := mk_ (Below.refl w.heap.size w);have H : (if a2 < 0 then (some 0) else (if (l0.length : Int) = 0 then (if a2 = 0 then (some 1) else (some 0)) else (impl_countPairings.l0 k l0 l1 a2 0 1))) = some r := h;clear h;by_cases c4 : a2 < 0
 ·rw [if_pos c4] at H;have c4b0 : decide (a2 < 0) = true := decide_eq_true c4;clear c4;obtain rfl := Option.some.inj H;go_enter Tryz.func62, Tryz.ntmps62;go_wp2;go_ret;exact ⟨ew_, bl_⟩
 ·rw [if_neg c4] at H;have c4b0 : decide (a2 < 0) = false := decide_eq_false c4;clear c4;by_cases c5 : (l0.length : Int) = 0
  ·rw [if_pos c5] at H;have c5b0 : ((l0.length : Int) == 0) = true := beq_iff_eq.mpr c5;have c5b1 : ((l0.length : Int) != 0) = false := bne_eq_false_iff_eq.mpr c5;clear c5;by_cases c6 : a2 = 0
   ·rw [if_pos c6] at H;have c6b0 : (a2 == 0) = true := beq_iff_eq.mpr c6;have c6b1 : (a2 != 0) = false := bne_eq_false_iff_eq.mpr c6;clear c6;obtain rfl := Option.some.inj H;go_enter Tryz.func62, Tryz.ntmps62;go_wp2;go_ret;exact ⟨ew_, bl_⟩
   ·rw [if_neg c6] at H;have c6b0 : (a2 == 0) = false := beq_eq_false_iff_ne.mpr c6;have c6b1 : (a2 != 0) = true := bne_iff_ne.mpr c6;obtain rfl := Option.some.inj H;go_enter Tryz.func62, Tryz.ntmps62;go_wp2;go_ret;exact ⟨ew_, bl_⟩
  ·rw [if_neg c5] at H;have c5b0 : ((l0.length : Int) == 0) = false := beq_eq_false_iff_ne.mpr c5;have c5b1 : ((l0.length : Int) != 0) = true := bne_iff_ne.mpr c5;have c5b2 : ¬ (l0 = []) := fun h_ => c5 (by rw [h_]; rfl)
   have H' := mk_ H;clear H;go_enter Tryz.func62, Tryz.ntmps62;go_wp2;go_loopg [7, 8] k (fun kq v7 v8 w' => ∃ (x7_1 : Int) (x8_1 : Int), v7 = .int .i64 x7_1 ∧ v8 = .int .i64 x8_1 ∧ Aside0 (impl_countPairings.l0 kq l0 l1 a2 x7_1 x8_1 = some r) ∧ Aside0 (kq ≤ k) ∧ Aside0 (Below w.heap.size w w'))
   case atStart => exact ⟨(0), (1), (es_), (es_), H', ⟨Nat.le_refl _⟩, ⟨bl_⟩⟩
   case round =>
    clear H';try clear c1
    try clear p2
    try clear c4
    try clear c4b0
    try clear c5
    try clear c5b0
    try clear c5b1
    try clear c5b2
    try clear c6
    try clear c6b0
    try clear c6b1
    obtain ⟨x7_1, x8_1, rfl, rfl, HA, HK1, HB⟩ := hrel
    cases gk with
    | zero => exact absurd HA.out (by simp [impl_countPairings.l0])
    | succ k1 =>
     have H := HA.out;clear HA;simp only [impl_countPairings.l0] at H;by_cases c7 : x8_1 < (l0.length : Int)
     ·rw [if_pos c7] at H;have c7b0 : decide (x8_1 < (l0.length : Int)) = true := decide_eq_true c7;clear c7;by_cases c8 : 0 < (l0.length : Int);rotate_left
      ·rw [if_neg c8] at H;exact absurd H (by simp)
      rw [if_pos c8] at H;have c8b0 : decide (0 < (l0.length : Int)) = true := decide_eq_true c8;have c8b1 : decide (0 < l0.length) = true := decide_eq_true (by omega);clear c8;by_cases c9 : 0 ≤ x8_1;rotate_left
      ·rw [if_neg c9] at H;exact absurd H (by simp)
      rw [if_pos c9] at H;have c9b0 : decide (0 ≤ x8_1) = true := decide_eq_true c9;clear c9;replace H := Option.bind_eq_some_iff.mp H;obtain ⟨⟨t363, t364⟩, A100, H⟩ := H;try dsimp only at H
      have A10 := mk_ A100;clear A100;by_cases c11 : 1 ≤ x8_1;rotate_left
      ·rw [if_neg c11] at H;exact absurd H (by simp)
      rw [if_pos c11] at H;have c11b0 := eq_true c11;have c11b1 : decide (1 ≤ x8_1) = true := decide_eq_true c11;clear c11;by_cases c12 : x8_1 ≤ (l0.length : Int);rotate_left
      ·rw [if_neg c12] at H;exact absurd H (by simp)
      rw [if_pos c12] at H;have c12b0 := eq_true c12;have c12b1 : decide (x8_1 ≤ (l0.length : Int)) = true := decide_eq_true c12;clear c12;replace H := Option.bind_eq_some_iff.mp H;obtain ⟨t367, A130, H⟩ := H;try dsimp only at H
      have A13 := mk_ A130;clear A130;obtain ⟨ji14, hji14⟩ : ∃ j_ : Int, (wrap64 (x8_1 + 1)) = j_ := ⟨_, rfl⟩;replace H : (if 0 ≤ (ji14) then (if (ji14) ≤ (l0.length : Int) then (if t367.length + (l0.drop ((ji14) : Int).toNat).length < 17592186044416 then ((impl_Chord_70.f l1).bind fun t374 => ((some (([(⟨t363, t364⟩ : S39)] : List (S39)) : List (S39))).bind fun y377 => (if t374.length + y377.length < 8796093022208 then ((impl_crossed.f k1 l1 t363 t364).bind fun t383 => ((impl_countPairings.f k1 (t367 ++ (l0.drop ((ji14) : Int).toNat)) (t374 ++ y377) (wrap64 (a2 - t383))).bind fun t384 => (impl_countPairings.l0 k1 l0 l1 a2 (wrap64 (x7_1 + t384)) ji14))) else (none)))) else (none)) else (none)) else (none)) = some r := by first | (rw [hji14] at H; exact H) | (simp only [hji14] at H ⊢; exact H)
      (try rw [hji14] at A10);(try rw [hji14] at A13);have hji14w : (IntKind.i64.wrap (x8_1 + 1)) = ji14 := (i64_w _).trans hji14;by_cases c15 : 0 ≤ (ji14);rotate_left
      ·rw [if_neg c15] at H;exact absurd H (by simp)
      rw [if_pos c15] at H;have c15b0 := eq_true c15;have c15b1 : decide (0 ≤ (ji14)) = true := decide_eq_true c15;clear c15;by_cases c16 : (ji14) ≤ (l0.length : Int);rotate_left
      ·rw [if_neg c16] at H;exact absurd H (by simp)
      rw [if_pos c16] at H;have c16b0 := eq_true c16;have c16b1 : decide ((ji14) ≤ (l0.length : Int)) = true := decide_eq_true c16;clear c16;by_cases c17 : t367.length + (l0.drop ((ji14) : Int).toNat).length < 17592186044416;rotate_left
      ·rw [if_neg c17] at H;exact absurd H (by simp)
      rw [if_pos c17] at H;have LMc17 := mk_ c17;clear c17;obtain ⟨y371, hy_⟩ : ∃ y_ : List Int, y_ = (t367 ++ (l0.drop ((ji14) : Int).toNat)) := ⟨_, rfl⟩;replace H : ((impl_Chord_70.f l1).bind fun t374 => ((some (([(⟨t363, t364⟩ : S39)] : List (S39)) : List (S39))).bind fun y377 => (if t374.length + y377.length < 8796093022208 then ((impl_crossed.f k1 l1 t363 t364).bind fun t383 => ((impl_countPairings.f k1 y371 (t374 ++ y377) (wrap64 (a2 - t383))).bind fun t384 => (impl_countPairings.l0 k1 l0 l1 a2 (wrap64 (x7_1 + t384)) ji14))) else (none)))) = some r := rp_;have Ny371 := mk_ hy_;clear hy_;replace H := Option.bind_eq_some_iff.mp H;obtain ⟨t374, A180, H⟩ := H;try dsimp only at H
      have A18 := mk_ A180;clear A180;obtain ⟨y377, hy_⟩ : ∃ y_ : List (S39), y_ = (([(⟨t363, t364⟩ : S39)] : List (S39))) := ⟨_, rfl⟩;replace H : (if t374.length + y377.length < 8796093022208 then ((impl_crossed.f k1 l1 t363 t364).bind fun t383 => ((impl_countPairings.f k1 y371 (t374 ++ y377) (wrap64 (a2 - t383))).bind fun t384 => (impl_countPairings.l0 k1 l0 l1 a2 (wrap64 (x7_1 + t384)) ji14))) else (none)) = some r := rp_;have Ny377 := mk_ hy_;clear hy_;by_cases c19 : t374.length + y377.length < 8796093022208;rotate_left
      ·rw [if_neg c19] at H;exact absurd H (by simp)
      rw [if_pos c19] at H;have LMc19 := mk_ c19;clear c19;obtain ⟨y380, hy_⟩ : ∃ y_ : List (S39), y_ = (t374 ++ y377) := ⟨_, rfl⟩;replace H : ((impl_crossed.f k1 l1 t363 t364).bind fun t383 => ((impl_countPairings.f k1 y371 y380 (wrap64 (a2 - t383))).bind fun t384 => (impl_countPairings.l0 k1 l0 l1 a2 (wrap64 (x7_1 + t384)) ji14))) = some r := rp_;have Ny380 := mk_ hy_;clear hy_;replace H := Option.bind_eq_some_iff.mp H;obtain ⟨t383, A200, H⟩ := H;try dsimp only at H
      have A20 := mk_ A200;clear A200;replace H := Option.bind_eq_some_iff.mp H;obtain ⟨t384, A210, H⟩ := H;try dsimp only at H
      have A21 := mk_ A210;clear A210;have H' := mk_ H;clear H;try go_wp2
      have n0_ := mk_ (below_drew1 HB.out);clear HB;have HB := n0_;clear n0_;have p361 : 0 ≤ (0 : Int) := (by omega);have q361 : 0 < (l0.length : Int) := od_;obtain ⟨ad361, e361, hx361_0⟩ := Kd.at_int HR0.out 0 p361 q361;have hw361_0 := hx361_0;(try rw [show ((0 : Int)).toNat = 0 from rfl] at hw361_0);(try rw [show 0 * 1 = 0 from rfl] at hw361_0);(try rw [Addr.add_zero'] at hw361_0);cases e361;have qi361 : (0 < l0.length) = True := eq_true (by omega);(try rw [show ((0 : Int)).toNat = 0 from rfl] at hx361_0);(try rw [Addr.add_zero'] at hx361_0);replace hx361_0 := (HB.out.cell (World.block_lt_of_cell? w _ hx361_0)).trans hx361_0;replace p361 := eq_true p361;replace q361 := eq_true q361;have p362 : 0 ≤ (x8_1 : Int) := od_;have q362 : x8_1 < (l0.length : Int) := od_;obtain ⟨ad362, e362, hx362_0⟩ := Kd.at_int HR0.out x8_1 p362 q362;have hw362_0 := hx362_0;obtain rfl : ad361 = ad362 := (by injection e362);replace hx362_0 := (HB.out.cell (World.block_lt_of_cell? w _ hx362_0)).trans hx362_0;replace p362 := eq_true p362;replace q362 := eq_true q362;refine start_ (n := 10) (S := fun w' => w'.cell? ad361 = some (.int .i64 (rd l0 0)) ∧ w'.cell? (ad361.add (x8_1).toNat) = some (.int .i64 (rd l0 x8_1))) (ds := []) #[false, false, false, false, false, false, false, false, false, false] (by kernel_rfl) rfl rfl ⟨((HB.out.cell (World.block_lt_of_cell? w _ hw361_0)).trans hw361_0), ((HB.out.cell (World.block_lt_of_cell? w _ hw362_0)).trans hw362_0)⟩ (fun hHeld => ?_); refine with_tabW impl_countPairings.tab11 impl_countPairings.bits11 (fun HT_ HW_ => ?_);generalize wr.drew = w22 at HB hx361_0 hx362_0 hHeld ⊢;refine pt_ 0 (some 24) HT_ ?_;refine pt_ 1 (some 25) HT_ ?_;refine pt_ 3 (some 27) HT_ ?_;refine pt_ 4 (some 28) HT_ ?_;refine pt_ 5 (some 29) HT_ ?_;refine tb2_ 2 (some 26) HT_ HW_ hHeld ?_;refine tb2_ 6 (some 30) HT_ HW_ hHeld ?_;refine join_ (σ := Nat) 1 #[true, true, true, true, true, true, true, true, true, false] (fun s_ => [(31, .agg #[.int .i64 t363, .int .i64 t364]), (9, .pointer (some ⟨s_, 0, none⟩))]) (fun s_ w' => (w'.cell? ad361 = some (.int .i64 (rd l0 0)) ∧ w'.cell? (ad361.add (x8_1).toNat) = some (.int .i64 (rd l0 x8_1))) ∧ (w'.heap[s_]? = some (.cells #[.int .i64 0, .int .i64 0] 39 (0, 0))) ∧ (w.heap.size ≤ s_) ∧ (w.heap.size ≤ s_) ∧ (Below w.heap.size w w')) ?_ ?_;rotate_left
      ·intro hCont;refine two_ (i := 7) (j := 8) (Ni := some 31) (Nj := some 9) #[true, true, true, true, true, true, true, true, false, false] #[true, true, true, true, true, true, true, false, true, false] rfl rfl rfl rfl (two_of HT_.out (by kernel_rfl)) (by decide) (by decide) (fun K hK => ?_) (fun K hK => ?_)
       ·skip;refine goes_ Tryz.func98 (by kernel_rfl) rfl #[.int .i64 (rd l0 0), .int .i64 (rd l0 x8_1)] (by rfl) rfl rfl ma_ ?_;with_reducible refine (impl_chord.calls (rd l0 0) (rd l0 x8_1) t363 t364 _ A10.out).mono ?_
        rintro e w23 ⟨rfl, hb⟩;refine ⟨_, rfl, ?_⟩;have n0_ := mk_ (below_step bl_ hb);clear HB;have HB := n0_;clear n0_;(try clear hb);(try clear hb2);(try clear hk);(try clear hi);refine hK.out _ _ ⟨((HB.out.cell (World.block_lt_of_cell? w _ hw361_0)).trans hw361_0), ((HB.out.cell (World.block_lt_of_cell? w _ hw362_0)).trans hw362_0)⟩ (fun hHeld => ?_);clear hK K;refine nm_ (some 31) ?_;refine one_ (i := 8) (N := some 9) #[true, true, true, true, true, true, true, true, true, false] rfl rfl (one_of HT_.out (by kernel_rfl)) (by decide) (fun K hK => ?_);refine box_step ?hg (N := 9) ?hd (cs := #[.int .i64 0, .int .i64 0]) (t := 39) ?hr ?_; (case hd => rfl); (case hg => rfl); (case hr => first | (go_simp; done) | (go_simp; rfl));intro gb365 hg w24 hbox hb;have n0_ := mk_ (below_step bl_ hb);have n1_ := mk_ (hbox);have n2_ := mk_ ((by rw [hg]; exact (below_size bl_) : w.heap.size ≤ gb365));have n3_ := n2_;clear HB;have HB := n0_;have BK365 := n1_;have GW365 := n2_;have GE365 := n3_;clear n0_ n1_ n2_ n3_ hb hbox hg;refine hK.out _ _ ⟨((HB.out.cell (World.block_lt_of_cell? w _ hw361_0)).trans hw361_0), ((HB.out.cell (World.block_lt_of_cell? w _ hw362_0)).trans hw362_0)⟩ (fun hHeld => ?_);clear hK K;refine nm_ (some 9) ?_;exact norm_ (by simp only [putAll, Act.put, List.setIfInBounds_toArray, List.set_cons_zero, List.set_cons_succ]) (hCont (gb365) _ ⟨hHeld, kb_, GW365.out, GE365.out, bg_⟩)
       ·skip;refine box_step ?hg (N := 9) ?hd (cs := #[.int .i64 0, .int .i64 0]) (t := 39) ?hr ?_; (case hd => rfl); (case hg => rfl); (case hr => first | (go_simp; done) | (go_simp; rfl));intro gb365 hg w23 hbox hb;have n0_ := mk_ (below_step bl_ hb);have n1_ := mk_ (hbox);have n2_ := mk_ ((by rw [hg]; exact (below_size bl_) : w.heap.size ≤ gb365));have n3_ := n2_;clear HB;have HB := n0_;have BK365 := n1_;have GW365 := n2_;have GE365 := n3_;clear n0_ n1_ n2_ n3_ hb hbox hg;refine hK.out _ _ ⟨((HB.out.cell (World.block_lt_of_cell? w _ hw361_0)).trans hw361_0), ((HB.out.cell (World.block_lt_of_cell? w _ hw362_0)).trans hw362_0)⟩ (fun hHeld => ?_);clear hK K;refine nm_ (some 9) ?_;refine one_ (i := 7) (N := some 31) #[true, true, true, true, true, true, true, true, true, false] rfl rfl (one_of HT_.out (by kernel_rfl)) (by decide) (fun K hK => ?_);refine goes_ Tryz.func98 (by kernel_rfl) rfl #[.int .i64 (rd l0 0), .int .i64 (rd l0 x8_1)] (by rfl) rfl rfl ma_ ?_;with_reducible refine (impl_chord.calls (rd l0 0) (rd l0 x8_1) t363 t364 _ A10.out).mono ?_
        rintro e w24 ⟨rfl, hb⟩;refine ⟨_, rfl, ?_⟩;have n0_ := mk_ (blk_below (g := gb365) (o := .cells #[.int .i64 0, .int .i64 0] 39 (0, 0)) kb_ hb);have n1_ := mk_ (below_step bg_ hb);clear BK365 HB;have BK365 := n0_;have HB := n1_;clear n0_ n1_;(try clear hb);(try clear hb2);(try clear hk);(try clear hi);refine hK.out _ _ ⟨((HB.out.cell (World.block_lt_of_cell? w _ hw361_0)).trans hw361_0), ((HB.out.cell (World.block_lt_of_cell? w _ hw362_0)).trans hw362_0)⟩ (fun hHeld => ?_);clear hK K;refine nm_ (some 31) ?_;exact norm_ (by simp only [putAll, Act.put, List.setIfInBounds_toArray, List.set_cons_zero, List.set_cons_succ]) (hCont (gb365) _ ⟨hHeld, kb_, GW365.out, GE365.out, bg_⟩)
      rintro gb365 w25 ⟨hS_, h0_, h1_, h2_, h3_⟩;have n0_ : Aside0 (w25.heap[gb365]? = some (.cells #[.int .i64 0, .int .i64 0] 39 (0, 0))) := ⟨h0_⟩;have n1_ : Aside0 (w.heap.size ≤ gb365) := ⟨h1_⟩;have n2_ : Aside0 (w.heap.size ≤ gb365) := ⟨h2_⟩;have n3_ : Aside0 (Below w.heap.size w w25) := ⟨h3_⟩;clear HB h0_ h1_ h2_ h3_;have BK365 := n0_;have GW365 := n1_;have GE365 := n2_;have HB := n3_;clear n0_ n1_ n2_ n3_;have hHeld : w25.cell? ad361 = some (.int .i64 (rd l0 0)) ∧ w25.cell? (ad361.add (x8_1).toNat) = some (.int .i64 (rd l0 x8_1)) := hS_;refine norm_ (a' := ?_) ?_ ?_;rotate_left
      ·simp only [putAll, Act.put, List.setIfInBounds_toArray, List.set_cons_zero, List.set_cons_succ];rfl
      refine one_ (i := 9) (N := none) #[true, true, true, true, true, true, true, true, true, true] rfl rfl (one_of HT_.out (by kernel_rfl)) (by decide) (fun K hK => ?_);have hs26 : w25.cell? ⟨gb365, 0, none⟩ = some (.int .i64 0) := (blk_cell BK365.out 0).trans rfl;have hfs26 := blk_frozen BK365.out 0;have hs27 : w25.cell? ⟨gb365, 1, none⟩ = some (.int .i64 0) := (blk_cell BK365.out 1).trans rfl;have hfs27 := blk_frozen BK365.out 1;refine skip_ (w1 := ?_) (by rfl) rfl ?_ ?_;rotate_left
      ·go_simp;rfl
      refine hK.out _ _ ⟨((cell_far (p := ⟨gb365, _, none⟩) (by first | exact Nat.ne_of_lt (Nat.lt_of_lt_of_le (by have := World.block_lt_of_cell? _ _ hw361_0; first | rwa [add_block] at this | exact this) GW365.out) | (rw [add_block]; exact Nat.ne_of_lt (Nat.lt_of_lt_of_le (by have := World.block_lt_of_cell? _ _ hw361_0; first | rwa [add_block] at this | exact this) GW365.out)) | (show (Addr.add _ _).block ≠ _; rw [add_block]; exact Nat.ne_of_lt (Nat.lt_of_lt_of_le (by have := World.block_lt_of_cell? _ _ hw361_0; first | rwa [add_block] at this | exact this) GW365.out)) | (dsimp only; exact Nat.ne_of_lt (Nat.lt_of_lt_of_le (by have := World.block_lt_of_cell? _ _ hw361_0; first | rwa [add_block] at this | exact this) GW365.out))) _).trans (((cell_far (p := ⟨gb365, _, none⟩) (by first | exact Nat.ne_of_lt (Nat.lt_of_lt_of_le (by have := World.block_lt_of_cell? _ _ hw361_0; first | rwa [add_block] at this | exact this) GW365.out) | (rw [add_block]; exact Nat.ne_of_lt (Nat.lt_of_lt_of_le (by have := World.block_lt_of_cell? _ _ hw361_0; first | rwa [add_block] at this | exact this) GW365.out)) | (show (Addr.add _ _).block ≠ _; rw [add_block]; exact Nat.ne_of_lt (Nat.lt_of_lt_of_le (by have := World.block_lt_of_cell? _ _ hw361_0; first | rwa [add_block] at this | exact this) GW365.out)) | (dsimp only; exact Nat.ne_of_lt (Nat.lt_of_lt_of_le (by have := World.block_lt_of_cell? _ _ hw361_0; first | rwa [add_block] at this | exact this) GW365.out))) _).trans (hHeld.1)))), ((cell_far (p := ⟨gb365, _, none⟩) (by first | exact Nat.ne_of_lt (Nat.lt_of_lt_of_le (by have := World.block_lt_of_cell? _ _ hw362_0; first | rwa [add_block] at this | exact this) GW365.out) | (rw [add_block]; exact Nat.ne_of_lt (Nat.lt_of_lt_of_le (by have := World.block_lt_of_cell? _ _ hw362_0; first | rwa [add_block] at this | exact this) GW365.out)) | (show (Addr.add _ _).block ≠ _; rw [add_block]; exact Nat.ne_of_lt (Nat.lt_of_lt_of_le (by have := World.block_lt_of_cell? _ _ hw362_0; first | rwa [add_block] at this | exact this) GW365.out)) | (dsimp only; exact Nat.ne_of_lt (Nat.lt_of_lt_of_le (by have := World.block_lt_of_cell? _ _ hw362_0; first | rwa [add_block] at this | exact this) GW365.out))) _).trans (((cell_far (p := ⟨gb365, _, none⟩) (by first | exact Nat.ne_of_lt (Nat.lt_of_lt_of_le (by have := World.block_lt_of_cell? _ _ hw362_0; first | rwa [add_block] at this | exact this) GW365.out) | (rw [add_block]; exact Nat.ne_of_lt (Nat.lt_of_lt_of_le (by have := World.block_lt_of_cell? _ _ hw362_0; first | rwa [add_block] at this | exact this) GW365.out)) | (show (Addr.add _ _).block ≠ _; rw [add_block]; exact Nat.ne_of_lt (Nat.lt_of_lt_of_le (by have := World.block_lt_of_cell? _ _ hw362_0; first | rwa [add_block] at this | exact this) GW365.out)) | (dsimp only; exact Nat.ne_of_lt (Nat.lt_of_lt_of_le (by have := World.block_lt_of_cell? _ _ hw362_0; first | rwa [add_block] at this | exact this) GW365.out))) _).trans (hHeld.2))))⟩ (fun hHeld => ?_);clear hK K;refine done_ (done_of HT_.out (by kernel_rfl)) ?_;try go_wp2
      have n0_ : Aside0 (((w25.setCell ⟨gb365, 0, none⟩ (.int .i64 t363)).setCell ⟨gb365, 1, none⟩ (.int .i64 t364)).heap[gb365]? = some (.cells #[.int .i64 t363, .int .i64 t364] 39 (0, 0))) := ⟨by (with_reducible repeat (first | refine blk_drewN ?_ _ | refine blk_drew ?_ | refine blk_alloc ?_ _)); refine blk_put (cs := #[.int .i64 t363, .int .i64 0]) ?_ 1 _ rfl; (with_reducible repeat (first | refine blk_drewN ?_ _ | refine blk_drew ?_ | refine blk_alloc ?_ _)); refine blk_put (cs := #[.int .i64 0, .int .i64 0]) ?_ 0 _ rfl; exact kk_ <| BK365.out⟩;have n1_ : Aside0 (Below w.heap.size w ((w25.setCell ⟨gb365, 0, none⟩ (.int .i64 t363)).setCell ⟨gb365, 1, none⟩ (.int .i64 t364))) := ⟨bg_⟩;(try clear BK365);(try clear HB);generalize ((w25.setCell ⟨gb365, 0, none⟩ (.int .i64 t363)).setCell ⟨gb365, 1, none⟩ (.int .i64 t364)) = w28 at n0_ n1_ ⊢;have BK365 := n0_;have HB := n1_;clear n0_ n1_;have n0_ := mk_ (blk_drew BK365.out);have n1_ := mk_ (below_drew1 HB.out);clear BK365 HB;have BK365 := n0_;have HB := n1_;clear n0_ n1_;obtain ⟨i030, hi030, _, hsz30, _⟩ := info_parts info3;obtain ⟨A30, hcut30, hA30, hC30⟩ := print_mid_of (P := Tryz.prog) (Value.int .i64) 0 46 3 .i64 .i64 Tryz.underlying46 hi030 hsz30 (some ad361) c0 l0 1 x8_1 (by omega) (by first | omega | exact od_) (od_) HC0.out;have HR366 := mk_ (Kd.C_of_reads (h1 := fun _ => rfl) (hA30 _ (Kd.reads_of_C HR0.out)));have HC366 := mk_ hC30;clear hA30 hC30 hi030 hsz30;obtain ⟨i031, hi031, _, hsz31, _⟩ := info_parts info3;obtain ⟨A31, hcut31, hA31, hC31⟩ := print_drop_of (P := Tryz.prog) (Value.int .i64) 0 46 3 .i64 Tryz.underlying46 hi031 hsz31 (some ad361) c0 l0 (ji14) (od_) (od_) HC0.out;have HR370 := mk_ (Kd.C_of_reads (h1 := fun _ => rfl) (hA31 _ (Kd.reads_of_C HR0.out)));have HC370 := mk_ hC31;clear hA31 hC31 hi031 hsz31;refine start_ (n := 10) (S := fun w' => True) (ds := []) #[false, false, false, false, false, false, false, false, false, false] (by kernel_rfl) rfl rfl trivial (fun hHeld => ?_); refine with_tabW impl_countPairings.tab12 impl_countPairings.bits12 (fun HT_ HW_ => ?_);generalize w28.drew = w29 at BK365 HB HR366 HR370 hHeld ⊢;refine pt_ 0 (some 32) HT_ ?_;refine pt_ 1 (some 33) HT_ ?_;refine pt_ 2 (some 34) HT_ ?_;refine pt_ 4 (some 36) HT_ ?_;refine pt_ 5 (some 37) HT_ ?_;refine pt_ 6 (some 38) HT_ ?_;refine pt_ 7 (some 39) HT_ ?_;refine one_ (i := 3) (N := some 35) #[true, true, true, true, true, true, true, true, false, false] rfl rfl (one_of HT_.out (by kernel_rfl)) (by decide) (fun K hK => ?_);refine goes_ Tryz.func99 (by kernel_rfl) rfl #[.slice A30 ((l0.take (x8_1 : Int).toNat).drop 1).length (c0 - 1)] (by rfl) rfl rfl (by (try simp only [List.map_toArray, List.map_cons, List.map_nil]); first | done | (rw [show ((l0.take (x8_1 : Int).toNat).drop 1).length = (x8_1.toNat - 1) from (by rw [List.length_drop, List.length_take]; have h_ : (x8_1 : Int) ≤ (l0.length : Int) := od_; omega)] <;> rfl) | rfl | (simp only [List.length_drop, List.length_take]; rfl)) ?_;with_reducible refine (slices_Clone_int_int.calls _ _ ((l0.take (x8_1 : Int).toNat).drop 1) t367 _ ?side1 ?side2 A13.out).mono ?_
      (case side1 => exact kc_ <| (Kd.C_below HR366.out HB.out));(case side2 => exact HC366.out);rintro e w32 ⟨v368, rfl, ho0, hb⟩;refine ⟨_, rfl, ?_⟩;have n0_ := mk_ (Kd.R_lower ho0 (below_size bg_));have n1_ := mk_ (blk_below (g := gb365) (o := .cells #[.int .i64 t363, .int .i64 t364] 39 (0, 0)) kb_ hb);have n2_ := mk_ (below_step bg_ hb);clear BK365 HB;have HO369 := n0_;have BK365 := n1_;have HB := n2_;clear n0_ n1_ n2_;(try clear hb);(try clear hb2);(try clear hk);(try clear hi);(try clear ho0);refine hK.out _ _ trivial (fun hHeld => ?_);clear hK K;refine nm_ (some 35) ?_;refine one_ (i := 8) (N := some 40) #[true, true, true, true, true, true, true, true, true, false] rfl rfl (one_of HT_.out (by kernel_rfl)) (by decide) (fun K hK => ?_);refine Kd.R_append_rows_step (Kd.int .i64) (w0 := w) w.heap.size (by rfl) (.tmp 35) (.tmp 39) 46 3 (.int .i64 0) 8 rfl Tryz.underlying46 info3 rfl (by decide) (by omega) v368 t367 (l0.drop ((ji14) : Int).toNat) _ _ _ (fun _ => True) (fun _ => False) rfl rfl ?aO ?aR (fun _ _ h => h) (fun _ h => h.elim) ?aF ?aB ?aS ?aL ?_;(case aR => first | (rw [← show (l0.drop ((ji14) : Int).toNat).length = (l0.length - (ji14).toNat) from List.length_drop]; exact kc_ <| (Kd.C_below HR370.out HB.out)) | (exact kc_ <| (Kd.C_below HR370.out HB.out)));(case aB => exact bg_);(case aF => exact (fun _ _ => trivial));(case aO => exact (kr_ <| HO369.out));(case aS => exact (below_size bg_));(case aL => have := LMc17.out; have hlx_ := (show (l0.drop ((ji14) : Int).toNat).length = (l0.length - (ji14).toNat) from List.length_drop); omega);intro v372 w33 ho hb hg hat;rw [← Ny371.out] at ho;have n0_ := mk_ (blk_grown (g := gb365) (o := .cells #[.int .i64 t363, .int .i64 t364] 39 (0, 0)) kb_ hg (Kd.R_ne HO369.out BK365.out (by decide)));have n1_ := mk_ (hb);have n2_ := mk_ (ho);clear BK365 HB HO369;have BK365 := n0_;have HB := n1_;have HO373 := n2_;clear n0_ n1_ n2_ ho hb hg hat;refine hK.out _ _ trivial (fun hHeld => ?_);clear hK K;refine nm_ (some 40) ?_;refine pt_ 9 (some 10) HT_ ?_;refine done_ (done_of HT_.out (by kernel_rfl)) ?_;obtain ⟨Ao34, co34, eo34⟩ := Kd.R_slice HO373.out;subst eo34;try go_wp2
      have n0_ := mk_ (Kd.R_drew HO373.out);have n1_ := mk_ (blk_drew BK365.out);have n2_ := mk_ (below_drew1 HB.out);clear HO373 BK365 HB;have HO373 := n0_;have BK365 := n1_;have HB := n2_;clear n0_ n1_ n2_;refine start_ (n := 15) (S := fun w' => w'.cell? ⟨gb365, 0, none⟩ = some (.int .i64 t363) ∧ w'.cell? ⟨gb365, 1, none⟩ = some (.int .i64 t364)) (ds := []) #[false, false, false, false, false, false, false, false, false, false, false, false, false, false, false] (by kernel_rfl) rfl rfl ⟨(blk_cell BK365.out 0).trans rfl, (blk_cell BK365.out 1).trans rfl⟩ (fun hHeld => ?_); refine with_tabW impl_countPairings.tab13 impl_countPairings.bits13 (fun HT_ HW_ => ?_);generalize w33.drew = w35 at HO373 BK365 HB hHeld ⊢;refine pt_ 0 (some 41) HT_ ?_;refine pt_ 1 (some 42) HT_ ?_;refine pt_ 2 (some 43) HT_ ?_;refine pt_ 7 (some 48) HT_ ?_;refine pt_ 8 (some 49) HT_ ?_;refine tb2_ 4 (some 45) HT_ HW_ hHeld ?_;refine tb2_ 9 (some 50) HT_ HW_ hHeld ?_;refine join_ (σ := Value × Value) 6 #[true, true, true, true, true, true, false, true, true, true, false, false, false, false, false] (fun s_ => [(44, s_.1), (46, s_.2)]) (fun s_ w' => (w'.cell? ⟨gb365, 0, none⟩ = some (.int .i64 t363) ∧ w'.cell? ⟨gb365, 1, none⟩ = some (.int .i64 t364)) ∧ (Kd.R (Kd.int .i64) 3 w' w.heap.size (fun _ => True) (.slice Ao34 y371.length co34) y371) ∧ (Kd.R k39 39 w' w.heap.size (fun k_ => some k_ ≠ (s_.2 : Value).ownBlock ∧ k_ ≠ gb365) s_.1 t374) ∧ (Kd.R k39 39 w' w.heap.size (fun k_ => some k_ ≠ (s_.1 : Value).ownBlock ∧ k_ ≠ gb365) s_.2 y377) ∧ (w'.heap[gb365]? = some (.cells #[.int .i64 t363, .int .i64 t364] 39 (0, 0))) ∧ (Below w.heap.size w w')) ?_ ?_;rotate_left
      ·intro hCont;refine two_ (i := 3) (j := 5) (Ni := some 44) (Nj := some 46) #[true, true, true, true, true, false, false, true, true, true, false, false, false, false, false] #[true, true, true, false, true, true, false, true, true, true, false, false, false, false, false] rfl rfl rfl rfl (two_of HT_.out (by kernel_rfl)) (by decide) (by decide) (fun K hK => ?_) (fun K hK => ?_)
       ·skip;refine goes_ Tryz.func70 (by kernel_rfl) rfl #[.slice A1 l1.length c1] (by rfl) rfl rfl ma_ ?_;with_reducible refine (impl_Chord_70.calls _ _ l1 t374 _ ?side1 ?side2 A18.out).mono ?_
        (case side1 => exact kc_ <| (Kd.C_below HR1.out HB.out));(case side2 => exact HC1.out);rintro e w36 ⟨v375, rfl, ho0, hb⟩;refine ⟨_, rfl, ?_⟩;have n0_ := mk_ (Kd.R_below (kr_ <| HO373.out) hb);have n1_ := mk_ (Kd.R_lower (Kd.R_newB ho0 (g := gb365) (o := .cells #[.int .i64 t363, .int .i64 t364] 39 (0, 0)) kb_) (below_size bg_));have n2_ := mk_ (blk_below (g := gb365) (o := .cells #[.int .i64 t363, .int .i64 t364] 39 (0, 0)) kb_ hb);have n3_ := mk_ (below_step bg_ hb);clear HO373 BK365 HB;have HO373 := n0_;have HO376 := n1_;have BK365 := n2_;have HB := n3_;clear n0_ n1_ n2_ n3_;(try clear hb);(try clear hb2);(try clear hk);(try clear hi);(try clear ho0);refine hK.out _ _ ⟨(blk_cell BK365.out 0).trans rfl, (blk_cell BK365.out 1).trans rfl⟩ (fun hHeld => ?_);clear hK K;refine nm_ (some 44) ?_;refine one_ (i := 5) (N := some 46) #[true, true, true, true, true, true, false, true, true, true, false, false, false, false, false] rfl rfl (one_of HT_.out (by kernel_rfl)) (by decide) (fun K hK => ?_);refine Kd.R_lit_step k39 _ 39 ?hg (N := 46) ?hd (xs := ([(⟨t363, t364⟩ : S39)] : List (S39))) (inner := [.int .i64 t363, .int .i64 t364]) (ok := fun _ => True) (okp := fun _ => True) ?hr ?hp (fun _ hk => hk) trivial (Below.refl _ _) (Nat.le_refl _) (by simp) ?_; (case hd => rfl); (case hg => rfl); (case hr => first | (go_simp; done) | (go_simp; rfl)); (case hp => exact (Reps.c2 (show Kd.M k39 _ _ _ (⟨t363, t364⟩ : S39) [.int .i64 t363, .int .i64 t364] from (k39_mkM _ _ _ (⟨t363, t364⟩ : S39) )) (Reps.none _ _)));intro v378 w37 ho38 hb hg_ hnew_;clear hg_ hnew_;(first | rw [← Ny377.out] at ho38 | (simp only [Int.reduceToNat] at ho38; rw [← Ny377.out] at ho38));have n0_ := mk_ (Kd.R_below (kr_ <| HO373.out) hb);have n1_ := mk_ (Kd.R_elder' (kr_ <| HO376.out) (Kd.R_base ho38) hb);have n2_ := mk_ (Kd.R_lower (Kd.R_newB (Kd.R_new' ho38 (Kd.R_lt (kr_ <| HO376.out))) (g := gb365) (o := .cells #[.int .i64 t363, .int .i64 t364] 39 (0, 0)) kb_) (below_size bg_));have n3_ := mk_ (blk_below (g := gb365) (o := .cells #[.int .i64 t363, .int .i64 t364] 39 (0, 0)) kb_ hb);have n4_ := mk_ (below_step bg_ hb);clear HO373 HO376 BK365 HB;have HO373 := n0_;have HO376 := n1_;have HO379 := n2_;have BK365 := n3_;have HB := n4_;clear n0_ n1_ n2_ n3_ n4_ hb ho38;refine hK.out _ _ ⟨(blk_cell BK365.out 0).trans rfl, (blk_cell BK365.out 1).trans rfl⟩ (fun hHeld => ?_);clear hK K;refine nm_ (some 46) ?_;exact norm_ (by simp only [putAll, Act.put, List.setIfInBounds_toArray, List.set_cons_zero, List.set_cons_succ]) (hCont (v375, v378) _ ⟨hHeld, (kr_ <| HO373.out), (kr_ <| Kd.R_mono HO376.out (fun _ hk => ⟨hk.2, hk.1.2⟩)), (kr_ <| Kd.R_mono HO379.out (fun _ hk => ⟨hk.1.2, hk.2⟩)), kb_, bg_⟩)
       ·skip;refine Kd.R_lit_step k39 _ 39 ?hg (N := 46) ?hd (xs := ([(⟨t363, t364⟩ : S39)] : List (S39))) (inner := [.int .i64 t363, .int .i64 t364]) (ok := fun _ => True) (okp := fun _ => True) ?hr ?hp (fun _ hk => hk) trivial (Below.refl _ _) (Nat.le_refl _) (by simp) ?_; (case hd => rfl); (case hg => rfl); (case hr => first | (go_simp; done) | (go_simp; rfl)); (case hp => exact (Reps.c2 (show Kd.M k39 _ _ _ (⟨t363, t364⟩ : S39) [.int .i64 t363, .int .i64 t364] from (k39_mkM _ _ _ (⟨t363, t364⟩ : S39) )) (Reps.none _ _)));intro v378 w36 ho37 hb hg_ hnew_;clear hg_ hnew_;(first | rw [← Ny377.out] at ho37 | (simp only [Int.reduceToNat] at ho37; rw [← Ny377.out] at ho37));have n0_ := mk_ (Kd.R_below (kr_ <| HO373.out) hb);have n1_ := mk_ (Kd.R_lower (Kd.R_newB ho37 (g := gb365) (o := .cells #[.int .i64 t363, .int .i64 t364] 39 (0, 0)) kb_) (below_size bg_));have n2_ := mk_ (blk_below (g := gb365) (o := .cells #[.int .i64 t363, .int .i64 t364] 39 (0, 0)) kb_ hb);have n3_ := mk_ (below_step bg_ hb);clear HO373 BK365 HB;have HO373 := n0_;have HO379 := n1_;have BK365 := n2_;have HB := n3_;clear n0_ n1_ n2_ n3_ hb ho37;refine hK.out _ _ ⟨(blk_cell BK365.out 0).trans rfl, (blk_cell BK365.out 1).trans rfl⟩ (fun hHeld => ?_);clear hK K;refine nm_ (some 46) ?_;refine one_ (i := 3) (N := some 44) #[true, true, true, true, true, true, false, true, true, true, false, false, false, false, false] rfl rfl (one_of HT_.out (by kernel_rfl)) (by decide) (fun K hK => ?_);refine goes_ Tryz.func70 (by kernel_rfl) rfl #[.slice A1 l1.length c1] (by rfl) rfl rfl ma_ ?_;with_reducible refine (impl_Chord_70.calls _ _ l1 t374 _ ?side1 ?side2 A18.out).mono ?_
        (case side1 => exact kc_ <| (Kd.C_below HR1.out HB.out));(case side2 => exact HC1.out);rintro e w38 ⟨v375, rfl, ho0, hb⟩;refine ⟨_, rfl, ?_⟩;have n0_ := mk_ (Kd.R_below (kr_ <| HO373.out) hb);have n1_ := mk_ (Kd.R_elder' (kr_ <| HO379.out) (Kd.R_base ho0) hb);have n2_ := mk_ (Kd.R_lower (Kd.R_newB (Kd.R_new' ho0 (Kd.R_lt (kr_ <| HO379.out))) (g := gb365) (o := .cells #[.int .i64 t363, .int .i64 t364] 39 (0, 0)) kb_) (below_size bg_));have n3_ := mk_ (blk_below (g := gb365) (o := .cells #[.int .i64 t363, .int .i64 t364] 39 (0, 0)) kb_ hb);have n4_ := mk_ (below_step bg_ hb);clear HO373 HO379 BK365 HB;have HO373 := n0_;have HO379 := n1_;have HO376 := n2_;have BK365 := n3_;have HB := n4_;clear n0_ n1_ n2_ n3_ n4_;(try clear hb);(try clear hb2);(try clear hk);(try clear hi);(try clear ho0);refine hK.out _ _ ⟨(blk_cell BK365.out 0).trans rfl, (blk_cell BK365.out 1).trans rfl⟩ (fun hHeld => ?_);clear hK K;refine nm_ (some 44) ?_;exact norm_ (by simp only [putAll, Act.put, List.setIfInBounds_toArray, List.set_cons_zero, List.set_cons_succ]) (hCont (v375, v378) _ ⟨hHeld, (kr_ <| HO373.out), (kr_ <| Kd.R_mono HO376.out (fun _ hk => ⟨hk.1.2, hk.2⟩)), (kr_ <| Kd.R_mono HO379.out (fun _ hk => ⟨hk.2, hk.1.2⟩)), kb_, bg_⟩)
      rintro ⟨v375, v378⟩ w39 ⟨hS_, h0_, h1_, h2_, h3_, h4_⟩;have n0_ : Aside0 (Kd.R (Kd.int .i64) 3 w39 w.heap.size (fun _ => True) (.slice Ao34 y371.length co34) y371) := ⟨h0_⟩;have n1_ : Aside0 (Kd.R k39 39 w39 w.heap.size (fun k_ => some k_ ≠ (v378 : Value).ownBlock ∧ k_ ≠ gb365) v375 t374) := ⟨h1_⟩;have n2_ : Aside0 (Kd.R k39 39 w39 w.heap.size (fun k_ => some k_ ≠ (v375 : Value).ownBlock ∧ k_ ≠ gb365) v378 y377) := ⟨h2_⟩;have n3_ : Aside0 (w39.heap[gb365]? = some (.cells #[.int .i64 t363, .int .i64 t364] 39 (0, 0))) := ⟨h3_⟩;have n4_ : Aside0 (Below w.heap.size w w39) := ⟨h4_⟩;clear HO373 BK365 HB h0_ h1_ h2_ h3_ h4_;have HO373 := n0_;have HO376 := n1_;have HO379 := n2_;have BK365 := n3_;have HB := n4_;clear n0_ n1_ n2_ n3_ n4_;have hHeld : w39.cell? ⟨gb365, 0, none⟩ = some (.int .i64 t363) ∧ w39.cell? ⟨gb365, 1, none⟩ = some (.int .i64 t364) := hS_;obtain ⟨Ao41, co41, eo41⟩ := Kd.R_slice HO379.out;(first | subst eo41 | (injection eo41 with f1_ f2_ f3_; have f4_ := f1_.symm; have f5_ := f3_.symm; clear f1_ f2_ f3_; subst f4_; subst f5_));refine norm_ (a' := ?_) ?_ ?_;rotate_left
      ·simp only [putAll, Act.put, List.setIfInBounds_toArray, List.set_cons_zero, List.set_cons_succ];rfl
      refine one_ (i := 6) (N := some 47) #[true, true, true, true, true, true, true, true, true, true, false, false, false, false, false] rfl rfl (one_of HT_.out (by kernel_rfl)) (by decide) (fun K hK => ?_);refine Kd.R_append_rows_step k39 (w0 := w) w.heap.size (by rfl) (.tmp 44) (.tmp 46) 26 39 (.agg #[(.int .i64 0), (.int .i64 0)]) 16 rfl Tryz.underlying26 info39 rfl (by decide) (by omega) v375 t374 y377 _ _ _ (fun k_ => some k_ ≠ (.slice Ao41 y377.length co41 : Value).ownBlock ∧ k_ ≠ gb365) (fun _ => False) rfl rfl ?aO ?aR (fun _ _ h => h) (fun _ h => h.elim) ?aF ?aB ?aS ?aL ?_;(case aR => exact kc_ <| (Kd.R_reads' HO379.out).2.2);(case aB => exact bg_);(case aF => exact (fun k_ hk => ⟨Kd.fresh' (Kd.R_lt (kr_ <| HO379.out)) k_ hk, Kd.freshB (g := gb365) (o := .cells #[.int .i64 t363, .int .i64 t364] 39 (0, 0)) kb_ k_ hk⟩));(case aO => exact (kr_ <| HO376.out));(case aS => exact (below_size bg_));(case aL => have := LMc19.out; omega);intro v381 w40 ho hb hg hat;rw [← Ny380.out] at ho;have n0_ := mk_ (blk_grown (g := gb365) (o := .cells #[.int .i64 t363, .int .i64 t364] 39 (0, 0)) kb_ hg (Kd.R_away HO376.out (fun _ hk => hk.2)));have n1_ := mk_ (Kd.R_over' (kr_ <| HO373.out) (Kd.R_typed (kr_ <| HO376.out)) (by decide) hg);have n2_ := mk_ (Kd.R_after (ok := (fun k_ => k_ ≠ gb365)) (kr_ <| Kd.R_mono HO379.out (fun _ hk => ⟨hk.2, hk.1⟩)) hg hat);have n3_ := mk_ (hb);have n4_ := mk_ (ho);clear BK365 HO373 HO379 HB HO376;have BK365 := n0_;have HO373 := n1_;have HO379 := n2_;have HB := n3_;have HO382 := n4_;clear n0_ n1_ n2_ n3_ n4_ ho hb hg hat;refine hK.out _ _ ⟨(blk_cell BK365.out 0).trans rfl, (blk_cell BK365.out 1).trans rfl⟩ (fun hHeld => ?_);clear hK K;refine nm_ (some 47) ?_;refine one_ (i := 10) (N := some 51) #[true, true, true, true, true, true, true, true, true, true, true, false, false, false, false] rfl rfl (one_of HT_.out (by kernel_rfl)) (by decide) (fun K hK => ?_);refine goes_ Tryz.func88 (by kernel_rfl) rfl #[.slice A1 l1.length c1, .agg #[.int .i64 t363, .int .i64 t364]] (by rfl) rfl rfl ma_ ?_;with_reducible refine (impl_crossed.calls k1 _ _ l1 t363 t364 t383 _ ?side1 ?side2 A20.out).mono ?_
      (case side1 => exact kc_ <| (Kd.C_below HR1.out HB.out));(case side2 => exact HC1.out);rintro e w42 ⟨rfl, hb⟩;refine ⟨_, rfl, ?_⟩;have n0_ := mk_ (Kd.R_below (kr_ <| HO373.out) hb);have n1_ := mk_ (Kd.R_below (kr_ <| HO379.out) hb);have n2_ := mk_ (Kd.R_below (kr_ <| HO382.out) hb);have n3_ := mk_ (blk_below (g := gb365) (o := .cells #[.int .i64 t363, .int .i64 t364] 39 (0, 0)) kb_ hb);have n4_ := mk_ (below_step bg_ hb);clear HO373 HO379 HO382 BK365 HB;have HO373 := n0_;have HO379 := n1_;have HO382 := n2_;have BK365 := n3_;have HB := n4_;clear n0_ n1_ n2_ n3_ n4_;(try clear hb);(try clear hb2);(try clear hk);(try clear hi);obtain ⟨Ao43, co43, eo43⟩ := Kd.R_slice HO382.out;(first | subst eo43 | (injection eo43 with f1_ f2_ f3_; have f4_ := f1_.symm; have f5_ := f3_.symm; clear f1_ f2_ f3_; subst f4_; subst f5_));refine hK.out _ _ ⟨(blk_cell BK365.out 0).trans rfl, (blk_cell BK365.out 1).trans rfl⟩ (fun hHeld => ?_);clear hK K;refine nm_ (some 51) ?_;refine pt_ 11 (some 52) HT_ ?_;refine one_ (i := 12) (N := some 53) #[true, true, true, true, true, true, true, true, true, true, true, true, true, false, false] rfl rfl (one_of HT_.out (by kernel_rfl)) (by decide) (fun K hK => ?_);refine goes_ Tryz.func62 (by kernel_rfl) rfl #[.slice Ao34 y371.length co34, .slice Ao43 y380.length co43, .int .i64 (wrap64 (a2 - t383))] (by rfl) rfl rfl ma_ ?_;with_reducible refine (ih k1 (by have := HK1.out; omega) _ _ y371 _ _ y380 (wrap64 (a2 - t383)) t384 _ ?side1 ?side2 ?side3 ?side4 A21.out).mono ?_
      (case side1 => exact kc_ <| (Kd.R_reads' HO373.out).2.2);(case side2 => exact (Kd.R_reads' HO373.out).2.1);(case side3 => exact kc_ <| (Kd.R_reads' HO382.out).2.2);(case side4 => exact (Kd.R_reads' HO382.out).2.1);rintro e w44 ⟨rfl, hb⟩;refine ⟨_, rfl, ?_⟩;have n0_ := mk_ (Kd.R_below (kr_ <| HO373.out) hb);have n1_ := mk_ (Kd.R_below (kr_ <| HO379.out) hb);have n2_ := mk_ (Kd.R_below (kr_ <| HO382.out) hb);have n3_ := mk_ (blk_below (g := gb365) (o := .cells #[.int .i64 t363, .int .i64 t364] 39 (0, 0)) kb_ hb);have n4_ := mk_ (below_step bg_ hb);clear HO373 HO379 HO382 BK365 HB;have HO373 := n0_;have HO379 := n1_;have HO382 := n2_;have BK365 := n3_;have HB := n4_;clear n0_ n1_ n2_ n3_ n4_;(try clear hb);(try clear hb2);(try clear hk);(try clear hi);refine hK.out _ _ ⟨(blk_cell BK365.out 0).trans rfl, (blk_cell BK365.out 1).trans rfl⟩ (fun hHeld => ?_);clear hK K;refine nm_ (some 53) ?_;refine pt_ 13 (some 54) HT_ ?_;refine pt_ 14 (some 7) HT_ ?_;refine done_ (done_of HT_.out (by kernel_rfl)) ?_;try go_wp2
      go_roundg k1
      case measure => have := HK1.out; omega
      case rel => exact ⟨(wrap64 (x7_1 + t384)), (ji14), (es_), (by first | rfl | (simp; done) | (simp only [← hji14] <;> (first | rfl | simp)) | (simp [*]; done)), H', ⟨by have := HK1.out; omega⟩, ⟨bg_⟩⟩
     ·rw [if_neg c7] at H;have c7b0 : decide (x8_1 < (l0.length : Int)) = false := decide_eq_false c7;clear c7;obtain rfl := Option.some.inj H;go_wp2;go_ret;exact ⟨ew_, bl_⟩
def nwList (q : Int → Bool) (lo : Int) : Nat → List Int
 | 0 => []
 | m + 1 => if q lo = true then lo :: nwList q (lo + 1) m else nwList q (lo + 1) m
def NwRel (q : Int → Bool) (hi : Int) (all done : List Int) (x : Int) : Prop := done ++ nwList q x (hi - x + 1).toNat = all ∧ (done.length : Int) ≤ x
theorem nwRel_yes {q : Int → Bool} {hi : Int} {all done : List Int} {x : Int} (h : NwRel q hi all done x) (hx : x ≤ hi) (hq : q x = true) : NwRel q hi all (done ++ [x]) (x + 1) := by
 obtain ⟨h, hl⟩ := h;obtain ⟨m, hm⟩ : ∃ m, (hi - x + 1).toNat = m + 1 := ⟨(hi - x).toNat, by omega⟩;rw [hm] at h;simp only [nwList, if_pos hq] at h;refine ⟨?_, by simp; omega⟩;rw [show (hi - (x + 1) + 1).toNat = m by omega, List.append_assoc];exact h
theorem nwRel_no {q : Int → Bool} {hi : Int} {all done : List Int} {x : Int} (h : NwRel q hi all done x) (hx : x ≤ hi) (hq : q x = false) : NwRel q hi all done (x + 1) := by
 obtain ⟨h, hl⟩ := h;obtain ⟨m, hm⟩ : ∃ m, (hi - x + 1).toNat = m + 1 := ⟨(hi - x).toNat, by omega⟩;rw [hm] at h;simp only [nwList, hq] at h;refine ⟨?_, by omega⟩;rw [show (hi - (x + 1) + 1).toNat = m by omega];simpa using h
theorem nwRel_end {q : Int → Bool} {hi : Int} {all done : List Int} {x : Int} (h : NwRel q hi all done x) (hx : ¬ x ≤ hi) : done = all := by
 obtain ⟨h, _⟩ := h;rw [show (hi - x + 1).toNat = 0 by omega] at h;simpa [nwList] using h
def NwPost (all : List Int) (w : World) (e : Ending) (w' : World) : Prop := ∃ v0_ : Value, e = .returned v0_ ∧ Kd.R (Kd.int .i64) 3 w' w.heap.size (fun _ => True) v0_ all ∧ Below w.heap.size w w'
theorem numbersWith_walk (q : Int → Bool) (g : Nat) (lb : Array Value) (eg : ∀ args w, (callFunc g args).run Tryz.prog w = .ok (.enter g args) w) (lo hi : Int) (h0 : 0 ≤ lo) (h1 : hi ≤ 1000) (w : World)
  (hq : ∀ (x : Int) (W : World), lo ≤ x → x ≤ hi → Below w.heap.size w W → Calls Tryz.prog g (#[.int .i64 x] ++ lb) W fun e w' => e = .returned (.bool (q x)) ∧ ∃ m, w' = W.drewN m) :
  Calls Tryz.prog 63 #[.int .i64 lo, .int .i64 hi, .func (.func g) #[] lb] w (NwPost (nwList q lo (hi - lo + 1).toNat) w) := by
 have HQ := mk_ hq;clear hq;have HH := mk_ h0;clear h0;have HB := mk_ (Below.refl w.heap.size w);obtain ⟨all, hall⟩ : ∃ all, nwList q lo (hi - lo + 1).toNat = all := ⟨_, rfl⟩;rw [hall];have HALL := mk_ hall;clear hall;go_enter Tryz.func63, Tryz.ntmps63;go_wp2;go_loopg [7, 8] (hi - lo + 1).toNat (fun gg v7 v8 wr => ∃ (x : Int) (ys : List Int), v8 = .int .i64 x ∧ Aside0 (lo ≤ x ∧ (hi - x + 1).toNat ≤ gg) ∧ Aside0 (x ≤ hi + 1 ∨ x = lo) ∧ Aside0 (NwRel q hi all ys x) ∧ Aside0 (Kd.R (Kd.int .i64) 3 wr w.heap.size (fun _ => True) v7 ys) ∧ Aside0 (Below w.heap.size w wr))
 case atStart => exact ⟨lo, [], rfl, ⟨Int.le_refl _, Nat.le_refl _⟩, ⟨.inr rfl⟩, ⟨by rw [List.nil_append]; exact HALL.out, by have := HH.out; simp; omega⟩, ⟨fun _ _ => trivial, OwnRow.lit w w.heap.size (Reps.none _ _) (Nat.le_refl _) (by simp)⟩, ⟨below_alloc (Below.refl _ _) _⟩⟩
 case round =>
  obtain ⟨x, ys, rfl, HX, HY, HR, HO_4, HB⟩ := hrel;by_cases hx : x ≤ hi
  ·have c0 : decide (x ≤ hi) = true := decide_eq_true hx;have HX1 := mk_ hx;have HH1 := mk_ h1;clear hx h1;have hcall := HQ.out x wr HX.out.1 HX1.out HB.out;have HZ := mk_ (show wrap64 (x + 1) = x + 1 by have := HX.out; have := HX1.out; have := HH.out; have := HH1.out; unfold wrap64; omega)
   cases hqx : q x with
   | true =>
    rw [hqx] at hcall;have HCALL := mk_ hcall;have HQX := mk_ hqx;clear hcall hqx;go_wp2_with fail;refine HCALL.out.mono ?_;rintro e w' ⟨rfl, m, rfl⟩;obtain ⟨y271, hy271⟩ : ∃ y_ : List Int, y_ = (ys ++ [x]) := ⟨_, rfl⟩;have Ny271 := mk_ hy271;clear hy271;go_wp2_with (first | ((with_reducible refine gate_builtin (b := .append) (xs := #[.tmp 19, .tmp 21]) rfl ?_); at_builtin; refine Kd.R_append (Kd.int .i64) (w0 := w) w.heap.size rfl (.tmp 19) (.tmp 21) 46 3 (.int .i64 0) 8 rfl Tryz.underlying46 info3 rfl (by decide) (by omega) u7 ys x [.int .i64 x] (fun _ => True) (fun _ => False) rfl rfl ?aP (fun _ hk => hk.elim) ?aF ?aO ?aB ?aS ?aL ?_; (case aP => exact rfl); (case aB => exact bl_); (case aF => exact (fun _ _ => trivial)); (case aO => exact (kr_ <| HO_4.out)); (case aS => exact (below_size bl_)); (case aL => have := HR.out.2; have := HX1.out; have := HH1.out; omega); intro v272 w6 ho hb hg hat; rw [← Ny271.out] at ho; have n0_ := mk_ (hb); have n1_ := mk_ (ho); clear HB HO_4; have HB := n0_; have HO273 := n1_; clear n0_ n1_ ho hb hg hat));go_roundg (hi - x).toNat
    case measure => have := HX.out; have := HX1.out; omega
    case rel => exact ⟨x + 1, y271, by rw [HZ.out], ⟨by have := HX.out; omega, by omega⟩, ⟨.inl (by have := HX1.out; omega)⟩, ⟨by rw [Ny271.out]; exact nwRel_yes HR.out HX1.out HQX.out⟩, HO273, HB⟩
   | false =>
    rw [hqx] at hcall;have HCALL := mk_ hcall;have HQX := mk_ hqx;clear hcall hqx;go_wp2_with fail;refine HCALL.out.mono ?_;rintro e w' ⟨rfl, m, rfl⟩;go_wp2_with fail;go_roundg (hi - x).toNat
    case measure => have := HX.out; have := HX1.out; omega
    case rel => exact ⟨x + 1, ys, by rw [HZ.out], ⟨by have := HX.out; omega, by omega⟩, ⟨.inl (by have := HX1.out; omega)⟩, ⟨nwRel_no HR.out HX1.out HQX.out⟩, ⟨Kd.R_drewN HO_4.out m⟩, ⟨pw_below_drewN HB.out m⟩⟩
  ·have c0 : decide (x ≤ hi) = false := decide_eq_false hx;have HX1 := mk_ hx;clear hx;obtain rfl := nwRel_end HR.out HX1.out;go_wp2;go_ret;exact ⟨_, rfl, HO_4.out, HB.out⟩
def impl_CountPairings.f (k : Nat) (a0 a1 : Int) : Option (Int × Bool) := (impl_isEven.f a0 12).bind fun t => if t = true then ((impl_within.f a1 0 100).bind fun t2 => if t2 = true then (if 0 ≤ a0 ∧ a0 ≤ 60 then ((impl_countPairings.f k (nwList (fun _ => true) 0 (a0 - 1 - 0 + 1).toNat) [] a1).bind fun n => some (n, true)) else none) else some (0, false)) else some (0, false)
theorem pairings_closure (x : Int) (W : World) : Calls Tryz.prog 64 (#[.int .i64 x] ++ #[]) W fun e w' => e = .returned (.bool true) ∧ ∃ m, w' = W.drewN m := by
 show Calls Tryz.prog 64 #[.int .i64 x] W _;go_enter Tryz.func64, Tryz.ntmps64;go_wp2;go_ret;exact ⟨rfl, 0, rfl⟩
theorem impl_CountPairings.calls (k : Nat) (a0 a1 : Int) (r1 : Int) (r2 : Bool) (w : World) (h : impl_CountPairings.f k a0 a1 = some (r1, r2)) :
  Calls Tryz.prog 19 #[.int .i64 a0, .int .i64 a1] w fun e w' => e = .returned (.tuple #[.int .i64 r1, .bool r2]) ∧ Below w.heap.size w w' := by
 unfold impl_CountPairings.f at h;obtain ⟨t, ht, h⟩ := Option.bind_eq_some_iff.mp h;have HI := mk_ (fun W => impl_isEven.calls a0 12 t W ht);clear ht
 cases t with
 | false =>
  rw [if_neg (by decide)] at h;injection h with h; injection h with e1 e2; subst e1; subst e2
  go_enter Tryz.func19, Tryz.ntmps19;go_wp2_with fail;refine (HI.out _).mono ?_;rintro e w' ⟨rfl, ⟨nd, rfl⟩⟩;go_wp2_with fail;go_ret2;exact ⟨rfl, pw_below_drewN (Below.refl _ _) nd⟩
 | true =>
  rw [if_pos rfl] at h;obtain ⟨t2, ht2, h⟩ := Option.bind_eq_some_iff.mp h;have HI2 := mk_ (fun W => impl_within.calls a1 0 100 t2 W ht2);clear ht2
  cases t2 with
  | false =>
   rw [if_neg (by decide)] at h;injection h with h; injection h with e1 e2; subst e1; subst e2
   go_enter Tryz.func19, Tryz.ntmps19;go_wp2_with fail;refine (HI.out _).mono ?_;rintro e w' ⟨rfl, ⟨nd, rfl⟩⟩;go_wp2_with fail;refine (HI2.out _).mono ?_;rintro e w' ⟨rfl, ⟨nd2, rfl⟩⟩;go_wp2_with fail;go_ret2;exact ⟨rfl, pw_below_drewN (Below.refl _ _) (nd + nd2)⟩
  | true =>
   rw [if_pos rfl] at h;by_cases hs : 0 ≤ a0 ∧ a0 ≤ 60
   ·rw [if_pos hs] at h;obtain ⟨n, hn, h⟩ := Option.bind_eq_some_iff.mp h;injection h with h; injection h with e1 e2; subst e1; subst e2
    obtain ⟨L, hL⟩ : ∃ L, nwList (fun _ => true) 0 (a0 - 1 - 0 + 1).toNat = L := ⟨_, rfl⟩;rw [hL] at hn;have HN := mk_ hn;have HLL := mk_ hL;clear hL;have hw : wrap64 (a0 - 1) = a0 - 1 := by unfold wrap64; omega
    have HL := mk_ hs;clear hn hs;go_enter Tryz.func19, Tryz.ntmps19;go_wp2_with fail;refine (HI.out _).mono ?_;rintro e w' ⟨rfl, ⟨nd, rfl⟩⟩;go_wp2_with fail;refine (HI2.out _).mono ?_;rintro e w' ⟨rfl, ⟨nd2, rfl⟩⟩;have hc := numbersWith_walk (fun _ => true) 64 #[] (enters_of Tryz.func64 (by kernel_rfl) rfl) 0 (a0 - 1) (by omega) (by have := HL.out; omega) (w.drewN (nd + nd2)) (fun x W _ _ _ => pairings_closure x W);rw [HLL.out] at hc;have HC := mk_ hc;clear hc;go_wp2_with fail;refine HC.out.mono ?_;rintro e w1 ⟨v, rfl, hR, hB⟩;obtain ⟨A, c, rfl, hlc, hC⟩ := Kd.R_reads hR;have HB := mk_ hB;have HK := mk_ (fun W (hW : W = w1) => impl_countPairings.calls k A c _ none 0 [] a1 n W (hW ▸ hC) hlc (Kd.C_nil _ _) (Nat.le_refl _) HN.out);clear hR hB hC;go_wp2_with fail;refine (HK.out _ rfl).mono ?_;rintro e w2 ⟨rfl, hb2⟩;go_wp2_with fail;go_ret2;exact ⟨rfl, below_step (below_step (pw_below_drewN (Below.refl _ _) (nd + nd2)) HB.out) hb2⟩
   ·rw [if_neg hs] at h;cases h
mutual
def spec_srCount.l0 : Nat → List (S39) → Int → List (S39) → Int → Int → Option (Int)
 | 0, _, _, _, _, _ => none
 | k + 1, x0, x3, x8, x9, x10 => if x10 < x9 then (if 0 ≤ x10 then (if x10 < (x8.length : Int) then (if 0 ≤ (wrap64 (x10 + 1)) then (if (wrap64 (x10 + 1)) ≤ (x0.length : Int) then ((some (x0.drop ((wrap64 (x10 + 1)) : Int).toNat : List (S39))).bind fun y387 => (spec_srCount.l1 k x0 x3 x8 x9 x10 y387 (y387.length : Int) 0 ((rd_T39 x8 x10).f0) ((rd_T39 x8 x10).f1))) else (none)) else (none)) else (none)) else (none)) else (some x3)
def spec_srCount.l1 : Nat → List (S39) → Int → List (S39) → Int → Int → List (S39) → Int → Int → Int → Int → Option (Int)
 | 0, _, _, _, _, _, _, _, _, _, _ => none
 | k + 1, x0, x3, x8, x9, x10, x18, x19, x20, x387000, x387001 => if x20 < x19 then (if 0 ≤ x20 then (if x20 < (x18.length : Int) then ((spec_srCross.f x387000 x387001 ((rd_T39 x18 x20).f0) ((rd_T39 x18 x20).f1)).bind fun t393 => (if t393 = true then (spec_srCount.l1 k x0 (wrap64 (x3 + 1)) x8 x9 x10 x18 x19 (wrap64 (x20 + 1)) x387000 x387001) else (spec_srCount.l1 k x0 x3 x8 x9 x10 x18 x19 (wrap64 (x20 + 1)) x387000 x387001))) else (none)) else (none)) else (spec_srCount.l0 k x0 x3 x8 x9 (wrap64 (x10 + 1)))
end
def spec_srCount.f (k : Nat) (l0 : List (S39)) : Option (Int) := spec_srCount.l0 k l0 0 l0 (l0.length : Int) 0
theorem spec_srCount.calls (k : Nat) (A0 : Option Addr) (c0 : Nat) (l0 : List (S39)) (r : Int) (w : World) (hr0 : Kd.C k39 w A0 l0.length l0) (hc0 : l0.length ≤ c0) (h : spec_srCount.f k l0 = some r) :
  Calls Tryz.prog 100 #[.slice A0 l0.length c0] w fun e w' => e = .returned (.int .i64 r) ∧ Below w.heap.size w w' := by
 have hu39 := Tryz.underlying39;have HR0 := mk_ hr0;have HC0 := mk_ hc0;clear hr0 hc0;have HB := mk_ (Below.refl w.heap.size w);have H : (spec_srCount.l0 k l0 0 l0 (l0.length : Int) 0) = some r := h;clear h;have H' := mk_ H;clear H;go_enter Tryz.func100, Tryz.ntmps100;go_wp2;go_loopg [3, 10] k (fun kq v3 v10 w' => ∃ (x3_1 : Int) (x10_1 : Int), v3 = .int .i64 x3_1 ∧ v10 = .int .i64 x10_1 ∧ Aside0 (spec_srCount.l0 kq l0 x3_1 l0 (l0.length : Int) x10_1 = some r) ∧ Aside0 (kq ≤ k) ∧ Aside0 (Below w.heap.size w w'))
 case atStart => exact ⟨(0), (0), (es_), (es_), H', ⟨Nat.le_refl _⟩, ⟨bl_⟩⟩
 case round =>
  clear H';try clear c1
  obtain ⟨x3_1, x10_1, rfl, rfl, HA, HK1, HB⟩ := hrel
  cases gk with
  | zero => exact absurd HA.out (by simp [spec_srCount.l0])
  | succ k1 =>
   have H := HA.out;clear HA;simp only [spec_srCount.l0] at H;by_cases c2 : x10_1 < (l0.length : Int)
   ·rw [if_pos c2] at H;have c2b0 : decide (x10_1 < (l0.length : Int)) = true := decide_eq_true c2;clear c2;by_cases c3 : 0 ≤ x10_1;rotate_left
    ·rw [if_neg c3] at H;exact absurd H (by simp)
    rw [if_pos c3] at H;have c3b0 : decide (0 ≤ x10_1) = true := decide_eq_true c3;clear c3;by_cases c4 : x10_1 < (l0.length : Int);rotate_left
    ·rw [if_neg c4] at H;exact absurd H (by simp)
    rw [if_pos c4] at H;have c4b0 : decide (x10_1 < (l0.length : Int)) = true := decide_eq_true c4;clear c4;obtain ⟨ji5, hji5⟩ : ∃ j_ : Int, (wrap64 (x10_1 + 1)) = j_ := ⟨_, rfl⟩;replace H : (if 0 ≤ (ji5) then (if (ji5) ≤ (l0.length : Int) then ((some (l0.drop ((ji5) : Int).toNat : List (S39))).bind fun y387 => (spec_srCount.l1 k1 l0 x3_1 l0 (l0.length : Int) x10_1 y387 (y387.length : Int) 0 ((rd_T39 l0 x10_1).f0) ((rd_T39 l0 x10_1).f1))) else (none)) else (none)) = some r := by first | (rw [hji5] at H; exact H) | (simp only [hji5] at H ⊢; exact H)
    have hji5w : (IntKind.i64.wrap (x10_1 + 1)) = ji5 := (i64_w _).trans hji5;by_cases c6 : 0 ≤ (ji5);rotate_left
    ·rw [if_neg c6] at H;exact absurd H (by simp)
    rw [if_pos c6] at H;have c6b0 := eq_true c6;have c6b1 : decide (0 ≤ (ji5)) = true := decide_eq_true c6;clear c6;by_cases c7 : (ji5) ≤ (l0.length : Int);rotate_left
    ·rw [if_neg c7] at H;exact absurd H (by simp)
    rw [if_pos c7] at H;have c7b0 := eq_true c7;have c7b1 : decide ((ji5) ≤ (l0.length : Int)) = true := decide_eq_true c7;clear c7;obtain ⟨y387, hy_⟩ : ∃ y_ : List (S39), y_ = (l0.drop ((ji5) : Int).toNat) := ⟨_, rfl⟩;replace H : (spec_srCount.l1 k1 l0 x3_1 l0 (l0.length : Int) x10_1 y387 (y387.length : Int) 0 ((rd_T39 l0 x10_1).f0) ((rd_T39 l0 x10_1).f1)) = some r := rp_;have Ny387 := mk_ hy_;clear hy_;have H' := mk_ H;clear H;have p385 : 0 ≤ (x10_1 : Int) := od_;have q385 : x10_1 < (l0.length : Int) := od_;obtain ⟨ad385, e385, hx385_0, hx385_1⟩ := at_T39 HR0.out x10_1 p385 q385;cases e385;replace hx385_0 := (HB.out.cell (World.block_lt_of_cell? w _ hx385_0)).trans hx385_0;replace hx385_1 := (HB.out.cell (World.block_lt_of_cell? w _ hx385_1)).trans hx385_1;replace p385 := eq_true p385;replace q385 := eq_true q385;go_wp2_with (first | ((with_reducible refine g_ 5 ?_); refine bx_ 5 #[.int .i64 0, .int .i64 0] 39 ?_; intro gb386 hg w8 hbox hb; have n0_ := mk_ (below_step bl_ hb); have n1_ := mk_ (hbox); have n2_ := mk_ ((by rw [hg]; exact (below_size bl_) : w.heap.size ≤ gb386)); have n3_ := n2_; clear HB; have HB := n0_; have BK386 := n1_; have GW386 := n2_; have GE386 := n3_; clear n0_ n1_ n2_ n3_ hb hbox hg; have hcz9_0 : w8.cell? ⟨gb386, 0, none⟩ = some (.int .i64 0) := (blk_cell BK386.out 0).trans rfl; have hcz9_1 : w8.cell? ⟨gb386, 1, none⟩ = some (.int .i64 0) := (blk_cell BK386.out 1).trans rfl; have hfz9_0 := blk_frozen BK386.out 0; have hfz9_1 := blk_frozen BK386.out 1) | ((with_reducible refine gate_store (t := 39) (p := 5) rfl ?_); refine store_event (t := 39) (p := 5) (v := ?vo_w10) (w1 := ((w8.setCell ⟨gb386, 0, none⟩ (.int .i64 ((rd_T39 l0 x10_1).f0))).setCell ⟨gb386, 1, none⟩ (.int .i64 ((rd_T39 l0 x10_1).f1)))) ?hg ?ho ?hn ?hr ?_; (case ho => rfl); (case hg => rfl); (case hn => rfl); (case hr => first | (go_simp; done) | (go_simp; rfl)); intro w10 hw; have n0_ : Aside0 (w10.heap[gb386]? = some (.cells #[.int .i64 ((rd_T39 l0 x10_1).f0), .int .i64 ((rd_T39 l0 x10_1).f1)] 39 (0, 0))) := ⟨(by rw [hw]; exact (by (with_reducible repeat (first | refine blk_drewN ?_ _ | refine blk_drew ?_ | refine blk_alloc ?_ _)); refine blk_put (cs := #[.int .i64 ((rd_T39 l0 x10_1).f0), .int .i64 0]) ?_ 1 _ rfl; (with_reducible repeat (first | refine blk_drewN ?_ _ | refine blk_drew ?_ | refine blk_alloc ?_ _)); refine blk_put (cs := #[.int .i64 0, .int .i64 0]) ?_ 0 _ rfl; exact kk_ <| BK386.out))⟩; have n1_ : Aside0 (Below w.heap.size w w10) := ⟨(by rw [hw]; exact bg_)⟩; clear hw BK386 HB; have BK386 := n0_; have HB := n1_; clear n0_ n1_; have q11 : ((ji5) : Int) ≤ ((l0.length : Int) : Int) := od_; obtain ⟨i011, hi011, _, hsz11, _⟩ := info_parts info39; have hroom11 : l0.length ≤ c0 := HC0.out; have hC11 : Kd.C k39 _ (some ad385) l0.length l0 := HR0.out; have q011 : (0 : Int) ≤ ((ji5) : Int) := od_; have hcut11 := cut_from (P := Tryz.prog) 26 39 .i64 Tryz.underlying26 hi011 2 hsz11 (some ad385) l0.length c0 (ji5) q011 q11; have hr11 := Kd.C_drop (m := ((ji5) : Int).toNat) (c := c0) hC11 (by omega) hroom11; obtain ⟨A11, hA11⟩ : ∃ AX_, AX_ = (if c0 = ((ji5) : Int).toNat then (some ad385) else ((some ad385) : Option Addr).map (·.add (((ji5) : Int).toNat * 2))) := ⟨_, rfl⟩; obtain ⟨c11, hc11⟩ : ∃ cX_, cX_ = c0 - ((ji5) : Int).toNat := ⟨_, rfl⟩; have hy11 : y387.length = l0.length - ((ji5) : Int).toNat := (by rw [Ny387.out, List.length_drop] <;> omega); rw [show (l0).drop ((ji5) : Int).toNat = y387 from Ny387.out.symm] at hr11; replace hr11 : Kd.C k39 _ A11 y387.length y387 := (by rw [hA11]; exact hr11); rw [← hy11, ← hA11, ← hc11] at hcut11; have HR390 := mk_ hr11; have HC390 := mk_ (show y387.length ≤ c11 from by rw [hy11, hc11]; exact Nat.sub_le_sub_right hroom11 _); clear hr11 hC11 hroom11 hi011 hsz11 hc11; have KY11 := mk_ hy11; have KA11 := mk_ hA11; clear hy11 hA11; replace q11 := eq_true q11));go_loopg [3, 20] k1 (fun kq v3 v20 w' => ∃ (x3_2 : Int) (x20_2 : Int), v3 = .int .i64 x3_2 ∧ v20 = .int .i64 x20_2 ∧ Aside0 (spec_srCount.l1 kq l0 x3_2 l0 (l0.length : Int) x10_1 y387 (y387.length : Int) x20_2 ((rd_T39 l0 x10_1).f0) ((rd_T39 l0 x10_1).f1) = some r) ∧ Aside0 (kq ≤ k1) ∧ Aside0 (w'.heap[gb386]? = some (.cells #[.int .i64 ((rd_T39 l0 x10_1).f0), .int .i64 ((rd_T39 l0 x10_1).f1)] 39 (0, 0))) ∧ Aside0 (Below w.heap.size w w'))
    case atStart => exact ⟨(x3_1), (0), (es_), (es_), H', ⟨Nat.le_refl _⟩, ⟨by exact kk_ <| BK386.out⟩, ⟨bg_⟩⟩
    case round =>
     clear H';try clear c1
     try clear q1
     try clear c2
     try clear c2b0
     try clear p2
     try clear c3
     try clear c3b0
     try clear p3
     try clear q3
     try clear hx3
     try clear c4
     try clear c4b0
     try clear c6
     try clear c6b0
     try clear c6b1
     try clear p6
     try clear c7
     try clear c7b0
     try clear c7b1
     try clear c10
     try clear c11
     try clear q11
     try clear hcz9_0
     try clear hcz9_1
     try clear hfz9_0
     try clear hfz9_1
     try clear hx385_0
     try clear hx385_1
     try clear p385
     try clear q011
     try clear q11
     try clear q385
     obtain ⟨x3_2, x20_2, rfl, rfl, HA, HK2, BK386, HB⟩ := hrel
     cases gk with
     | zero => exact absurd HA.out (by simp [spec_srCount.l1])
     | succ k2 =>
      have H := HA.out;clear HA;simp only [spec_srCount.l1] at H;by_cases c12 : x20_2 < (y387.length : Int)
      ·rw [if_pos c12] at H;have c12b0 : decide (x20_2 < (y387.length : Int)) = true := decide_eq_true c12;clear c12;by_cases c13 : 0 ≤ x20_2;rotate_left
       ·rw [if_neg c13] at H;exact absurd H (by simp)
       rw [if_pos c13] at H;have c13b0 : decide (0 ≤ x20_2) = true := decide_eq_true c13;clear c13;by_cases c14 : x20_2 < (y387.length : Int);rotate_left
       ·rw [if_neg c14] at H;exact absurd H (by simp)
       rw [if_pos c14] at H;have c14b0 : decide (x20_2 < (y387.length : Int)) = true := decide_eq_true c14;clear c14;replace H := Option.bind_eq_some_iff.mp H;obtain ⟨t393, A150, H⟩ := H;try dsimp only at H
       have A15 := mk_ A150;clear A150;by_cases c16 : t393 = true
       ·subst c16;have H1 : (spec_srCount.l1 k2 l0 (wrap64 (x3_2 + 1)) l0 (l0.length : Int) x10_1 y387 (y387.length : Int) (wrap64 (x20_2 + 1)) ((rd_T39 l0 x10_1).f0) ((rd_T39 l0 x10_1).f1)) = some r := by rw [if_pos rfl] at H; exact H
        clear H;have H := H1;clear H1;have H' := mk_ H;clear H;have p391 : 0 ≤ (x20_2 : Int) := od_;have q391 : x20_2 < (y387.length : Int) := od_;obtain ⟨ad391, e391, hx391_0, hx391_1⟩ := at_T39 HR390.out x20_2 p391 q391;cases e391;replace hx391_0 := (HB.out.cell (World.block_lt_of_cell? w _ hx391_0)).trans hx391_0;replace hx391_1 := (HB.out.cell (World.block_lt_of_cell? w _ hx391_1)).trans hx391_1;replace p391 := eq_true p391;replace q391 := eq_true q391;go_wp2_with (first | ((with_reducible refine g_ 7 ?_); refine bx_ 7 #[.int .i64 0, .int .i64 0] 39 ?_; intro gb392 hg w17 hbox hb; have n0_ := mk_ (blk_below (g := gb386) (o := .cells #[.int .i64 ((rd_T39 l0 x10_1).f0), .int .i64 ((rd_T39 l0 x10_1).f1)] 39 (0, 0)) kb_ hb); have n1_ := mk_ (below_step bg_ hb); have n2_ := mk_ (hbox); have n3_ := mk_ ((by rw [hg]; exact (below_size bg_) : w.heap.size ≤ gb392)); have n4_ := n3_; have n5_ := mk_ ((by rw [hg]; exact Nat.ne_of_lt (blk_lt (g := gb386) (o := .cells #[.int .i64 ((rd_T39 l0 x10_1).f0), .int .i64 ((rd_T39 l0 x10_1).f1)] 39 (0, 0)) kb_) : gb386 ≠ gb392)); have n6_ := mk_ ((by rw [hg]; exact Nat.ne_of_gt (blk_lt (g := gb386) (o := .cells #[.int .i64 ((rd_T39 l0 x10_1).f0), .int .i64 ((rd_T39 l0 x10_1).f1)] 39 (0, 0)) kb_) : gb392 ≠ gb386)); clear BK386 HB; have BK386 := n0_; have HB := n1_; have BK392 := n2_; have GW392 := n3_; have GE392 := n4_; have NB386_392 := n5_; have NB392_386 := n6_; clear n0_ n1_ n2_ n3_ n4_ n5_ n6_ hb hbox hg; have hnb18 := NB392_386.out; have hnc18 := NB386_392.out; have hcz19_0 : w17.cell? ⟨gb392, 0, none⟩ = some (.int .i64 0) := (blk_cell BK392.out 0).trans rfl; have hcz19_1 : w17.cell? ⟨gb392, 1, none⟩ = some (.int .i64 0) := (blk_cell BK392.out 1).trans rfl; have hfz19_0 := blk_frozen BK392.out 0; have hfz19_1 := blk_frozen BK392.out 1; have hcz20_0 : w17.cell? ⟨gb386, 0, none⟩ = some (.int .i64 ((rd_T39 l0 x10_1).f0)) := (blk_cell BK386.out 0).trans rfl; have hcz20_1 : w17.cell? ⟨gb386, 1, none⟩ = some (.int .i64 ((rd_T39 l0 x10_1).f1)) := (blk_cell BK386.out 1).trans rfl; have hfz20_0 := blk_frozen BK386.out 0; have hfz20_1 := blk_frozen BK386.out 1) | (refine gc_ 26 Tryz.func93 #[.agg #[.int .i64 ((rd_T39 l0 x10_1).f0), .int .i64 ((rd_T39 l0 x10_1).f1)], .agg #[.int .i64 ((rd_T39 y387 x20_2).f0), .int .i64 ((rd_T39 y387 x20_2).f1)]] ?_; (with_reducible refine (spec_srCross.calls ((rd_T39 l0 x10_1).f0) ((rd_T39 l0 x10_1).f1) ((rd_T39 y387 x20_2).f0) ((rd_T39 y387 x20_2).f1) true _ A15.out).mono ?_); rintro e w21 ⟨rfl, hb⟩; refine ⟨_, rfl, ?_⟩; have n0_ := mk_ (blk_below (g := gb386) (o := .cells #[.int .i64 ((rd_T39 l0 x10_1).f0), .int .i64 ((rd_T39 l0 x10_1).f1)] 39 (0, 0)) (by (with_reducible repeat (first | refine blk_drewN ?_ _ | refine blk_drew ?_ | refine blk_alloc ?_ _)); refine blk_far ?_ NB386_392.out _; (with_reducible repeat (first | refine blk_drewN ?_ _ | refine blk_drew ?_ | refine blk_alloc ?_ _)); refine blk_far ?_ NB386_392.out _; exact kk_ <| BK386.out) hb); have n1_ := mk_ (blk_below (g := gb392) (o := .cells #[.int .i64 ((rd_T39 y387 x20_2).f0), .int .i64 ((rd_T39 y387 x20_2).f1)] 39 (0, 0)) (by (with_reducible repeat (first | refine blk_drewN ?_ _ | refine blk_drew ?_ | refine blk_alloc ?_ _)); refine blk_put (cs := #[.int .i64 ((rd_T39 y387 x20_2).f0), .int .i64 0]) ?_ 1 _ rfl; (with_reducible repeat (first | refine blk_drewN ?_ _ | refine blk_drew ?_ | refine blk_alloc ?_ _)); refine blk_put (cs := #[.int .i64 0, .int .i64 0]) ?_ 0 _ rfl; exact kk_ <| BK392.out) hb); have n2_ := mk_ (below_step bg_ hb); clear BK386 BK392 HB; have BK386 := n0_; have BK392 := n1_; have HB := n2_; clear n0_ n1_ n2_; (try clear hb); (try clear hb2); (try clear hk); (try clear hi)));go_roundg k2
        case measure => have := HK1.out; have := HK2.out; omega
        case rel => exact ⟨(wrap64 (x3_2 + 1)), (wrap64 (x20_2 + 1)), (es_), (es_), H', ⟨by have := HK1.out; have := HK2.out; omega⟩, ⟨by exact kk_ <| BK386.out⟩, ⟨bg_⟩⟩
       ·replace c16 := Bool.eq_false_iff.mpr c16;subst c16;have H1 : (spec_srCount.l1 k2 l0 x3_2 l0 (l0.length : Int) x10_1 y387 (y387.length : Int) (wrap64 (x20_2 + 1)) ((rd_T39 l0 x10_1).f0) ((rd_T39 l0 x10_1).f1)) = some r := by rw [if_neg (show ¬ (false = true) by decide)] at H; exact H
        clear H;have H := H1;clear H1;have H' := mk_ H;clear H;have p391 : 0 ≤ (x20_2 : Int) := od_;have q391 : x20_2 < (y387.length : Int) := od_;obtain ⟨ad391, e391, hx391_0, hx391_1⟩ := at_T39 HR390.out x20_2 p391 q391;cases e391;replace hx391_0 := (HB.out.cell (World.block_lt_of_cell? w _ hx391_0)).trans hx391_0;replace hx391_1 := (HB.out.cell (World.block_lt_of_cell? w _ hx391_1)).trans hx391_1;replace p391 := eq_true p391;replace q391 := eq_true q391;go_wp2_with (first | ((with_reducible refine g_ 7 ?_); refine bx_ 7 #[.int .i64 0, .int .i64 0] 39 ?_; intro gb392 hg w22 hbox hb; have n0_ := mk_ (blk_below (g := gb386) (o := .cells #[.int .i64 ((rd_T39 l0 x10_1).f0), .int .i64 ((rd_T39 l0 x10_1).f1)] 39 (0, 0)) kb_ hb); have n1_ := mk_ (below_step bg_ hb); have n2_ := mk_ (hbox); have n3_ := mk_ ((by rw [hg]; exact (below_size bg_) : w.heap.size ≤ gb392)); have n4_ := n3_; have n5_ := mk_ ((by rw [hg]; exact Nat.ne_of_lt (blk_lt (g := gb386) (o := .cells #[.int .i64 ((rd_T39 l0 x10_1).f0), .int .i64 ((rd_T39 l0 x10_1).f1)] 39 (0, 0)) kb_) : gb386 ≠ gb392)); have n6_ := mk_ ((by rw [hg]; exact Nat.ne_of_gt (blk_lt (g := gb386) (o := .cells #[.int .i64 ((rd_T39 l0 x10_1).f0), .int .i64 ((rd_T39 l0 x10_1).f1)] 39 (0, 0)) kb_) : gb392 ≠ gb386)); clear BK386 HB; have BK386 := n0_; have HB := n1_; have BK392 := n2_; have GW392 := n3_; have GE392 := n4_; have NB386_392 := n5_; have NB392_386 := n6_; clear n0_ n1_ n2_ n3_ n4_ n5_ n6_ hb hbox hg; have hnb23 := NB392_386.out; have hnc23 := NB386_392.out; have hcz24_0 : w22.cell? ⟨gb392, 0, none⟩ = some (.int .i64 0) := (blk_cell BK392.out 0).trans rfl; have hcz24_1 : w22.cell? ⟨gb392, 1, none⟩ = some (.int .i64 0) := (blk_cell BK392.out 1).trans rfl; have hfz24_0 := blk_frozen BK392.out 0; have hfz24_1 := blk_frozen BK392.out 1; have hcz25_0 : w22.cell? ⟨gb386, 0, none⟩ = some (.int .i64 ((rd_T39 l0 x10_1).f0)) := (blk_cell BK386.out 0).trans rfl; have hcz25_1 : w22.cell? ⟨gb386, 1, none⟩ = some (.int .i64 ((rd_T39 l0 x10_1).f1)) := (blk_cell BK386.out 1).trans rfl; have hfz25_0 := blk_frozen BK386.out 0; have hfz25_1 := blk_frozen BK386.out 1) | (refine gc_ 26 Tryz.func93 #[.agg #[.int .i64 ((rd_T39 l0 x10_1).f0), .int .i64 ((rd_T39 l0 x10_1).f1)], .agg #[.int .i64 ((rd_T39 y387 x20_2).f0), .int .i64 ((rd_T39 y387 x20_2).f1)]] ?_; (with_reducible refine (spec_srCross.calls ((rd_T39 l0 x10_1).f0) ((rd_T39 l0 x10_1).f1) ((rd_T39 y387 x20_2).f0) ((rd_T39 y387 x20_2).f1) false _ A15.out).mono ?_); rintro e w26 ⟨rfl, hb⟩; refine ⟨_, rfl, ?_⟩; have n0_ := mk_ (blk_below (g := gb386) (o := .cells #[.int .i64 ((rd_T39 l0 x10_1).f0), .int .i64 ((rd_T39 l0 x10_1).f1)] 39 (0, 0)) (by (with_reducible repeat (first | refine blk_drewN ?_ _ | refine blk_drew ?_ | refine blk_alloc ?_ _)); refine blk_far ?_ NB386_392.out _; (with_reducible repeat (first | refine blk_drewN ?_ _ | refine blk_drew ?_ | refine blk_alloc ?_ _)); refine blk_far ?_ NB386_392.out _; exact kk_ <| BK386.out) hb); have n1_ := mk_ (blk_below (g := gb392) (o := .cells #[.int .i64 ((rd_T39 y387 x20_2).f0), .int .i64 ((rd_T39 y387 x20_2).f1)] 39 (0, 0)) (by (with_reducible repeat (first | refine blk_drewN ?_ _ | refine blk_drew ?_ | refine blk_alloc ?_ _)); refine blk_put (cs := #[.int .i64 ((rd_T39 y387 x20_2).f0), .int .i64 0]) ?_ 1 _ rfl; (with_reducible repeat (first | refine blk_drewN ?_ _ | refine blk_drew ?_ | refine blk_alloc ?_ _)); refine blk_put (cs := #[.int .i64 0, .int .i64 0]) ?_ 0 _ rfl; exact kk_ <| BK392.out) hb); have n2_ := mk_ (below_step bg_ hb); clear BK386 BK392 HB; have BK386 := n0_; have BK392 := n1_; have HB := n2_; clear n0_ n1_ n2_; (try clear hb); (try clear hb2); (try clear hk); (try clear hi)));go_roundg k2
        case measure => have := HK1.out; have := HK2.out; omega
        case rel => exact ⟨(x3_2), (wrap64 (x20_2 + 1)), (es_), (es_), H', ⟨by have := HK1.out; have := HK2.out; omega⟩, ⟨by exact kk_ <| BK386.out⟩, ⟨bg_⟩⟩
      ·rw [if_neg c12] at H;have c12b0 : decide (x20_2 < (y387.length : Int)) = false := decide_eq_false c12;clear c12;have H' := mk_ H;clear H;go_wp2;go_roundg k2
       case measure => have := HK1.out; have := HK2.out; omega
       case rel => exact ⟨(x3_2), (wrap64 (x10_1 + 1)), (es_), (es_), H', ⟨by have := HK1.out; have := HK2.out; omega⟩, ⟨bg_⟩⟩
   ·rw [if_neg c2] at H;have c2b0 : decide (x10_1 < (l0.length : Int)) = false := decide_eq_false c2;clear c2;obtain rfl := Option.some.inj H;go_wp2;go_ret;exact ⟨ew_, bl_⟩
end Go.Proofs.YtnofekfoonmedaaGreatDoor.X
end
