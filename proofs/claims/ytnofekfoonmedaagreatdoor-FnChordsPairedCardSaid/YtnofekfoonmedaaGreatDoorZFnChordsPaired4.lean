/- What the statement FnChordsPaired needs, part 5 of 7: words, contracts and lemmas, cut to what is named. Written by a program of this work (wip/tools/gpack.py) out of its texts and the print's. -/
import Derived.Test.YtnofekfoonmedaaGreatDoorZFnChordsPaired3
import Derived.Shelf.Spec.SlicesInsertGrow
set_option linter.unusedVariables false
set_option linter.unusedSimpArgs false
set_option maxHeartbeats 80000000
set_option maxRecDepth 100000
section
namespace Go.Proofs.YtnofekfoonmedaaGreatDoor.X
open Go.RowKit Go.Proofs.YtnofekfoonmedaaGreatDoorW.PrintWords Go.Proofs.YtnofekfoonmedaaGreatDoorW.PrintLast Go.Proofs.YtnofekfoonmedaaGreatDoorW.PrintMore
attribute [local go_sem] max2_int min2_int max_two min_two max_three min_three max_four min_four
set_option linter.unusedVariables false
set_option linter.unusedSimpArgs false
mutual
def spec_cdCount.j1 : Nat → Int → Int → List Bool → List (S39) → Int → Option (Int × List Bool)
 | 0, _, _, _, _, _ => none
 | k + 1, x0, x1, x2, x3, x9 => if x9 = x0 then ((spec_srCount.f k x3).bind fun t395 => (if t395 = x1 then (some (1, x2)) else (some (0, x2)))) else (if 0 ≤ x9 then (if x9 < (x2.length : Int) then (spec_cdCount.l1 k x0 x1 (x2.set (x9 : Int).toNat true) x3 x9 0 (wrap64 (x9 + 1))) else (none)) else (none))
def spec_cdCount.l1 : Nat → Int → Int → List Bool → List (S39) → Int → Int → Int → Option (Int × List Bool)
 | 0, _, _, _, _, _, _, _ => none
 | k + 1, x0, x1, x2, x3, x9, x10, x11 => if x11 < x0 then (if 0 ≤ x11 then (if x11 < (x2.length : Int) then (if rdOf false x2 x11 = true then (spec_cdCount.l1 k x0 x1 x2 x3 x9 x10 (wrap64 (x11 + 1))) else ((some (([] : List (S39)) : List (S39))).bind fun y399 => (if y399.length + x3.length < 8796093022208 then ((some (y399 ++ x3 : List (S39))).bind fun y402 => (if y402.length < 8796093022208 then ((spec_cdCount.f k x0 x1 (x2.set (x11 : Int).toNat true) (y402 ++ [(⟨x9, x11⟩ : S39)])).bind fun bt408 => (spec_cdCount.l1 k x0 x1 (bt408.2.set (x11 : Int).toNat false) x3 x9 (wrap64 (x10 + bt408.1)) (wrap64 (x11 + 1)))) else (none))) else (none)))) else (none)) else (none)) else (if 0 ≤ x9 then (if x9 < (x2.length : Int) then (some (x10, (x2.set (x9 : Int).toNat false))) else (none)) else (none))
def spec_cdCount.l0 : Nat → Int → Int → List Bool → List (S39) → Int → Option (Int × List Bool)
 | 0, _, _, _, _, _ => none
 | k + 1, x0, x1, x2, x3, x9 => if x9 < x0 then (if 0 ≤ x9 then (if x9 < (x2.length : Int) then (if rdOf false x2 x9 = true then (spec_cdCount.l0 k x0 x1 x2 x3 (wrap64 (x9 + 1))) else (spec_cdCount.j1 k x0 x1 x2 x3 x9)) else (none)) else (none)) else (spec_cdCount.j1 k x0 x1 x2 x3 x9)
def spec_cdCount.f : Nat → Int → Int → List Bool → List (S39) → Option (Int × List Bool)
 | 0, _, _, _, _ => none
 | k + 1, a0, a1, l2, l3 => spec_cdCount.l0 k a0 a1 l2 l3 0
end
theorem spec_cdCount.calls (k : Nat) : ∀ (a0 : Int) (a1 : Int) (P2_ : Nat → Prop) (u9000_ : Value) (l2 : List Bool) (A3 : Option Addr) (c3 : Nat) (l3 : List (S39)) (r1 : Int) (r2 : List Bool) (w0 w : World) (hB : Below w0.heap.size w0 w) (ho2 : Kd.R Kd.bool 4 w w0.heap.size P2_ u9000_ l2) (hr3 : ∀ W_, Kept w W_ (fun k_ => P2_ k_) → Kd.C k39 W_ A3 l3.length l3) (hc3 : l3.length ≤ c3) (h : spec_cdCount.f k a0 a1 l2 l3 = some (r1, r2)),
  Calls Tryz.prog 65 #[.int .i64 a0, .int .i64 a1, u9000_, .slice A3 l3.length c3] w fun e w' => e = .returned (.int .i64 r1) ∧ Kd.R Kd.bool 4 w' w0.heap.size (fun k_ => (P2_ k_ ∨ w.heap.size ≤ k_)) u9000_ r2 ∧ Below w0.heap.size w0 w' ∧ Kept w w' (fun k_ => P2_ k_) := by
 induction k using Nat.strongRecOn with
 | _ k ih =>
 intro a0 a1 P2_ u9000_ l2 A3 c3 l3 r1 r2 w0 w hB ho2 hr3 hc3 h
 cases k with
 | zero => exact absurd h (by simp [spec_cdCount.f])
 | succ k =>
 simp only [spec_cdCount.f] at h;have hu39 := Tryz.underlying39;have HO2 := mk_ (show Kd.R Kd.bool 4 w w0.heap.size (fun k_ => (P2_ k_ ∨ w.heap.size ≤ k_)) u9000_ l2 from Kd.R_mono ho2 (fun k_ hk => (.inl hk)));have HR3 := mk_ hr3;have HC3 := mk_ hc3;clear hr3 hc3;have HK := mk_ (Kept.refl w (fun k_ => P2_ k_));have HW0 := mk_ hB.size;have HB := mk_ hB;clear hB;have H : (spec_cdCount.l0 k a0 a1 l2 l3 0) = some (r1, r2) := h;clear h;have HC5 := mk_ H;clear H;go_enter Tryz.func65, Tryz.ntmps65;go_upto_block 0 with (fail)
 go_cut [9] (fun v9 wc => ∃ (kq : Nat) (x9_4 : Int), v9 = .int .i64 x9_4 ∧ Aside0 (spec_cdCount.j1 kq a0 a1 l2 l3 x9_4 = some (r1, r2)) ∧ Aside0 (kq ≤ k) ∧ Aside0 (Kd.R Kd.bool 4 wc w0.heap.size (fun k_ => (P2_ k_ ∨ w.heap.size ≤ k_)) u9000_ l2) ∧ Aside0 (Kept w wc (fun k_ => P2_ k_)) ∧ Aside0 (Below w0.heap.size w0 wc))
 case first =>
  have H := HC5.out;clear HC5;have H' := mk_ H;clear H;go_wp2;go_loopg [9] k (fun kq v9 w' => ∃ (x9_1 : Int), v9 = .int .i64 x9_1 ∧ Aside0 (spec_cdCount.l0 kq a0 a1 l2 l3 x9_1 = some (r1, r2)) ∧ Aside0 (kq ≤ k) ∧ Aside0 (Kd.R Kd.bool 4 w' w0.heap.size (fun k_ => (P2_ k_ ∨ w.heap.size ≤ k_)) u9000_ l2) ∧ Aside0 (Kept w w' (fun k_ => P2_ k_)) ∧ Aside0 (Below w0.heap.size w0 w'))
  case atStart => exact ⟨(0), (es_), H', ⟨Nat.le_refl _⟩, ⟨by exact kr_ <| HO2.out⟩, ⟨by repeat (first | (with_reducible first | exact HK.out | apply Kept.alloc | apply Kept.drewN | apply Kept.drew) | exact HK.out)⟩, ⟨bl_⟩⟩
  case round =>
   clear H';try clear p2
   try clear c3
   obtain ⟨x9_1, rfl, HA, HK1, HO_2, HK, HB⟩ := hrel
   cases gk with
   | zero => exact absurd HA.out (by simp [spec_cdCount.l0])
   | succ k1 =>
    have H := HA.out;clear HA;simp only [spec_cdCount.l0] at H;by_cases c6 : x9_1 < a0
    ·rw [if_pos c6] at H;have c6b0 : decide (x9_1 < a0) = true := decide_eq_true c6;clear c6;(first | rw [c6b0] | (simp only [i64_w, i32_w]; rw [c6b0]) | rw [c6b1] | skip);by_cases c7 : 0 ≤ x9_1;rotate_left
     ·rw [if_neg c7] at H;exact absurd H (by simp)
     rw [if_pos c7] at H;have c7b0 : decide (0 ≤ x9_1) = true := decide_eq_true c7;clear c7;by_cases c8 : x9_1 < (l2.length : Int);rotate_left
     ·rw [if_neg c8] at H;exact absurd H (by simp)
     rw [if_pos c8] at H;have c8b0 : decide (x9_1 < (l2.length : Int)) = true := decide_eq_true c8;clear c8;obtain ⟨bq9, hbq9⟩ : ∃ b_ : Bool, b_ = (rdOf false l2 x9_1) := ⟨_, rfl⟩;replace H : (if bq9 = true then (spec_cdCount.l0 k1 a0 a1 l2 l3 (wrap64 (x9_1 + 1))) else (spec_cdCount.j1 k1 a0 a1 l2 l3 x9_1)) = some (r1, r2) := by rw [← hbq9] at H; exact H
     have Nbq9 := mk_ hbq9;clear hbq9;by_cases c10 : bq9 = true
     ·subst c10;have H1 : (spec_cdCount.l0 k1 a0 a1 l2 l3 (wrap64 (x9_1 + 1))) = some (r1, r2) := by rw [if_pos rfl] at H; exact H
      clear H;have H := H1;clear H1;have H' := mk_ H;clear H;obtain ⟨Ao11, co11, eo11⟩ := Kd.R_slice HO_2.out;subst eo11;have p394 : 0 ≤ (x9_1 : Int) := od_;have q394 : x9_1 < (l2.length : Int) := od_;obtain ⟨ad394, e394, hx394_0⟩ := Kd.at_bool (Kd.R_reads' HO_2.out).2.2 x9_1 p394 q394;(try rw [← Nbq9.out] at hx394_0);cases e394;replace p394 := eq_true p394;replace q394 := eq_true q394;go_wp2;go_roundg k1
      case measure => have := HK1.out; omega
      case rel => exact ⟨(wrap64 (x9_1 + 1)), (es_), H', ⟨by have := HK1.out; omega⟩, ⟨by exact kr_ <| HO_2.out⟩, ⟨by repeat (first | (with_reducible first | exact HK.out | apply Kept.alloc | apply Kept.drewN | apply Kept.drew) | exact HK.out)⟩, ⟨bl_⟩⟩
     ·replace c10 := Bool.eq_false_iff.mpr c10;subst c10;have H1 : (spec_cdCount.j1 k1 a0 a1 l2 l3 x9_1) = some (r1, r2) := by rw [if_neg (show ¬ (false = true) by decide)] at H; exact H
      clear H;have H := H1;clear H1;have H' := mk_ H;clear H;obtain ⟨Ao12, co12, eo12⟩ := Kd.R_slice HO_2.out;subst eo12;have p394 : 0 ≤ (x9_1 : Int) := od_;have q394 : x9_1 < (l2.length : Int) := od_;obtain ⟨ad394, e394, hx394_0⟩ := Kd.at_bool (Kd.R_reads' HO_2.out).2.2 x9_1 p394 q394;(try rw [← Nbq9.out] at hx394_0);cases e394;replace p394 := eq_true p394;replace q394 := eq_true q394;go_wp2;go_meet
      case rel => exact ⟨_, (x9_1), (es_), H', ⟨by have := HK1.out; first | omega | exact Nat.le_refl _⟩, ⟨by exact kr_ <| HO_2.out⟩, ⟨by repeat (first | (with_reducible first | exact HK.out | apply Kept.alloc | apply Kept.drewN | apply Kept.drew) | exact HK.out)⟩, ⟨bl_⟩⟩
    ·rw [if_neg c6] at H;have c6b0 : decide (x9_1 < a0) = false := decide_eq_false c6;clear c6;(first | rw [c6b0] | (simp only [i64_w, i32_w]; rw [c6b0]) | rw [c6b1] | skip);have H' := mk_ H;clear H;go_wp2;go_meet
     case rel => exact ⟨_, (x9_1), (es_), H', ⟨by have := HK1.out; first | omega | exact Nat.le_refl _⟩, ⟨by exact kr_ <| HO_2.out⟩, ⟨by repeat (first | (with_reducible first | exact HK.out | apply Kept.alloc | apply Kept.drewN | apply Kept.drew) | exact HK.out)⟩, ⟨bl_⟩⟩
 case rest =>
  clear HC5;try clear c1
  try clear p2
  try clear c3
  try clear p3
  try clear q3
  try clear hx3
  try clear c6
  try clear c6b0
  try clear c6b1
  try clear p6
  try clear c7
  try clear c7b0
  try clear c8
  try clear c8b0
  try clear q9
  try clear c10
  try clear hx394_0
  try clear p2
  try clear p394
  try clear q394
  obtain ⟨kq, x9_4, rfl, HA, HJ4, HO_2, HK, HB⟩ := hcut
  cases kq with
  | zero => exact absurd HA.out (by simp [spec_cdCount.j1])
  | succ kj4 =>
   have H := HA.out;clear HA;simp only [spec_cdCount.j1] at H;by_cases c13 : x9_4 = a0
   ·rw [if_pos c13] at H;have c13b0 : (x9_4 == a0) = true := beq_iff_eq.mpr c13;have c13b1 : (x9_4 != a0) = false := bne_eq_false_iff_eq.mpr c13;clear c13;replace H := Option.bind_eq_some_iff.mp H;obtain ⟨t395, A140, H⟩ := H;try dsimp only at H
    have A14 := mk_ A140;clear A140;by_cases c15 : t395 = a1
    ·rw [if_pos c15] at H;have c15b0 : (t395 == a1) = true := beq_iff_eq.mpr c15;have c15b1 : (t395 != a1) = false := bne_eq_false_iff_eq.mpr c15;clear c15;simp only [Option.some.injEq, Prod.mk.injEq] at H;obtain ⟨rfl, rfl⟩ := H;go_wp2_with (first | (refine gc_ 28 Tryz.func100 #[.slice A3 l3.length c3] ?_; (with_reducible refine (spec_srCount.calls kj4 _ _ l3 t395 _ ?side1 ?side2 A14.out).mono ?_); (case side1 => exact Kd.C_kept_now HR3.out (by repeat (first | (with_reducible first | exact HK.out | apply Kept.alloc | apply Kept.drewN | apply Kept.drew) | exact HK.out))); (case side2 => exact HC3.out); rintro e w16 ⟨rfl, hb⟩; refine ⟨_, rfl, ?_⟩; have n0_ := mk_ (Kd.R_below (kr_ <| HO_2.out) hb); have n1_ := mk_ (Kept.below (S := (fun k_ => P2_ k_)) (by repeat (first | (with_reducible first | exact HK.out | apply Kept.alloc | apply Kept.drewN | apply Kept.drew) | exact HK.out)) hb); have n2_ := mk_ (below_step bl_ hb); clear HO_2 HK HB; have HO_2 := n0_; have HK := n1_; have HB := n2_; clear n0_ n1_ n2_; (try clear hb); (try clear hb2); (try clear hk); (try clear hi)));go_ret;exact ⟨ew_, by exact kr_ <| HO_2.out, bl_, by repeat (first | (with_reducible first | exact HK.out | apply Kept.alloc | apply Kept.drewN | apply Kept.drew) | exact HK.out)⟩
    ·rw [if_neg c15] at H;have c15b0 : (t395 == a1) = false := beq_eq_false_iff_ne.mpr c15;have c15b1 : (t395 != a1) = true := bne_iff_ne.mpr c15;simp only [Option.some.injEq, Prod.mk.injEq] at H;obtain ⟨rfl, rfl⟩ := H;go_wp2_with (first | (refine gc_ 28 Tryz.func100 #[.slice A3 l3.length c3] ?_; (with_reducible refine (spec_srCount.calls kj4 _ _ l3 t395 _ ?side1 ?side2 A14.out).mono ?_); (case side1 => exact Kd.C_kept_now HR3.out (by repeat (first | (with_reducible first | exact HK.out | apply Kept.alloc | apply Kept.drewN | apply Kept.drew) | exact HK.out))); (case side2 => exact HC3.out); rintro e w17 ⟨rfl, hb⟩; refine ⟨_, rfl, ?_⟩; have n0_ := mk_ (Kd.R_below (kr_ <| HO_2.out) hb); have n1_ := mk_ (Kept.below (S := (fun k_ => P2_ k_)) (by repeat (first | (with_reducible first | exact HK.out | apply Kept.alloc | apply Kept.drewN | apply Kept.drew) | exact HK.out)) hb); have n2_ := mk_ (below_step bl_ hb); clear HO_2 HK HB; have HO_2 := n0_; have HK := n1_; have HB := n2_; clear n0_ n1_ n2_; (try clear hb); (try clear hb2); (try clear hk); (try clear hi)));go_ret;exact ⟨ew_, by exact kr_ <| HO_2.out, bl_, by repeat (first | (with_reducible first | exact HK.out | apply Kept.alloc | apply Kept.drewN | apply Kept.drew) | exact HK.out)⟩
   ·rw [if_neg c13] at H;have c13b0 : (x9_4 == a0) = false := beq_eq_false_iff_ne.mpr c13;have c13b1 : (x9_4 != a0) = true := bne_iff_ne.mpr c13;by_cases c18 : 0 ≤ x9_4;rotate_left
    ·rw [if_neg c18] at H;exact absurd H (by simp)
    rw [if_pos c18] at H;have c18b0 : decide (0 ≤ x9_4) = true := decide_eq_true c18;clear c18;by_cases c19 : x9_4 < (l2.length : Int);rotate_left
    ·rw [if_neg c19] at H;exact absurd H (by simp)
    rw [if_pos c19] at H;have c19b0 : decide (x9_4 < (l2.length : Int)) = true := decide_eq_true c19;clear c19;obtain ⟨y396, hy_⟩ : ∃ y_ : List Bool, y_ = (l2.set (x9_4 : Int).toNat true) := ⟨_, rfl⟩;replace H : (spec_cdCount.l1 kj4 a0 a1 y396 l3 x9_4 0 (wrap64 (x9_4 + 1))) = some (r1, r2) := rp_;have Ny396 := mk_ hy_;clear hy_;have H' := mk_ H;clear H;have p20 : 0 ≤ (x9_4 : Int) := od_;have q20 : (x9_4 : Int) < ((l2.length : Int) : Int) := od_;obtain ⟨go20, co20, eo20, gb20, gl20, cl20, HG20⟩ := Kd.R_form HO_2.out (by omega);(first | cases eo20 | (injection eo20 with ea_ en_ ec_; (first | subst ea_ | (injection ea_ with ea_; subst ea_)); subst ec_; clear en_));have GB20 := mk_ gb20;have GG20 := mk_ HG20;clear gb20 gl20 HG20;have HMgo20 := mk_ (show (P2_ go20 ∨ w.heap.size ≤ go20) from (HO_2.out.1 _ rfl));obtain ⟨hx20_0, hf20_0⟩ := Kd.R_celln false HO_2.out (x9_4 : Int) p20 q20;replace p20 := eq_true p20;replace q20 := eq_true q20;have HP21 := Kd.R_putg HO_2.out (x9_4 : Int) true;go_wp2_with (first | ((with_reducible refine gate_store (t := 4) (p := 33) rfl ?_); refine store_event (t := 4) (p := 33) (v := ?vo_w22) (w1 := (wc.setCell ⟨go20, (x9_4 : Int).toNat, none⟩ (.bool true))) ?hg ?ho ?hn ?hr ?_; (case ho => rfl); (case hg => rfl); (case hn => rfl); (case hr => first | (go_simp; done) | (go_simp; rfl)); intro w22 hw; have hg : wc.grownBy w22 (some go20) := (by rw [hw]; exact HP21.2); have hp_ : Kd.R Kd.bool 4 w22 w0.heap.size (fun k_ => (P2_ k_ ∨ w.heap.size ≤ k_)) (.slice (some ⟨go20, 0, none⟩) l2.length co20) y396 := (by rw [hw, Ny396.out]; exact HP21.1); clear HP21; have n0_ := mk_ (hp_); have n1_ := mk_ ((by rw [hw]; exact below_set (HB.out) GB20.out : Below w0.heap.size w0 w22)); have n2_ := mk_ (Kept.of_grown (S := (fun k_ => P2_ k_)) hg (by repeat (first | (with_reducible first | exact HK.out | apply Kept.alloc | apply Kept.drewN | apply Kept.drew) | exact HK.out)) (fun k_ e_ => (HO_2.out.1 k_ e_))); clear HO_2 HB HK; have HO_2 := n0_; have HB := n1_; have HK := n2_; clear n0_ n1_ n2_ hg hw hp_));go_loopg [10, 11] kj4 (fun kq v10 v11 w' => ∃ (x2_2 : List Bool) (x10_2 : Int) (x11_2 : Int), v10 = .int .i64 x10_2 ∧ v11 = .int .i64 x11_2 ∧ Aside0 (spec_cdCount.l1 kq a0 a1 x2_2 l3 x9_4 x10_2 x11_2 = some (r1, r2)) ∧ Aside0 (kq ≤ kj4) ∧ Aside0 (Kd.R Kd.bool 4 w' w0.heap.size (fun k_ => (P2_ k_ ∨ w.heap.size ≤ k_)) (.slice (some ⟨go20, 0, none⟩) l2.length co20) x2_2) ∧ Aside0 (Kept w w' (fun k_ => P2_ k_)) ∧ Aside0 (Below w0.heap.size w0 w'))
    case atStart => exact ⟨(y396), (0), (wrap64 (x9_4 + 1)), (es_), (es_), H', ⟨Nat.le_refl _⟩, ⟨by exact kr_ <| HO_2.out⟩, ⟨by repeat (first | (with_reducible first | exact HK.out | apply Kept.alloc | apply Kept.drewN | apply Kept.drew) | exact HK.out)⟩, ⟨bl_⟩⟩
    case round =>
     clear H';try clear c1
     try clear p2
     try clear q2
     try clear hx2
     try clear c3
     try clear p3
     try clear q3
     try clear hx3
     try clear c6
     try clear c6b0
     try clear c6b1
     try clear p6
     try clear c7
     try clear c7b0
     try clear c8
     try clear c8b0
     try clear q9
     try clear c10
     try clear c13
     try clear c13b0
     try clear c13b1
     try clear c15
     try clear c15b0
     try clear c15b1
     try clear c18
     try clear c18b0
     try clear c19
     try clear c19b0
     try clear p20
     try clear q20
     try clear hx20
     try clear hf20
     try clear hx20_0
     try clear hx394_0
     try clear p2
     try clear p20
     try clear p3
     try clear p394
     try clear p6
     try clear q20
     try clear q3
     try clear q394
     try clear q9
     obtain ⟨x2_2, x10_2, x11_2, rfl, rfl, HA, HK2, HO_2, HK, HB⟩ := hrel;have hl2_2 := (Kd.R_reads' HO_2.out).1;rw [hl2_2] at HO_2;(try simp only [hl2_2])
     cases gk with
     | zero => exact absurd HA.out (by simp [spec_cdCount.l1])
     | succ k2 =>
      have H := HA.out;clear HA;simp only [spec_cdCount.l1] at H;by_cases c23 : x11_2 < a0
      ·rw [if_pos c23] at H;have c23b0 : decide (x11_2 < a0) = true := decide_eq_true c23;clear c23;by_cases c24 : 0 ≤ x11_2;rotate_left
       ·rw [if_neg c24] at H;exact absurd H (by simp)
       rw [if_pos c24] at H;have c24b0 : decide (0 ≤ x11_2) = true := decide_eq_true c24;clear c24;by_cases c25 : x11_2 < (x2_2.length : Int);rotate_left
       ·rw [if_neg c25] at H;exact absurd H (by simp)
       rw [if_pos c25] at H;have c25b0 : decide (x11_2 < (x2_2.length : Int)) = true := decide_eq_true c25;clear c25;obtain ⟨bq26, hbq26⟩ : ∃ b_ : Bool, b_ = (rdOf false x2_2 x11_2) := ⟨_, rfl⟩;replace H : (if bq26 = true then (spec_cdCount.l1 k2 a0 a1 x2_2 l3 x9_4 x10_2 (wrap64 (x11_2 + 1))) else ((some (([] : List (S39)) : List (S39))).bind fun y399 => (if y399.length + l3.length < 8796093022208 then ((some (y399 ++ l3 : List (S39))).bind fun y402 => (if y402.length < 8796093022208 then ((spec_cdCount.f k2 a0 a1 (x2_2.set (x11_2 : Int).toNat true) (y402 ++ [(⟨x9_4, x11_2⟩ : S39)])).bind fun bt408 => (spec_cdCount.l1 k2 a0 a1 (bt408.2.set (x11_2 : Int).toNat false) l3 x9_4 (wrap64 (x10_2 + bt408.1)) (wrap64 (x11_2 + 1)))) else (none))) else (none)))) = some (r1, r2) := by rw [← hbq26] at H; exact H
       have Nbq26 := mk_ hbq26;clear hbq26;by_cases c27 : bq26 = true
       ·subst c27;have H1 : (spec_cdCount.l1 k2 a0 a1 x2_2 l3 x9_4 x10_2 (wrap64 (x11_2 + 1))) = some (r1, r2) := by rw [if_pos rfl] at H; exact H
        clear H;have H := H1;clear H1;have H' := mk_ H;clear H;have p397 : 0 ≤ (x11_2 : Int) := od_;have q397 : x11_2 < (x2_2.length : Int) := od_;obtain ⟨ad397, e397, hx397_0⟩ := Kd.at_bool (Kd.R_reads' HO_2.out).2.2 x11_2 p397 q397;(try rw [← Nbq26.out] at hx397_0);obtain rfl : (⟨go20, 0, none⟩ : Addr) = ad397 := (by injection e397);(first | simp only [add_plain] at hx397_0 | simp only [add_at] at hx397_0 | simp only [Addr.add, Nat.zero_add] at hx397_0 | skip);replace p397 := eq_true p397;replace q397 := eq_true q397;go_wp2;(try simp only [← hl2_2]);go_roundg k2
        case measure => have := HJ4.out; have := HK2.out; omega
        case rel => exact ⟨(x2_2), (x10_2), (wrap64 (x11_2 + 1)), (es_), (es_), H', ⟨by have := HJ4.out; have := HK2.out; omega⟩, ⟨by (try simp only [hl2_2]); exact kr_ <| HO_2.out⟩, ⟨by repeat (first | (with_reducible first | exact HK.out | apply Kept.alloc | apply Kept.drewN | apply Kept.drew) | exact HK.out)⟩, ⟨bl_⟩⟩
       ·replace c27 := Bool.eq_false_iff.mpr c27;subst c27;have H1 : ((some (([] : List (S39)) : List (S39))).bind fun y399 => (if y399.length + l3.length < 8796093022208 then ((some (y399 ++ l3 : List (S39))).bind fun y402 => (if y402.length < 8796093022208 then ((spec_cdCount.f k2 a0 a1 (x2_2.set (x11_2 : Int).toNat true) (y402 ++ [(⟨x9_4, x11_2⟩ : S39)])).bind fun bt408 => (spec_cdCount.l1 k2 a0 a1 (bt408.2.set (x11_2 : Int).toNat false) l3 x9_4 (wrap64 (x10_2 + bt408.1)) (wrap64 (x11_2 + 1)))) else (none))) else (none))) = some (r1, r2) := by rw [if_neg (show ¬ (false = true) by decide)] at H; exact H
        clear H;have H := H1;clear H1;obtain ⟨y398, hy_⟩ : ∃ y_ : List Bool, y_ = (x2_2.set (x11_2 : Int).toNat true) := ⟨_, rfl⟩;replace H : ((some (([] : List (S39)) : List (S39))).bind fun y399 => (if y399.length + l3.length < 8796093022208 then ((some (y399 ++ l3 : List (S39))).bind fun y402 => (if y402.length < 8796093022208 then ((spec_cdCount.f k2 a0 a1 y398 (y402 ++ [(⟨x9_4, x11_2⟩ : S39)])).bind fun bt408 => (spec_cdCount.l1 k2 a0 a1 (bt408.2.set (x11_2 : Int).toNat false) l3 x9_4 (wrap64 (x10_2 + bt408.1)) (wrap64 (x11_2 + 1)))) else (none))) else (none))) = some (r1, r2) := rp_;have Ny398 := mk_ hy_;clear hy_;obtain ⟨y399, hy_⟩ : ∃ y_ : List (S39), y_ = (([] : List (S39))) := ⟨_, rfl⟩;replace H : (if y399.length + l3.length < 8796093022208 then ((some (y399 ++ l3 : List (S39))).bind fun y402 => (if y402.length < 8796093022208 then ((spec_cdCount.f k2 a0 a1 y398 (y402 ++ [(⟨x9_4, x11_2⟩ : S39)])).bind fun bt408 => (spec_cdCount.l1 k2 a0 a1 (bt408.2.set (x11_2 : Int).toNat false) l3 x9_4 (wrap64 (x10_2 + bt408.1)) (wrap64 (x11_2 + 1)))) else (none))) else (none)) = some (r1, r2) := rp_;have Ny399 := mk_ hy_;clear hy_;by_cases c29 : y399.length + l3.length < 8796093022208;rotate_left
        ·rw [if_neg c29] at H;exact absurd H (by simp)
        rw [if_pos c29] at H;have LMc29 := mk_ c29;clear c29;obtain ⟨y402, hy_⟩ : ∃ y_ : List (S39), y_ = (y399 ++ l3) := ⟨_, rfl⟩;replace H : (if y402.length < 8796093022208 then ((spec_cdCount.f k2 a0 a1 y398 (y402 ++ [(⟨x9_4, x11_2⟩ : S39)])).bind fun bt408 => (spec_cdCount.l1 k2 a0 a1 (bt408.2.set (x11_2 : Int).toNat false) l3 x9_4 (wrap64 (x10_2 + bt408.1)) (wrap64 (x11_2 + 1)))) else (none)) = some (r1, r2) := rp_;have Ny402 := mk_ hy_;clear hy_;by_cases c30 : y402.length < 8796093022208;rotate_left
        ·rw [if_neg c30] at H;exact absurd H (by simp)
        rw [if_pos c30] at H;have LMc30 := mk_ c30;clear c30;obtain ⟨y405, hy_⟩ : ∃ y_ : List (S39), y_ = (y402 ++ [(⟨x9_4, x11_2⟩ : S39)]) := ⟨_, rfl⟩;replace H : ((spec_cdCount.f k2 a0 a1 y398 y405).bind fun bt408 => (spec_cdCount.l1 k2 a0 a1 (bt408.2.set (x11_2 : Int).toNat false) l3 x9_4 (wrap64 (x10_2 + bt408.1)) (wrap64 (x11_2 + 1)))) = some (r1, r2) := rp_;have Ny405 := mk_ hy_;clear hy_;replace H := Option.bind_eq_some_iff.mp H;obtain ⟨⟨t408, t409⟩, A310, H⟩ := H;try dsimp only at H
        have A31 := mk_ A310;clear A310;obtain ⟨y410, hy_⟩ : ∃ y_ : List Bool, y_ = (t409.set (x11_2 : Int).toNat false) := ⟨_, rfl⟩;replace H : (spec_cdCount.l1 k2 a0 a1 y410 l3 x9_4 (wrap64 (x10_2 + t408)) (wrap64 (x11_2 + 1))) = some (r1, r2) := rp_;have Ny410 := mk_ hy_;clear hy_;have H' := mk_ H;clear H;have p397 : 0 ≤ (x11_2 : Int) := od_;have q397 : x11_2 < (x2_2.length : Int) := od_;obtain ⟨ad397, e397, hx397_0⟩ := Kd.at_bool (Kd.R_reads' HO_2.out).2.2 x11_2 p397 q397;(try rw [← Nbq26.out] at hx397_0);obtain rfl : (⟨go20, 0, none⟩ : Addr) = ad397 := (by injection e397);(first | simp only [add_plain] at hx397_0 | simp only [add_at] at hx397_0 | simp only [Addr.add, Nat.zero_add] at hx397_0 | skip);replace p397 := eq_true p397;replace q397 := eq_true q397;have p28 : 0 ≤ (x11_2 : Int) := od_;have q28 : (x11_2 : Int) < ((x2_2.length : Int) : Int) := od_;obtain ⟨hx28_0, hf28_0⟩ := Kd.R_celln false HO_2.out (x11_2 : Int) p28 q28;replace p28 := eq_true p28;replace q28 := eq_true q28;have HP33 := Kd.R_putg HO_2.out (x11_2 : Int) true;go_wp2_with (first | ((with_reducible refine gate_store (t := 4) (p := 47) rfl ?_); refine store_event (t := 4) (p := 47) (v := ?vo_w34) (w1 := (wr.setCell ⟨go20, (x11_2 : Int).toNat, none⟩ (.bool true))) ?hg ?ho ?hn ?hr ?_; (case ho => rfl); (case hg => rfl); (case hn => rfl); (case hr => first | (go_simp; done) | (go_simp; rfl)); intro w34 hw; have hg : wr.grownBy w34 (some go20) := (by rw [hw]; exact HP33.2); have hp_ : Kd.R Kd.bool 4 w34 w0.heap.size (fun k_ => (P2_ k_ ∨ w.heap.size ≤ k_)) (.slice (some ⟨go20, 0, none⟩) x2_2.length co20) y398 := (by rw [hw, Ny398.out]; exact HP33.1); clear HP33; have n0_ := mk_ (hp_); have n1_ := mk_ ((by rw [hw]; exact below_set (HB.out) GB20.out : Below w0.heap.size w0 w34)); have n2_ := mk_ (Kept.of_grown (S := (fun k_ => P2_ k_)) hg (by repeat (first | (with_reducible first | exact HK.out | apply Kept.alloc | apply Kept.drewN | apply Kept.drew) | exact HK.out)) (fun k_ e_ => (HO_2.out.1 k_ e_))); clear HO_2 HB HK; have HO_2 := n0_; have HB := n1_; have HK := n2_; clear n0_ n1_ n2_ hg hw hp_) | ((with_reducible refine g_ 48 ?_); refine Kd.R_lit k39 _ 39 ?hg (N := 48) ?hd (xs := ([] : List (S39))) (inner := []) (ok := fun _ => True) (okp := fun _ => True) ?hr ?hp (fun _ hk => hk) trivial (Below.refl _ _) (Nat.le_refl _) (by simp) ?_; (case hd => rfl); (case hg => rfl); (case hr => first | (go_simp; done) | (go_simp; rfl)); (case hp => exact (Reps.none _ _)); intro v400 w35 ho36 hb hg_ hnew_; clear hg_ hnew_; (first | rw [← Ny399.out] at ho36 | (simp only [Int.reduceToNat] at ho36; rw [← Ny399.out] at ho36)); have n0_ := mk_ (Kd.R_below (kr_ <| HO_2.out) hb); have n1_ := mk_ (Kd.R_lower (Kd.R_newM (M := fun k_ => (P2_ k_ ∨ w.heap.size ≤ k_)) ho36 (by first | exact HK.out.1 | exact (show Kept w _ (fun k_ => P2_ k_) from by repeat (first | (with_reducible first | exact HK.out | apply Kept.alloc | apply Kept.drewN | apply Kept.drew) | exact HK.out)).1) (fun k_ h_ => .inr h_)) (below_size bl_)); have n2_ := mk_ (Kept.below (S := (fun k_ => P2_ k_)) (by repeat (first | (with_reducible first | exact HK.out | apply Kept.alloc | apply Kept.drewN | apply Kept.drew) | exact HK.out)) hb); have n3_ := mk_ (below_step bl_ hb); clear HO_2 HK HB; have HO_2 := n0_; have HO401 := n1_; have HK := n2_; have HB := n3_; clear n0_ n1_ n2_ n3_ hb ho36) | ((with_reducible refine gate_builtin (b := .append) (xs := #[.tmp 48, .tmp 49]) rfl ?_); at_builtin; refine Kd.R_append_rows k39 (w0 := w0) w0.heap.size rfl (.tmp 48) (.tmp 49) 26 39 (.agg #[(.int .i64 0), (.int .i64 0)]) 16 rfl Tryz.underlying26 info39 rfl (by decide) (by omega) v400 y399 l3 _ _ _ (fun k_ => (P2_ k_ ∨ w.heap.size ≤ k_)) (fun _ => False) rfl rfl ?aO ?aR (fun _ _ h => h) (fun _ h => h.elim) ?aF ?aB ?aS ?aL ?_; (case aR => exact Kd.C_kept_now HR3.out (by repeat (first | (with_reducible first | exact HK.out | apply Kept.alloc | apply Kept.drewN | apply Kept.drew) | exact HK.out))); (case aB => exact bl_); (case aF => exact (fun k_ hk => (.inr (Nat.le_trans (by first | exact HK.out.1 | exact (show Kept w _ (fun k_ => P2_ k_) from by repeat (first | (with_reducible first | exact HK.out | apply Kept.alloc | apply Kept.drewN | apply Kept.drew) | exact HK.out)).1) hk)))); (case aO => exact (kr_ <| Kd.R_mono HO401.out (fun _ hk => hk.1))); (case aS => exact (below_size bl_)); (case aL => have := LMc29.out; omega); intro v403 w37 ho hb hg hat; rw [← Ny402.out] at ho; have n0_ := mk_ (Kd.R_over' (kr_ <| HO_2.out) (Kd.R_typed (kr_ <| HO401.out)) (by decide) hg); have n1_ := mk_ (hb); have n2_ := mk_ (Kept.of_grown (S := (fun k_ => P2_ k_)) hg (by repeat (first | (with_reducible first | exact HK.out | apply Kept.alloc | apply Kept.drewN | apply Kept.drew) | exact HK.out)) (fun k_ e_ => (HO401.out.1 k_ e_).1)); have n3_ := mk_ (ho); clear HO_2 HB HK HO401; have HO_2 := n0_; have HB := n1_; have HK := n2_; have HO404 := n3_; clear n0_ n1_ n2_ n3_ ho hb hg hat) | ((with_reducible refine gate_builtin (b := .append) (xs := #[.tmp 50, .tmp 54]) rfl ?_); at_builtin; refine Kd.R_append k39 (w0 := w0) w0.heap.size rfl (.tmp 50) (.tmp 54) 26 39 (.agg #[(.int .i64 0), (.int .i64 0)]) 16 rfl Tryz.underlying26 info39 rfl (by decide) (by omega) v403 y402 (⟨x9_4, x11_2⟩ : S39) [.int .i64 x9_4, .int .i64 x11_2] (fun k_ => (P2_ k_ ∨ w.heap.size ≤ k_)) (fun _ => False) rfl rfl ?aP (fun _ hk => hk.elim) ?aF ?aO ?aB ?aS ?aL ?_; (case aP => exact k39_mkM _ _ _ (⟨x9_4, x11_2⟩ : S39)); (case aB => exact bl_); (case aF => exact (fun k_ hk => (.inr (Nat.le_trans (by first | exact HK.out.1 | exact (show Kept w _ (fun k_ => P2_ k_) from by repeat (first | (with_reducible first | exact HK.out | apply Kept.alloc | apply Kept.drewN | apply Kept.drew) | exact HK.out)).1) hk)))); (case aO => exact (kr_ <| HO404.out)); (case aS => exact (below_size bl_)); (case aL => have := LMc30.out; omega); intro v406 w38 ho hb hg hat; rw [← Ny405.out] at ho; have n0_ := mk_ (Kd.R_over' (kr_ <| HO_2.out) (Kd.R_typed (kr_ <| HO404.out)) (by decide) hg); have n1_ := mk_ (hb); have n2_ := mk_ (Kept.of_grown (S := (fun k_ => P2_ k_)) hg (by repeat (first | (with_reducible first | exact HK.out | apply Kept.alloc | apply Kept.drewN | apply Kept.drew) | exact HK.out)) (fun k_ e_ => (HO404.out.1 k_ e_))); have n3_ := mk_ (ho); clear HO_2 HB HK HO404; have HO_2 := n0_; have HB := n1_; have HK := n2_; have HO407 := n3_; clear n0_ n1_ n2_ n3_ ho hb hg hat; obtain ⟨Ao39, co39, eo39⟩ := Kd.R_slice HO407.out; subst eo39) | (refine gc_ 61 Tryz.func65 #[.int .i64 a0, .int .i64 a1, .slice (some ⟨go20, 0, none⟩) x2_2.length co20, .slice Ao39 y405.length co39] ?_; (with_reducible refine (ih k2 (by have := HJ4.out; have := HK2.out; omega) a0 a1 (fun k_ => some k_ = (.slice (some ⟨go20, 0, none⟩) x2_2.length co20 : Value).ownBlock) (.slice (some ⟨go20, 0, none⟩) x2_2.length co20) y398 _ _ y405 t408 t409 w0 _ ?side1 ?side2 ?side3 ?side4 A31.out).mono ?_); (case side1 => repeat (first | (with_reducible first | exact HB.out | apply below_alloc | apply pw_below_drewN | apply below_drew1) | exact HB.out)); (case side2 => exact Kd.R_tight rfl HO_2.out); (case side3 => exact Kd.C_kept_own ((Kd.R_apart' HO407.out (Kd.R_typed HO_2.out) (by decide))) (fun k_ hk_ hs_ => (hk_.2) hs_)); (case side4 => exact (Kd.R_reads' HO407.out).2.1); rintro e w40 ⟨rfl, hy0, hb, hkp⟩; refine ⟨_, rfl, ?_⟩; have n0_ := mk_ (Kd.R_reok rfl hy0 (fun k_ e_ => HO_2.out.1 k_ e_)); have n1_ := mk_ (Kd.R_mono (ok' := fun k_ => (P2_ k_ ∨ w.heap.size ≤ k_)) (Kd.R_keptB ((Kd.R_apart' HO407.out (Kd.R_typed HO_2.out) (by decide))) hkp (fun k_ hk_ hs_ => (hk_.2) hs_)) (fun k_ hk_ => hk_.1.1)); have n2_ := mk_ (Kept.then_ (S := (fun k_ => P2_ k_)) (by repeat (first | (with_reducible first | exact HK.out | apply Kept.alloc | apply Kept.drewN | apply Kept.drew) | exact HK.out)) hkp (fun k_ hs_ => (fun e_ => (HO_2.out.1 k_ e_.symm)) hs_)); have n3_ := mk_ (hb); clear HO_2 HO407 HK HB; have HO_2 := n0_; have HO407 := n1_; have HK := n2_; have HB := n3_; clear n0_ n1_ n2_ n3_; (try clear hb); (try clear hkp); (try clear hy0); have p32 : 0 ≤ (x11_2 : Int) := od_; have q32 : (x11_2 : Int) < ((x2_2.length : Int) : Int) := od_; obtain ⟨hx32_0, hf32_0⟩ := Kd.R_celln false HO_2.out (x11_2 : Int) p32 q32; replace p32 := eq_true p32; replace q32 := eq_true q32; obtain ⟨hy41_, hz41_⟩ := Kd.R_celln false HO_2.out (x11_2 : Int) (od_) (od_); have HP41 := Kd.R_putg HO_2.out (x11_2 : Int) false) | ((with_reducible refine gate_store (t := 4) (p := 65) rfl ?_); refine store_event (t := 4) (p := 65) (v := ?vo_w42) (w1 := (w40.setCell ⟨go20, (x11_2 : Int).toNat, none⟩ (.bool false))) ?hg ?ho ?hn ?hr ?_; (case ho => rfl); (case hg => rfl); (case hn => rfl); (case hr => first | (go_simp; done) | (go_simp; rfl)); intro w42 hw; have hg : w40.grownBy w42 (some go20) := (by rw [hw]; exact HP41.2); have hp_ : Kd.R Kd.bool 4 w42 w0.heap.size (fun k_ => (P2_ k_ ∨ w.heap.size ≤ k_)) (.slice (some ⟨go20, 0, none⟩) x2_2.length co20) y410 := (by rw [hw, Ny410.out]; exact HP41.1); clear HP41; have n0_ := mk_ (hp_); have n1_ := mk_ (Kd.R_over' (v := (.slice (some ⟨go20, 0, none⟩) x2_2.length co20)) (kr_ <| HO407.out) (Kd.R_typed HO_2.out) (by decide) hg); have n2_ := mk_ ((by rw [hw]; exact below_set (HB.out) GB20.out : Below w0.heap.size w0 w42)); have n3_ := mk_ (Kept.of_grown (S := (fun k_ => P2_ k_)) hg (by repeat (first | (with_reducible first | exact HK.out | apply Kept.alloc | apply Kept.drewN | apply Kept.drew) | exact HK.out)) (fun k_ e_ => (HO_2.out.1 k_ e_))); clear HO_2 HO407 HB HK; have HO_2 := n0_; have HO407 := n1_; have HB := n2_; have HK := n3_; clear n0_ n1_ n2_ n3_ hg hw hp_));(try simp only [← hl2_2]);go_roundg k2
        case measure => have := HJ4.out; have := HK2.out; omega
        case rel => exact ⟨(y410), (wrap64 (x10_2 + t408)), (wrap64 (x11_2 + 1)), (es_), (es_), H', ⟨by have := HJ4.out; have := HK2.out; omega⟩, ⟨by (try simp only [hl2_2]); exact kr_ <| HO_2.out⟩, ⟨by repeat (first | (with_reducible first | exact HK.out | apply Kept.alloc | apply Kept.drewN | apply Kept.drew) | exact HK.out)⟩, ⟨bl_⟩⟩
      ·rw [if_neg c23] at H;have c23b0 : decide (x11_2 < a0) = false := decide_eq_false c23;clear c23;by_cases c43 : 0 ≤ x9_4;rotate_left
       ·rw [if_neg c43] at H;exact absurd H (by simp)
       rw [if_pos c43] at H;have c43b0 : decide (0 ≤ x9_4) = true := decide_eq_true c43;clear c43;by_cases c44 : x9_4 < (x2_2.length : Int);rotate_left
       ·rw [if_neg c44] at H;exact absurd H (by simp)
       rw [if_pos c44] at H;have c44b0 : decide (x9_4 < (x2_2.length : Int)) = true := decide_eq_true c44;clear c44;obtain ⟨y411, hy_⟩ : ∃ y_ : List Bool, y_ = (x2_2.set (x9_4 : Int).toNat false) := ⟨_, rfl⟩;replace H : (some (x10_2, y411)) = some (r1, r2) := rp_;have Ny411 := mk_ hy_;clear hy_;simp only [Option.some.injEq, Prod.mk.injEq] at H;obtain ⟨rfl, rfl⟩ := H;have p45 : 0 ≤ (x9_4 : Int) := od_;have q45 : (x9_4 : Int) < ((x2_2.length : Int) : Int) := od_;obtain ⟨hx45_0, hf45_0⟩ := Kd.R_celln false HO_2.out (x9_4 : Int) p45 q45;replace p45 := eq_true p45;replace q45 := eq_true q45;have HP46 := Kd.R_putg HO_2.out (x9_4 : Int) false;go_wp2_with (first | ((with_reducible refine gate_store (t := 4) (p := 68) rfl ?_); refine store_event (t := 4) (p := 68) (v := ?vo_w47) (w1 := (wr.setCell ⟨go20, (x9_4 : Int).toNat, none⟩ (.bool false))) ?hg ?ho ?hn ?hr ?_; (case ho => rfl); (case hg => rfl); (case hn => rfl); (case hr => first | (go_simp; done) | (go_simp; rfl)); intro w47 hw; have hg : wr.grownBy w47 (some go20) := (by rw [hw]; exact HP46.2); have hp_ : Kd.R Kd.bool 4 w47 w0.heap.size (fun k_ => (P2_ k_ ∨ w.heap.size ≤ k_)) (.slice (some ⟨go20, 0, none⟩) x2_2.length co20) y411 := (by rw [hw, Ny411.out]; exact HP46.1); clear HP46; have n0_ := mk_ (hp_); have n1_ := mk_ ((by rw [hw]; exact below_set (HB.out) GB20.out : Below w0.heap.size w0 w47)); have n2_ := mk_ (Kept.of_grown (S := (fun k_ => P2_ k_)) hg (by repeat (first | (with_reducible first | exact HK.out | apply Kept.alloc | apply Kept.drewN | apply Kept.drew) | exact HK.out)) (fun k_ e_ => (HO_2.out.1 k_ e_))); clear HO_2 HB HK; have HO_2 := n0_; have HB := n1_; have HK := n2_; clear n0_ n1_ n2_ hg hw hp_));go_ret;exact ⟨ew_, (by first | exact (kr_ <| HO_2.out) | (simp only [hl2_2]; exact (kr_ <| HO_2.out))), bl_, by repeat (first | (with_reducible first | exact HK.out | apply Kept.alloc | apply Kept.drewN | apply Kept.drew) | exact HK.out)⟩
mutual
def impl_planeOfRank.l0 : Nat → Int → Int → Int → Int → Option ((List (S39)))
 | 0, _, _, _, _ => none
 | k + 1, x0, x1, x2, x7 => (impl_countPlane.f k x7).bind fun t137 => ((impl_countPlane.f k (wrap64 ((wrap64 (x1 - 2)) - x7))).bind fun t138 => (if x2 ≥ (wrap64 (t137 * t138)) then (impl_planeOfRank.l0 k x0 x1 (wrap64 (x2 - (wrap64 (t137 * t138)))) (wrap64 (x7 + 2))) else ((some (([(⟨x0, wrap64 ((wrap64 (x0 + 1)) + x7)⟩ : S39)] : List (S39)) : List (S39))).bind fun y139 => ((impl_countPlane.f k (wrap64 ((wrap64 (x1 - 2)) - x7))).bind fun t142 => (if t142 = 0 then (none) else ((impl_planeOfRank.f k (wrap64 (x0 + 1)) x7 (wrap64 (Int.tdiv x2 t142))).bind fun t143 => (if y139.length + t143.length < 8796093022208 then ((some (y139 ++ t143 : List (S39))).bind fun y146 => ((impl_countPlane.f k (wrap64 ((wrap64 (x1 - 2)) - x7))).bind fun t149 => (if t149 = 0 then (none) else ((impl_planeOfRank.f k (wrap64 ((wrap64 (x0 + 2)) + x7)) (wrap64 ((wrap64 (x1 - 2)) - x7)) (Int.tmod x2 t149)).bind fun t150 => (if y146.length + t150.length < 8796093022208 then (some (y146 ++ t150)) else (none)))))) else (none))))))))
def impl_planeOfRank.f : Nat → Int → Int → Int → Option ((List (S39)))
 | 0, _, _, _ => none
 | k + 1, a0, a1, a2 => if a1 = 0 then (some ([] : List (S39))) else (impl_planeOfRank.l0 k a0 a1 a2 0)
end
theorem impl_planeOfRank.calls (k : Nat) : ∀ (a0 : Int) (a1 : Int) (a2 : Int) (r : List (S39)) (w : World) (h : impl_planeOfRank.f k a0 a1 a2 = some r),
  Calls Tryz.prog 47 #[.int .i64 a0, .int .i64 a1, .int .i64 a2] w fun e w' => ∃ v0_ : Value, e = .returned (v0_) ∧ Kd.R k39 39 w' w.heap.size (fun _ => True) v0_ r ∧ Below w.heap.size w w' := by
 induction k using Nat.strongRecOn with
 | _ k ih =>
 intro a0 a1 a2 r w h
 cases k with
 | zero => exact absurd h (by simp [impl_planeOfRank.f])
 | succ k =>
 simp only [impl_planeOfRank.f] at h;have hu39 := Tryz.underlying39;have HB := mk_ (Below.refl w.heap.size w);have H : (if a1 = 0 then (some ([] : List (S39))) else (impl_planeOfRank.l0 k a0 a1 a2 0)) = some r := h;clear h;by_cases c4 : a1 = 0
 ·rw [if_pos c4] at H;have c4b0 : (a1 == 0) = true := beq_iff_eq.mpr c4;have c4b1 : (a1 != 0) = false := bne_eq_false_iff_eq.mpr c4;clear c4;obtain rfl := Option.some.inj H;go_enter Tryz.func47, Tryz.ntmps47;go_wp2;go_ret;exact ⟨_, ew_, by first | exact Kd.R_nil _ _ _ _ _ | exact Kd.N_nil _ _ _ _ _ | exact Kd.V_nil _ _ _ _ _ | exact Kd.Q_nil _ _ _ _ _ | exact Kd.S_nil _ _ _ _ _, bl_⟩
 ·rw [if_neg c4] at H;have c4b0 : (a1 == 0) = false := beq_eq_false_iff_ne.mpr c4;have c4b1 : (a1 != 0) = true := bne_iff_ne.mpr c4;have H' := mk_ H;clear H;go_enter Tryz.func47, Tryz.ntmps47;go_wp2;go_loopg [2, 7] k (fun kq v2 v7 w' => ∃ (x2_1 : Int) (x7_1 : Int), v2 = .int .i64 x2_1 ∧ v7 = .int .i64 x7_1 ∧ Aside0 (impl_planeOfRank.l0 kq a0 a1 x2_1 x7_1 = some r) ∧ Aside0 (kq ≤ k) ∧ Aside0 (Below w.heap.size w w'))
  case atStart => exact ⟨(a2), (0), (es_), (es_), H', ⟨Nat.le_refl _⟩, ⟨bl_⟩⟩
  case round =>
   clear H';try clear p2
   try clear c4
   try clear c4b0
   try clear c4b1
   obtain ⟨x2_1, x7_1, rfl, rfl, HA, HK1, HB⟩ := hrel
   cases gk with
   | zero => exact absurd HA.out (by simp [impl_planeOfRank.l0])
   | succ k1 =>
    have H := HA.out;clear HA;simp only [impl_planeOfRank.l0] at H;replace H := Option.bind_eq_some_iff.mp H;obtain ⟨t137, A50, H⟩ := H;try dsimp only at H
    have A5 := mk_ A50;clear A50;replace H := Option.bind_eq_some_iff.mp H;obtain ⟨t138, A60, H⟩ := H;try dsimp only at H
    have A6 := mk_ A60;clear A60;by_cases c7 : x2_1 ≥ (wrap64 (t137 * t138))
    ·rw [if_pos c7] at H;have c7b0 : decide ((wrap64 (t137 * t138)) ≤ x2_1) = true := decide_eq_true c7;clear c7;have H' := mk_ H;clear H;go_wp2_with (first | (refine gd_ 20 Tryz.func45 (impl_countPlane.calls k1 x7_1 t137 _ A5.out) ?_; intro nd) | (refine gd_ 22 Tryz.func45 (impl_countPlane.calls k1 (wrap64 ((wrap64 (a1 - 2)) - x7_1)) t138 _ A6.out) ?_; intro nd));go_roundg k1
     case measure => have := HK1.out; omega
     case rel => exact ⟨(wrap64 (x2_1 - (wrap64 (t137 * t138)))), (wrap64 (x7_1 + 2)), (es_), (es_), H', ⟨by have := HK1.out; omega⟩, ⟨bl_⟩⟩
    ·rw [if_neg c7] at H;have c7b0 : decide ((wrap64 (t137 * t138)) ≤ x2_1) = false := decide_eq_false c7;clear c7;obtain ⟨y139, hy_⟩ : ∃ y_ : List (S39), y_ = (([(⟨a0, wrap64 ((wrap64 (a0 + 1)) + x7_1)⟩ : S39)] : List (S39))) := ⟨_, rfl⟩;replace H : ((impl_countPlane.f k1 (wrap64 ((wrap64 (a1 - 2)) - x7_1))).bind fun t142 => (if t142 = 0 then (none) else ((impl_planeOfRank.f k1 (wrap64 (a0 + 1)) x7_1 (wrap64 (Int.tdiv x2_1 t142))).bind fun t143 => (if y139.length + t143.length < 8796093022208 then ((some (y139 ++ t143 : List (S39))).bind fun y146 => ((impl_countPlane.f k1 (wrap64 ((wrap64 (a1 - 2)) - x7_1))).bind fun t149 => (if t149 = 0 then (none) else ((impl_planeOfRank.f k1 (wrap64 ((wrap64 (a0 + 2)) + x7_1)) (wrap64 ((wrap64 (a1 - 2)) - x7_1)) (Int.tmod x2_1 t149)).bind fun t150 => (if y146.length + t150.length < 8796093022208 then (some (y146 ++ t150)) else (none)))))) else (none))))) = some r := rp_;have Ny139 := mk_ hy_;clear hy_;replace H := Option.bind_eq_some_iff.mp H;obtain ⟨t142, A80, H⟩ := H;try dsimp only at H
     have A8 := mk_ A80;clear A80;by_cases c9 : t142 = 0
     ·rw [if_pos c9] at H;exact absurd H (by simp)
     ·rw [if_neg c9] at H;have c9b0 : (t142 == 0) = false := beq_eq_false_iff_ne.mpr c9;have c9b1 : (t142 != 0) = true := bne_iff_ne.mpr c9;replace H := Option.bind_eq_some_iff.mp H;obtain ⟨t143, A100, H⟩ := H;try dsimp only at H
      have A10 := mk_ A100;clear A100;by_cases c11 : y139.length + t143.length < 8796093022208;rotate_left
      ·rw [if_neg c11] at H;exact absurd H (by simp)
      rw [if_pos c11] at H;have LMc11 := mk_ c11;clear c11;obtain ⟨y146, hy_⟩ : ∃ y_ : List (S39), y_ = (y139 ++ t143) := ⟨_, rfl⟩;replace H : ((impl_countPlane.f k1 (wrap64 ((wrap64 (a1 - 2)) - x7_1))).bind fun t149 => (if t149 = 0 then (none) else ((impl_planeOfRank.f k1 (wrap64 ((wrap64 (a0 + 2)) + x7_1)) (wrap64 ((wrap64 (a1 - 2)) - x7_1)) (Int.tmod x2_1 t149)).bind fun t150 => (if y146.length + t150.length < 8796093022208 then (some (y146 ++ t150)) else (none))))) = some r := rp_;have Ny146 := mk_ hy_;clear hy_;replace H := Option.bind_eq_some_iff.mp H;obtain ⟨t149, A120, H⟩ := H;try dsimp only at H
      have A12 := mk_ A120;clear A120;by_cases c13 : t149 = 0
      ·rw [if_pos c13] at H;exact absurd H (by simp)
      ·rw [if_neg c13] at H;have c13b0 : (t149 == 0) = false := beq_eq_false_iff_ne.mpr c13;have c13b1 : (t149 != 0) = true := bne_iff_ne.mpr c13;replace H := Option.bind_eq_some_iff.mp H;obtain ⟨t150, A140, H⟩ := H;try dsimp only at H
       have A14 := mk_ A140;clear A140;by_cases c15 : y146.length + t150.length < 8796093022208;rotate_left
       ·rw [if_neg c15] at H;exact absurd H (by simp)
       rw [if_pos c15] at H;have LMc15 := mk_ c15;clear c15;obtain ⟨y153, hy_⟩ : ∃ y_ : List (S39), y_ = (y146 ++ t150) := ⟨_, rfl⟩;replace H : (some y153) = some r := rp_;have Ny153 := mk_ hy_;clear hy_;obtain rfl := Option.some.inj H;go_wp2_with (first | (refine gd_ 20 Tryz.func45 (impl_countPlane.calls k1 x7_1 t137 _ A5.out) ?_; intro nd) | (refine gd_ 22 Tryz.func45 (impl_countPlane.calls k1 (wrap64 ((wrap64 (a1 - 2)) - x7_1)) t138 _ A6.out) ?_; intro nd) | ((with_reducible refine g_ 36 ?_); refine Kd.R_lit k39 _ 39 ?hg (N := 36) ?hd (xs := ([(⟨a0, wrap64 ((wrap64 (a0 + 1)) + x7_1)⟩ : S39)] : List (S39))) (inner := [.int .i64 a0, .int .i64 (wrap64 ((wrap64 (a0 + 1)) + x7_1))]) (ok := fun _ => True) (okp := fun _ => True) ?hr ?hp (fun _ hk => hk) trivial (Below.refl _ _) (Nat.le_refl _) (by simp) ?_; (case hd => rfl); (case hg => rfl); (case hr => first | (go_simp; done) | (go_simp; rfl)); (case hp => exact (Reps.c2 (show Kd.M k39 _ _ _ (⟨a0, wrap64 ((wrap64 (a0 + 1)) + x7_1)⟩ : S39) [.int .i64 a0, .int .i64 (wrap64 ((wrap64 (a0 + 1)) + x7_1))] from (k39_mkM _ _ _ (⟨a0, wrap64 ((wrap64 (a0 + 1)) + x7_1)⟩ : S39) )) (Reps.none _ _))); intro v140 w16 ho17 hb hg_ hnew_; clear hg_ hnew_; (first | rw [← Ny139.out] at ho17 | (simp only [Int.reduceToNat] at ho17; rw [← Ny139.out] at ho17)); have n0_ := mk_ (Kd.R_lower ho17 (below_size bl_)); have n1_ := mk_ (below_step bl_ hb); clear HB; have HO141 := n0_; have HB := n1_; clear n0_ n1_ hb ho17) | (refine gd_ 43 Tryz.func45 (impl_countPlane.calls k1 (wrap64 ((wrap64 (a1 - 2)) - x7_1)) t142 _ A8.out) ?_; intro nd) | (refine gc_ 45 Tryz.func47 #[.int .i64 (wrap64 (a0 + 1)), .int .i64 x7_1, .int .i64 (wrap64 (Int.tdiv x2_1 t142))] ?_; (with_reducible refine (ih k1 (by have := HK1.out; omega) (wrap64 (a0 + 1)) x7_1 (wrap64 (Int.tdiv x2_1 t142)) t143 _ A10.out).mono ?_); rintro e w18 ⟨v144, rfl, ho0, hb⟩; refine ⟨_, rfl, ?_⟩; have n0_ := mk_ (Kd.R_elder' (kr_ <| HO141.out) (Kd.R_base ho0) hb); have n1_ := mk_ (Kd.R_lower (Kd.R_new' ho0 (Kd.R_lt (kr_ <| HO141.out))) (below_size bl_)); have n2_ := mk_ (below_step bl_ hb); clear HO141 HB; have HO141 := n0_; have HO145 := n1_; have HB := n2_; clear n0_ n1_ n2_; (try clear hb); (try clear hb2); (try clear hk); (try clear hi); (try clear ho0); obtain ⟨Ao20, co20, eo20⟩ := Kd.R_slice HO145.out; subst eo20) | ((with_reducible refine gate_builtin (b := .append) (xs := #[.tmp 37, .tmp 45]) rfl ?_); at_builtin; refine Kd.R_append_rows k39 (w0 := w) w.heap.size rfl (.tmp 37) (.tmp 45) 26 39 (.agg #[(.int .i64 0), (.int .i64 0)]) 16 rfl Tryz.underlying26 info39 rfl (by decide) (by omega) v140 y139 t143 _ _ _ (fun k_ => some k_ ≠ (.slice Ao20 t143.length co20 : Value).ownBlock) (fun _ => False) rfl rfl ?aO ?aR (fun _ _ h => h) (fun _ h => h.elim) ?aF ?aB ?aS ?aL ?_; (case aR => exact kc_ <| (Kd.R_reads' HO145.out).2.2); (case aB => exact bl_); (case aF => exact (fun k_ hk => Kd.fresh' (Kd.R_lt (kr_ <| HO145.out)) k_ hk)); (case aO => exact (kr_ <| Kd.R_mono HO141.out (fun _ hk => hk.2))); (case aS => exact (below_size bl_)); (case aL => have := LMc11.out; omega); intro v147 w19 ho hb hg hat; rw [← Ny146.out] at ho; have n0_ := mk_ (Kd.R_after (ok := (fun _ => True)) (kr_ <| HO145.out) hg hat); have n1_ := mk_ (hb); have n2_ := mk_ (ho); clear HO145 HB HO141; have HO145 := n0_; have HB := n1_; have HO148 := n2_; clear n0_ n1_ n2_ ho hb hg hat) | (refine gd_ 55 Tryz.func45 (impl_countPlane.calls k1 (wrap64 ((wrap64 (a1 - 2)) - x7_1)) t149 _ A12.out) ?_; intro nd) | (refine gc_ 57 Tryz.func47 #[.int .i64 (wrap64 ((wrap64 (a0 + 2)) + x7_1)), .int .i64 (wrap64 ((wrap64 (a1 - 2)) - x7_1)), .int .i64 (Int.tmod x2_1 t149)] ?_; (with_reducible refine (ih k1 (by have := HK1.out; omega) (wrap64 ((wrap64 (a0 + 2)) + x7_1)) (wrap64 ((wrap64 (a1 - 2)) - x7_1)) (Int.tmod x2_1 t149) t150 _ A14.out).mono ?_); rintro e w21 ⟨v151, rfl, ho0, hb⟩; refine ⟨_, rfl, ?_⟩; have n0_ := mk_ (Kd.R_elder' (kr_ <| HO145.out) (Kd.R_base ho0) hb); have n1_ := mk_ (Kd.R_elder' (kr_ <| HO148.out) (Kd.R_base ho0) hb); have n2_ := mk_ (Kd.R_lower (Kd.R_new' (Kd.R_new' ho0 (Kd.R_lt (kr_ <| HO145.out))) (Kd.R_lt (kr_ <| HO148.out))) (below_size bl_)); have n3_ := mk_ (below_step bl_ hb); clear HO145 HO148 HB; have HO145 := n0_; have HO148 := n1_; have HO152 := n2_; have HB := n3_; clear n0_ n1_ n2_ n3_; (try clear hb); (try clear hb2); (try clear hk); (try clear hi); (try clear ho0); obtain ⟨Ao23, co23, eo23⟩ := Kd.R_slice HO152.out; subst eo23) | ((with_reducible refine gate_builtin (b := .append) (xs := #[.tmp 47, .tmp 57]) rfl ?_); at_builtin; refine Kd.R_append_rows k39 (w0 := w) w.heap.size rfl (.tmp 47) (.tmp 57) 26 39 (.agg #[(.int .i64 0), (.int .i64 0)]) 16 rfl Tryz.underlying26 info39 rfl (by decide) (by omega) v147 y146 t150 _ _ _ (fun k_ => some k_ ≠ (.slice Ao20 t143.length co20 : Value).ownBlock ∧ some k_ ≠ (.slice Ao23 t150.length co23 : Value).ownBlock) (fun _ => False) rfl rfl ?aO ?aR (fun _ _ h => h) (fun _ h => h.elim) ?aF ?aB ?aS ?aL ?_; (case aR => exact kc_ <| (Kd.R_reads' HO152.out).2.2); (case aB => exact bl_); (case aF => exact (fun k_ hk => ⟨Kd.fresh' (Kd.R_lt (kr_ <| HO145.out)) k_ hk, Kd.fresh' (Kd.R_lt (kr_ <| HO152.out)) k_ hk⟩)); (case aO => exact (kr_ <| HO148.out)); (case aS => exact (below_size bl_)); (case aL => have := LMc15.out; omega); intro v154 w22 ho hb hg hat; rw [← Ny153.out] at ho; have n0_ := mk_ (Kd.R_after (ok := (fun k_ => some k_ ≠ (.slice Ao23 t150.length co23 : Value).ownBlock)) (kr_ <| Kd.R_mono HO145.out (fun _ hk => ⟨hk.2, hk.1.2⟩)) hg hat); have n1_ := mk_ (Kd.R_after (ok := (fun k_ => some k_ ≠ (.slice Ao20 t143.length co20 : Value).ownBlock)) (kr_ <| Kd.R_mono HO152.out (fun _ hk => ⟨hk.1.2, hk.2⟩)) hg hat); have n2_ := mk_ (hb); have n3_ := mk_ (ho); clear HO145 HO152 HB HO148; have HO145 := n0_; have HO152 := n1_; have HB := n2_; have HO155 := n3_; clear n0_ n1_ n2_ n3_ ho hb hg hat));go_ret;exact ⟨_, ew_, by exact kr_ <| Kd.R_mono HO155.out (fun _ hk => trivial), bl_⟩
def impl_PlanePairingOfRank.j0 : Nat → Int → Int → Bool → Option ((List (S39)) × Bool)
 | 0, _, _, _ => none
 | k + 1, x0, x1, x16 => if x16 = true then (some (([] : List (S39)), false)) else ((impl_planeOfRank.f k 0 x0 x1).bind fun t159 => ((impl_ordered.f t159).bind fun t162 => (some (t162, true))))
def impl_PlanePairingOfRank.f (k : Nat) (a0 : Int) (a1 : Int) : Option ((List (S39)) × Bool) := (impl_isEven.f a0 30).bind fun t156 => (if t156 = true then ((impl_countPlane.f k a0).bind fun t157 => ((impl_within.f a1 0 (wrap64 (t157 - 1))).bind fun t158 => (impl_PlanePairingOfRank.j0 k a0 a1 (!t158)))) else (impl_PlanePairingOfRank.j0 k a0 a1 true))
theorem impl_PlanePairingOfRank.calls (k : Nat) (a0 : Int) (a1 : Int) (r1 : List (S39)) (r2 : Bool) (w : World) (h : impl_PlanePairingOfRank.f k a0 a1 = some (r1, r2)) :
  Calls Tryz.prog 6 #[.int .i64 a0, .int .i64 a1] w fun e w' => ∃ v0_ : Value, e = .returned (.tuple #[v0_, .bool r2]) ∧ Kd.R k39 39 w' w.heap.size (fun _ => True) v0_ r1 ∧ Below w.heap.size w w' := by
 have HB := mk_ (Below.refl w.heap.size w);have H : ((impl_isEven.f a0 30).bind fun t156 => (if t156 = true then ((impl_countPlane.f k a0).bind fun t157 => ((impl_within.f a1 0 (wrap64 (t157 - 1))).bind fun t158 => (impl_PlanePairingOfRank.j0 k a0 a1 (!t158)))) else (impl_PlanePairingOfRank.j0 k a0 a1 true))) = some (r1, r2) := h;clear h;have HC3 := mk_ H;clear H;go_enter Tryz.func6, Tryz.ntmps6;go_upto_region 1 with (fail)
 go_cut [16] (fun v16 wc => ∃ (kq : Nat) (x16_2 : Bool), v16 = .bool x16_2 ∧ Aside0 (impl_PlanePairingOfRank.j0 kq a0 a1 x16_2 = some (r1, r2)) ∧ Aside0 (kq ≤ k) ∧ Aside0 (Below w.heap.size w wc))
 case first =>
  have H := HC3.out;clear HC3;replace H := Option.bind_eq_some_iff.mp H;obtain ⟨t156, A40, H⟩ := H;try dsimp only at H
  have A4 := mk_ A40;clear A40;by_cases c5 : t156 = true
  ·subst c5;have H1 : ((impl_countPlane.f k a0).bind fun t157 => ((impl_within.f a1 0 (wrap64 (t157 - 1))).bind fun t158 => (impl_PlanePairingOfRank.j0 k a0 a1 (!t158)))) = some (r1, r2) := by rw [if_pos rfl] at H; exact H
   clear H;have H := H1;clear H1;replace H := Option.bind_eq_some_iff.mp H;obtain ⟨t157, A60, H⟩ := H;try dsimp only at H
   have A6 := mk_ A60;clear A60;replace H := Option.bind_eq_some_iff.mp H;obtain ⟨t158, A70, H⟩ := H;try dsimp only at H
   have A7 := mk_ A70;clear A70;have H' := mk_ H;clear H;go_wp2_with (first | (refine gd_ 7 Tryz.func43 (impl_isEven.calls a0 30 true _ A4.out) ?_; intro nd) | (go_at_call 45; (with_reducible refine (impl_countPlane.calls k a0 t157 _ A6.out).mono ?_); rintro e w' ⟨rfl, ⟨nd, rfl⟩⟩) | (go_at_call 44; (with_reducible refine (impl_within.calls a1 0 (wrap64 (t157 - 1)) t158 _ A7.out).mono ?_); rintro e w' ⟨rfl, ⟨nd, rfl⟩⟩));go_meet
   case rel => exact ⟨_, (!t158), (es_), H', ⟨by first | omega | exact Nat.le_refl _⟩, ⟨bl_⟩⟩
  ·replace c5 := Bool.eq_false_iff.mpr c5;subst c5;have H1 : (impl_PlanePairingOfRank.j0 k a0 a1 true) = some (r1, r2) := by rw [if_neg (show ¬ (false = true) by decide)] at H; exact H
   clear H;have H := H1;clear H1;have H' := mk_ H;clear H;go_wp2_with (first | (refine gd_ 7 Tryz.func43 (impl_isEven.calls a0 30 false _ A4.out) ?_; intro nd));go_meet
   case rel => exact ⟨_, (true), (es_), H', ⟨by first | omega | exact Nat.le_refl _⟩, ⟨bl_⟩⟩
 case rest =>
  clear HC3;try clear p2
  try clear c4
  try clear c5
  try clear c6
  try clear p6
  obtain ⟨kq, x16_2, rfl, HA, HJ2, HB⟩ := hcut
  cases kq with
  | zero => exact absurd HA.out (by simp [impl_PlanePairingOfRank.j0])
  | succ kj2 =>
   have H := HA.out;clear HA;simp only [impl_PlanePairingOfRank.j0] at H;by_cases c8 : x16_2 = true
   ·subst c8;have H1 : (some (([] : List (S39)), false)) = some (r1, r2) := by rw [if_pos rfl] at H; exact H
    clear H;have H := H1;clear H1;simp only [Option.some.injEq, Prod.mk.injEq] at H;obtain ⟨rfl, rfl⟩ := H;go_wp2;go_ret2;exact ⟨_, ew_, by first | exact Kd.R_nil _ _ _ _ _ | exact Kd.N_nil _ _ _ _ _ | exact Kd.V_nil _ _ _ _ _ | exact Kd.Q_nil _ _ _ _ _ | exact Kd.S_nil _ _ _ _ _, bl_⟩
   ·replace c8 := Bool.eq_false_iff.mpr c8;subst c8;have H1 : ((impl_planeOfRank.f kj2 0 a0 a1).bind fun t159 => ((impl_ordered.f t159).bind fun t162 => (some (t162, true)))) = some (r1, r2) := by rw [if_neg (show ¬ (false = true) by decide)] at H; exact H
    clear H;have H := H1;clear H1;replace H := Option.bind_eq_some_iff.mp H;obtain ⟨t159, A90, H⟩ := H;try dsimp only at H
    have A9 := mk_ A90;clear A90;replace H := Option.bind_eq_some_iff.mp H;obtain ⟨t162, A100, H⟩ := H;try dsimp only at H
    have A10 := mk_ A100;clear A100;simp only [Option.some.injEq, Prod.mk.injEq] at H;obtain ⟨rfl, rfl⟩ := H;go_wp2_with (first | (refine gc_ 19 Tryz.func47 #[.int .i64 0, .int .i64 a0, .int .i64 a1] ?_; (with_reducible refine (impl_planeOfRank.calls kj2 0 a0 a1 t159 _ A9.out).mono ?_); rintro e w11 ⟨v160, rfl, ho0, hb⟩; refine ⟨_, rfl, ?_⟩; have n0_ := mk_ (Kd.R_lower ho0 (below_size bl_)); have n1_ := mk_ (below_step bl_ hb); clear HB; have HO161 := n0_; have HB := n1_; clear n0_ n1_; (try clear hb); (try clear hb2); (try clear hk); (try clear hi); (try clear ho0); obtain ⟨Ao12, co12, eo12⟩ := Kd.R_slice HO161.out; subst eo12) | (refine gc_ 20 Tryz.func46 #[.slice Ao12 t159.length co12] ?_; (with_reducible refine (impl_ordered.calls (fun k_ => some k_ = (.slice Ao12 t159.length co12 : Value).ownBlock) (.slice Ao12 t159.length co12) t159 t162 w _ ?side1 ?side2 A10.out).mono ?_); (case side1 => repeat (first | (with_reducible first | exact HB.out | apply below_alloc | apply pw_below_drewN | apply below_drew1) | exact HB.out)); (case side2 => exact Kd.R_tight rfl HO161.out); rintro e w13 ⟨v163, rfl, ho0, hb, hkp⟩; refine ⟨_, rfl, ?_⟩; have n0_ := mk_ (Kd.R_mono (ok' := fun k_ => True) ho0 (fun k_ hk_ => trivial)); have n1_ := mk_ (hb); clear HB HO161; have HO164 := n0_; have HB := n1_; clear n0_ n1_; (try clear hb); (try clear hkp); (try clear ho0)));go_ret2;exact ⟨_, ew_, by exact kr_ <| HO164.out, bl_⟩
def spec_CountPairings.f (k : Nat) (a0 : Int) (a1 : Int) : Option (Int × Bool) := (spec_l1In.f a0 4 12).bind fun t412 => (if t412 = true then (if (Int.tmod a0 2) = 1 then (some (0, false)) else ((spec_l1In.f a1 0 100).bind fun t413 => (if t413 = true then (if 0 ≤ a0 then (if (a0 : Int).toNat ≤ 281474976710656 then ((spec_cdCount.f k a0 a1 (List.replicate (a0 : Int).toNat false) ([] : List (S39))).bind fun bt417 => (some (bt417.1, true))) else (none)) else (none)) else (some (0, false))))) else (some (0, false)))
theorem spec_CountPairings.calls (k : Nat) (a0 : Int) (a1 : Int) (r1 : Int) (r2 : Bool) (w : World) (h : spec_CountPairings.f k a0 a1 = some (r1, r2)) :
  Calls Tryz.prog 20 #[.int .i64 a0, .int .i64 a1] w fun e w' => e = .returned (.tuple #[.int .i64 r1, .bool r2]) ∧ Below w.heap.size w w' := by
 have HB := mk_ (Below.refl w.heap.size w);have H : ((spec_l1In.f a0 4 12).bind fun t412 => (if t412 = true then (if (Int.tmod a0 2) = 1 then (some (0, false)) else ((spec_l1In.f a1 0 100).bind fun t413 => (if t413 = true then (if 0 ≤ a0 then (if (a0 : Int).toNat ≤ 281474976710656 then ((spec_cdCount.f k a0 a1 (List.replicate (a0 : Int).toNat false) ([] : List (S39))).bind fun bt417 => (some (bt417.1, true))) else (none)) else (none)) else (some (0, false))))) else (some (0, false)))) = some (r1, r2) := h;clear h;replace H := Option.bind_eq_some_iff.mp H;obtain ⟨t412, A30, H⟩ := H;try dsimp only at H
 have A3 := mk_ A30;clear A30;by_cases c4 : t412 = true
 ·subst c4;have H1 : (if (Int.tmod a0 2) = 1 then (some (0, false)) else ((spec_l1In.f a1 0 100).bind fun t413 => (if t413 = true then (if 0 ≤ a0 then (if (a0 : Int).toNat ≤ 281474976710656 then ((spec_cdCount.f k a0 a1 (List.replicate (a0 : Int).toNat false) ([] : List (S39))).bind fun bt417 => (some (bt417.1, true))) else (none)) else (none)) else (some (0, false))))) = some (r1, r2) := by rw [if_pos rfl] at H; exact H
  clear H;have H := H1;clear H1;by_cases c5 : (Int.tmod a0 2) = 1
  ·rw [if_pos c5] at H;have c5b0 : ((Int.tmod a0 2) == 1) = true := beq_iff_eq.mpr c5;have c5b1 : ((Int.tmod a0 2) != 1) = false := bne_eq_false_iff_eq.mpr c5;clear c5;simp only [Option.some.injEq, Prod.mk.injEq] at H;obtain ⟨rfl, rfl⟩ := H;go_enter Tryz.func20, Tryz.ntmps20;go_wp2_with (first | (refine gd_ 7 Tryz.func48 (spec_l1In.calls a0 4 12 true _ A3.out) ?_; intro nd));go_ret2;exact ⟨ew_, bl_⟩
  ·rw [if_neg c5] at H;have c5b0 : ((Int.tmod a0 2) == 1) = false := beq_eq_false_iff_ne.mpr c5;have c5b1 : ((Int.tmod a0 2) != 1) = true := bne_iff_ne.mpr c5;replace H := Option.bind_eq_some_iff.mp H;obtain ⟨t413, A60, H⟩ := H;try dsimp only at H
   have A6 := mk_ A60;clear A60;by_cases c7 : t413 = true
   ·subst c7;have H1 : (if 0 ≤ a0 then (if (a0 : Int).toNat ≤ 281474976710656 then ((spec_cdCount.f k a0 a1 (List.replicate (a0 : Int).toNat false) ([] : List (S39))).bind fun bt417 => (some (bt417.1, true))) else (none)) else (none)) = some (r1, r2) := by rw [if_pos rfl] at H; exact H
    clear H;have H := H1;clear H1;by_cases c8 : 0 ≤ a0;rotate_left
    ·rw [if_neg c8] at H;exact absurd H (by simp)
    rw [if_pos c8] at H;have c8b0 := eq_true c8;have c8b1 : decide (0 ≤ a0) = true := decide_eq_true c8;clear c8;by_cases c9 : (a0 : Int).toNat ≤ 281474976710656;rotate_left
    ·rw [if_neg c9] at H;exact absurd H (by simp)
    rw [if_pos c9] at H;have c9b0 := eq_true c9;have c9b1 : decide ((a0 : Int).toNat ≤ 281474976710656) = true := decide_eq_true c9;clear c9;obtain ⟨y414, hy_⟩ : ∃ y_ : List Bool, y_ = (List.replicate (a0 : Int).toNat false) := ⟨_, rfl⟩;replace H : ((spec_cdCount.f k a0 a1 y414 ([] : List (S39))).bind fun bt417 => (some (bt417.1, true))) = some (r1, r2) := rp_;have Ny414 := mk_ hy_;clear hy_;replace H := Option.bind_eq_some_iff.mp H;obtain ⟨⟨t417, t418⟩, A100, H⟩ := H;try dsimp only at H
    have A10 := mk_ A100;clear A100;simp only [Option.some.injEq, Prod.mk.injEq] at H;obtain ⟨rfl, rfl⟩ := H;go_enter Tryz.func20, Tryz.ntmps20;go_wp2_with (first | (refine gd_ 7 Tryz.func48 (spec_l1In.calls a0 4 12 true _ A3.out) ?_; intro nd) | (go_at_call 48; (with_reducible refine (spec_l1In.calls a1 0 100 true _ A6.out).mono ?_); rintro e w' ⟨rfl, ⟨nd, rfl⟩⟩) | ((with_reducible refine g_ 22 ?_); refine Kd.R_make Kd.bool _ 4 rfl (N := 22) rfl 82 _ _ rfl a0 rfl rfl Tryz.underlying82 (.bool false) 1 info4 rfl (by decide) (by omega) false (ok := fun _ => True) (okp := fun _ => True) rfl (fun _ hk => hk) trivial (od_) (Nat.le_trans (Nat.mul_le_mul_right _ (od_ : a0.toNat ≤ 281474976710656)) (by omega)) (Below.refl _ _) (Nat.le_refl _) ?_; intro v415 w11 ho12 hb hg_ hnew_; clear hg_ hnew_; (first | rw [← Ny414.out] at ho12 | (simp only [Int.reduceToNat] at ho12; rw [← Ny414.out] at ho12)); have n0_ := mk_ (Kd.R_lower ho12 (below_size bl_)); have n1_ := mk_ (below_step bl_ hb); clear HB; have HO416 := n0_; have HB := n1_; clear n0_ n1_ hb ho12; obtain ⟨Ao13, co13, eo13⟩ := Kd.R_slice HO416.out; subst eo13) | (refine gc_ 23 Tryz.func65 #[.int .i64 a0, .int .i64 a1, .slice Ao13 y414.length co13, .slice none 0 0] ?_; (refine (spec_cdCount.calls k a0 a1 (fun k_ => some k_ = (.slice Ao13 y414.length co13 : Value).ownBlock) (.slice Ao13 y414.length co13) y414 _ _ ([] : List (S39)) t417 t418 w _ ?side1 ?side2 ?side3 ?side4 A10.out).mono ?_); (case side1 => repeat (first | (with_reducible first | exact HB.out | apply below_alloc | apply pw_below_drewN | apply below_drew1) | exact HB.out)); (case side2 => exact Kd.R_tight rfl HO416.out); (case side3 => exact Kd.C_kept_nil); (case side4 => exact Nat.le_refl _); rintro e w14 ⟨rfl, hy0, hb, hkp⟩; refine ⟨_, rfl, ?_⟩; have n0_ := mk_ (Kd.R_reok rfl hy0 (fun k_ e_ => HO416.out.1 k_ e_)); have n1_ := mk_ (hb); clear HO416 HB; have HO416 := n0_; have HB := n1_; clear n0_ n1_; (try clear hb); (try clear hkp); (try clear hy0)));go_ret2;exact ⟨ew_, bl_⟩
   ·replace c7 := Bool.eq_false_iff.mpr c7;subst c7;have H1 : (some (0, false)) = some (r1, r2) := by rw [if_neg (show ¬ (false = true) by decide)] at H; exact H
    clear H;have H := H1;clear H1;simp only [Option.some.injEq, Prod.mk.injEq] at H;obtain ⟨rfl, rfl⟩ := H;go_enter Tryz.func20, Tryz.ntmps20;go_wp2_with (first | (refine gd_ 7 Tryz.func48 (spec_l1In.calls a0 4 12 true _ A3.out) ?_; intro nd) | (go_at_call 48; (with_reducible refine (spec_l1In.calls a1 0 100 false _ A6.out).mono ?_); rintro e w' ⟨rfl, ⟨nd, rfl⟩⟩));go_ret2;exact ⟨ew_, bl_⟩
 ·replace c4 := Bool.eq_false_iff.mpr c4;subst c4;have H1 : (some (0, false)) = some (r1, r2) := by rw [if_neg (show ¬ (false = true) by decide)] at H; exact H
  clear H;have H := H1;clear H1;simp only [Option.some.injEq, Prod.mk.injEq] at H;obtain ⟨rfl, rfl⟩ := H;go_enter Tryz.func20, Tryz.ntmps20;go_wp2_with (first | (refine gd_ 7 Tryz.func48 (spec_l1In.calls a0 4 12 false _ A3.out) ?_; intro nd));go_ret2;exact ⟨ew_, bl_⟩
def cmpC (x : S39) (c0 c1 : Int) : Int := if x.f0 < c0 then -1 else if x.f0 > c0 then 1 else if x.f1 < c1 then -1 else if x.f1 > c1 then 1 else 0
theorem cmpC_says (x : S39) (c0 c1 : Int) : impl_compareChords.f 4 x.f0 x.f1 c0 c1 = some (cmpC x c0 c1) := by
 have hc : ∀ a b : Int, cmp_Compare_int.f a b = some (if a < b then -1 else if a > b then 1 else 0) := by
  intro a b;unfold cmp_Compare_int.f cmp_isNaN_int.f;simp;split
  ·rfl
  ·split <;> rfl
 have h0 : wrap64 (0 + 1) = 1 := by unfold wrap64; omega
 have h1 : wrap64 (1 + 1) = 2 := by unfold wrap64; omega
 unfold impl_compareChords.f cmpC;simp only [hc, Option.bind_some];simp only [cmp_Or_int.f, cmp_Or_int.l0, List.length_cons, List.length_nil, h0, h1, rd];by_cases e0 : x.f0 < c0
 ·simp [e0]
 ·by_cases e1 : x.f0 > c0
  ·have e2 : ¬ x.f0 ≤ c0 := by omega
   simp [e0, e1, e2]
  ·have e2 : x.f0 ≤ c0 := by omega
   have e3 : ¬ c0 < x.f0 := by omega
   by_cases d0 : x.f1 < c1
   ·simp [e0, e2, e3, d0]
   ·by_cases d1 : x.f1 > c1
    ·simp [e0, e2, e3, d0, d1]
    ·simp [e0, e2, e3, d0, d1]
def bsL (q : Int → Int) : Nat → Nat → Nat → Nat
 | 0, lo, _ => lo
 | n + 1, lo, hi => if lo < hi then (if q (((lo + hi) / 2 : Nat) : Int) < 0 then bsL q n ((lo + hi) / 2 + 1) hi else bsL q n lo ((lo + hi) / 2)) else lo
theorem bsL_le (q : Int → Int) : ∀ (n lo hi : Nat), lo ≤ hi → bsL q n lo hi ≤ hi
 | 0, lo, hi, h => h
 | n + 1, lo, hi, h => by
  simp only [bsL];split
  ·split
   ·exact bsL_le q n _ _ (by omega)
   ·exact Nat.le_trans (bsL_le q n _ _ (by omega)) (by omega)
  ·exact h
theorem bsL_lt (q : Int → Int) (n lo hi : Nat) (h : lo < hi) : bsL q (n + 1) lo hi = if q (((lo + hi) / 2 : Nat) : Int) < 0 then bsL q n ((lo + hi) / 2 + 1) hi else bsL q n lo ((lo + hi) / 2) := by
 simp only [bsL, if_pos h]
theorem bsL_ge (q : Int → Int) (n lo hi : Nat) (h : ¬ lo < hi) : bsL q n lo hi = lo := by
 cases n with
 | zero => rfl
 | succ n => simp only [bsL, if_neg h]
theorem bsL_more (q : Int → Int) : ∀ (n m lo hi : Nat), hi - lo ≤ n → hi - lo ≤ m → bsL q n lo hi = bsL q m lo hi
 | 0, m, lo, hi, h1, h2 => by rw [bsL_ge q 0 lo hi (by omega), bsL_ge q m lo hi (by omega)]
 | n + 1, 0, lo, hi, h1, h2 => by rw [bsL_ge q 0 lo hi (by omega), bsL_ge q _ lo hi (by omega)]
 | n + 1, m + 1, lo, hi, h1, h2 => by
  by_cases h : lo < hi
  ·rw [bsL_lt q n lo hi h, bsL_lt q m lo hi h];split
   ·exact bsL_more q n m _ _ (by omega) (by omega)
   ·exact bsL_more q n m _ _ (by omega) (by omega)
  ·rw [bsL_ge q _ lo hi h, bsL_ge q _ lo hi h]
def bsOf (l : List S39) (c0 c1 : Int) : Nat := bsL (fun i => cmpC (rd_T39 l i) c0 c1) l.length 0 l.length
def bsHit (l : List S39) (c0 c1 : Int) : Bool := decide (bsOf l c0 c1 < l.length) && decide (cmpC (rd_T39 l (bsOf l c0 c1 : Nat)) c0 c1 = 0)
theorem bsearch_walk (A0 : Option Addr) (cap : Nat) (l : List S39) (c0 c1 : Int) (w : World) (hr0 : Kd.C k39 w A0 l.length l) (hc0 : l.length ≤ cap) (hl : l.length ≤ 1000000000) :
  Calls Tryz.prog 66 #[.slice A0 l.length cap, .agg #[.int .i64 c0, .int .i64 c1], .func (.func 67) #[] #[]] w fun e w' =>
   e = .returned (.tuple #[.int .i64 (bsOf l c0 c1 : Nat), .bool (bsHit l c0 c1)]) ∧ Below w.heap.size w w' := by
 have HC := mk_ hr0;have HCAP := mk_ hc0;obtain ⟨q, hq⟩ : ∃ q : Int → Int, q = fun i => cmpC (rd_T39 l i) c0 c1 := ⟨_, rfl⟩
 have HQ := mk_ hq
 have hcmp : ∀ (i : Int) (W : World), Calls Tryz.prog 67 #[.agg #[.int .i64 (rd_T39 l i).f0, .int .i64 (rd_T39 l i).f1], .agg #[.int .i64 c0, .int .i64 c1]] W fun e w' => e = .returned (.int .i64 (q i)) ∧ Below W.heap.size W w' := by
  intro i W;rw [hq];exact impl_compareChords.calls 4 _ _ _ _ _ W (cmpC_says _ _ _)
 have HCMP := mk_ hcmp;obtain ⟨I, hI⟩ : ∃ I, I = bsOf l c0 c1 := ⟨_, rfl⟩;obtain ⟨F, hF⟩ : ∃ F, F = bsHit l c0 c1 := ⟨_, rfl⟩;rw [← hI, ← hF];have HI := mk_ (show bsL q l.length 0 l.length = I by rw [hI, hq]; rfl);have HF := mk_ (show (decide (I < l.length) && decide (q (I : Nat) = 0)) = F by rw [hF, hI, hq]; rfl);have HL := mk_ hl;clear hI hF hcmp hq hr0 hc0 hl;go_enter Tryz.func66, Tryz.ntmps66;go_wp2_with fail;have HB := mk_ (below_alloc (Below.refl w.heap.size w) (.cells #[.int .i64 c0, .int .i64 c1] 39));have HX := mk_ (show (w.alloc (.cells #[.int .i64 c0, .int .i64 c1] 39)).heap[w.heap.size]? = some (.cells #[.int .i64 c0, .int .i64 c1] 39 (0, 0)) from (MapKept.heap_alloc w _).1);go_loopg [9, 10] l.length (fun gg s9 s10 wr => ∃ (lo hi : Nat), s9 = .int .i64 (lo : Int) ∧ s10 = .int .i64 (hi : Int) ∧ lo ≤ hi ∧ hi ≤ l.length ∧ hi - lo ≤ gg ∧ Aside0 (bsL q (hi - lo) lo hi = I) ∧ Aside0 (Below w.heap.size w wr) ∧ Aside0 (wr.heap[w.heap.size]? = some (.cells #[.int .i64 c0, .int .i64 c1] 39 (0, 0))))
 case atStart => exact ⟨0, l.length, rfl, rfl, Nat.zero_le _, Nat.le_refl _, by omega, ⟨HI.out⟩, HB, HX⟩
 case round =>
  clear HB HX HI;obtain ⟨lo, hi, rfl, rfl, h1, h2, h3, HI, HB, HX⟩ := hrel;by_cases hlt : lo < hi
  ·have hmid : (lo + hi) / 2 < l.length := by omega
   obtain ⟨ad, hA, m0, m1⟩ := at_T39 (Kd.C_below HC.out HB.out) (((lo : Int) + (hi : Int)) / 2) (by omega) (by omega);cases hA;have b0 : wr.cell? ⟨w.heap.size, 0, none⟩ = some (.int .i64 c0) := (blk_cell HX.out 0).trans rfl;have b1 : wr.cell? ⟨w.heap.size, 1, none⟩ = some (.int .i64 c1) := (blk_cell HX.out 1).trans rfl;have hc := HCMP.out (((lo : Int) + (hi : Int)) / 2);have hx1 : 0 ≤ ((lo : Int) + (hi : Int)) / 2 := by omega
   have hx2 : ((lo : Int) + (hi : Int)) / 2 < (l.length : Int) := by omega
   obtain ⟨z, hz⟩ : ∃ z, z = q (((lo : Int) + (hi : Int)) / 2) := ⟨_, rfl⟩;rw [← hz] at hc;have HZ := mk_ hz;clear hz;have mixed : Tryz.prog.follows Departure.mixedOrders = true := by kernel_rfl
   have hl2 : hi ≤ 1000000000 := by have := HL.out; omega
   have HQC := mk_ hc;clear hc;go_wp2_with fail;go_region_with_o (go_at_call 67; refine (HQC.out _).mono ?_; rintro e w' ⟨rfl, hb⟩)
   all_goals
    have B2 := mk_ (below_step HB.out (below_step (below_drew1 (Below.refl _ wr)) hb));have X2 := mk_ (blk_below (blk_drew HX.out) hb);clear hb HB HX m0 m1 b0 b1;by_cases hzn : z < 0
    ·go_wp2_with fail;go_roundg (hi - ((lo + hi) / 2 + 1))
     (case measure => omega)
     (case rel =>
      refine ⟨(lo + hi) / 2 + 1, hi, by rw [show (((lo + hi) / 2 + 1 : Nat) : Int) = ((lo : Int) + (hi : Int)) / 2 + 1 by omega], rfl, by omega, h2, Nat.le_refl _, ⟨?_⟩, B2, X2⟩
      have hI := HI.out
      obtain ⟨d, hd⟩ : ∃ d, hi - lo = d + 1 := ⟨hi - lo - 1, by omega⟩
      rw [hd, bsL_lt q d lo hi hlt, show (((lo + hi) / 2 : Nat) : Int) = ((lo : Int) + (hi : Int)) / 2 by omega, ← HZ.out, if_pos hzn] at hI
      rw [← hI]
      exact bsL_more q _ _ _ _ (Nat.le_refl _) (by omega))
    ·go_wp2_with fail;go_roundg ((lo + hi) / 2 - lo)
     (case measure => omega)
     (case rel =>
      refine ⟨lo, (lo + hi) / 2, rfl, by rw [show (((lo + hi) / 2 : Nat) : Int) = ((lo : Int) + (hi : Int)) / 2 by omega], by omega, by omega, Nat.le_refl _, ⟨?_⟩, B2, X2⟩
      have hI := HI.out
      obtain ⟨d, hd⟩ : ∃ d, hi - lo = d + 1 := ⟨hi - lo - 1, by omega⟩
      rw [hd, bsL_lt q d lo hi hlt, show (((lo + hi) / 2 : Nat) : Int) = ((lo : Int) + (hi : Int)) / 2 by omega, ← HZ.out, if_neg (Int.not_lt.2 hzn)] at hI
      rw [← hI]
      exact bsL_more q _ _ _ _ (Nat.le_refl _) (by omega))
  ·obtain rfl : hi = lo := by omega
   obtain rfl : hi = I := by
    have hI := HI.out;rwa [bsL_ge q _ hi hi hlt] at hI
   clear HI;by_cases hn : hi < l.length
   ·obtain ⟨ad, hA, m0, m1⟩ := at_T39 (Kd.C_below HC.out HB.out) (hi : Int) (by omega) (by omega);cases hA;have b0 : wr.cell? ⟨w.heap.size, 0, none⟩ = some (.int .i64 c0) := (blk_cell HX.out 0).trans rfl;have b1 : wr.cell? ⟨w.heap.size, 1, none⟩ = some (.int .i64 c1) := (blk_cell HX.out 1).trans rfl;rw [Int.toNat_natCast] at m0 m1;have hc := HCMP.out (hi : Int);have mixed : Tryz.prog.follows Departure.mixedOrders = true := by kernel_rfl
    have hnd : decide ((hi : Int) < (l.length : Int)) = true := decide_eq_true (by omega);have hnn : decide (hi < l.length) = true := decide_eq_true hn;obtain ⟨z, hz⟩ : ∃ z, z = q (hi : Int) := ⟨_, rfl⟩;rw [← hz] at hc;have HZ := mk_ (show decide (z = 0) = F from by have h := HF.out; rw [← hz, hnn, Bool.true_and] at h; exact h);clear hz;have HQC := mk_ hc;clear hc;obtain ⟨x0, hx0⟩ : ∃ x0, x0 = (rd_T39 l (hi : Int)).f0 := ⟨_, rfl⟩;obtain ⟨x1, hx1⟩ : ∃ x1, x1 = (rd_T39 l (hi : Int)).f1 := ⟨_, rfl⟩;rw [← hx0] at m0;rw [← hx1] at m1;have HQC := mk_ (fun W => by have h := HQC.out W; rw [← hx0, ← hx1] at h; exact h);clear hx0 hx1;go_wp2_with fail;refine start_ (n := 16) (S := fun w' => w'.cell? (ad.add (hi * 2)) = some (.int .i64 x0) ∧ w'.cell? ⟨(ad.add (hi * 2)).block, (ad.add (hi * 2)).off + 1, none⟩ = some (.int .i64 x1) ∧ w'.cell? ⟨w.heap.size, 0, none⟩ = some (.int .i64 c0) ∧ w'.cell? ⟨w.heap.size, 1, none⟩ = some (.int .i64 c1)) (ds := [11]) #[false, false, false, false, false, false, false, false, false, false, false, false, false, false, false, false] (by kernel_rfl) rfl rfl ⟨m0, m1, b0, b1⟩ (fun hHeld => ?_);refine pu_ 0 (some 35) ?_;refine pu_ 1 (some 36) ?_;refine pu_ 2 (some 37) ?_;refine pu_ 3 (some 38) ?_;refine pu_ 4 (some 39) ?_;refine pu_ 5 (some 40) ?_;refine pu_ 6 (some 41) ?_;refine pu_ 7 (some 42) ?_;refine pu_ 8 (some 43) ?_;refine ta4_ 9 (some 44) hHeld ?_;refine ta4_ 10 (some 45) hHeld ?_;refine last_ (i := 11) (N := some 46) #[true, true, true, true, true, true, true, true, true, true, true, true, false, false, false, false] rfl rfl (by kernel_rfl) (by decide) (fun K hK => ?_);refine call_ 67 #[.agg #[.int .i64 x0, .int .i64 x1], .agg #[.int .i64 c0, .int .i64 c1]] (by rfl) rfl ?_ ?_
    ·have he := fun W => enters_ (P := Tryz.prog) Tryz.func67 (by kernel_rfl) rfl #[.agg #[.int .i64 x0, .int .i64 x1], .agg #[.int .i64 c0, .int .i64 c1]] W
     unfold execOp;simp [resolve, Deferred.ofValue, invoke, Act.eval, he]
    refine (HQC.out _).mono ?_;rintro e w3 ⟨rfl, hb⟩;refine ⟨_, rfl, ?_⟩;refine hK.out _ _ ?_;clear hK K;refine nm_ (some 46) ?_;refine pu_ 12 (some 47) ?_;refine pu_ 13 (some 48) ?_;refine pu_ 14 (some 6) ?_;refine pu_ 15 (some 7) ?_;refine done_ (by kernel_rfl) ?_;have B2 := mk_ (below_step HB.out (below_step (below_drew1 (Below.refl _ wr)) hb));clear hb;go_wp2_with fail;go_ret2;exact ⟨by rw [← HZ.out]; rfl, B2.out⟩
   ·have hF := HF.out;rw [decide_eq_false hn, Bool.false_and] at hF;subst hF;have hnd : decide ((hi : Int) < (l.length : Int)) = false := decide_eq_false (by omega);have mixed : Tryz.prog.follows Departure.mixedOrders = true := by kernel_rfl
    go_wp2_with fail;refine start_ (n := 16) (S := fun w' => True) (ds := []) #[false, false, false, false, false, false, false, false, false, false, false, false, false, false, false, false] (by kernel_rfl) rfl rfl trivial (fun hHeld => ?_);refine pu_ 0 (some 35) ?_;refine pu_ 1 (some 36) ?_;refine pu_ 2 (some 37) ?_;refine pu_ 3 (some 38) ?_;refine pu_ 4 (some 39) ?_;refine pv_ 5 (some 40) ?_;refine pv_ 6 (some 41) ?_;refine pv_ 7 (some 42) ?_;refine pv_ 8 (some 43) ?_;refine pv_ 9 (some 44) ?_;refine pv_ 10 (some 45) ?_;refine pv_ 11 (some 46) ?_;refine pv_ 12 (some 47) ?_;refine pu_ 13 (some 48) ?_;refine pu_ 14 (some 6) ?_;refine pu_ 15 (some 7) ?_;refine done_ (by kernel_rfl) ?_;go_wp2_with fail;go_ret2;exact ⟨rfl, below_drew1 HB.out⟩
section
open Go.Lib
def chF : List S39 → List Value
 | [] => []
 | x :: l => .int .i64 x.f0 :: .int .i64 x.f1 :: chF l
theorem chF_len : ∀ l : List S39, (chF l).length = l.length * 2
 | [] => rfl
 | x :: l => by simp [chF, chF_len l]; omega
theorem chF_append : ∀ a b : List S39, chF (a ++ b) = chF a ++ chF b
 | [], b => rfl
 | x :: a, b => by simp [chF, chF_append a b]
theorem chF_take : ∀ (l : List S39) (i : Nat), (chF l).take (i * 2) = chF (l.take i)
 | [], i => by simp [chF]
 | x :: l, 0 => by simp [chF]
 | x :: l, i + 1 => by
  rw [show (i + 1) * 2 = i * 2 + 1 + 1 by omega];simp [chF, chF_take l i]
theorem chF_drop : ∀ (l : List S39) (i : Nat), (chF l).drop (i * 2) = chF (l.drop i)
 | [], i => by simp [chF]
 | x :: l, 0 => by simp
 | x :: l, i + 1 => by
  rw [show (i + 1) * 2 = i * 2 + 1 + 1 by omega];simp [chF, chF_drop l i]
theorem chF_one : ∀ (l : List S39), ∀ v ∈ chF l, v.oneCell' = true
 | [], v, h => by simp [chF] at h
 | x :: l, v, h => by
  simp only [chF, List.mem_cons] at h;rcases h with rfl | rfl | h
  ·rfl
  ·rfl
  ·exact chF_one l v h
theorem chF_get : ∀ (l : List S39) (j : Nat) (p : S39), l[j]? = some p → ((chF l).drop (j * 2)).take 2 = [.int .i64 p.f0, .int .i64 p.f1]
 | [], j, p, h => by simp at h
 | x :: l, 0, p, h => by simp at h; subst h; simp [chF]
 | x :: l, j + 1, p, h => by
  rw [show (j + 1) * 2 = j * 2 + 1 + 1 by omega];simp only [chF, List.drop_succ_cons];exact chF_get l j p (by simpa using h)
theorem chord_leave2 {w : World} {base : Nat} {ok : Nat → Prop} {g m cap : Nat} {cur : Array Value} {l : List S39} (hb : w.heap[g]? = some (.cells cur 39 (0, 0))) (hbase : base ≤ g) (hcur : cur.size = cap * 2) (hmax : cap ≤ maxLen) (hl : l.length = m) (hm : m ≤ cap) (hok : ok g)
  (hH : cur.toList.take (m * 2) = chF l) :
  Kd.R k39 39 w base ok (.slice (some ⟨g, 0, none⟩) m cap) l := by
 have hinner : (cur.toList.take (m * 2)).length = m * 2 := by
  rw [List.length_take, Array.length_toList]; omega
 refine ⟨fun k hk => ?_, cur.toList.take (m * 2), ?_, ?_⟩
 ·simp [Value.ownBlock] at hk;exact hk ▸ hok
 ·show w.ownsRow base 39 2 _ l.length _;rw [hl];exact ⟨hinner, .inr ⟨g, cap, cur, rfl, hbase, hb, hm, hmax, hcur, rfl⟩⟩
 ·show Reps _ 2 l _;refine ⟨by rw [hinner, hl], fun j p hj => ?_⟩;rw [hH];have e := chF_get l j p hj;rw [e];exact k39_mkM _ _ _ p
theorem chF_of : ∀ (l : List S39) (cs : List Value), cs.length = l.length * 2 → (∀ j p, l[j]? = some p → (cs.drop (j * 2)).take 2 = [.int .i64 p.f0, .int .i64 p.f1]) → cs = chF l
 | [], cs, hl, _ => by
  have : cs = [] := List.eq_nil_of_length_eq_zero (by simpa using hl);rw [this]; rfl
 | x :: l, cs, hl, h => by
  have h0 := h 0 x rfl;simp only [Nat.zero_mul, List.drop_zero] at h0;obtain ⟨r, hr⟩ : ∃ r, cs = [.int .i64 x.f0, .int .i64 x.f1] ++ r := ⟨cs.drop 2, by rw [← h0, List.take_append_drop]⟩;subst hr;simp only [List.length_append, List.length_cons, List.length_nil] at hl
  have ih := chF_of l r (by omega) (fun j p hj => by
   have := h (j + 1) p (by simpa using hj)
   rw [show (j + 1) * 2 = j * 2 + 1 + 1 by omega] at this
   simpa using this)
  rw [ih]; rfl
theorem chord_block {w : World} {base : Nat} {ok : Nat → Prop} {g n cap : Nat} {l : List S39} (h : Kd.R k39 39 w base ok (.slice (some ⟨g, 0, none⟩) n cap) l) (hl : 0 < l.length) :
  ∃ cur : Array Value, w.heap[g]? = some (.cells cur 39 (0, 0)) ∧ cur.size = cap * 2 ∧ cap ≤ maxLen ∧ cur.toList.take (l.length * 2) = chF l := by
 have hn := (Kd.R_reads' h).1;obtain ⟨_, inner, hown, hreps⟩ := h;rcases hown.2 with ⟨e0, _⟩ | ⟨g', cap', cur, e0, hb, hg, hn', hm, hs, ht⟩
 ·cases e0
 ·injection e0 with e1 _ e3
  injection e1 with e1
  injection e1 with e1
  subst e1; subst e3;have hsz : k39.sz = 2 := rfl;rw [hsz] at ht hs;refine ⟨cur, hg, hs, hm, ?_⟩;rw [ht];refine chF_of l inner (by have := hreps.1; rw [hsz] at this; exact this) (fun j p hj => ?_);have hM := hreps.2 j p hj;rw [hsz] at hM;exact k39_openM hM
theorem run_copy_two (w : World) (dT sT ty elem : TypeId) (b o dLen dCap : Nat) (a : Addr) (sLen sCap : Nat) (cs : List Value)
  (hu : Tryz.prog.underlying dT = some (.slice elem)) (hs : (Tryz.prog.info? elem).map (·.size) = some 2) (hn : cs.length = Nat.min sLen dLen * 2)
  (hsrc : ∀ j v, cs[j]? = some v → w.cell? (a.add j) = some v) (hc : ∀ j, j < cs.length → (w.cell? ⟨b, o + j, none⟩).isSome = true) (hf : ∀ j, j < cs.length → w.frozen? ⟨b, o + j, none⟩ = false) (h1 : ∀ v ∈ cs, v.oneCell' = true) :
  (Builtin.copy_ #[dT, sT] ty #[.slice (some ⟨b, o, none⟩) dLen dCap, .slice (some a) sLen sCap]).run Tryz.prog w = .ok (goInt (Nat.min sLen dLen)) (w.setCells b o cs) := by
 have hl := run_loadCells_list (P := Tryz.prog) w a cs hsrc;rw [hn] at hl;have hst := run_storeCells_cells (P := Tryz.prog) b o cs 0 w (by simpa using hc) (by simpa using hf) h1;simp only [Nat.add_zero] at hst
 cases hq : Tryz.prog.info? elem with
 | none => simp [hq] at hs
 | some i =>
  have hi : i.size = 2 := by simpa [hq] using hs
  simp [Builtin.copy_, run_underlying hu, Builtin.lenOf, Builtin.firstCells, sizeOf, typeInfo, hq, hi, hl, hst]
theorem insert_shift (g cap i vb vc : Nat) (l : List S39) (x : S39) (w : World) (cur : Array Value) (hb : w.heap[g]? = some (.cells cur 39 (0, 0))) (hs : cur.size = cap * 2) (hH : cur.toList.take (l.length * 2) = chF l)
  (hv : w.heap[vb]? = some (.cells #[.int .i64 x.f0, .int .i64 x.f1] 39 (0, 0))) (hi : i < l.length) (hroom : l.length + 1 ≤ cap) (hc63 : cap ≤ 9223372036854775807) (hne : vb ≠ g) :
  Calls Tryz.prog 69 #[.slice (some ⟨g, 0, none⟩) l.length cap, .int .i64 i, .slice (some ⟨vb, 0, none⟩) 1 vc] w fun e w' =>
   e = .returned (.slice (some ⟨g, 0, none⟩) (l.length + 1) cap) ∧ w' = (w.drew.setCells g ((i + 1) * 2) (chF (l.drop i))).setCells g (i * 2) [.int .i64 x.f0, .int .i64 x.f1] := by
 have u25 := Tryz.underlying26;have hsz : (Tryz.prog.info? 39).map (·.size) = some 2 := by kernel_rfl
 obtain ⟨cs, hcs⟩ : ∃ cs, cs = chF (l.drop i) := ⟨_, rfl⟩;have hcl : cs.length = (l.length - i) * 2 := by rw [hcs, chF_len, List.length_drop]
 have h1c : ∀ v ∈ cs, v.oneCell' = true := by rw [hcs]; exact chF_one _
 have hcell : ∀ t, t < cap * 2 → (w.cell? ⟨g, t, none⟩).isSome = true := fun t ht => by simp [World.cell?, hb, hs, ht]
 have hfz : ∀ t, w.frozen? ⟨g, t, none⟩ = false := fun t => by simp [World.frozen?, hb]
 have hread : ∀ j v, cs[j]? = some v → w.cell? ⟨g, i * 2 + j, none⟩ = some v := by
  intro j v hj;have hjl : j < cs.length := (List.getElem?_eq_some_iff.1 hj).1
  have e : cur[i * 2 + j]? = some v := by
   rw [← Array.getElem?_toList, ← hj, hcs, ← chF_drop, List.getElem?_drop, ← hH, List.getElem?_take, if_pos (by omega)]
  simpa [World.cell?, hb] using e
 rw [← hcs]
 have hvc : ∀ j v, ([Value.int .i64 x.f0, .int .i64 x.f1] : List Value)[j]? = some v → w.cell? ⟨vb, j, none⟩ = some v := by
  intro j v hj;simpa [World.cell?, hv] using hj
 have h1v : ∀ v ∈ ([Value.int .i64 x.f0, .int .i64 x.f1] : List Value), v.oneCell' = true := by
  intro v h;simp at h;rcases h with rfl | rfl <;> rfl
 have hov : ∀ lb cb, (callFunc 103 #[.slice (some ⟨vb, 0, none⟩) 1 vc, .slice (some ⟨g, (i + 1) * 2, none⟩) lb cb]).run Tryz.prog w = .ok (.value (.bool false)) w := fun lb cb => by
  rw [run_callFunc_extern Tryz.func103 (by kernel_rfl) (by kernel_rfl) (by kernel_rfl) (e := Extern.SlicesOverlaps.overlaps #[26, 26] #[4]) (by kernel_rfl),
   Lib.run_overlaps_apart w 26 4 39 Tryz.underlying26 2 (fun w => by kernel_rfl) ⟨vb, 0, none⟩ ⟨g, (i + 1) * 2, none⟩ 1 vc lb cb hne 39 39 2 (cap * 2) (by simp [World.shape?, hv]) (by simp [World.shape?, hb, hs]) (by omega) (by simp [World.frozen?, hv]) (by simp [World.frozen?, hv])]
  rfl
 obtain ⟨n, hn⟩ : ∃ n, n = l.length := ⟨_, rfl⟩;rw [← hn] at hi hroom hcl ⊢;have mixed : Tryz.prog.follows Departure.mixedOrders = true := by kernel_rfl
 have hz2 : ¬ ((i : Int) = (n : Int)) := by omega
 have hw1 : IntKind.i64.wrap ((i : Int) + 1) = (i : Int) + 1 := by rw [IntKind.wrap_i64]; omega
 have hb1 : (0 : Int) ≤ (i : Int) + 1 := by omega
 have hin : i ≤ n := by omega
 have htn : ((i : Int) + 1).toNat = i + 1 := by omega
 have hb2 : ¬ (cap = i + 1) := by omega
 have hb3 : (i : Int) ≤ (n : Int) + 1 := by omega
 have hb4 : ¬ (cap = i) := by omega
 have hcp1 : ∀ ty dc sc, (Builtin.copy_ #[26, 26] ty #[.slice (some ⟨g, (i + 1) * 2, none⟩) (n - i) dc, .slice (some ⟨g, i * 2, none⟩) (n + 1 - i) sc]).run Tryz.prog w.drew = .ok (goInt (Nat.min (n + 1 - i) (n - i))) (w.drew.setCells g ((i + 1) * 2) cs) := fun ty dc sc =>
  run_copy_two w.drew _ _ ty 39 g ((i + 1) * 2) (n - i) dc ⟨g, i * 2, none⟩ (n + 1 - i) sc cs Tryz.underlying26 hsz (by rw [hcl]; simp only [Nat.min_def]; split <;> omega)
   (fun j v hj => by rw [Addr.add_lit]; exact hread j v hj)
   (fun j hj => hcell _ (by omega)) (fun j hj => hfz _) h1c
 obtain ⟨W1, hW1⟩ : ∃ W1, W1 = w.drew.setCells g ((i + 1) * 2) cs := ⟨_, rfl⟩
 have hsp1 : ∀ k, k < cap * 2 → (W1.cell? ⟨g, k, none⟩).isSome = true := fun k hk => by
  rw [hW1];exact isSome_setCells g cs ((i + 1) * 2) w.drew (fun j hj => hcell _ (by omega)) k (hcell k hk)
 have hcp2 : ∀ (W : World), (∀ x, W.cell? x = W1.cell? x) → (∀ x, W.frozen? x = W1.frozen? x) → ∀ ty dc, (Builtin.copy_ #[26, 26] ty #[.slice (some ⟨g, i * 2, none⟩) (n + 1 - i) dc, .slice (some ⟨vb, 0, none⟩) 1 vc]).run Tryz.prog W = .ok (goInt (Nat.min 1 (n + 1 - i))) (W.setCells g (i * 2) [.int .i64 x.f0, .int .i64 x.f1]) := fun W hWc hWf ty dc =>
  run_copy_two W _ _ ty 39 g (i * 2) (n + 1 - i) dc ⟨vb, 0, none⟩ 1 vc _ Tryz.underlying26 hsz (by simp only [Nat.min_def, List.length_cons, List.length_nil]; split <;> omega)
   (fun j v hj => by
    rw [Addr.add_lit, hWc, hW1, World.cell?_setCells_out g _ _ _ _ (fun h _ => absurd h hne), Nat.zero_add]
    exact hvc j v hj)
   (fun j hj => by rw [hWc]; simp at hj; exact hsp1 _ (by omega)) (fun j hj => by rw [hWf, hW1, World.frozen?_setCells]; exact hfz _) h1v
 rw [← hW1] at hcp1;clear hcell hfz hread hvc h1v h1c hsp1 hcs hcl hsz hH hn hs;go_enter Tryz.func69, Tryz.ntmps69;go_wp2_with (simp only [hov]);go_region_law_o (refine step_copy_runI rfl _ _ 26 26 rfl _ _ (by simp [Act.eval, Act.put]) (by simp [Act.eval, Act.put]) (hcp1 _ _ _) ?_);go_wp2_with (at_builtin; refine wpList_copy_runI _ rfl _ _ 26 26 rfl _ _ rfl rfl (hcp2 _ (fun _ => rfl) (fun _ => rfl) _ _) ?_);go_ret;first | exact ⟨rfl, rfl⟩ | exact ⟨rfl, by rw [hW1]⟩
theorem insert_grow (g i vb vc : Nat) (l : List S39) (x : S39) (w : World) (cur : Array Value) (hb : w.heap[g]? = some (.cells cur 39 (0, 0))) (hs : cur.size = l.length * 2) (hH : cur.toList.take (l.length * 2) = chF l)
  (hv : w.heap[vb]? = some (.cells #[.int .i64 x.f0, .int .i64 x.f1] 39 (0, 0))) (hi : i < l.length) (hl : l.length ≤ 1000000) :
  Calls Tryz.prog 69 #[.slice (some ⟨g, 0, none⟩) l.length l.length, .int .i64 i, .slice (some ⟨vb, 0, none⟩) 1 vc] w fun e w' =>
   ∃ (G : Nat) (ROW : Array Value), l.length + 1 ≤ G ∧ G ≤ maxLen ∧ ROW.size = G * 2 ∧ ROW.toList.take (i * 2) = chF (l.take i) ∧ e = .returned (.slice (some ⟨w.heap.size, 0, none⟩) (l.length + 1) G) ∧
    w' = (((w.alloc (.cells ROW 39)).drew.setCells w.heap.size (i * 2) [.int .i64 x.f0, .int .i64 x.f1]).drew).setCells w.heap.size ((i + 1) * 2) (chF (l.drop i)) := by
 have u25 := Tryz.underlying26
 obtain ⟨i0, hi0, hz0, hzs, hzb⟩ : ∃ i0, Tryz.prog.info? 39 = some i0 ∧ i0.zero = some (.agg #[.int .i64 0, .int .i64 0]) ∧ i0.size = 2 ∧ i0.bytes = 16 := by
  have h : (Tryz.prog.info? 39).map (fun i => (i.zero, i.size, i.bytes)) = some (some (.agg #[.int .i64 0, .int .i64 0]), 2, 16) := by kernel_rfl
  obtain ⟨i0, h1, h2⟩ := Option.map_eq_some_iff.1 h;simp only [Prod.mk.injEq] at h2;exact ⟨i0, h1, h2.1, h2.2.1, h2.2.2⟩
 have hsz : (Tryz.prog.info? 39).map (·.size) = some 2 := by rw [hi0]; simp [hzs]
 obtain ⟨cs, hcs⟩ : ∃ cs, cs = chF (l.drop i) := ⟨_, rfl⟩;have hcl : cs.length = (l.length - i) * 2 := by rw [hcs, chF_len, List.length_drop]
 have h1c : ∀ v ∈ cs, v.oneCell' = true := by rw [hcs]; exact chF_one _
 obtain ⟨hd, hhd⟩ : ∃ hd, hd = chF (l.take i) := ⟨_, rfl⟩;have hhl : hd.length = i * 2 := by rw [hhd, chF_len, List.length_take]; omega
 have hcur : ∀ j v, (chF l)[j]? = some v → w.cell? ⟨g, j, none⟩ = some v := by
  intro j v hj;have hjl : j < (chF l).length := (List.getElem?_eq_some_iff.1 hj).1;rw [chF_len] at hjl
  have e : cur[j]? = some v := by
   rw [← Array.getElem?_toList, ← hj, ← hH, List.getElem?_take, if_pos hjl]
  simpa [World.cell?, hb] using e
 have hread : ∀ j v, cs[j]? = some v → w.cell? ⟨g, i * 2 + j, none⟩ = some v := by
  intro j v hj;rw [hcs, ← chF_drop, List.getElem?_drop] at hj;exact hcur _ v hj
 have hreadh : ∀ j v, hd[j]? = some v → w.cell? ⟨g, j, none⟩ = some v := by
  intro j v hj;rw [hhd, ← chF_take, List.getElem?_take] at hj;split at hj
  ·exact hcur _ v hj
  ·cases hj
 rw [← hcs, ← hhd]
 have hvc : ∀ j v, ([Value.int .i64 x.f0, .int .i64 x.f1] : List Value)[j]? = some v → w.cell? ⟨vb, j, none⟩ = some v := by
  intro j v hj;simpa [World.cell?, hv] using hj
 have h1v : ∀ v ∈ ([Value.int .i64 x.f0, .int .i64 x.f1] : List Value), v.oneCell' = true := by
  intro v h;simp at h;rcases h with rfl | rfl <;> rfl
 obtain ⟨n, hn⟩ : ∃ n, n = l.length := ⟨_, rfl⟩;rw [← hn] at hi hcl hl ⊢;have mixed : Tryz.prog.follows Departure.mixedOrders = true := by kernel_rfl
 have hbw : g < w.heap.size := (Array.getElem?_eq_some_iff.1 hb).1;have hvw : vb < w.heap.size := (Array.getElem?_eq_some_iff.1 hv).1;have hz2 : ¬ ((i : Int) = (n : Int)) := by omega
 have hz3 : (n : Int) < (n : Int) + 1 := by omega
 have hkk : (n : Int) + 1 - (i : Int) = ((n + 1 - i : Nat) : Int) := by omega
 have hik : i + (n + 1 - i) = n + 1 := by omega
 have hold : (Builtin.firstCells i0.size i (.slice (some ⟨g, 0, none⟩) i n)).run Tryz.prog w.drew = .ok hd.toArray w.drew := by
  rw [hzs]
  exact run_firstCells_some w.drew 2 i ⟨g, 0, none⟩ i n hd (by rw [hhl]) (fun j v hj => by
   rw [Addr.add_lit, Nat.zero_add]
   exact hreadh j v hj)
 obtain ⟨G, hG⟩ : ∃ G, G = grownCap w (n + 1) n 39 := ⟨_, rfl⟩;obtain ⟨ROW, hROW⟩ : ∃ ROW : Array Value, ROW = hd.toArray ++ Builtin.zeroCells (Value.agg #[.int .i64 0, .int .i64 0]).cells (n + 1 - i) ++ Builtin.zeroCells (Value.agg #[.int .i64 0, .int .i64 0]).cells (G - (n + 1)) := ⟨_, rfl⟩
 have hrz : ∀ ty, (Builtin.append_ #[26, 3] ty #[.slice (some ⟨g, 0, none⟩) i n, .int .i64 ((n : Int) + 1 - (i : Int))]).run Tryz.prog w =
   .ok (.slice (some ⟨w.heap.size, 0, none⟩) (n + 1) G) (w.drew.alloc (.cells ROW 39)) := fun ty => by
  have h := Lib.run_append_grow_zeros w 26 3 ty 39 i0 _ .i64 .i64 Tryz.underlying26 Tryz.underlying3 hi0 hz0 (some ⟨g, 0, none⟩) i n hd hold (n + 1 - i) (by omega) (by omega) (by omega) (by omega) (by rw [hzb]; omega) (by rw [hzb, hik]; exact growslice_fits (by omega) (by omega));rw [hik] at h;rw [hkk, hG, hROW, hG];exact h
 have hGn : n + 1 ≤ G := by rw [hG]; exact grownCap_ge w _ _ _
 have hG63 : G ≤ maxLen := by rw [hG]; exact grownCap_le_maxLen w (n + 1) n 39 (by unfold maxLen; omega)
 have hG63' : G ≤ 9223372036854775807 := by unfold maxLen at hG63; omega
 have hzc : ∀ k, (Builtin.zeroCells (Value.agg #[.int .i64 0, .int .i64 0]).cells k).size = k * 2 := by
  intro k;simp [Builtin.zeroCells, Value.cells]
 have hRs : ROW.size = G * 2 := by
  rw [hROW, Array.size_append, Array.size_append, hzc, hzc];simp [hhl];omega
 have hRt : ROW.toList.take (i * 2) = hd := by
  rw [hROW, Array.toList_append, Array.toList_append, List.append_assoc];exact List.take_left' (by simpa using hhl)
 obtain ⟨W1, hW1⟩ : ∃ W1, W1 = w.drew.alloc (.cells ROW 39) := ⟨_, rfl⟩;rw [← hW1] at hrz
 have hN : ∀ j, j < G * 2 → (W1.cell? ⟨w.heap.size, j, none⟩).isSome = true := fun j hj => by
  rw [hW1, World.cell?_alloc_at (w := w.drew) ROW _ w.heap.size j rfl, Array.getElem?_eq_getElem (by omega)]; rfl
 have hNf : ∀ j, W1.frozen? ⟨w.heap.size, j, none⟩ = false := fun j => by rw [hW1]; exact World.frozen?_alloc_at (w := w.drew) ROW _ w.heap.size j rfl
 have hOb : ∀ j v, w.cell? ⟨g, j, none⟩ = some v → W1.cell? ⟨g, j, none⟩ = some v := fun j v h => by rw [hW1, World.cell?_alloc_past (w := w.drew) _ g j hbw]; exact h
 have hOv : ∀ j v, w.cell? ⟨vb, j, none⟩ = some v → W1.cell? ⟨vb, j, none⟩ = some v := fun j v h => by rw [hW1, World.cell?_alloc_past (w := w.drew) _ vb j hvw]; exact h
 have hcpA : ∀ (W : World), (∀ x, W.cell? x = W1.cell? x) → (∀ x, W.frozen? x = W1.frozen? x) → ∀ ty dc, (Builtin.copy_ #[26, 26] ty #[.slice (some ⟨w.heap.size, i * 2, none⟩) (n + 1 - i) dc, .slice (some ⟨vb, 0, none⟩) 1 vc]).run Tryz.prog W = .ok (goInt (Nat.min 1 (n + 1 - i))) (W.setCells w.heap.size (i * 2) [.int .i64 x.f0, .int .i64 x.f1]) := fun W hWc hWf ty dc =>
  run_copy_two W _ _ ty 39 w.heap.size (i * 2) (n + 1 - i) dc ⟨vb, 0, none⟩ 1 vc _ Tryz.underlying26 hsz (by simp only [Nat.min_def, List.length_cons, List.length_nil]; split <;> omega)
   (fun j v hj => by rw [Addr.add_lit, hWc, Nat.zero_add]; exact hOv _ v (hvc j v hj))
   (fun j hj => by rw [hWc]; simp at hj; exact hN _ (by omega)) (fun j hj => by rw [hWf]; exact hNf _) h1v
 have hGi : ¬ (G = i) := by omega
 have hGim : ¬ (G = i + 1) := by omega
 have hci : ¬ (n = i) := by omega
 have hbN : g ≠ w.heap.size := by omega
 obtain ⟨W2, hW2⟩ : ∃ W2, W2 = W1.setCells w.heap.size (i * 2) [Value.int .i64 x.f0, .int .i64 x.f1] := ⟨_, rfl⟩
 have hcpB : ∀ (W : World), (∀ x, W.cell? x = W2.cell? x) → (∀ x, W.frozen? x = W2.frozen? x) → ∀ ty dc sc, (Builtin.copy_ #[26, 26] ty #[.slice (some ⟨w.heap.size, (i + 1) * 2, none⟩) (n - i) dc, .slice (some ⟨g, i * 2, none⟩) (n - i) sc]).run Tryz.prog W = .ok (goInt (Nat.min (n - i) (n - i))) (W.setCells w.heap.size ((i + 1) * 2) cs) := fun W hWc hWf ty dc sc =>
  run_copy_two W _ _ ty 39 w.heap.size ((i + 1) * 2) (n - i) dc ⟨g, i * 2, none⟩ (n - i) sc cs Tryz.underlying26 hsz (by rw [hcl]; simp only [Nat.min_def]; split <;> omega)
   (fun j v hj => by
    rw [Addr.add_lit, hWc, hW2, World.cell?_setCells_out _ _ _ _ _ (fun h _ => absurd h hbN)]
    exact hOb _ v (hread j v hj))
   (fun j hj => by rw [hWc, hW2]; exact isSome_setCells _ _ _ _ (fun t ht => hN _ (by simp at ht; omega)) _ (hN _ (by omega)))
   (fun j hj => by rw [hWf, hW2, World.frozen?_setCells]; exact hNf _) h1c
 subst hW2;subst hW1;have hE1 : ∀ x, ((w.alloc (.cells ROW 39)).drew).cell? x = (w.drew.alloc (.cells ROW 39)).cell? x := fun x => rfl
 have hE2 : ∀ x, ((w.alloc (.cells ROW 39)).drew).frozen? x = (w.drew.alloc (.cells ROW 39)).frozen? x := fun x => rfl
 have hw1 : IntKind.i64.wrap ((i : Int) + 1) = (i : Int) + 1 := by rw [IntKind.wrap_i64]; omega
 have hb1 : (0 : Int) ≤ (i : Int) + 1 := by omega
 have hin : i ≤ n := by omega
 have htn : ((i : Int) + 1).toNat = i + 1 := by omega
 have hb3 : (i : Int) ≤ (n : Int) := by omega
 have RT := mk_ hRt;have RS := mk_ hRs;clear hkk hik hold hROW hG hread hreadh hvc h1v h1c hcs hhd hhl hcl hcur hsz hH hn hs hN hNf hOb hOv hzc hRt hRs;go_enter Tryz.func69, Tryz.ntmps69
 go_wp2_with (first
  | (at_builtin; refine Lib.wpList_append_run _ rfl _ _ _ _ rfl _ _ rfl rfl _ _ (hrz _) ?_)
  | (at_builtin; refine wpList_copy_runI _ rfl _ _ 26 26 rfl _ _ rfl rfl (hcpA _ hE1 hE2 _ _) ?_)
  | (at_builtin; refine wpList_copy_runI _ rfl _ _ 26 26 rfl _ _ rfl rfl (hcpB _ (fun _ => rfl) (fun _ => rfl) _ _ _) ?_))
 have hF1 : ∀ y, (((w.alloc (.cells ROW 39)).drew.setCells w.heap.size (i * 2) [Value.int .i64 x.f0, .int .i64 x.f1]).drew).cell? y = ((w.drew.alloc (.cells ROW 39)).setCells w.heap.size (i * 2) [Value.int .i64 x.f0, .int .i64 x.f1]).cell? y := fun y => rfl
 have hF2 : ∀ y, (((w.alloc (.cells ROW 39)).drew.setCells w.heap.size (i * 2) [Value.int .i64 x.f0, .int .i64 x.f1]).drew).frozen? y = ((w.drew.alloc (.cells ROW 39)).setCells w.heap.size (i * 2) [Value.int .i64 x.f0, .int .i64 x.f1]).frozen? y := fun y => rfl
 go_region_law_o (refine step_copy_runI rfl _ _ 26 26 rfl (.slice (some ⟨w.heap.size, (i + 1) * 2, none⟩) (n - i) (G - (i + 1))) (.slice (some ⟨g, i * 2, none⟩) (n - i) (n - i)) (by simp [Act.eval, Act.put]) (by simp [Act.eval, Act.put]) (hcpB _ hF1 hF2 3 (G - (i + 1)) (n - i)) ?_);go_wp2;go_ret;exact ⟨G, ROW, hGn, hG63, RS.out, RT.out, rfl, rfl⟩
theorem below_setCells {B g : Nat} {a : World} (hg : B ≤ g) : ∀ (vs : List Value) (o : Nat) (w : World), Below B a w → Below B a (w.setCells g o vs)
 | [], _, _, h => h
 | v :: vs, o, w, h => below_setCells hg vs (o + 1) _ (h.setCell hg v)
theorem put_one {cur cur1 cur2 : List Value} {l : List S39} {x : S39} {i : Nat} (hi : i ≤ l.length) (hc : l.length * 2 + 2 ≤ cur.length) (h0 : cur.take (i * 2) = chF (l.take i))
  (h1 : cur1 = cur.take ((i + 1) * 2) ++ chF (l.drop i) ++ cur.drop ((i + 1) * 2 + (chF (l.drop i)).length)) (h2 : cur2 = cur1.take (i * 2) ++ [Value.int .i64 x.f0, .int .i64 x.f1] ++ cur1.drop (i * 2 + 2)) :
  cur2.take ((l.length + 1) * 2) = chF (l.take i ++ [x] ++ l.drop i) := by
 have e1 : cur1.take (i * 2) = chF (l.take i) := by
  rw [h1, List.append_assoc, List.take_append_of_le_length (by rw [List.length_take]; omega), List.take_take, Nat.min_eq_left (by omega), h0]
 have e2 : cur1.drop (i * 2 + 2) = chF (l.drop i) ++ cur.drop ((i + 1) * 2 + (chF (l.drop i)).length) := by
  rw [h1, List.append_assoc, List.drop_left' (by rw [List.length_take]; omega)]
 rw [h2, e1, e2, chF_append, chF_append]
 have hl : (chF (l.take i) ++ chF [x] ++ chF (l.drop i)).length = (l.length + 1) * 2 := by
  rw [List.length_append, List.length_append, chF_len, chF_len, chF_len, List.length_take, List.length_drop, List.length_singleton];omega
 rw [← List.append_assoc];exact List.take_left' hl
theorem put_two {cur cur1 cur2 : List Value} {l : List S39} {x : S39} {i : Nat} (hi : i ≤ l.length) (hc : l.length * 2 + 2 ≤ cur.length) (h0 : cur.take (i * 2) = chF (l.take i))
  (h1 : cur1 = cur.take (i * 2) ++ [Value.int .i64 x.f0, .int .i64 x.f1] ++ cur.drop (i * 2 + 2)) (h2 : cur2 = cur1.take ((i + 1) * 2) ++ chF (l.drop i) ++ cur1.drop ((i + 1) * 2 + (chF (l.drop i)).length)) :
  cur2.take ((l.length + 1) * 2) = chF (l.take i ++ [x] ++ l.drop i) := by
 have e1 : cur1.take ((i + 1) * 2) = chF (l.take i) ++ [Value.int .i64 x.f0, .int .i64 x.f1] := by
  rw [h1, h0];exact List.take_left' (by rw [List.length_append, chF_len, List.length_take]; simp; omega)
 rw [h2, e1, chF_append, chF_append]
 have hl : (chF (l.take i) ++ chF [x] ++ chF (l.drop i)).length = (l.length + 1) * 2 := by
  rw [List.length_append, List.length_append, chF_len, chF_len, chF_len, List.length_take, List.length_drop, List.length_singleton];omega
 exact List.take_left' hl
theorem insert_any (base vb vc i : Nat) (v : Value) (l : List S39) (x : S39) (w0 W : World) (hB : Below base w0 W) (hR : Kd.R k39 39 W base (fun k => k ≠ vb) v l)
  (hv : W.heap[vb]? = some (.cells #[.int .i64 x.f0, .int .i64 x.f1] 39 (0, 0))) (hi : i ≤ l.length) (hl : l.length ≤ 1000000) (hbase : base ≤ W.heap.size) :
  Calls Tryz.prog 69 #[v, .int .i64 i, .slice (some ⟨vb, 0, none⟩) 1 vc] W fun e w' =>
   ∃ v' : Value, e = .returned v' ∧ Kd.R k39 39 w' base (fun _ => True) v' (l.take i ++ [x] ++ l.drop i) ∧ Below base w0 w' := by
 by_cases hlt : i < l.length
 ·obtain ⟨g, cap, rfl, hbg, hgl, _⟩ := Kd.R_form hR (by omega);obtain ⟨cur, hb, hs, hm, hH⟩ := chord_block hR (by omega);have hne : vb ≠ g := fun h => hR.1 g rfl h.symm
  have hcap : l.length ≤ cap := (Kd.R_reads' hR).2.1;by_cases hroom : l.length + 1 ≤ cap
  ·refine (insert_shift g cap i vb vc l x W cur hb hs hH hv hlt hroom (by unfold maxLen at hm; omega) hne).mono ?_;rintro e w' ⟨rfl, rfl⟩;obtain ⟨c1, a1, a2, a3⟩ := setCells_row (chF (l.drop i)) ((i + 1) * 2) W.drew cur hb (by rw [chF_len, List.length_drop]; omega);obtain ⟨c2, b1, b2, b3⟩ := setCells_row [Value.int .i64 x.f0, .int .i64 x.f1] (i * 2) _ c1 a1 (by simp; omega);refine ⟨_, rfl, chord_leave2 b1 hbg (by omega) hm (by simp; omega) hroom trivial ?_, below_setCells hbg _ _ _ (below_setCells hbg _ _ _ hB.drew)⟩
   exact put_one (cur := cur.toList) hi (by have := cur.length_toList; omega) (by
    have := congrArg (List.take (i * 2)) hH
    rw [List.take_take, Nat.min_eq_left (by omega), chF_take] at this
    exact this) a3 b3
  ·obtain rfl : cap = l.length := by omega
   refine (insert_grow g i vb vc l x W cur hb hs hH hv hlt hl).mono ?_;rintro e w' ⟨G, ROW, h1, h2, h3, h4, rfl, rfl⟩;have hb0 : (W.alloc (.cells ROW 39)).drew.heap[W.heap.size]? = some (.cells ROW 39 (0, 0)) := (MapKept.heap_alloc W _).1;obtain ⟨c1, a1, a2, a3⟩ := setCells_row [Value.int .i64 x.f0, .int .i64 x.f1] (i * 2) _ ROW hb0 (by simp; omega);obtain ⟨c2, b1, b2, b3⟩ := setCells_row (chF (l.drop i)) ((i + 1) * 2) (((W.alloc (.cells ROW 39)).drew.setCells W.heap.size (i * 2) [Value.int .i64 x.f0, .int .i64 x.f1]).drew) c1 a1 (by rw [chF_len, List.length_drop]; omega);refine ⟨_, rfl, chord_leave2 b1 hbase (by omega) h2 (by simp; omega) h1 trivial ?_, below_setCells hbase _ _ _ (below_setCells hbase _ _ _ ((hB.alloc hbase _).drew)).drew⟩;exact put_two (cur := ROW.toList) hi (by have := ROW.length_toList; omega) h4 a3 b3
 ·obtain rfl : i = l.length := by omega
  rw [List.take_length, List.drop_length, List.append_nil];have HR := mk_ (Kd.R_mono hR (ok' := fun _ => True) (fun _ _ => trivial));have HB := mk_ hB;have HX := mk_ hbase
  have HV : Kd.C k39 W (some ⟨vb, 0, none⟩) 1 [x] := by
   refine ⟨rfl, by omega, fun _ => ⟨_, rfl, fun j p hj => ?_⟩⟩
   have hj0 : j = 0 := by
    have := (List.getElem?_eq_some_iff.1 hj).1;simpa using this
   subst hj0;simp at hj;subst hj;refine ⟨_, rfl, k39_mk W x, fun t u hu => ?_⟩;rw [Addr.add_lit, Nat.zero_add];simpa [World.cell?, hv] using hu
  have HVV := mk_ HV
  have hform : (v = .slice none 0 0 ∧ l = []) ∨ ∃ g cap, v = .slice (some ⟨g, 0, none⟩) l.length cap ∧ l.length ≤ cap := by
   obtain ⟨_, inner, hown, _⟩ := hR;rcases hown.2 with ⟨e0, e1⟩ | ⟨g, cap, cur, e0, _, _, h3, _, _, _⟩
   ·exact .inl ⟨e0, List.eq_nil_of_length_eq_zero e1⟩
   ·exact .inr ⟨g, cap, e0, h3⟩
  clear hR hB hv HV hbase hi hlt;rcases hform with ⟨rfl, rfl⟩ | ⟨g, c, rfl, hlc⟩
  ·rw [List.length_nil];go_enter Tryz.func69, Tryz.ntmps69;go_wp2_with ((with_reducible refine gate_builtin (b := .append) (xs := #[.tmp 23, .tmp 24]) rfl ?_); at_builtin; refine Kd.R_append_rows k39 (w0 := w0) base rfl (.tmp 23) (.tmp 24) 26 39 (.agg #[(.int .i64 0), (.int .i64 0)]) 16 rfl Tryz.underlying26 info39 rfl (by decide) (by omega) (.slice none 0 0) [] [x] _ _ _ (fun _ => True) (fun _ => False) rfl rfl HR.out HVV.out (fun _ _ h => h) (fun _ h => h.elim) (fun _ _ => trivial) HB.out HX.out (by simp) ?_; intro v1 w1 ho hb hg hat; have n0_ := mk_ hb; have n1_ := mk_ ho; clear ho hb hg hat);go_ret;exact ⟨_, rfl, n1_.out, n0_.out⟩
  ·obtain ⟨n, hn⟩ : ∃ n, n = l.length := ⟨_, rfl⟩;rw [← hn] at hlc hl ⊢;rw [← hn] at HR;have HN := mk_ hn;clear hn;by_cases hcn : c = n
   all_goals
    go_enter Tryz.func69, Tryz.ntmps69;go_wp2_with ((with_reducible refine gate_builtin (b := .append) (xs := #[.tmp 23, .tmp 24]) rfl ?_); at_builtin; refine Kd.R_append_rows k39 (w0 := w0) base rfl (.tmp 23) (.tmp 24) 26 39 (.agg #[(.int .i64 0), (.int .i64 0)]) 16 rfl Tryz.underlying26 info39 rfl (by decide) (by omega) (.slice (some ⟨g, 0, none⟩) n c) l [x] _ _ _ (fun _ => True) (fun _ => False) rfl rfl HR.out HVV.out (fun _ _ h => h) (fun _ h => h.elim) (fun _ _ => trivial) HB.out HX.out (by have := HN.out; omega) ?_; intro v1 w1 ho hb hg hat; have n0_ := mk_ hb; have n1_ := mk_ ho; clear ho hb hg hat);go_ret;exact ⟨_, rfl, n1_.out, n0_.out⟩
end
def impl_AddChord.f (k : Nat) (a0 : Int) (l1 : List S39) (a2_0 a2_1 : Int) : Option (List S39 × Bool) :=
 (impl_isSet.f k a0 l1).bind fun s => (impl_isChord.f a0 a2_0 a2_1).bind fun i => if l1.length ≤ 1000000000 then (if l1.length ≤ 1000000 then (if s = true then (if i = true then (if bsHit l1 a2_0 a2_1 = true then some ([], false) else if l1.length = 40 then some ([], false) else some (l1.take (bsOf l1 a2_0 a2_1) ++ [⟨a2_0, a2_1⟩] ++ l1.drop (bsOf l1 a2_0 a2_1), true)) else some ([], false)) else some ([], false))
  else (if s = true then none else some ([], false))) else none
theorem addChord_walk (k : Nat) (a0 : Int) (A1 : Option Addr) (cap1 : Nat) (l1 : List S39) (c0 c1 : Int) (r1 : List S39) (r2 s i : Bool) (w : World) (hr1 : Kd.C k39 w A1 l1.length l1) (hc1 : l1.length ≤ cap1) (hl : l1.length ≤ 1000000000)
  (HS : Aside0 (impl_isSet.f k a0 l1 = some s)) (HI : Aside0 (impl_isChord.f a0 c0 c1 = some i))
  (HR : Aside0 ((if l1.length ≤ 1000000 then (if s = true then (if i = true then (if bsHit l1 c0 c1 = true then some ([], false) else if l1.length = 40 then some ([], false) else some (l1.take (bsOf l1 c0 c1) ++ [⟨c0, c1⟩] ++ l1.drop (bsOf l1 c0 c1), true)) else some ([], false)) else some ([], false)) else (if s = true then none else some ([], false)) : Option (List S39 × Bool)) = some (r1, r2))) :
  Calls Tryz.prog 22 #[.int .i64 a0, .slice A1 l1.length cap1, .agg #[.int .i64 c0, .int .i64 c1]] w fun e w' => ∃ v0_ : Value, e = .returned (.tuple #[v0_, .bool r2]) ∧ Kd.R k39 39 w' w.heap.size (fun _ => True) v0_ r1 ∧ Below w.heap.size w w' := by
 have HC := mk_ hr1;have HCAP := mk_ hc1;have HL := mk_ hl;obtain ⟨I, hI⟩ : ∃ I : Nat, I = bsOf l1 c0 c1 := ⟨_, rfl⟩;obtain ⟨F, hF⟩ : ∃ F : Bool, F = bsHit l1 c0 c1 := ⟨_, rfl⟩;have hIle : I ≤ l1.length := by rw [hI]; exact bsL_le _ _ _ _ (Nat.zero_le _)
 have HBS := mk_ (fun (W : World) (hB : Below w.heap.size w W) => (by rw [hI, hF]; exact bsearch_walk A1 cap1 l1 c0 c1 W (Kd.C_below HC.out hB) HCAP.out HL.out : Calls Tryz.prog 66 #[.slice A1 l1.length cap1, .agg #[.int .i64 c0, .int .i64 c1], .func (.func 67) #[] #[]] W fun e w' =>
   e = .returned (.tuple #[.int .i64 (I : Nat), .bool F]) ∧ Below W.heap.size W w'))
 rw [← hI, ← hF] at HR;have HIL := mk_ hIle;clear hI hF hIle hr1 hc1 hl;go_enter Tryz.func22, Tryz.ntmps22;have B0 := mk_ (below_alloc (Below.refl w.heap.size w) (.cells #[.int .i64 c0, .int .i64 c1] 39));have X0 := mk_ (show (w.alloc (.cells #[.int .i64 c0, .int .i64 c1] 39)).heap[w.heap.size]? = some (.cells #[.int .i64 c0, .int .i64 c1] 39 (0, 0)) from (MapKept.heap_alloc w _).1);go_wp2_with fail;refine (HBS.out _ B0.out).mono ?_;rintro e w1 ⟨rfl, hb⟩;have B1 := mk_ (below_step B0.out hb);have X1 := mk_ (blk_below X0.out hb);clear hb X0 B0 HBS;go_wp2_with fail;refine (impl_isSet.calls k a0 A1 cap1 l1 s w1 (Kd.C_below HC.out B1.out) HCAP.out HS.out).mono ?_;rintro e w2 ⟨rfl, hb⟩;have B2 := mk_ (below_step B1.out hb);have X2 := mk_ (blk_below X1.out hb);clear hb X1 B1
 cases s with
 | false =>
  have hR := HR.out;simp only [Bool.false_eq_true, if_false, ite_self] at hR;injection hR with hR
  injection hR with e1 e2
  subst e1; subst e2;go_wp2_with fail;go_ret2;exact ⟨_, rfl, Kd.R_nil _ _ _ _ _, B2.out⟩
 | true =>
  have hR := HR.out;by_cases hlen : l1.length ≤ 1000000
  ·rw [if_pos hlen] at hR;simp only [if_true] at hR;have HRR := mk_ hR;have HLEN := mk_ hlen;clear hR hlen HR HS;have b0 : w2.cell? ⟨w.heap.size, 0, none⟩ = some (.int .i64 c0) := (blk_cell X2.out 0).trans rfl;have b1 : w2.cell? ⟨w.heap.size, 1, none⟩ = some (.int .i64 c1) := (blk_cell X2.out 1).trans rfl;go_wp2_with fail;clear b0 b1;refine (impl_isChord.calls a0 c0 c1 i w2 HI.out).mono ?_;rintro e w3 ⟨rfl, hb⟩;have B3 := mk_ (below_step B2.out hb);have X3 := mk_ (blk_below X2.out hb);clear hb X2 B2 HI
   cases i with
   | false =>
    have hR := HRR.out;simp only [Bool.false_eq_true, if_false] at hR;injection hR with hR
    injection hR with e1 e2
    subst e1; subst e2;go_wp2_with fail;go_ret2;exact ⟨_, rfl, Kd.R_nil _ _ _ _ _, B3.out⟩
   | true =>
    have hR := HRR.out;simp only [if_true] at hR;clear HRR
    cases F with
    | true =>
     simp only [if_true] at hR;injection hR with hR
     injection hR with e1 e2
     subst e1; subst e2;go_wp2_with fail;go_ret2;exact ⟨_, rfl, Kd.R_nil _ _ _ _ _, B3.out⟩
    | false =>
     simp only [Bool.false_eq_true, if_false] at hR;by_cases h40 : l1.length = 40
     ·rw [if_pos h40] at hR;injection hR with hR
      injection hR with e1 e2
      subst e1; subst e2;have hd : decide ((l1.length : Int) = 40) = true := decide_eq_true (by omega);have HD := mk_ hd;have hdb : ((l1.length : Int) == 40) = true := by simp [h40]
      clear h40 hd;go_wp2_with fail;go_ret2;exact ⟨_, rfl, Kd.R_nil _ _ _ _ _, B3.out⟩
     ·rw [if_neg h40] at hR;injection hR with hR
      injection hR with e1 e2
      subst e1; subst e2
      have hdb : ((l1.length : Int) == 40) = false := by
       have : ¬ (l1.length : Int) = 40 := by omega
       simpa using this
      clear h40;have b0 : w3.cell? ⟨w.heap.size, 0, none⟩ = some (.int .i64 c0) := (blk_cell X3.out 0).trans rfl;have b1 : w3.cell? ⟨w.heap.size, 1, none⟩ = some (.int .i64 c1) := (blk_cell X3.out 1).trans rfl;go_wp2_with fail;have HCL := mk_ (fun (W : World) (hB : Below w.heap.size w W) => impl_Chord_70.calls A1 cap1 l1 l1 W (Kd.C_below HC.out hB) HCAP.out (by have := HLEN.out; unfold impl_Chord_70.f; rw [if_pos (by omega)]));have HS0 := mk_ (below_size B3.out);have mixed : Tryz.prog.follows Departure.mixedOrders = true := by kernel_rfl
      go_region_with_o (first
       | (go_at_call 70; refine (HCL.out _ ?hb).mono ?_; (case hb => first | exact below_drew1 B3.out | exact below_drew1 (below_alloc B3.out _)); rintro e w4 ⟨v, rfl, hR4, hb4⟩; have X4 := blk_below (by first | exact blk_drew X3.out | exact blk_drew (blk_alloc X3.out _)) hb4; have b0 : w4.cell? ⟨w.heap.size, 0, none⟩ = some (.int .i64 c0) := (blk_cell X4 0).trans rfl; have b1 : w4.cell? ⟨w.heap.size, 1, none⟩ = some (.int .i64 c1) := (blk_cell X4 1).trans rfl; have R4 := mk_ hR4; have H4 := mk_ hb4; clear hR4 hb4 X4)
       | (go_at_call 69; refine (insert_any w.heap.size _ 1 I v l1 ⟨c0, c1⟩ w _ ?hb ?hr ?hv HIL.out HLEN.out ?hs).mono ?_; (case hb => first | exact below_alloc (below_step (below_drew1 B3.out) H4.out) _ | exact below_step (below_drew1 (below_alloc B3.out _)) H4.out); (case hs => first | exact below_size (below_alloc (below_step (below_drew1 B3.out) H4.out) _) | exact below_size (below_step (below_drew1 (below_alloc B3.out _)) H4.out)); (case hv => first | exact (MapKept.heap_alloc w4 _).1 | exact blk_below (blk_drew (MapKept.heap_alloc w3 _).1) H4.out); (case hr => first | exact Kd.R_lower (Kd.R_alloc (Kd.R_mono (Kd.R_bound R4.out) (fun k hk => Nat.ne_of_lt hk.2.2.1)) _) HS0.out | exact Kd.R_lower (Kd.R_mono (Kd.R_bound R4.out) (fun k hk => by have := hk.2.1; simp at this; omega)) (by have := HS0.out; simp; omega)); rintro e w5 ⟨v5, rfl, hR5, hB5⟩; have R5 := mk_ hR5; have B5 := mk_ hB5; clear hR5 hB5))
      all_goals
       go_wp2_with fail;go_ret2;exact ⟨_, rfl, R5.out, B5.out⟩
  ·rw [if_neg hlen] at hR;simp at hR
theorem impl_AddChord.calls (k : Nat) (a0 : Int) (A1 : Option Addr) (c1 : Nat) (l1 : List S39) (a2_0 a2_1 : Int) (r1 : List S39) (r2 : Bool) (w : World) (hr1 : Kd.C k39 w A1 l1.length l1) (hc1 : l1.length ≤ c1) (h : impl_AddChord.f k a0 l1 a2_0 a2_1 = some (r1, r2)) :
  Calls Tryz.prog 22 #[.int .i64 a0, .slice A1 l1.length c1, .agg #[.int .i64 a2_0, .int .i64 a2_1]] w fun e w' => ∃ v0_ : Value, e = .returned (.tuple #[v0_, .bool r2]) ∧ Kd.R k39 39 w' w.heap.size (fun _ => True) v0_ r1 ∧ Below w.heap.size w w' := by
 unfold impl_AddChord.f at h;obtain ⟨s, hs, h2⟩ := Option.bind_eq_some_iff.mp h;obtain ⟨i, hi, h3⟩ := Option.bind_eq_some_iff.mp h2;split at h3
 ·rename_i hl;exact addChord_walk k a0 A1 c1 l1 a2_0 a2_1 r1 r2 s i w hr1 hc1 hl ⟨hs⟩ ⟨hi⟩ ⟨h3⟩
 ·cases h3
def impl_DropChord.j0 : Nat → List (S39) → Int → Bool → Option ((List (S39)) × Bool)
 | 0, _, _, _ => none
 | k + 1, x1, x2, x19 => if x19 = true then (some (([] : List (S39)), false)) else ((impl_Chord_70.f x1).bind fun t436 => ((impl_Chord_72.f t436 x2 (wrap64 (x2 + 1))).bind fun t439 => (some (t439, true))))
def impl_DropChord.f (k : Nat) (a0 : Int) (l1 : List (S39)) (a2 : Int) : Option ((List (S39)) × Bool) := (impl_isSet.f k a0 l1).bind fun t434 => (if t434 = true then ((impl_within.f a2 0 (wrap64 ((l1.length : Int) - 1))).bind fun t435 => (impl_DropChord.j0 k l1 a2 (!t435))) else (impl_DropChord.j0 k l1 a2 true))
theorem impl_DropChord.calls (k : Nat) (a0 : Int) (A1 : Option Addr) (c1 : Nat) (l1 : List (S39)) (a2 : Int) (r1 : List (S39)) (r2 : Bool) (w : World) (hr1 : Kd.C k39 w A1 l1.length l1) (hc1 : l1.length ≤ c1) (h : impl_DropChord.f k a0 l1 a2 = some (r1, r2)) :
  Calls Tryz.prog 25 #[.int .i64 a0, .slice A1 l1.length c1, .int .i64 a2] w fun e w' => ∃ v0_ : Value, e = .returned (.tuple #[v0_, .bool r2]) ∧ Kd.R k39 39 w' w.heap.size (fun _ => True) v0_ r1 ∧ Below w.heap.size w w' := by
 have HR1 := mk_ hr1;have HC1 := mk_ hc1;clear hr1 hc1;have HB := mk_ (Below.refl w.heap.size w);have H : ((impl_isSet.f k a0 l1).bind fun t434 => (if t434 = true then ((impl_within.f a2 0 (wrap64 ((l1.length : Int) - 1))).bind fun t435 => (impl_DropChord.j0 k l1 a2 (!t435))) else (impl_DropChord.j0 k l1 a2 true))) = some (r1, r2) := h;clear h;have HC4 := mk_ H;clear H;go_enter Tryz.func25, Tryz.ntmps25;go_upto_region 1 with (fail)
 go_cut [19] (fun v19 wc => ∃ (kq : Nat) (x19_3 : Bool), v19 = .bool x19_3 ∧ Aside0 (impl_DropChord.j0 kq l1 a2 x19_3 = some (r1, r2)) ∧ Aside0 (kq ≤ k) ∧ Aside0 (Below w.heap.size w wc))
 case first =>
  have H := HC4.out;clear HC4;replace H := Option.bind_eq_some_iff.mp H;obtain ⟨t434, A50, H⟩ := H;try dsimp only at H
  have A5 := mk_ A50;clear A50;by_cases c6 : t434 = true
  ·subst c6;have H1 : ((impl_within.f a2 0 (wrap64 ((l1.length : Int) - 1))).bind fun t435 => (impl_DropChord.j0 k l1 a2 (!t435))) = some (r1, r2) := by rw [if_pos rfl] at H; exact H
   clear H;have H := H1;clear H1;replace H := Option.bind_eq_some_iff.mp H;obtain ⟨t435, A70, H⟩ := H;try dsimp only at H
   have A7 := mk_ A70;clear A70;have H' := mk_ H;clear H;go_wp2_with (first | (refine gc_ 10 Tryz.func53 #[.int .i64 a0, .slice A1 l1.length c1] ?_; (with_reducible refine (impl_isSet.calls k a0 _ _ l1 true _ ?side1 ?side2 A5.out).mono ?_); (case side1 => exact kc_ <| (Kd.C_below HR1.out HB.out)); (case side2 => exact HC1.out); rintro e w8 ⟨rfl, hb⟩; refine ⟨_, rfl, ?_⟩; have n0_ := mk_ (below_step bl_ hb); clear HB; have HB := n0_; clear n0_; (try clear hb); (try clear hb2); (try clear hk); (try clear hi)) | (go_at_call 44; (with_reducible refine (impl_within.calls a2 0 (wrap64 ((l1.length : Int) - 1)) t435 _ A7.out).mono ?_); rintro e w' ⟨rfl, ⟨nd, rfl⟩⟩));go_meet
   case rel => exact ⟨_, (!t435), (es_), H', ⟨by first | omega | exact Nat.le_refl _⟩, ⟨bl_⟩⟩
  ·replace c6 := Bool.eq_false_iff.mpr c6;subst c6;have H1 : (impl_DropChord.j0 k l1 a2 true) = some (r1, r2) := by rw [if_neg (show ¬ (false = true) by decide)] at H; exact H
   clear H;have H := H1;clear H1;have H' := mk_ H;clear H;go_wp2_with (first | (refine gc_ 10 Tryz.func53 #[.int .i64 a0, .slice A1 l1.length c1] ?_; (with_reducible refine (impl_isSet.calls k a0 _ _ l1 false _ ?side1 ?side2 A5.out).mono ?_); (case side1 => exact kc_ <| (Kd.C_below HR1.out HB.out)); (case side2 => exact HC1.out); rintro e w9 ⟨rfl, hb⟩; refine ⟨_, rfl, ?_⟩; have n0_ := mk_ (below_step bl_ hb); clear HB; have HB := n0_; clear n0_; (try clear hb); (try clear hb2); (try clear hk); (try clear hi)));go_meet
   case rel => exact ⟨_, (true), (es_), H', ⟨by first | omega | exact Nat.le_refl _⟩, ⟨bl_⟩⟩
 case rest =>
  clear HC4;try clear c1
  try clear c2
  try clear p2
  try clear c5
  try clear c6
  try clear p6
  obtain ⟨kq, x19_3, rfl, HA, HJ3, HB⟩ := hcut
  cases kq with
  | zero => exact absurd HA.out (by simp [impl_DropChord.j0])
  | succ kj3 =>
   have H := HA.out;clear HA;simp only [impl_DropChord.j0] at H;by_cases c10 : x19_3 = true
   ·subst c10;have H1 : (some (([] : List (S39)), false)) = some (r1, r2) := by rw [if_pos rfl] at H; exact H
    clear H;have H := H1;clear H1;simp only [Option.some.injEq, Prod.mk.injEq] at H;obtain ⟨rfl, rfl⟩ := H;go_wp2;go_ret2;exact ⟨_, ew_, by first | exact Kd.R_nil _ _ _ _ _ | exact Kd.N_nil _ _ _ _ _ | exact Kd.V_nil _ _ _ _ _ | exact Kd.Q_nil _ _ _ _ _ | exact Kd.S_nil _ _ _ _ _, bl_⟩
   ·replace c10 := Bool.eq_false_iff.mpr c10;subst c10;have H1 : ((impl_Chord_70.f l1).bind fun t436 => ((impl_Chord_72.f t436 a2 (wrap64 (a2 + 1))).bind fun t439 => (some (t439, true)))) = some (r1, r2) := by rw [if_neg (show ¬ (false = true) by decide)] at H; exact H
    clear H;have H := H1;clear H1;replace H := Option.bind_eq_some_iff.mp H;obtain ⟨t436, A110, H⟩ := H;try dsimp only at H
    have A11 := mk_ A110;clear A110;replace H := Option.bind_eq_some_iff.mp H;obtain ⟨t439, A120, H⟩ := H;try dsimp only at H
    have A12 := mk_ A120;clear A120;simp only [Option.some.injEq, Prod.mk.injEq] at H;obtain ⟨rfl, rfl⟩ := H;go_wp2_with (first | (refine gc_ 21 Tryz.func70 #[.slice A1 l1.length c1] ?_; (with_reducible refine (impl_Chord_70.calls _ _ l1 t436 _ ?side1 ?side2 A11.out).mono ?_); (case side1 => exact kc_ <| (Kd.C_below HR1.out HB.out)); (case side2 => exact HC1.out); rintro e w13 ⟨v437, rfl, ho0, hb⟩; refine ⟨_, rfl, ?_⟩; have n0_ := mk_ (Kd.R_lower ho0 (below_size bl_)); have n1_ := mk_ (below_step bl_ hb); clear HB; have HO438 := n0_; have HB := n1_; clear n0_ n1_; (try clear hb); (try clear hb2); (try clear hk); (try clear hi); (try clear ho0); obtain ⟨Ao14, co14, eo14⟩ := Kd.R_slice HO438.out; subst eo14) | (refine gc_ 25 Tryz.func72 #[.slice Ao14 t436.length co14, .int .i64 a2, .int .i64 (wrap64 (a2 + 1))] ?_; (with_reducible refine (impl_Chord_72.calls (fun k_ => some k_ = (.slice Ao14 t436.length co14 : Value).ownBlock) (.slice Ao14 t436.length co14) t436 a2 (wrap64 (a2 + 1)) t439 w _ ?side1 ?side2 A12.out).mono ?_); (case side1 => repeat (first | (with_reducible first | exact HB.out | apply below_alloc | apply pw_below_drewN | apply below_drew1) | exact HB.out)); (case side2 => exact Kd.R_tight rfl HO438.out); rintro e w15 ⟨v440, rfl, ho0, hb, hkp⟩; refine ⟨_, rfl, ?_⟩; have n0_ := mk_ (Kd.R_mono (ok' := fun k_ => True) ho0 (fun k_ hk_ => trivial)); have n1_ := mk_ (hb); clear HB HO438; have HO441 := n0_; have HB := n1_; clear n0_ n1_; (try clear hb); (try clear hkp); (try clear ho0)));go_ret2;exact ⟨_, ew_, by exact kr_ <| HO441.out, bl_⟩
def spec_DropChord.f (k : Nat) (a0 : Int) (l1 : List (S39)) (a2 : Int) : Option ((List (S39)) × Bool) := (spec_cdGood.f k a0 l1).bind fun t442 => (if t442 = true then ((spec_l1In.f a2 0 (wrap64 ((l1.length : Int) - 1))).bind fun t443 => (if t443 = true then ((some (([] : List (S39)) : List (S39))).bind fun y444 => (if 0 ≤ a2 then (if a2 ≤ (l1.length : Int) then ((some (l1.take (a2 : Int).toNat : List (S39))).bind fun y447 => (if y444.length + y447.length < 8796093022208 then ((some (y444 ++ y447 : List (S39))).bind fun y451 => (if 0 ≤ (wrap64 (a2 + 1)) then (if (wrap64 (a2 + 1)) ≤ (l1.length : Int) then ((some (l1.drop ((wrap64 (a2 + 1)) : Int).toNat : List (S39))).bind fun y454 => (if y451.length + y454.length < 8796093022208 then (some ((y451 ++ y454), true)) else (none))) else (none)) else (none))) else (none))) else (none)) else (none))) else (some (([] : List (S39)), false)))) else (some (([] : List (S39)), false)))
def spec_DropChord.T3 : Bool × List (List Nat × List Nat) := (true, [([], []), ([], []), ([], []), ([1, 2], [1, 2]), ([0, 3], [0, 3]), ([], []), ([], []), ([6], [6]), ([5, 7], [5, 7]), ([4, 8, 4], [4, 8]), ([9, 9, 0, 1, 2, 3, 4, 5, 6, 7, 8, 9], [9]), ([10, 0, 1, 2, 3, 4, 5, 6, 7, 8, 9, 10], [])])
def spec_DropChord.B3 : List Nat := [0, 0, 0, 6, 15, 0, 0, 64, 224, 511, 1023, 2047]
theorem spec_DropChord.tab3 : rtab .any (opsOf Tryz.f26 3) = spec_DropChord.T3 := by kernel_rfl
theorem spec_DropChord.bits3 : waitsOk spec_DropChord.T3.2 spec_DropChord.B3 = true := by kernel_rfl
theorem spec_DropChord.calls (k : Nat) (a0 : Int) (A1 : Option Addr) (c1 : Nat) (l1 : List (S39)) (a2 : Int) (r1 : List (S39)) (r2 : Bool) (w : World) (hr1 : Kd.C k39 w A1 l1.length l1) (hc1 : l1.length ≤ c1) (h : spec_DropChord.f k a0 l1 a2 = some (r1, r2)) :
  Calls Tryz.prog 26 #[.int .i64 a0, .slice A1 l1.length c1, .int .i64 a2] w fun e w' => ∃ v0_ : Value, e = .returned (.tuple #[v0_, .bool r2]) ∧ Kd.R k39 39 w' w.heap.size (fun _ => True) v0_ r1 ∧ Below w.heap.size w w' := by
 have HR1 := mk_ hr1;have HC1 := mk_ hc1;clear hr1 hc1;have HB := mk_ (Below.refl w.heap.size w);have H : ((spec_cdGood.f k a0 l1).bind fun t442 => (if t442 = true then ((spec_l1In.f a2 0 (wrap64 ((l1.length : Int) - 1))).bind fun t443 => (if t443 = true then ((some (([] : List (S39)) : List (S39))).bind fun y444 => (if 0 ≤ a2 then (if a2 ≤ (l1.length : Int) then ((some (l1.take (a2 : Int).toNat : List (S39))).bind fun y447 => (if y444.length + y447.length < 8796093022208 then ((some (y444 ++ y447 : List (S39))).bind fun y451 => (if 0 ≤ (wrap64 (a2 + 1)) then (if (wrap64 (a2 + 1)) ≤ (l1.length : Int) then ((some (l1.drop ((wrap64 (a2 + 1)) : Int).toNat : List (S39))).bind fun y454 => (if y451.length + y454.length < 8796093022208 then (some ((y451 ++ y454), true)) else (none))) else (none)) else (none))) else (none))) else (none)) else (none))) else (some (([] : List (S39)), false)))) else (some (([] : List (S39)), false)))) = some (r1, r2) := h;clear h;replace H := Option.bind_eq_some_iff.mp H;obtain ⟨t442, A40, H⟩ := H;try dsimp only at H
 have A4 := mk_ A40;clear A40;by_cases c5 : t442 = true
 ·subst c5;have H1 : ((spec_l1In.f a2 0 (wrap64 ((l1.length : Int) - 1))).bind fun t443 => (if t443 = true then ((some (([] : List (S39)) : List (S39))).bind fun y444 => (if 0 ≤ a2 then (if a2 ≤ (l1.length : Int) then ((some (l1.take (a2 : Int).toNat : List (S39))).bind fun y447 => (if y444.length + y447.length < 8796093022208 then ((some (y444 ++ y447 : List (S39))).bind fun y451 => (if 0 ≤ (wrap64 (a2 + 1)) then (if (wrap64 (a2 + 1)) ≤ (l1.length : Int) then ((some (l1.drop ((wrap64 (a2 + 1)) : Int).toNat : List (S39))).bind fun y454 => (if y451.length + y454.length < 8796093022208 then (some ((y451 ++ y454), true)) else (none))) else (none)) else (none))) else (none))) else (none)) else (none))) else (some (([] : List (S39)), false)))) = some (r1, r2) := by rw [if_pos rfl] at H; exact H
  clear H;have H := H1;clear H1;replace H := Option.bind_eq_some_iff.mp H;obtain ⟨t443, A60, H⟩ := H;try dsimp only at H
  have A6 := mk_ A60;clear A60;by_cases c7 : t443 = true
  ·subst c7;have H1 : ((some (([] : List (S39)) : List (S39))).bind fun y444 => (if 0 ≤ a2 then (if a2 ≤ (l1.length : Int) then ((some (l1.take (a2 : Int).toNat : List (S39))).bind fun y447 => (if y444.length + y447.length < 8796093022208 then ((some (y444 ++ y447 : List (S39))).bind fun y451 => (if 0 ≤ (wrap64 (a2 + 1)) then (if (wrap64 (a2 + 1)) ≤ (l1.length : Int) then ((some (l1.drop ((wrap64 (a2 + 1)) : Int).toNat : List (S39))).bind fun y454 => (if y451.length + y454.length < 8796093022208 then (some ((y451 ++ y454), true)) else (none))) else (none)) else (none))) else (none))) else (none)) else (none))) = some (r1, r2) := by rw [if_pos rfl] at H; exact H
   clear H;have H := H1;clear H1;obtain ⟨y444, hy_⟩ : ∃ y_ : List (S39), y_ = (([] : List (S39))) := ⟨_, rfl⟩;replace H : (if 0 ≤ a2 then (if a2 ≤ (l1.length : Int) then ((some (l1.take (a2 : Int).toNat : List (S39))).bind fun y447 => (if y444.length + y447.length < 8796093022208 then ((some (y444 ++ y447 : List (S39))).bind fun y451 => (if 0 ≤ (wrap64 (a2 + 1)) then (if (wrap64 (a2 + 1)) ≤ (l1.length : Int) then ((some (l1.drop ((wrap64 (a2 + 1)) : Int).toNat : List (S39))).bind fun y454 => (if y451.length + y454.length < 8796093022208 then (some ((y451 ++ y454), true)) else (none))) else (none)) else (none))) else (none))) else (none)) else (none)) = some (r1, r2) := rp_;have Ny444 := mk_ hy_;clear hy_;by_cases c8 : 0 ≤ a2;rotate_left
   ·rw [if_neg c8] at H;exact absurd H (by simp)
   rw [if_pos c8] at H;have c8b0 := eq_true c8;have c8b1 : decide (0 ≤ a2) = true := decide_eq_true c8;clear c8;by_cases c9 : a2 ≤ (l1.length : Int);rotate_left
   ·rw [if_neg c9] at H;exact absurd H (by simp)
   rw [if_pos c9] at H;have c9b0 := eq_true c9;have c9b1 : decide (a2 ≤ (l1.length : Int)) = true := decide_eq_true c9;clear c9;obtain ⟨y447, hy_⟩ : ∃ y_ : List (S39), y_ = (l1.take (a2 : Int).toNat) := ⟨_, rfl⟩;replace H : (if y444.length + y447.length < 8796093022208 then ((some (y444 ++ y447 : List (S39))).bind fun y451 => (if 0 ≤ (wrap64 (a2 + 1)) then (if (wrap64 (a2 + 1)) ≤ (l1.length : Int) then ((some (l1.drop ((wrap64 (a2 + 1)) : Int).toNat : List (S39))).bind fun y454 => (if y451.length + y454.length < 8796093022208 then (some ((y451 ++ y454), true)) else (none))) else (none)) else (none))) else (none)) = some (r1, r2) := rp_;have Ny447 := mk_ hy_;clear hy_;by_cases c10 : y444.length + y447.length < 8796093022208;rotate_left
   ·rw [if_neg c10] at H;exact absurd H (by simp)
   rw [if_pos c10] at H;have LMc10 := mk_ c10;clear c10;obtain ⟨y451, hy_⟩ : ∃ y_ : List (S39), y_ = (y444 ++ y447) := ⟨_, rfl⟩;replace H : (if 0 ≤ (wrap64 (a2 + 1)) then (if (wrap64 (a2 + 1)) ≤ (l1.length : Int) then ((some (l1.drop ((wrap64 (a2 + 1)) : Int).toNat : List (S39))).bind fun y454 => (if y451.length + y454.length < 8796093022208 then (some ((y451 ++ y454), true)) else (none))) else (none)) else (none)) = some (r1, r2) := rp_;have Ny451 := mk_ hy_;clear hy_;obtain ⟨ji11, hji11⟩ : ∃ j_ : Int, (wrap64 (a2 + 1)) = j_ := ⟨_, rfl⟩;replace H : (if 0 ≤ (ji11) then (if (ji11) ≤ (l1.length : Int) then ((some (l1.drop ((ji11) : Int).toNat : List (S39))).bind fun y454 => (if y451.length + y454.length < 8796093022208 then (some ((y451 ++ y454), true)) else (none))) else (none)) else (none)) = some (r1, r2) := by first | (rw [hji11] at H; exact H) | (simp only [hji11] at H ⊢; exact H)
   (try rw [hji11] at A4);(try rw [hji11] at A6);have hji11w : (IntKind.i64.wrap (a2 + 1)) = ji11 := (i64_w _).trans hji11;by_cases c12 : 0 ≤ (ji11);rotate_left
   ·rw [if_neg c12] at H;exact absurd H (by simp)
   rw [if_pos c12] at H;have c12b0 := eq_true c12;have c12b1 : decide (0 ≤ (ji11)) = true := decide_eq_true c12;clear c12;by_cases c13 : (ji11) ≤ (l1.length : Int);rotate_left
   ·rw [if_neg c13] at H;exact absurd H (by simp)
   rw [if_pos c13] at H;have c13b0 := eq_true c13;have c13b1 : decide ((ji11) ≤ (l1.length : Int)) = true := decide_eq_true c13;clear c13;obtain ⟨y454, hy_⟩ : ∃ y_ : List (S39), y_ = (l1.drop ((ji11) : Int).toNat) := ⟨_, rfl⟩;replace H : (if y451.length + y454.length < 8796093022208 then (some ((y451 ++ y454), true)) else (none)) = some (r1, r2) := rp_;have Ny454 := mk_ hy_;clear hy_;by_cases c14 : y451.length + y454.length < 8796093022208;rotate_left
   ·rw [if_neg c14] at H;exact absurd H (by simp)
   rw [if_pos c14] at H;have LMc14 := mk_ c14;clear c14;obtain ⟨y458, hy_⟩ : ∃ y_ : List (S39), y_ = (y451 ++ y454) := ⟨_, rfl⟩;replace H : (some (y458, true)) = some (r1, r2) := rp_;have Ny458 := mk_ hy_;clear hy_;simp only [Option.some.injEq, Prod.mk.injEq] at H;obtain ⟨rfl, rfl⟩ := H;go_enter Tryz.func26, Tryz.ntmps26;try go_wp2_with (first | (refine gc_ 10 Tryz.func54 #[.int .i64 a0, .slice A1 l1.length c1] ?_; (with_reducible refine (spec_cdGood.calls k a0 _ _ l1 true _ ?side1 ?side2 A4.out).mono ?_); (case side1 => exact kc_ <| HR1.out); (case side2 => exact HC1.out); rintro e w15 ⟨rfl, hb⟩; refine ⟨_, rfl, ?_⟩; have n0_ := mk_ (below_step bl_ hb); clear HB; have HB := n0_; clear n0_; (try clear hb); (try clear hb2); (try clear hk); (try clear hi)) | (go_at_call 48; (with_reducible refine (spec_l1In.calls a2 0 (wrap64 ((l1.length : Int) - 1)) true _ A6.out).mono ?_); rintro e w' ⟨rfl, ⟨nd, rfl⟩⟩))
   (try (rw [drewN_self w15]; generalize hq_ : World.drewN w15 _ = w15; have n0_ : Aside0 (Below w.heap.size w w15) := ⟨by rw [← hq_]; exact bl_⟩; clear HB hq_; have HB := n0_; clear n0_));have n0_ := mk_ (below_drew1 HB.out);clear HB;have HB := n0_;clear n0_;have q17 : (a2 : Int) ≤ ((l1.length : Int) : Int) := od_;obtain ⟨i017, hi017, _, hsz17, _⟩ := info_parts info39;have hroom17 : l1.length ≤ c1 := HC1.out;have hC17 : Kd.C k39 _ A1 l1.length l1 := HR1.out;have hcut17 := cut_to (P := Tryz.prog) 26 39 .i64 Tryz.underlying26 hi017 A1 l1.length c1 a2 (od_) q17 hroom17;have hr17 := Kd.C_take (m := (a2 : Int).toNat) hC17 (by omega);have hy17 : y447.length = (a2 : Int).toNat := (by rw [Ny447.out, List.length_take]; omega);rw [← Ny447.out] at hr17;rw [← hy17] at hcut17;have HR450 := mk_ hr17;have HC450 := mk_ (show y447.length ≤ c1 from by omega);clear hr17 hC17 hroom17 hi017 hsz17;have KY17 := mk_ hy17;clear hy17;replace q17 := eq_true q17;have q18 : ((ji11) : Int) ≤ ((l1.length : Int) : Int) := od_;obtain ⟨i018, hi018, _, hsz18, _⟩ := info_parts info39;have hroom18 : l1.length ≤ c1 := HC1.out;have hC18 : Kd.C k39 _ A1 l1.length l1 := HR1.out;have q018 : (0 : Int) ≤ ((ji11) : Int) := od_;have hcut18 := cut_from (P := Tryz.prog) 26 39 .i64 Tryz.underlying26 hi018 2 hsz18 A1 l1.length c1 (ji11) q018 q18;have hr18 := Kd.C_drop (m := ((ji11) : Int).toNat) (c := c1) hC18 (by omega) hroom18;obtain ⟨A18, hA18⟩ : ∃ AX_, AX_ = (if c1 = ((ji11) : Int).toNat then A1 else (A1 : Option Addr).map (·.add (((ji11) : Int).toNat * 2))) := ⟨_, rfl⟩;obtain ⟨c18, hc18⟩ : ∃ cX_, cX_ = c1 - ((ji11) : Int).toNat := ⟨_, rfl⟩;have hy18 : y454.length = l1.length - ((ji11) : Int).toNat := (by rw [Ny454.out, List.length_drop] <;> omega);rw [show (l1).drop ((ji11) : Int).toNat = y454 from Ny454.out.symm] at hr18;replace hr18 : Kd.C k39 _ A18 y454.length y454 := (by rw [hA18]; exact hr18);rw [← hy18, ← hA18, ← hc18] at hcut18;have HR457 := mk_ hr18;have HC457 := mk_ (show y454.length ≤ c18 from by rw [hy18, hc18]; exact Nat.sub_le_sub_right hroom18 _);clear hr18 hC18 hroom18 hi018 hsz18 hc18;have KY18 := mk_ hy18;have KA18 := mk_ hA18;clear hy18 hA18;replace q18 := eq_true q18;refine start_ (n := 12) (S := fun w' => True) (ds := []) #[false, false, false, false, false, false, false, false, false, false, false, false] (by kernel_rfl) rfl rfl trivial (fun hHeld => ?_); refine with_tabW spec_DropChord.tab3 spec_DropChord.bits3 (fun HT_ HW_ => ?_);generalize w15.drew = w16 at HB HR450 HR457 hHeld ⊢;refine pt_ 1 (some 21) HT_ ?_;refine pt_ 2 (some 22) HT_ ?_;refine pt_ 3 (some 23) HT_ ?_;refine pt_ 5 (some 25) HT_ ?_;refine pt_ 6 (some 26) HT_ ?_;refine pt_ 7 (some 27) HT_ ?_;refine pt_ 8 (some 28) HT_ ?_;refine one_ (i := 0) (N := some 20) #[true, true, true, true, false, true, true, true, true, false, false, false] rfl rfl (one_of HT_.out (by kernel_rfl)) (by decide) (fun K hK => ?_);refine Kd.R_lit_step k39 _ 39 ?hg (N := 20) ?hd (xs := ([] : List (S39))) (inner := []) (ok := fun _ => True) (okp := fun _ => True) ?hr ?hp (fun _ hk => hk) trivial (Below.refl _ _) (Nat.le_refl _) (by simp) ?_; (case hd => rfl); (case hg => rfl); (case hr => first | (go_simp; done) | (go_simp; rfl)); (case hp => exact (Reps.none _ _));intro v445 w19 ho20 hb hg_ hnew_;clear hg_ hnew_;(first | rw [← Ny444.out] at ho20 | (simp only [Int.reduceToNat] at ho20; rw [← Ny444.out] at ho20));have n0_ := mk_ (Kd.R_lower ho20 (below_size bl_));have n1_ := mk_ (below_step bl_ hb);clear HB;have HO446 := n0_;have HB := n1_;clear n0_ n1_ hb ho20;refine hK.out _ _ trivial (fun hHeld => ?_);clear hK K;refine nm_ (some 20) ?_;refine one_ (i := 4) (N := some 24) #[true, true, true, true, true, true, true, true, true, false, false, false] rfl rfl (one_of HT_.out (by kernel_rfl)) (by decide) (fun K hK => ?_);refine Kd.R_append_rows_step k39 (w0 := w) w.heap.size (by rfl) (.tmp 20) (.tmp 23) 26 39 (.agg #[(.int .i64 0), (.int .i64 0)]) 16 rfl Tryz.underlying26 info39 rfl (by decide) (by omega) v445 y444 y447 _ _ _ (fun _ => True) (fun _ => False) rfl rfl ?aO ?aR (fun _ _ h => h) (fun _ h => h.elim) ?aF ?aB ?aS ?aL ?_;(case aR => exact kc_ <| (Kd.C_below HR450.out HB.out));(case aB => exact bl_);(case aF => exact (fun _ _ => trivial));(case aO => exact (kr_ <| HO446.out));(case aS => exact (below_size bl_));(case aL => have := LMc10.out; omega);intro v452 w21 ho hb hg hat;rw [← Ny451.out] at ho;have n0_ := mk_ (hb);have n1_ := mk_ (ho);clear HB HO446;have HB := n0_;have HO453 := n1_;clear n0_ n1_ ho hb hg hat;refine hK.out _ _ trivial (fun hHeld => ?_);clear hK K;refine nm_ (some 24) ?_;refine one_ (i := 9) (N := some 29) #[true, true, true, true, true, true, true, true, true, true, false, false] rfl rfl (one_of HT_.out (by kernel_rfl)) (by decide) (fun K hK => ?_);refine Kd.R_append_rows_step k39 (w0 := w) w.heap.size (by rfl) (.tmp 24) (.tmp 28) 26 39 (.agg #[(.int .i64 0), (.int .i64 0)]) 16 rfl Tryz.underlying26 info39 rfl (by decide) (by omega) v452 y451 y454 _ _ _ (fun _ => True) (fun _ => False) rfl rfl ?aO ?aR (fun _ _ h => h) (fun _ h => h.elim) ?aF ?aB ?aS ?aL ?_;(case aR => exact kc_ <| (Kd.C_below HR457.out HB.out));(case aB => exact bl_);(case aF => exact (fun _ _ => trivial));(case aO => exact (kr_ <| HO453.out));(case aS => exact (below_size bl_));(case aL => have := LMc14.out; omega);intro v459 w22 ho hb hg hat;rw [← Ny458.out] at ho;have n0_ := mk_ (hb);have n1_ := mk_ (ho);clear HB HO453;have HB := n0_;have HO460 := n1_;clear n0_ n1_ ho hb hg hat;refine hK.out _ _ trivial (fun hHeld => ?_);clear hK K;refine nm_ (some 29) ?_;refine pt_ 10 (some 6) HT_ ?_;refine pt_ 11 (some 7) HT_ ?_;refine done_ (done_of HT_.out (by kernel_rfl)) ?_;try go_wp2
   go_ret2;exact ⟨_, by first | rfl | (simp [errW_none, errW_some] <;> rfl) | (simp only [← hji11]; first | rfl | (simp [errW_none, errW_some] <;> rfl)) | (simp [*, errW_none, errW_some] <;> rfl), by exact kr_ <| HO460.out, bl_⟩
  ·replace c7 := Bool.eq_false_iff.mpr c7;subst c7;have H1 : (some (([] : List (S39)), false)) = some (r1, r2) := by rw [if_neg (show ¬ (false = true) by decide)] at H; exact H
   clear H;have H := H1;clear H1;simp only [Option.some.injEq, Prod.mk.injEq] at H;obtain ⟨rfl, rfl⟩ := H;go_enter Tryz.func26, Tryz.ntmps26;go_wp2_with (first | (refine gc_ 10 Tryz.func54 #[.int .i64 a0, .slice A1 l1.length c1] ?_; (with_reducible refine (spec_cdGood.calls k a0 _ _ l1 true _ ?side1 ?side2 A4.out).mono ?_); (case side1 => exact kc_ <| HR1.out); (case side2 => exact HC1.out); rintro e w23 ⟨rfl, hb⟩; refine ⟨_, rfl, ?_⟩; have n0_ := mk_ (below_step bl_ hb); clear HB; have HB := n0_; clear n0_; (try clear hb); (try clear hb2); (try clear hk); (try clear hi)) | (go_at_call 48; (with_reducible refine (spec_l1In.calls a2 0 (wrap64 ((l1.length : Int) - 1)) false _ A6.out).mono ?_); rintro e w' ⟨rfl, ⟨nd, rfl⟩⟩));go_ret2;exact ⟨_, ew_, by first | exact Kd.R_nil _ _ _ _ _ | exact Kd.N_nil _ _ _ _ _ | exact Kd.V_nil _ _ _ _ _ | exact Kd.Q_nil _ _ _ _ _ | exact Kd.S_nil _ _ _ _ _, bl_⟩
 ·replace c5 := Bool.eq_false_iff.mpr c5;subst c5;have H1 : (some (([] : List (S39)), false)) = some (r1, r2) := by rw [if_neg (show ¬ (false = true) by decide)] at H; exact H
  clear H;have H := H1;clear H1;simp only [Option.some.injEq, Prod.mk.injEq] at H;obtain ⟨rfl, rfl⟩ := H;go_enter Tryz.func26, Tryz.ntmps26;go_wp2_with (first | (refine gc_ 10 Tryz.func54 #[.int .i64 a0, .slice A1 l1.length c1] ?_; (with_reducible refine (spec_cdGood.calls k a0 _ _ l1 false _ ?side1 ?side2 A4.out).mono ?_); (case side1 => exact kc_ <| HR1.out); (case side2 => exact HC1.out); rintro e w24 ⟨rfl, hb⟩; refine ⟨_, rfl, ?_⟩; have n0_ := mk_ (below_step bl_ hb); clear HB; have HB := n0_; clear n0_; (try clear hb); (try clear hb2); (try clear hk); (try clear hi)));go_ret2;exact ⟨_, ew_, by first | exact Kd.R_nil _ _ _ _ _ | exact Kd.N_nil _ _ _ _ _ | exact Kd.V_nil _ _ _ _ _ | exact Kd.Q_nil _ _ _ _ _ | exact Kd.S_nil _ _ _ _ _, bl_⟩
def impl_ChordsText.l0 : Nat → List ByteArray → List (S39) → Int → Int → Option (ByteArray × Bool)
 | 0, _, _, _, _ => none
 | k + 1, x4, x11, x12, x13 => if x13 < x12 then (if 0 ≤ x13 then (if x13 < (x11.length : Int) then ((strconv_Itoa.f ((rd_T39 x11 x13).f0)).bind fun t485 => (if t485.size + 1 ≤ 9223372036854775807 then ((strconv_Itoa.f ((rd_T39 x11 x13).f1)).bind fun t486 => (if (t485 ++ (⟨#[45]⟩ : ByteArray)).size + t486.size ≤ 9223372036854775807 then (if x4.length < 8796093022208 then (impl_ChordsText.l0 k (x4 ++ [(t485 ++ (⟨#[45]⟩ : ByteArray)) ++ t486]) x11 x12 (wrap64 (x13 + 1))) else (none)) else (none))) else (none))) else (none)) else (none)) else ((strings_Join.f x4 (⟨#[44]⟩ : ByteArray)).bind fun bt490 => (some (bt490.1, true)))
def impl_ChordsText.f (k : Nat) (l0 : List (S39)) : Option (ByteArray × Bool) := (impl_AreChords.f k 60 l0).bind fun t479 => (if t479 = true then (impl_ChordsText.l0 k (([] : List ByteArray)) l0 (l0.length : Int) 0) else (some ((⟨#[]⟩ : ByteArray), false)))
def impl_ChordsText.T7 : Bool × List (List Nat × List Nat) := (true, [([], []), ([], []), ([1], [1]), ([2], [2]), ([3], [3]), ([], []), ([5], [5]), ([6, 3], [6]), ([4, 7], [4, 7]), ([8], [8]), ([0, 9, 7], [0, 9]), ([10, 10, 0, 1, 2, 3, 4, 5, 6, 7, 8, 9, 10], [0, 10])])
def impl_ChordsText.B7 : List Nat := [0, 0, 2, 6, 14, 0, 32, 110, 254, 510, 1023, 2047]
theorem impl_ChordsText.tab7 : rtab .any (opsOf Tryz.f30 7) = impl_ChordsText.T7 := by kernel_rfl
theorem impl_ChordsText.bits7 : waitsOk impl_ChordsText.T7.2 impl_ChordsText.B7 = true := by kernel_rfl
theorem impl_ChordsText.calls (k : Nat) (A0 : Option Addr) (c0 : Nat) (l0 : List (S39)) (r1 : ByteArray) (r2 : Bool) (w : World) (hr0 : Kd.C k39 w A0 l0.length l0) (hc0 : l0.length ≤ c0) (h : impl_ChordsText.f k l0 = some (r1, r2)) :
  Calls Tryz.prog 30 #[.slice A0 l0.length c0] w fun e w' => e = .returned (.tuple #[.string r1, .bool r2]) ∧ Below w.heap.size w w' := by
 have hu39 := Tryz.underlying39;have HR0 := mk_ hr0;have HC0 := mk_ hc0;clear hr0 hc0;have HB := mk_ (Below.refl w.heap.size w);have H : ((impl_AreChords.f k 60 l0).bind fun t479 => (if t479 = true then (impl_ChordsText.l0 k (([] : List ByteArray)) l0 (l0.length : Int) 0) else (some ((⟨#[]⟩ : ByteArray), false)))) = some (r1, r2) := h;clear h;replace H := Option.bind_eq_some_iff.mp H;obtain ⟨t479, A20, H⟩ := H;try dsimp only at H
 have A2 := mk_ A20;clear A20;by_cases c3 : t479 = true
 ·subst c3;have H1 : (impl_ChordsText.l0 k (([] : List ByteArray)) l0 (l0.length : Int) 0) = some (r1, r2) := by rw [if_pos rfl] at H; exact H
  clear H;have H := H1;clear H1;obtain ⟨y480, hy_⟩ : ∃ y_ : List ByteArray, y_ = (([] : List ByteArray)) := ⟨_, rfl⟩;replace H : (impl_ChordsText.l0 k y480 l0 (l0.length : Int) 0) = some (r1, r2) := rp_;have Ny480 := mk_ hy_;clear hy_;have H' := mk_ H;clear H;go_enter Tryz.func30, Tryz.ntmps30;go_wp2_with (first | (refine gc_ 8 Tryz.func36 #[.int .i64 60, .slice A0 l0.length c0] ?_; (with_reducible refine (impl_AreChords.calls k 60 _ _ l0 true _ ?side1 ?side2 A2.out).mono ?_); (case side1 => exact kc_ <| HR0.out); (case side2 => exact HC0.out); rintro e w4 ⟨rfl, hb⟩; refine ⟨_, rfl, ?_⟩; have n0_ := mk_ (below_step bl_ hb); clear HB; have HB := n0_; clear n0_; (try clear hb); (try clear hb2); (try clear hk); (try clear hi)) | ((with_reducible refine g_ 10 ?_); refine Kd.R_lit Kd.string _ 9 ?hg (N := 10) ?hd (xs := ([] : List ByteArray)) (inner := []) (ok := fun _ => True) (okp := fun _ => True) ?hr ?hp (fun _ hk => hk) trivial (Below.refl _ _) (Nat.le_refl _) (by simp) ?_; (case hd => rfl); (case hg => rfl); (case hr => first | (go_simp; done) | (go_simp; rfl)); (case hp => exact (Reps.none _ _)); intro v481 w5 ho6 hb hg_ hnew_; clear hg_ hnew_; (first | rw [← Ny480.out] at ho6 | (simp only [Int.reduceToNat] at ho6; rw [← Ny480.out] at ho6)); have n0_ := mk_ (Kd.R_lower ho6 (below_size bl_)); have n1_ := mk_ (below_step bl_ hb); clear HB; have HO482 := n0_; have HB := n1_; clear n0_ n1_ hb ho6));go_loopg [4, 13] k (fun kq v4 v13 w' => ∃ (x4_1 : List ByteArray) (x13_1 : Int), v13 = .int .i64 x13_1 ∧ Aside0 (impl_ChordsText.l0 kq x4_1 l0 (l0.length : Int) x13_1 = some (r1, r2)) ∧ Aside0 (kq ≤ k) ∧ Aside0 (Kd.R Kd.string 9 w' w.heap.size (fun _ => True) v4 x4_1) ∧ Aside0 (Below w.heap.size w w'))
  case atStart => exact ⟨(y480), (0), (es_), H', ⟨Nat.le_refl _⟩, ⟨by exact kr_ <| HO482.out⟩, ⟨bl_⟩⟩
  case round =>
   clear H';try clear p2
   try clear c3
   obtain ⟨x4_1, x13_1, rfl, HA, HK1, HO_4, HB⟩ := hrel
   cases gk with
   | zero => exact absurd HA.out (by simp [impl_ChordsText.l0])
   | succ k1 =>
    have H := HA.out;clear HA;simp only [impl_ChordsText.l0] at H;by_cases c7 : x13_1 < (l0.length : Int)
    ·rw [if_pos c7] at H;have c7b0 : decide (x13_1 < (l0.length : Int)) = true := decide_eq_true c7;clear c7;by_cases c8 : 0 ≤ x13_1;rotate_left
     ·rw [if_neg c8] at H;exact absurd H (by simp)
     rw [if_pos c8] at H;have c8b0 : decide (0 ≤ x13_1) = true := decide_eq_true c8;clear c8;by_cases c9 : x13_1 < (l0.length : Int);rotate_left
     ·rw [if_neg c9] at H;exact absurd H (by simp)
     rw [if_pos c9] at H;have c9b0 : decide (x13_1 < (l0.length : Int)) = true := decide_eq_true c9;clear c9;replace H := Option.bind_eq_some_iff.mp H;obtain ⟨t485, A100, H⟩ := H;try dsimp only at H
     have A10 := mk_ A100;clear A100;by_cases c11 : t485.size + 1 ≤ 9223372036854775807;rotate_left
     ·rw [if_neg c11] at H;exact absurd H (by simp)
     rw [if_pos c11] at H;have c11b0 := eq_true c11;have c11b1 : decide (t485.size + 1 ≤ 9223372036854775807) = true := decide_eq_true c11;try have c11b2 : (9223372036854775807 < t485.size + 1) = False := eq_false (Nat.not_lt.2 c11)
     replace H := Option.bind_eq_some_iff.mp H;obtain ⟨t486, A120, H⟩ := H;try dsimp only at H
     have A12 := mk_ A120;clear A120;by_cases c13 : (t485 ++ (⟨#[45]⟩ : ByteArray)).size + t486.size ≤ 9223372036854775807;rotate_left
     ·rw [if_neg c13] at H;exact absurd H (by simp)
     rw [if_pos c13] at H;have c13b0 := eq_true c13;have c13b1 : decide ((t485 ++ (⟨#[45]⟩ : ByteArray)).size + t486.size ≤ 9223372036854775807) = true := decide_eq_true c13;try have c13b2 : (9223372036854775807 < (t485 ++ (⟨#[45]⟩ : ByteArray)).size + t486.size) = False := eq_false (Nat.not_lt.2 c13)
     try (have c13b2n := c13b2; simp only [ByteArray.size_append, (show ∀ b_ : UInt8, (⟨#[b_]⟩ : ByteArray).size = 1 from fun _ => rfl)] at c13b2n)
     by_cases c14 : x4_1.length < 8796093022208;rotate_left
     ·rw [if_neg c14] at H;exact absurd H (by simp)
     rw [if_pos c14] at H;have LMc14 := mk_ c14;clear c14;obtain ⟨y487, hy_⟩ : ∃ y_ : List ByteArray, y_ = (x4_1 ++ [(t485 ++ (⟨#[45]⟩ : ByteArray)) ++ t486]) := ⟨_, rfl⟩;replace H : (impl_ChordsText.l0 k1 y487 l0 (l0.length : Int) (wrap64 (x13_1 + 1))) = some (r1, r2) := rp_;have Ny487 := mk_ hy_;clear hy_;have H' := mk_ H;clear H;have p483 : 0 ≤ (x13_1 : Int) := od_;have q483 : x13_1 < (l0.length : Int) := od_;obtain ⟨ad483, e483, hx483_0, hx483_1⟩ := at_T39 HR0.out x13_1 p483 q483;cases e483;replace hx483_0 := (HB.out.cell (World.block_lt_of_cell? w _ hx483_0)).trans hx483_0;replace hx483_1 := (HB.out.cell (World.block_lt_of_cell? w _ hx483_1)).trans hx483_1;replace p483 := eq_true p483;replace q483 := eq_true q483;try go_wp2_with (first | ((with_reducible refine g_ 6 ?_); refine bx_ 6 #[.int .i64 0, .int .i64 0] 39 ?_; intro gb484 hg w15 hbox hb; have n0_ := mk_ (Kd.R_below (kr_ <| HO_4.out) hb); have n1_ := mk_ (below_step bl_ hb); have n2_ := mk_ (hbox); have n3_ := mk_ ((by rw [hg]; exact (below_size bl_) : w.heap.size ≤ gb484)); have n4_ := n3_; clear HO_4 HB; have HO_4 := n0_; have HB := n1_; have BK484 := n2_; have GW484 := n3_; have GE484 := n4_; clear n0_ n1_ n2_ n3_ n4_ hb hbox hg; have hcz16_0 : w15.cell? ⟨gb484, 0, none⟩ = some (.int .i64 0) := (blk_cell BK484.out 0).trans rfl; have hcz16_1 : w15.cell? ⟨gb484, 1, none⟩ = some (.int .i64 0) := (blk_cell BK484.out 1).trans rfl; have hfz16_0 := blk_frozen BK484.out 0; have hfz16_1 := blk_frozen BK484.out 1))
     have n0_ : Aside0 (Kd.R Kd.string 9 ((w15.setCell ⟨gb484, 0, none⟩ (.int .i64 ((rd_T39 l0 x13_1).f0))).setCell ⟨gb484, 1, none⟩ (.int .i64 ((rd_T39 l0 x13_1).f1))) w.heap.size (fun _ => True) u4 x4_1) := ⟨by exact kr_ <| Kd.R_mono (Kd.R_far (p := ⟨gb484, 1, none⟩) (Kd.R_far (p := ⟨gb484, 0, none⟩) (Kd.R_types HO_4.out BK484.out (by decide)) (fun _ hk => hk.2) (.int .i64 ((rd_T39 l0 x13_1).f0))) (fun _ hk => hk.2) (.int .i64 ((rd_T39 l0 x13_1).f1))) (fun _ hk => trivial)⟩;have n1_ : Aside0 (((w15.setCell ⟨gb484, 0, none⟩ (.int .i64 ((rd_T39 l0 x13_1).f0))).setCell ⟨gb484, 1, none⟩ (.int .i64 ((rd_T39 l0 x13_1).f1))).heap[gb484]? = some (.cells #[.int .i64 ((rd_T39 l0 x13_1).f0), .int .i64 ((rd_T39 l0 x13_1).f1)] 39 (0, 0))) := ⟨by (with_reducible repeat (first | refine blk_drewN ?_ _ | refine blk_drew ?_ | refine blk_alloc ?_ _)); refine blk_put (cs := #[.int .i64 ((rd_T39 l0 x13_1).f0), .int .i64 0]) ?_ 1 _ rfl; (with_reducible repeat (first | refine blk_drewN ?_ _ | refine blk_drew ?_ | refine blk_alloc ?_ _)); refine blk_put (cs := #[.int .i64 0, .int .i64 0]) ?_ 0 _ rfl; exact kk_ <| BK484.out⟩;have n2_ : Aside0 (Below w.heap.size w ((w15.setCell ⟨gb484, 0, none⟩ (.int .i64 ((rd_T39 l0 x13_1).f0))).setCell ⟨gb484, 1, none⟩ (.int .i64 ((rd_T39 l0 x13_1).f1)))) := ⟨bg_⟩;(try clear HO_4);(try clear BK484);(try clear HB);generalize ((w15.setCell ⟨gb484, 0, none⟩ (.int .i64 ((rd_T39 l0 x13_1).f0))).setCell ⟨gb484, 1, none⟩ (.int .i64 ((rd_T39 l0 x13_1).f1))) = w17 at n0_ n1_ n2_ ⊢;have HO_4 := n0_;have BK484 := n1_;have HB := n2_;clear n0_ n1_ n2_;have n0_ := mk_ (Kd.R_drew HO_4.out);have n1_ := mk_ (blk_drew BK484.out);have n2_ := mk_ (below_drew1 HB.out);clear HO_4 BK484 HB;have HO_4 := n0_;have BK484 := n1_;have HB := n2_;clear n0_ n1_ n2_;refine start_ (n := 12) (S := fun w' => w'.cell? ⟨gb484, 0, none⟩ = some (.int .i64 ((rd_T39 l0 x13_1).f0)) ∧ w'.cell? ⟨gb484, 1, none⟩ = some (.int .i64 ((rd_T39 l0 x13_1).f1))) (ds := []) #[false, false, false, false, false, false, false, false, false, false, false, false] (by kernel_rfl) rfl rfl ⟨(blk_cell BK484.out 0).trans rfl, (blk_cell BK484.out 1).trans rfl⟩ (fun hHeld => ?_); refine with_tabW impl_ChordsText.tab7 impl_ChordsText.bits7 (fun HT_ HW_ => ?_);generalize w17.drew = w18 at HO_4 BK484 HB hHeld ⊢;refine pt_ 0 (some 17) HT_ ?_;refine pt_ 1 (some 18) HT_ ?_;refine pt_ 5 (some 22) HT_ ?_;refine tb2_ 2 (some 19) HT_ HW_ hHeld ?_;refine tb2_ 6 (some 23) HT_ HW_ hHeld ?_;refine one_ (i := 3) (N := some 20) #[true, true, true, true, false, true, true, false, false, false, false, false] rfl rfl (one_of HT_.out (by kernel_rfl)) (by decide) (fun K hK => ?_);refine goes_ Tryz.func74 (by kernel_rfl) rfl #[.int .i64 ((rd_T39 l0 x13_1).f0)] (by rfl) rfl rfl ma_ ?_;with_reducible refine (strconv_Itoa.calls ((rd_T39 l0 x13_1).f0) t485 _ A10.out).mono ?_
     rintro e w' ⟨rfl, ⟨nd, rfl⟩⟩;refine ⟨_, rfl, ?_⟩;refine hK.out _ _ ⟨(blk_cell BK484.out 0).trans rfl, (blk_cell BK484.out 1).trans rfl⟩ (fun hHeld => ?_);clear hK K;refine nm_ (some 20) ?_;refine pt_ 4 (some 21) HT_ ?_;refine one_ (i := 7) (N := some 24) #[true, true, true, true, true, true, true, true, false, false, false, false] rfl rfl (one_of HT_.out (by kernel_rfl)) (by decide) (fun K hK => ?_);refine goes_ Tryz.func74 (by kernel_rfl) rfl #[.int .i64 ((rd_T39 l0 x13_1).f1)] (by rfl) rfl rfl ma_ ?_;with_reducible refine (strconv_Itoa.calls ((rd_T39 l0 x13_1).f1) t486 _ A12.out).mono ?_
     rintro e w' ⟨rfl, ⟨nd, rfl⟩⟩;refine ⟨_, rfl, ?_⟩;refine hK.out _ _ ⟨(blk_cell BK484.out 0).trans rfl, (blk_cell BK484.out 1).trans rfl⟩ (fun hHeld => ?_);clear hK K;refine nm_ (some 24) ?_;refine pt_ 8 (some 25) HT_ ?_;refine one_ (i := 9) (N := some 26) #[true, true, true, true, true, true, true, true, true, true, false, false] rfl rfl (one_of HT_.out (by kernel_rfl)) (by decide) (fun K hK => ?_);refine value_ (w1 := ?_) (v := ?_) (by rfl) rfl ?_ ?_;rotate_left 2
     ·go_simp;constructor
      ·rfl
      ·rfl
     refine hK.out _ _ ⟨(blk_cell (blk_alloc BK484.out _) 0).trans rfl, (blk_cell (blk_alloc BK484.out _) 1).trans rfl⟩ (fun hHeld => ?_);clear hK K;refine nm_ (some 26) ?_;refine one_ (i := 10) (N := some 27) #[true, true, true, true, true, true, true, true, true, true, true, false] rfl rfl (one_of HT_.out (by kernel_rfl)) (by decide) (fun K hK => ?_);refine Kd.R_append_step Kd.string (w0 := w) w.heap.size (by rfl) (.tmp 17) (.tmp 26) 89 9 (.string ⟨#[]⟩) 16 rfl Tryz.underlying89 info9 rfl (by decide) (by omega) u4 x4_1 ((t485 ++ (⟨#[45]⟩ : ByteArray)) ++ t486) [.string ((t485 ++ (⟨#[45]⟩ : ByteArray)) ++ t486)] (fun _ => True) (fun _ => False) rfl rfl ?aP (fun _ hk => hk.elim) ?aF ?aO ?aB ?aS ?aL ?_;(case aP => exact rfl);(case aB => exact bg_);(case aF => exact (fun _ _ => trivial));(case aO => exact (kr_ <| HO_4.out));(case aS => exact (below_size bg_));(case aL => have := LMc14.out; omega);intro v488 w19 ho hb hg hat;rw [← Ny487.out] at ho;have n0_ := mk_ (blk_grown (g := gb484) (o := .cells #[.int .i64 ((rd_T39 l0 x13_1).f0), .int .i64 ((rd_T39 l0 x13_1).f1)] 39 (0, 0)) kb_ hg (Kd.R_ne HO_4.out BK484.out (by decide)));have n1_ := mk_ (hb);have n2_ := mk_ (ho);clear BK484 HB HO_4;have BK484 := n0_;have HB := n1_;have HO489 := n2_;clear n0_ n1_ n2_ ho hb hg hat;refine hK.out _ _ ⟨(blk_cell BK484.out 0).trans rfl, (blk_cell BK484.out 1).trans rfl⟩ (fun hHeld => ?_);clear hK K;refine nm_ (some 27) ?_;refine pt_ 11 (some 4) HT_ ?_;refine done_ (done_of HT_.out (by kernel_rfl)) ?_;try go_wp2
     go_roundg k1
     case measure => have := HK1.out; omega
     case rel => exact ⟨(y487), (wrap64 (x13_1 + 1)), (es_), H', ⟨by have := HK1.out; omega⟩, ⟨by exact kr_ <| HO489.out⟩, ⟨bg_⟩⟩
    ·rw [if_neg c7] at H;have c7b0 : decide (x13_1 < (l0.length : Int)) = false := decide_eq_false c7;clear c7;replace H := Option.bind_eq_some_iff.mp H;obtain ⟨⟨t490, t491⟩, A200, H⟩ := H;try dsimp only at H
     have A20 := mk_ A200;clear A200;simp only [Option.some.injEq, Prod.mk.injEq] at H;obtain ⟨rfl, rfl⟩ := H;obtain ⟨Ao21, co21, eo21⟩ := Kd.R_slice HO_4.out;subst eo21;go_wp2_with (first | (refine gc_ 30 Tryz.func75 #[.slice Ao21 x4_1.length co21, .string (⟨#[44]⟩ : ByteArray)] ?_; (with_reducible refine (strings_Join.calls (fun k_ => some k_ = (.slice Ao21 x4_1.length co21 : Value).ownBlock) (.slice Ao21 x4_1.length co21) x4_1 (⟨#[44]⟩ : ByteArray) t490 t491 w _ ?side1 ?side2 A20.out).mono ?_); (case side1 => repeat (first | (with_reducible first | exact HB.out | apply below_alloc | apply pw_below_drewN | apply below_drew1) | exact HB.out)); (case side2 => exact Kd.R_tight rfl HO_4.out); rintro e w22 ⟨rfl, hy0, hb, hkp⟩; refine ⟨_, rfl, ?_⟩; have n0_ := mk_ (Kd.R_reok rfl hy0 (fun k_ e_ => HO_4.out.1 k_ e_)); have n1_ := mk_ (hb); clear HO_4 HB; have HO_4 := n0_; have HB := n1_; clear n0_ n1_; (try clear hb); (try clear hkp); (try clear hy0)));go_ret2;exact ⟨ew_, bl_⟩
 ·replace c3 := Bool.eq_false_iff.mpr c3;subst c3;have H1 : (some ((⟨#[]⟩ : ByteArray), false)) = some (r1, r2) := by rw [if_neg (show ¬ (false = true) by decide)] at H; exact H
  clear H;have H := H1;clear H1;simp only [Option.some.injEq, Prod.mk.injEq] at H;obtain ⟨rfl, rfl⟩ := H;go_enter Tryz.func30, Tryz.ntmps30;go_wp2_with (first | (refine gc_ 8 Tryz.func36 #[.int .i64 60, .slice A0 l0.length c0] ?_; (with_reducible refine (impl_AreChords.calls k 60 _ _ l0 false _ ?side1 ?side2 A2.out).mono ?_); (case side1 => exact kc_ <| HR0.out); (case side2 => exact HC0.out); rintro e w23 ⟨rfl, hb⟩; refine ⟨_, rfl, ?_⟩; have n0_ := mk_ (below_step bl_ hb); clear HB; have HB := n0_; clear n0_; (try clear hb); (try clear hb2); (try clear hk); (try clear hi)));go_ret2;exact ⟨ew_, bl_⟩
mutual
def spec_ParseChords.j1 : Nat → ByteArray → List (S39) → Option ((List (S39)) × Bool)
 | 0, _, _ => none
 | k + 1, x0, x4 => (spec_cdGood.f k 60 x4).bind fun t569 => (if t569 = true then ((spec_cdText.f k x4).bind fun t570 => (if t570.toList = x0.toList then (some (x4, true)) else (some (([] : List (S39)), false)))) else (some (([] : List (S39)), false)))
def spec_ParseChords.l0 : Nat → ByteArray → List (S39) → List ByteArray → Int → Int → Option ((List (S39)) × Bool)
 | 0, _, _, _, _, _ => none
 | k + 1, x0, x4, x15, x16, x17 => if x17 < x16 then (if 0 ≤ x17 then (if x17 < (x15.length : Int) then ((spec_l1Split.f k (rdOf ByteArray.empty x15 x17) 45).bind fun t559 => (if (t559.length : Int) = 2 then (if 0 < (t559.length : Int) then ((spec_l1Read.f k (rdOf ByteArray.empty t559 0)).bind fun t563 => (if 1 < (t559.length : Int) then ((spec_l1Read.f k (rdOf ByteArray.empty t559 1)).bind fun t565 => (if x4.length < 8796093022208 then (spec_ParseChords.l0 k x0 (x4 ++ [(⟨t563, t565⟩ : S39)]) x15 x16 (wrap64 (x17 + 1))) else (none))) else (none))) else (none)) else (some (([] : List (S39)), false)))) else (none)) else (none)) else (spec_ParseChords.j1 k x0 x4)
end
def spec_ParseChords.f (k : Nat) (a0 : ByteArray) : Option ((List (S39)) × Bool) := if (a0.size : Int) > 240 then (some (([] : List (S39)), false)) else (if (a0.size : Int) > 0 then ((spec_l1Split.f k a0 44).bind fun t555 => (spec_ParseChords.l0 k a0 ([] : List (S39)) t555 (t555.length : Int) 0)) else (spec_ParseChords.j1 k a0 ([] : List (S39))))
def spec_ParseChords.T11 : Bool × List (List Nat × List Nat) := (true, [([], []), ([], []), ([1], [1]), ([2], [2]), ([3], [3]), ([], []), ([5], [5]), ([6], [6]), ([7, 4], [7]), ([4, 8], [4, 8]), ([9], [9]), ([0, 10, 8], [0, 10]), ([11, 11, 0, 1, 2, 3, 4, 5, 6, 7, 8, 9, 10, 11], [0, 11])])
def spec_ParseChords.B11 : List Nat := [0, 0, 2, 6, 14, 0, 32, 96, 254, 510, 1022, 2047, 4095]
theorem spec_ParseChords.tab11 : rtab .any (opsOf Tryz.f34 11) = spec_ParseChords.T11 := by kernel_rfl
theorem spec_ParseChords.bits11 : waitsOk spec_ParseChords.T11.2 spec_ParseChords.B11 = true := by kernel_rfl
theorem spec_ParseChords.calls (k : Nat) (a0 : ByteArray) (r1 : List (S39)) (r2 : Bool) (w : World) (h : spec_ParseChords.f k a0 = some (r1, r2)) :
  Calls Tryz.prog 34 #[.string a0] w fun e w' => ∃ v0_ : Value, e = .returned (.tuple #[v0_, .bool r2]) ∧ Kd.R k39 39 w' w.heap.size (fun _ => True) v0_ r1 ∧ Below w.heap.size w w' := by
 have hu39 := Tryz.underlying39;have HB := mk_ (Below.refl w.heap.size w);have H : (if (a0.size : Int) > 240 then (some (([] : List (S39)), false)) else (if (a0.size : Int) > 0 then ((spec_l1Split.f k a0 44).bind fun t555 => (spec_ParseChords.l0 k a0 ([] : List (S39)) t555 (t555.length : Int) 0)) else (spec_ParseChords.j1 k a0 ([] : List (S39))))) = some (r1, r2) := h;clear h;by_cases c2 : (a0.size : Int) > 240
 ·rw [if_pos c2] at H;have c2b0 : decide (240 < (a0.size : Int)) = true := decide_eq_true c2;have c2b1 : decide (240 < a0.size) = true := decide_eq_true (by omega);clear c2;simp only [Option.some.injEq, Prod.mk.injEq] at H;obtain ⟨rfl, rfl⟩ := H;go_enter Tryz.func34, Tryz.ntmps34;go_wp2;go_ret2;exact ⟨_, ew_, by first | exact Kd.R_nil _ _ _ _ _ | exact Kd.N_nil _ _ _ _ _ | exact Kd.V_nil _ _ _ _ _ | exact Kd.Q_nil _ _ _ _ _ | exact Kd.S_nil _ _ _ _ _, bl_⟩
 ·rw [if_neg c2] at H;have c2b0 : decide (240 < (a0.size : Int)) = false := decide_eq_false c2;have c2b1 : decide (240 < a0.size) = false := decide_eq_false (by omega);clear c2;have HC3 := mk_ H;clear H;go_enter Tryz.func34, Tryz.ntmps34;go_upto_if 13 with (fail)
  go_cut [4] (fun v4 wc => ∃ (kq : Nat) (x4_2 : List (S39)), Aside0 (spec_ParseChords.j1 kq a0 x4_2 = some (r1, r2)) ∧ Aside0 (kq ≤ k) ∧ Aside0 (Kd.R k39 39 wc w.heap.size (fun _ => True) v4 x4_2) ∧ Aside0 (Below w.heap.size w wc))
  case first =>
   have H := HC3.out;clear HC3;by_cases c4 : (a0.size : Int) > 0
   ·rw [if_pos c4] at H;have c4b0 : decide (0 < (a0.size : Int)) = true := decide_eq_true c4;have c4b1 : decide (0 < a0.size) = true := decide_eq_true (by omega);clear c4;(first | rw [c4b0] | (simp only [i64_w, i32_w]; rw [c4b0]) | rw [c4b1] | skip);replace H := Option.bind_eq_some_iff.mp H;obtain ⟨t555, A50, H⟩ := H;try dsimp only at H
    have A5 := mk_ A50;clear A50;have H' := mk_ H;clear H;go_wp2_with (first | (refine gc_ 15 Tryz.func82 #[.string a0, .int .u8 44] ?_; (with_reducible refine (spec_l1Split.calls k a0 44 t555 _ A5.out).mono ?_); rintro e w6 ⟨v556, rfl, ho0, hb⟩; refine ⟨_, rfl, ?_⟩; have n0_ := mk_ (Kd.R_lower ho0 (below_size bl_)); have n1_ := mk_ (below_step bl_ hb); clear HB; have HO557 := n0_; have HB := n1_; clear n0_ n1_; (try clear hb); (try clear hb2); (try clear hk); (try clear hi); (try clear ho0); obtain ⟨Ao7, co7, eo7⟩ := Kd.R_slice HO557.out; subst eo7));go_loopg [4, 17] k (fun kq v4 v17 w' => ∃ (x4_1 : List (S39)) (x17_1 : Int), v17 = .int .i64 x17_1 ∧ Aside0 (spec_ParseChords.l0 kq a0 x4_1 t555 (t555.length : Int) x17_1 = some (r1, r2)) ∧ Aside0 (kq ≤ k) ∧ Aside0 (Kd.R k39 39 w' w.heap.size (fun _ => True) v4 x4_1) ∧ Aside0 (Kd.R Kd.string 9 w' w.heap.size (fun _ => True) (.slice Ao7 t555.length co7) t555) ∧ Aside0 (Below w.heap.size w w'))
    case atStart => exact ⟨(([] : List (S39))), (0), (es_), H', ⟨Nat.le_refl _⟩, ⟨by first | exact Kd.R_nil _ _ _ _ _ | exact Kd.N_nil _ _ _ _ _ | exact Kd.V_nil _ _ _ _ _ | exact Kd.Q_nil _ _ _ _ _ | exact Kd.S_nil _ _ _ _ _⟩, ⟨by exact kr_ <| HO557.out⟩, ⟨bl_⟩⟩
    case round =>
     clear H';try clear c2
     try clear c2b0
     try clear c2b1
     try clear p2
     try clear c3
     try clear c4
     try clear c4b0
     try clear c4b1
     obtain ⟨x4_1, x17_1, rfl, HA, HK1, HO_4, HO_15, HB⟩ := hrel
     cases gk with
     | zero => exact absurd HA.out (by simp [spec_ParseChords.l0])
     | succ k1 =>
      have H := HA.out;clear HA;simp only [spec_ParseChords.l0] at H;by_cases c8 : x17_1 < (t555.length : Int)
      ·rw [if_pos c8] at H;have c8b0 : decide (x17_1 < (t555.length : Int)) = true := decide_eq_true c8;clear c8;by_cases c9 : 0 ≤ x17_1;rotate_left
       ·rw [if_neg c9] at H;exact absurd H (by simp)
       rw [if_pos c9] at H;have c9b0 : decide (0 ≤ x17_1) = true := decide_eq_true c9;clear c9;by_cases c10 : x17_1 < (t555.length : Int);rotate_left
       ·rw [if_neg c10] at H;exact absurd H (by simp)
       rw [if_pos c10] at H;have c10b0 : decide (x17_1 < (t555.length : Int)) = true := decide_eq_true c10;clear c10;replace H := Option.bind_eq_some_iff.mp H;obtain ⟨t559, A110, H⟩ := H;try dsimp only at H
       have A11 := mk_ A110;clear A110;by_cases c12 : (t559.length : Int) = 2
       ·rw [if_pos c12] at H;have c12b0 : ((t559.length : Int) == 2) = true := beq_iff_eq.mpr c12;have c12b1 : ((t559.length : Int) != 2) = false := bne_eq_false_iff_eq.mpr c12;clear c12;by_cases c13 : 0 < (t559.length : Int);rotate_left
        ·rw [if_neg c13] at H;exact absurd H (by simp)
        rw [if_pos c13] at H;have c13b0 : decide (0 < (t559.length : Int)) = true := decide_eq_true c13;have c13b1 : decide (0 < t559.length) = true := decide_eq_true (by omega);clear c13;replace H := Option.bind_eq_some_iff.mp H;obtain ⟨t563, A140, H⟩ := H;try dsimp only at H
        have A14 := mk_ A140;clear A140;by_cases c15 : 1 < (t559.length : Int);rotate_left
        ·rw [if_neg c15] at H;exact absurd H (by simp)
        rw [if_pos c15] at H;have c15b0 : decide (1 < (t559.length : Int)) = true := decide_eq_true c15;have c15b1 : decide (1 < t559.length) = true := decide_eq_true (by omega);clear c15;replace H := Option.bind_eq_some_iff.mp H;obtain ⟨t565, A160, H⟩ := H;try dsimp only at H
        have A16 := mk_ A160;clear A160;by_cases c17 : x4_1.length < 8796093022208;rotate_left
        ·rw [if_neg c17] at H;exact absurd H (by simp)
        rw [if_pos c17] at H;have LMc17 := mk_ c17;clear c17;obtain ⟨y566, hy_⟩ : ∃ y_ : List (S39), y_ = (x4_1 ++ [(⟨t563, t565⟩ : S39)]) := ⟨_, rfl⟩;replace H : (spec_ParseChords.l0 k1 a0 y566 t555 (t555.length : Int) (wrap64 (x17_1 + 1))) = some (r1, r2) := rp_;have Ny566 := mk_ hy_;clear hy_;have H' := mk_ H;clear H;have p558 : 0 ≤ (x17_1 : Int) := od_;have q558 : x17_1 < (t555.length : Int) := od_;obtain ⟨ad558, e558, hx558_0⟩ := Kd.at_string (Kd.R_reads' HO_15.out).2.2 x17_1 p558 q558;cases e558;replace p558 := eq_true p558;replace q558 := eq_true q558;try go_wp2_with (first | (refine gc_ 22 Tryz.func82 #[.string (rdOf ByteArray.empty t555 x17_1), .int .u8 45] ?_; (with_reducible refine (spec_l1Split.calls k1 (rdOf ByteArray.empty t555 x17_1) 45 t559 _ A11.out).mono ?_); rintro e w18 ⟨v560, rfl, ho0, hb⟩; refine ⟨_, rfl, ?_⟩; have n0_ := mk_ (Kd.R_below (kr_ <| HO_4.out) hb); have n1_ := mk_ (Kd.R_elder' (kr_ <| HO_15.out) (Kd.R_base ho0) hb); have n2_ := mk_ (Kd.R_lower (Kd.R_new' ho0 (Kd.R_lt (kr_ <| HO_15.out))) (below_size bl_)); have n3_ := mk_ (below_step bl_ hb); clear HO_4 HO_15 HB; have HO_4 := n0_; have HO_15 := n1_; have HO561 := n2_; have HB := n3_; clear n0_ n1_ n2_ n3_; (try clear hb); (try clear hb2); (try clear hk); (try clear hi); (try clear ho0); obtain ⟨Ao19, co19, eo19⟩ := Kd.R_slice HO561.out; subst eo19))
        have n0_ := mk_ (Kd.R_drew HO_4.out);have n1_ := mk_ (Kd.R_drew HO_15.out);have n2_ := mk_ (Kd.R_drew HO561.out);have n3_ := mk_ (below_drew1 HB.out);clear HO_4 HO_15 HO561 HB;have HO_4 := n0_;have HO_15 := n1_;have HO561 := n2_;have HB := n3_;clear n0_ n1_ n2_ n3_;have p562 : 0 ≤ (0 : Int) := (by omega);have q562 : 0 < (t559.length : Int) := od_;obtain ⟨ad562, e562, hx562_0⟩ := Kd.at_string (Kd.R_reads' HO561.out).2.2 0 p562 q562;cases e562;have qi562 : (0 < t559.length) = True := eq_true (by omega);(try rw [show ((0 : Int)).toNat = 0 from rfl] at hx562_0);(try rw [Addr.add_zero'] at hx562_0);replace p562 := eq_true p562;replace q562 := eq_true q562;have p564 : 0 ≤ (1 : Int) := (by omega);have q564 : 1 < (t559.length : Int) := od_;obtain ⟨ad564, e564, hx564_0⟩ := Kd.at_string (Kd.R_reads' HO561.out).2.2 1 p564 q564;obtain rfl : ad562 = ad564 := (by injection e564);(try simp only [show (1 : Int).toNat = 1 from rfl, Nat.reduceMul, Nat.reduceEqDiff, Go.Addr.add, ↓reduceIte] at hx564_0);have qi564 : (1 < t559.length) = True := eq_true (by omega);(try rw [show ((1 : Int)).toNat = 1 from rfl] at hx564_0);replace p564 := eq_true p564;replace q564 := eq_true q564;refine start_ (n := 13) (S := fun w' => w'.cell? ad562 = some (.string (rdOf ByteArray.empty t559 0)) ∧ w'.cell? ⟨ad562.block, ad562.off + 1, none⟩ = some (.string (rdOf ByteArray.empty t559 1))) (ds := [10, 11]) #[false, false, false, false, false, false, false, false, false, false, false, false, false] (by kernel_rfl) rfl rfl ⟨hx562_0, hx564_0⟩ (fun hHeld => ?_); refine with_tabW spec_ParseChords.tab11 spec_ParseChords.bits11 (fun HT_ HW_ => ?_);generalize w18.drew = w20 at HO_4 HO_15 HO561 HB hx562_0 hx564_0 hHeld ⊢;refine pt_ 0 (some 26) HT_ ?_;refine pt_ 1 (some 27) HT_ ?_;refine pt_ 2 (some 28) HT_ ?_;refine pt_ 5 (some 31) HT_ ?_;refine pt_ 6 (some 32) HT_ ?_;refine tb2_ 3 (some 29) HT_ HW_ hHeld ?_;refine tb2_ 7 (some 33) HT_ HW_ hHeld ?_;refine one_ (i := 4) (N := some 30) #[true, true, true, true, true, true, true, true, false, false, false, false, false] rfl rfl (one_of HT_.out (by kernel_rfl)) (by decide) (fun K hK => ?_);refine goes_ Tryz.func83 (by kernel_rfl) rfl #[.string (rdOf ByteArray.empty t559 0)] (by rfl) rfl rfl ma_ ?_;with_reducible refine (spec_l1Read.calls k1 (rdOf ByteArray.empty t559 0) t563 _ A14.out).mono ?_
        rintro e w' ⟨rfl, ⟨nd, rfl⟩⟩;refine ⟨_, rfl, ?_⟩;refine hK.out _ _ ⟨hHeld.1, hHeld.2⟩ (fun hHeld => ?_);clear hK K;refine nm_ (some 30) ?_;refine one_ (i := 8) (N := some 34) #[true, true, true, true, true, true, true, true, true, false, false, false, false] rfl rfl (one_of HT_.out (by kernel_rfl)) (by decide) (fun K hK => ?_);refine goes_ Tryz.func83 (by kernel_rfl) rfl #[.string (rdOf ByteArray.empty t559 1)] (by rfl) rfl rfl ma_ ?_;with_reducible refine (spec_l1Read.calls k1 (rdOf ByteArray.empty t559 1) t565 _ A16.out).mono ?_
        rintro e w' ⟨rfl, ⟨nd, rfl⟩⟩;refine ⟨_, rfl, ?_⟩;refine hK.out _ _ ⟨hHeld.1, hHeld.2⟩ (fun hHeld => ?_);clear hK K;refine nm_ (some 34) ?_;refine pt_ 9 (some 35) HT_ ?_;refine last_ (i := 10) (N := some 36) #[true, true, true, true, true, true, true, true, true, true, true, false, false] rfl rfl (one_of HT_.out (by kernel_rfl)) (by decide) (fun K hK => ?_);refine value_ (w1 := ?_) (v := ?_) (by rfl) rfl ?_ ?_;rotate_left 2
        ·go_simp;constructor
         ·rfl
         ·rfl
        refine hK.out _ _ ?_;clear hK K;refine nm_ (some 36) ?_;refine last_ (i := 11) (N := some 37) #[true, true, true, true, true, true, true, true, true, true, true, true, false] rfl rfl (one_of HT_.out (by kernel_rfl)) (by decide) (fun K hK => ?_);refine Kd.R_append_step k39 (w0 := w) w.heap.size (by rfl) (.tmp 26) (.tmp 36) 26 39 (.agg #[(.int .i64 0), (.int .i64 0)]) 16 rfl Tryz.underlying26 info39 rfl (by decide) (by omega) u4 x4_1 (⟨t563, t565⟩ : S39) [.int .i64 t563, .int .i64 t565] (fun _ => True) (fun _ => False) rfl rfl ?aP (fun _ hk => hk.elim) ?aF ?aO ?aB ?aS ?aL ?_;(case aP => exact k39_mkM _ _ _ (⟨t563, t565⟩ : S39));(case aB => exact bl_);(case aF => exact (fun _ _ => trivial));(case aO => exact (kr_ <| HO_4.out));(case aS => exact (below_size bl_));(case aL => have := LMc17.out; omega);intro v567 w21 ho hb hg hat;rw [← Ny566.out] at ho;have n0_ := mk_ (Kd.R_over' (kr_ <| HO_15.out) (Kd.R_typed (kr_ <| HO_4.out)) (by decide) hg);have n1_ := mk_ (Kd.R_over' (kr_ <| HO561.out) (Kd.R_typed (kr_ <| HO_4.out)) (by decide) hg);have n2_ := mk_ (hb);have n3_ := mk_ (ho);clear HO_15 HO561 HB HO_4;have HO_15 := n0_;have HO561 := n1_;have HB := n2_;have HO568 := n3_;clear n0_ n1_ n2_ n3_ ho hb hg hat;refine hK.out _ _ ?_;clear hK K;refine nm_ (some 37) ?_;refine pt_ 12 (some 4) HT_ ?_;refine done_ (done_of HT_.out (by kernel_rfl)) ?_;try go_wp2
        go_roundg k1
        case measure => have := HK1.out; omega
        case rel => exact ⟨(y566), (wrap64 (x17_1 + 1)), (es_), H', ⟨by have := HK1.out; omega⟩, ⟨by exact kr_ <| HO568.out⟩, ⟨by exact kr_ <| Kd.R_mono HO_15.out (fun _ hk => trivial)⟩, ⟨bl_⟩⟩
       ·rw [if_neg c12] at H;have c12b0 : ((t559.length : Int) == 2) = false := beq_eq_false_iff_ne.mpr c12;have c12b1 : ((t559.length : Int) != 2) = true := bne_iff_ne.mpr c12;simp only [Option.some.injEq, Prod.mk.injEq] at H;obtain ⟨rfl, rfl⟩ := H;have p558 : 0 ≤ (x17_1 : Int) := od_;have q558 : x17_1 < (t555.length : Int) := od_;obtain ⟨ad558, e558, hx558_0⟩ := Kd.at_string (Kd.R_reads' HO_15.out).2.2 x17_1 p558 q558;cases e558;replace p558 := eq_true p558;replace q558 := eq_true q558;go_wp2_with (first | (refine gc_ 22 Tryz.func82 #[.string (rdOf ByteArray.empty t555 x17_1), .int .u8 45] ?_; (with_reducible refine (spec_l1Split.calls k1 (rdOf ByteArray.empty t555 x17_1) 45 t559 _ A11.out).mono ?_); rintro e w22 ⟨v560, rfl, ho0, hb⟩; refine ⟨_, rfl, ?_⟩; have n0_ := mk_ (Kd.R_below (kr_ <| HO_4.out) hb); have n1_ := mk_ (Kd.R_elder' (kr_ <| HO_15.out) (Kd.R_base ho0) hb); have n2_ := mk_ (Kd.R_lower (Kd.R_new' ho0 (Kd.R_lt (kr_ <| HO_15.out))) (below_size bl_)); have n3_ := mk_ (below_step bl_ hb); clear HO_4 HO_15 HB; have HO_4 := n0_; have HO_15 := n1_; have HO561 := n2_; have HB := n3_; clear n0_ n1_ n2_ n3_; (try clear hb); (try clear hb2); (try clear hk); (try clear hi); (try clear ho0); obtain ⟨Ao23, co23, eo23⟩ := Kd.R_slice HO561.out; subst eo23));go_ret2;exact ⟨_, ew_, by first | exact Kd.R_nil _ _ _ _ _ | exact Kd.N_nil _ _ _ _ _ | exact Kd.V_nil _ _ _ _ _ | exact Kd.Q_nil _ _ _ _ _ | exact Kd.S_nil _ _ _ _ _, bl_⟩
      ·rw [if_neg c8] at H;have c8b0 : decide (x17_1 < (t555.length : Int)) = false := decide_eq_false c8;clear c8;have H' := mk_ H;clear H;go_wp2;go_meet
       case rel => exact ⟨_, (x4_1), H', ⟨by have := HK1.out; first | omega | exact Nat.le_refl _⟩, ⟨by exact kr_ <| HO_4.out⟩, ⟨bl_⟩⟩
   ·rw [if_neg c4] at H;have c4b0 : decide (0 < (a0.size : Int)) = false := decide_eq_false c4;have c4b1 : decide (0 < a0.size) = false := decide_eq_false (by omega);clear c4;(first | rw [c4b0] | (simp only [i64_w, i32_w]; rw [c4b0]) | rw [c4b1] | skip);have H' := mk_ H;clear H;go_wp2;go_meet
    case rel => exact ⟨_, (([] : List (S39))), H', ⟨by first | omega | exact Nat.le_refl _⟩, ⟨by first | exact Kd.R_nil _ _ _ _ _ | exact Kd.N_nil _ _ _ _ _ | exact Kd.V_nil _ _ _ _ _ | exact Kd.Q_nil _ _ _ _ _ | exact Kd.S_nil _ _ _ _ _⟩, ⟨bl_⟩⟩
  case rest =>
   clear HC3;try clear c1
   try clear c2
   try clear c2b0
   try clear c2b1
   try clear p2
   try clear c3
   try clear c4
   try clear c4b0
   try clear c4b1
   try clear p5
   try clear q5
   try clear hx5
   try clear qi5
   try clear p6
   try clear c8
   try clear c8b0
   try clear c9
   try clear c9b0
   try clear c10
   try clear c10b0
   try clear c12
   try clear c12b0
   try clear c12b1
   try clear c13
   try clear c13b0
   try clear c13b1
   try clear c15
   try clear c15b0
   try clear c15b1
   try clear c17
   try clear hx558_0
   try clear hx562_0
   try clear hx564_0
   try clear p2
   try clear p558
   try clear p562
   try clear p564
   try clear q558
   try clear q562
   try clear q564
   obtain ⟨kq, x4_2, HA, HJ2, HO_4, HB⟩ := hcut
   cases kq with
   | zero => exact absurd HA.out (by simp [spec_ParseChords.j1])
   | succ kj2 =>
    have H := HA.out;clear HA;simp only [spec_ParseChords.j1] at H;replace H := Option.bind_eq_some_iff.mp H;obtain ⟨t569, A240, H⟩ := H;try dsimp only at H
    have A24 := mk_ A240;clear A240;by_cases c25 : t569 = true
    ·subst c25;have H1 : ((spec_cdText.f kj2 x4_2).bind fun t570 => (if t570.toList = a0.toList then (some (x4_2, true)) else (some (([] : List (S39)), false)))) = some (r1, r2) := by rw [if_pos rfl] at H; exact H
     clear H;have H := H1;clear H1;replace H := Option.bind_eq_some_iff.mp H;obtain ⟨t570, A260, H⟩ := H;try dsimp only at H
     have A26 := mk_ A260;clear A260;by_cases c27 : t570.toList = a0.toList
     ·rw [if_pos c27] at H;have c27b0 : (t570.toList == a0.toList) = true := beq_iff_eq.mpr c27;have c27b1 : (t570.toList != a0.toList) = false := bne_eq_false_iff_eq.mpr c27;clear c27;simp only [Option.some.injEq, Prod.mk.injEq] at H;obtain ⟨rfl, rfl⟩ := H;obtain ⟨Ao28, co28, eo28⟩ := Kd.R_slice HO_4.out;subst eo28;go_wp2_with (first | (refine gc_ 40 Tryz.func54 #[.int .i64 60, .slice Ao28 x4_2.length co28] ?_; (with_reducible refine (spec_cdGood.calls kj2 60 _ _ x4_2 true _ ?side1 ?side2 A24.out).mono ?_); (case side1 => exact kc_ <| (Kd.R_reads' HO_4.out).2.2); (case side2 => exact (Kd.R_reads' HO_4.out).2.1); rintro e w29 ⟨rfl, hb⟩; refine ⟨_, rfl, ?_⟩; have n0_ := mk_ (Kd.R_below (kr_ <| HO_4.out) hb); have n1_ := mk_ (below_step bl_ hb); clear HO_4 HB; have HO_4 := n0_; have HB := n1_; clear n0_ n1_; (try clear hb); (try clear hb2); (try clear hk); (try clear hi)) | (go_at_call 76; (with_reducible refine (spec_cdText.calls kj2 _ _ x4_2 t570 _ ?side1 ?side2 A26.out).mono ?_); (case side1 => exact kc_ <| (Kd.R_reads' HO_4.out).2.2); (case side2 => exact (Kd.R_reads' HO_4.out).2.1); rintro e w30 ⟨rfl, hb⟩; have n0_ := mk_ (Kd.R_below (kr_ <| HO_4.out) hb); have n1_ := mk_ (below_step bl_ hb); clear HO_4 HB; have HO_4 := n0_; have HB := n1_; clear n0_ n1_; (try clear hb); (try clear hb2); (try clear hk); (try clear hi)));go_ret2;exact ⟨_, ew_, by exact kr_ <| HO_4.out, bl_⟩
     ·rw [if_neg c27] at H;have c27b0 : (t570.toList == a0.toList) = false := beq_eq_false_iff_ne.mpr c27;have c27b1 : (t570.toList != a0.toList) = true := bne_iff_ne.mpr c27;simp only [Option.some.injEq, Prod.mk.injEq] at H;obtain ⟨rfl, rfl⟩ := H;obtain ⟨Ao31, co31, eo31⟩ := Kd.R_slice HO_4.out;subst eo31;go_wp2_with (first | (refine gc_ 40 Tryz.func54 #[.int .i64 60, .slice Ao31 x4_2.length co31] ?_; (with_reducible refine (spec_cdGood.calls kj2 60 _ _ x4_2 true _ ?side1 ?side2 A24.out).mono ?_); (case side1 => exact kc_ <| (Kd.R_reads' HO_4.out).2.2); (case side2 => exact (Kd.R_reads' HO_4.out).2.1); rintro e w32 ⟨rfl, hb⟩; refine ⟨_, rfl, ?_⟩; have n0_ := mk_ (Kd.R_below (kr_ <| HO_4.out) hb); have n1_ := mk_ (below_step bl_ hb); clear HO_4 HB; have HO_4 := n0_; have HB := n1_; clear n0_ n1_; (try clear hb); (try clear hb2); (try clear hk); (try clear hi)) | (go_at_call 76; (with_reducible refine (spec_cdText.calls kj2 _ _ x4_2 t570 _ ?side1 ?side2 A26.out).mono ?_); (case side1 => exact kc_ <| (Kd.R_reads' HO_4.out).2.2); (case side2 => exact (Kd.R_reads' HO_4.out).2.1); rintro e w33 ⟨rfl, hb⟩; have n0_ := mk_ (Kd.R_below (kr_ <| HO_4.out) hb); have n1_ := mk_ (below_step bl_ hb); clear HO_4 HB; have HO_4 := n0_; have HB := n1_; clear n0_ n1_; (try clear hb); (try clear hb2); (try clear hk); (try clear hi)));go_ret2;exact ⟨_, ew_, by first | exact Kd.R_nil _ _ _ _ _ | exact Kd.N_nil _ _ _ _ _ | exact Kd.V_nil _ _ _ _ _ | exact Kd.Q_nil _ _ _ _ _ | exact Kd.S_nil _ _ _ _ _, bl_⟩
    ·replace c25 := Bool.eq_false_iff.mpr c25;subst c25;have H1 : (some (([] : List (S39)), false)) = some (r1, r2) := by rw [if_neg (show ¬ (false = true) by decide)] at H; exact H
     clear H;have H := H1;clear H1;simp only [Option.some.injEq, Prod.mk.injEq] at H;obtain ⟨rfl, rfl⟩ := H;obtain ⟨Ao34, co34, eo34⟩ := Kd.R_slice HO_4.out;subst eo34;go_wp2_with (first | (refine gc_ 40 Tryz.func54 #[.int .i64 60, .slice Ao34 x4_2.length co34] ?_; (with_reducible refine (spec_cdGood.calls kj2 60 _ _ x4_2 false _ ?side1 ?side2 A24.out).mono ?_); (case side1 => exact kc_ <| (Kd.R_reads' HO_4.out).2.2); (case side2 => exact (Kd.R_reads' HO_4.out).2.1); rintro e w35 ⟨rfl, hb⟩; refine ⟨_, rfl, ?_⟩; have n0_ := mk_ (Kd.R_below (kr_ <| HO_4.out) hb); have n1_ := mk_ (below_step bl_ hb); clear HO_4 HB; have HO_4 := n0_; have HB := n1_; clear n0_ n1_; (try clear hb); (try clear hb2); (try clear hk); (try clear hi)));go_ret2;exact ⟨_, ew_, by first | exact Kd.R_nil _ _ _ _ _ | exact Kd.N_nil _ _ _ _ _ | exact Kd.V_nil _ _ _ _ _ | exact Kd.Q_nil _ _ _ _ _ | exact Kd.S_nil _ _ _ _ _, bl_⟩
def laws_gSame.l0 : Nat → List Int → List Int → Int → Int → Option (Bool)
 | 0, _, _, _, _ => none
 | k + 1, x0, x1, x12, x13 => if x13 < x12 then (if 0 ≤ x13 then (if x13 < (x0.length : Int) then (if x13 < (x1.length : Int) then (if (rd x0 x13) = (rd x1 x13) then (laws_gSame.l0 k x0 x1 x12 (wrap64 (x13 + 1))) else (some false)) else (none)) else (none)) else (none)) else (some true)
def laws_gSame.f (k : Nat) (l0 : List Int) (l1 : List Int) : Option (Bool) := if (l0.length : Int) = (l1.length : Int) then (laws_gSame.l0 k l0 l1 (l0.length : Int) 0) else (some false)
theorem laws_gSame.calls (k : Nat) (A0 : Option Addr) (c0 : Nat) (l0 : List Int) (A1 : Option Addr) (c1 : Nat) (l1 : List Int) (r : Bool) (w : World) (hr0 : Kd.C (Kd.int .i64) w A0 l0.length l0) (hc0 : l0.length ≤ c0) (hr1 : Kd.C (Kd.int .i64) w A1 l1.length l1) (hc1 : l1.length ≤ c1) (h : laws_gSame.f k l0 l1 = some r) :
  Calls Tryz.prog 35 #[.slice A0 l0.length c0, .slice A1 l1.length c1] w fun e w' => e = .returned (.bool r) ∧ Drawn0 w w' := by
 have HR0 := mk_ hr0;have HC0 := mk_ hc0;clear hr0 hc0;have HR1 := mk_ hr1;have HC1 := mk_ hc1;clear hr1 hc1;have H : (if (l0.length : Int) = (l1.length : Int) then (laws_gSame.l0 k l0 l1 (l0.length : Int) 0) else (some false)) = some r := h;clear h;by_cases c3 : (l0.length : Int) = (l1.length : Int)
 ·rw [if_pos c3] at H;have c3b0 : ((l0.length : Int) == (l1.length : Int)) = true := beq_iff_eq.mpr c3;have c3b1 : ((l0.length : Int) != (l1.length : Int)) = false := bne_eq_false_iff_eq.mpr c3;have c3b2 : (l0.length == l1.length) = true := by first | simpa using c3 | (simp at c3 ⊢; omega)
  clear c3;have H' := mk_ H;clear H;go_enter Tryz.func35, Tryz.ntmps35;go_wp2;repeat (go_quiet (fail); try go_wp2)
  go_loopg [13] k (fun kq v13 w' => ∃ (x13_1 : Int), v13 = .int .i64 x13_1 ∧ Aside0 (laws_gSame.l0 kq l0 l1 (l0.length : Int) x13_1 = some r) ∧ Aside0 (kq ≤ k) ∧ Drawn0 w w')
  case atStart => exact ⟨(0), (es_), H', ⟨Nat.le_refl _⟩, dr_⟩
  case round =>
   clear H';try clear c1
   try clear p2
   try clear c3
   try clear c3b0
   try clear c3b1
   try clear c3b2
   obtain ⟨x13_1, rfl, HA, HK1, ⟨m1, rfl⟩⟩ := hrel
   cases gk with
   | zero => exact absurd HA.out (by simp [laws_gSame.l0])
   | succ k1 =>
    have H := HA.out;clear HA;simp only [laws_gSame.l0] at H;by_cases c4 : x13_1 < (l0.length : Int)
    ·rw [if_pos c4] at H;have c4b0 : decide (x13_1 < (l0.length : Int)) = true := decide_eq_true c4;clear c4;by_cases c5 : 0 ≤ x13_1;rotate_left
     ·rw [if_neg c5] at H;exact absurd H (by simp)
     rw [if_pos c5] at H;have c5b0 : decide (0 ≤ x13_1) = true := decide_eq_true c5;clear c5;by_cases c6 : x13_1 < (l0.length : Int);rotate_left
     ·rw [if_neg c6] at H;exact absurd H (by simp)
     rw [if_pos c6] at H;have c6b0 : decide (x13_1 < (l0.length : Int)) = true := decide_eq_true c6;clear c6;by_cases c7 : x13_1 < (l1.length : Int);rotate_left
     ·rw [if_neg c7] at H;exact absurd H (by simp)
     rw [if_pos c7] at H;have c7b0 : decide (x13_1 < (l1.length : Int)) = true := decide_eq_true c7;clear c7;by_cases c8 : (rd l0 x13_1) = (rd l1 x13_1)
     ·rw [if_pos c8] at H;have c8b0 : ((rd l0 x13_1) == (rd l1 x13_1)) = true := beq_iff_eq.mpr c8;have c8b1 : ((rd l0 x13_1) != (rd l1 x13_1)) = false := bne_eq_false_iff_eq.mpr c8;clear c8;have H' := mk_ H;clear H;have p571 : 0 ≤ (x13_1 : Int) := od_;have q571 : x13_1 < (l0.length : Int) := od_;obtain ⟨ad571, e571, hx571_0⟩ := Kd.at_int HR0.out x13_1 p571 q571;cases e571;replace p571 := eq_true p571;replace q571 := eq_true q571;have p572 : 0 ≤ (x13_1 : Int) := od_;have q572 : x13_1 < (l1.length : Int) := od_;obtain ⟨ad572, e572, hx572_0⟩ := Kd.at_int HR1.out x13_1 p572 q572;cases e572;replace p572 := eq_true p572;replace q572 := eq_true q572;go_wp2;repeat (go_quiet (fail); try go_wp2)
      go_roundg k1
      case measure => have := HK1.out; omega
      case rel => exact ⟨(wrap64 (x13_1 + 1)), (es_), H', ⟨by have := HK1.out; omega⟩, dr_⟩
     ·rw [if_neg c8] at H;have c8b0 : ((rd l0 x13_1) == (rd l1 x13_1)) = false := beq_eq_false_iff_ne.mpr c8;have c8b1 : ((rd l0 x13_1) != (rd l1 x13_1)) = true := bne_iff_ne.mpr c8;obtain rfl := Option.some.inj H;have p571 : 0 ≤ (x13_1 : Int) := od_;have q571 : x13_1 < (l0.length : Int) := od_;obtain ⟨ad571, e571, hx571_0⟩ := Kd.at_int HR0.out x13_1 p571 q571;cases e571;replace p571 := eq_true p571;replace q571 := eq_true q571;have p572 : 0 ≤ (x13_1 : Int) := od_;have q572 : x13_1 < (l1.length : Int) := od_;obtain ⟨ad572, e572, hx572_0⟩ := Kd.at_int HR1.out x13_1 p572 q572;cases e572;replace p572 := eq_true p572;replace q572 := eq_true q572;go_wp2;repeat (go_quiet (fail); try go_wp2)
      go_ret;exact ⟨es_, dr_⟩
    ·rw [if_neg c4] at H;have c4b0 : decide (x13_1 < (l0.length : Int)) = false := decide_eq_false c4;clear c4;obtain rfl := Option.some.inj H;go_wp2;repeat (go_quiet (fail); try go_wp2)
     go_ret;exact ⟨es_, dr_⟩
 ·rw [if_neg c3] at H;have c3b0 : ((l0.length : Int) == (l1.length : Int)) = false := beq_eq_false_iff_ne.mpr c3;have c3b1 : ((l0.length : Int) != (l1.length : Int)) = true := bne_iff_ne.mpr c3;have c3b2 : (l0.length == l1.length) = false := by first | simpa using c3 | (simp at c3 ⊢; omega)
  obtain rfl := Option.some.inj H;go_enter Tryz.func35, Tryz.ntmps35;go_wp2;repeat (go_quiet (fail); try go_wp2)
  go_ret;exact ⟨es_, dr_⟩
end Go.Proofs.YtnofekfoonmedaaGreatDoor.X
end
